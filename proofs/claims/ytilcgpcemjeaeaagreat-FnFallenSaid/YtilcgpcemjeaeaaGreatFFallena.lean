/- What the functions come to, in plain numbers, texts and lists; last the law itself. No condition but those that each states. -/
import Derived.Test.YtilcgpcemjeaeaaGreatPFallenb
set_option linter.unusedVariables false
set_option linter.unusedSimpArgs false
set_option maxRecDepth 100000
open Array renaming toList_extract->iz,toList_append->vF,length_toList->dR
open BitVec renaming toNat->dV,xor->mm,ofInt->ca,and->jv
open Bool renaming false->ak,true->ai,or_eq_true->dL,and_eq_true->aL,or_eq_false_iff->iJ,and_self->aM,not_eq_true'->dr,true_and->bc,not_false->bR,not_true->a_,and_assoc->nS,and_true->ju,not_eq_false'->nk,false_or->ox,true_or->AE,false_eq_true->dx,cond_eq_ite->cL,false_and->lG
open ByteArray renaming toList->aA,data_extract->gi,data_append->mE,size_extract->yJ,size_append->dJ,empty_append->lP,append_assoc->Dt,empty->HV,append_empty->qC,size->cm
open Classical renaming byContradiction->AF
open Go.ByteArray renaming toList_eq->kE
open Go.IntKind renaming i64->ao,wrap->bE,u32->eI,u8->bh
open Go.Op renaming bytesLess->b7
open Int renaming neg->Ku,toNat->aW,tmod->cy,tdiv->cQ,tmod_eq_emod_of_nonneg->ir,tdiv_eq_ediv_of_nonneg->ie,pow_succ->uY,toNat_natCast->dG,natCast_zero->Wi,lt_irrefl->Ks,tmod_nonneg->W5,le_trans->BV,emod_nonneg->W3,emod_lt_of_pos->Qr
open List renaming length_singleton->bA,length->bT,set->aD,length_map->bU,length_filter_le->eC,nil_append->gC,length_append->bP,map_congr_left->Qt,mem_filter->c9,append_assoc->cz,pairwise_append->n9,filter_sublist->jR,singleton_append->uZ,pairwise_cons->qG,mem_append->ba,mem_singleton->aZ,filter_cons_of_pos->dC,filter_cons_of_neg->cC,length_cons->db,beq->bZ,take_succ_eq_append_getElem->cu,filter_append->gv,all_eq_true->bu,getElem_mem->bC,mem_or_eq_of_mem_set->jL,take_set_of_le->wN,drop_set_of_lt->wM,drop_eq_nil_of_le->gU,append_nil->dn,take_length->dD,filter_eq_self->eK,getElem_of_mem->c6,take->g_,drop->nt,drop_zero->e_,take_append_of_le_length->pb,take_of_length_le->jf,getElem_take->nC,pairwise_map->jA,mem_map->cW,filter_map->o_,map_map->mv,map_append->di,filter_congr->kV,range->b9,getD->jS,pairwise_iff_getElem->dB,length_set->cD,length_drop->iE,drop_eq_getElem_cons->dE,cons_append->BZ,extract_eq_take_drop->ig,drop_drop->vN,length_take->eD,drop_append_of_le_length->Bd,drop_of_length_le->Ic,filter_filter->pM,takeWhile_map->OQ,dropWhile_map->OP,find?_eq_none->W6,find?_eq_some_iff_getElem->AL,find?_some->vp,takeWhile_cons_of_pos->ql,takeWhile_cons_of_neg->qk,foldl_append->kW,foldl_cons->DI,length_nil->jT,drop_length->dj,foldl_nil->W7,mem_of_find?_eq_some->qF,length_pos_iff->ML,getD_eq_getElem?_getD->cS,getElem?_eq_getElem->eV,ext_getElem->lT,getElem_set_self->kK,set_getElem_self->fA,set_set->pN,nodup_iff_pairwise_ne->lK,mem_cons_self->dq,mem_append_left->bM,length_tail->W8,mem_append_right->bN,any_eq_true->F2,findIdx?_eq_none_iff->Ez,findIdx?_eq_some_iff_getElem->mW,pairwise_singleton->HX,find?_cons_of_neg->Kv,mem_range->gV,nodup_append->eQ,nodup_cons->lh,mem_cons->cB,getElem_set->R3,reverse_reverse->vQ,reverse_cons->yW,not_mem_nil->gG,getElem?_append_left->dH,getElem?_append_right->da
open List.Pairwise renaming filter->oH,nil->gb
open List.cons renaming inj->kD
open Nat renaming lt_irrefl->bm,le_refl->cF,zero_le->bI,sub_zero->sr,zero_add->bV,le_trans->dh,le_succ->jx,le_succ_of_le->nu,add_sub_cancel->Qu,lt_or_ge->q_
open Option renaming some->ah,none->aj,map_some->jh
open Option.some renaming inj->aJ
open Prod.mk renaming inj->bW
open UInt8 renaming lt_iff_toNat_lt->sZ,ofNat->ay,toNat_ofNat'->M6
open _root_ renaming List->az,UInt8->H0,decide_eq_true_eq->bf,absurd->cJ,decide_eq_false_iff_not->fu,ByteArray->aq,Int->aw,Bool->aX,Nat->aF,decide_true->aN,cond_true->au,cond_false->ax,decide_false->bj,Option->aC,decide_eq_false->aK,decide_eq_true->aE,if_pos->bz,if_neg->bH,congrArg->lO,decide_eq_decide->cg,of_decide_eq_true->cq,eq_comm->IV,of_decide_eq_false->l8
namespace Go.FG
open Lib (GO all_congr iC pk B7 jW v_ eW xC eN fV kA m7 Cs Nr xJ mg uJ cG l_ rc0 rc1 rc2 rc3 rc4 rc5 rc6 fc JO WD WE eB re0 re1 re2 re3 dc dM QK Ke gX WG eZ pR kU Dc uc o6 yC FC ou Dl yD qW qX uf nR de Kh wd0 wd1 wd2 oE qz qA qB Dp DB Qm z5 QM QN)
variable {R:Type}
namespace lN
theorem oZ:∀x:az H0,b7 x x=ak
 |[]=>rfl
 |a::x=>by
  have h:¬a<a:=by rw[sZ];omega
  simp[b7,oZ x,h]
theorem po:∀x y z:az H0,b7 x y=ai->b7 y z=ai->b7 x z=ai
 |_,[],_,h,_=>by cases ‹az H0›<;>simp[b7]at h
 |_,_::_,[],_,h=>by simp[b7]at h
 |[],_::_,_::_,_,_=>by simp[b7]
 |a::x,b::y,c::z,h1,h2=>by
  simp only[b7,dL,aL,bf,beq_iff_eq]at h1 h2⊢;simp only[sZ]at h1 h2⊢;rcases h1 with h1|⟨rfl,h1⟩
  ·rcases h2 with h2|⟨rfl,h2⟩
   ·left;omega
   ·left;exact h1
  ·rcases h2 with h2|⟨rfl,h2⟩
   ·left;exact h2
   ·right;exact⟨rfl,po x y z h1 h2⟩
theorem Sl:∀x y:az H0,b7 x y=ak->x≠y->b7 y x=ai
 |[],[],_,h=>cJ rfl h
 |[],_::_,h,_=>by simp[b7]at h
 |_::_,[],_,_=>by simp[b7]
 |a::x,b::y,h,hn=>by
  simp only[b7,iJ,Bool.and_eq_false_iff,fu,beq_eq_false_iff_ne]at h;simp only[b7,dL,aL,bf,beq_iff_eq];obtain⟨h1,h2⟩:=h;by_cases he:a=b
  ·subst he;right;refine⟨rfl,Sl x y ?_ (λe=>hn (by rw[e]))⟩
   rcases h2 with h2|h2
   ·exact cJ rfl h2
   ·exact h2
  ·left;rw[sZ]at h1⊢;have:a.toNat≠b.toNat:=λe=>he (UInt8.toNat_inj.1 e);omega
def key(y:az CV):az H0:=aA (bw (y.getD 0 (.b ak)))
def lt(y z:az CV):Prop:=b7 (key y) (key z)=ai
def cr(y:az CV):az CV:=[CV.s (bw (y.getD 0 (.b ak))),CV.i ao (bF (y.getD 1 (.b ak))),CV.i ao (bF (y.getD 2 (.b ak))),CV.s (bw (y.getD 3 (.b ak)))]
def nw(k:aq)(s l:aw)(b:aq):az CV:=[CV.s k,CV.i ao s,CV.i ao l,CV.s b]
def pl(k:aq)(y:az CV):aX:=b7 (key y) (aA k)
def pg(k:aq)(y:az CV):aX:= !(b7 (key y) (aA k)||List.beq (key y) (aA k))
def val(r:aR)(k:aq)(s l:aw)(b:aq):aR:=(r.filter (pl k)).map cr++[nw k s l b]++(r.filter (pg k)).map cr
theorem ok(r:aR)(k:aq)(s l:aw)(b0:aq)(hl:r.length<=1048576):c r k s l b0=ai/\v r k s l b0=val r k s l b0:=by
 refine out r k s l b0 ?_;unfold vo;have hw:∀i,i<r.length->bJ ((i:aw)+1)=((i+1:aF):aw):=λi h=>Lib.cZ h (by omega)
 have auP:=λ(aiA:aR) (ha:aiA.length<=2000000)=>xJ (pg k) cr r 2000000
  (λm (i:aF) (acc:aR)=>l9 Lib.cU (λ(_:aR) (_:aw) (_:aq) (_ _:aw) (_:aq) (H8:aR)=>ah H8) m r (i:aw) k s l b0 acc) (λacc=>ah acc)
  (λm i acc h h2 hp=>by
   have mN:(!(b7 (aA (bw (ar r i 0))) (aA k)||List.beq (aA (bw (ar r i 0))) (aA k)))=true:=by rw[Lib.cK h];exact hp
   simp only[l9,r9,Lib.dm,h,aN,Lib.cE,aM,au,Lib.dX,mN,hw i h,Lib.iM,bA,Lib.ch (n:=acc.length+1) (b:=48) (by omega) (by omega)];have e:[CV.s (bw (ar r i 0)),CV.i ao (bF (ar r i 1)),CV.i ao (bF (ar r i (1+1))),CV.s (bw (ar r i (1+1+1)))]=cr r[i]:=by rw[Lib.cK h,Lib.cK h,Lib.cK h,Lib.cK h];rfl
   rw[e])
  (λm i acc h h2 hp=>by
   have mN:(!(b7 (aA (bw (ar r i 0))) (aA k)||List.beq (aA (bw (ar r i 0))) (aA k)))=false:=by rw[Lib.cK h];exact hp
   simp only[l9,r9,Lib.dm,h,aN,Lib.cE,aM,au,Lib.dX,mN,ax,hw i h])
  (λm acc=>by simp only[l9,r9,Lib.dm,bm,bj,ax]) Lib.cU aiA ha (cG (by omega))
 have gO:=xJ (pl k) cr r 0
  (λm (i:aF) (acc:aR)=>l3 Lib.cU (λ(y7:aR) (_:aw) (y9:aq) (Ki wz:aw) (Mj:aq) (HR:aR)=>bif(cw (bT HR+bT (aD (aP [Ck.s,Ck.i ao,Ck.i ao,Ck.s] 1) 0 [CV.s y9,CV.i ao Ki,CV.i ao wz,CV.s Mj])) 48)then(l9 Lib.cU (λ(_:aR) (_:aw) (_:aq) (_ _:aw) (_:aq) (H8:aR)=>ah H8) Lib.cU y7 0 y9 Ki wz Mj (HR++aD (aP [Ck.s,Ck.i ao,Ck.i ao,Ck.s] 1) 0 [CV.s y9,CV.i ao Ki,CV.i ao wz,CV.s Mj]))else(aj)) m r (i:aw) k s l b0 acc)
  (λacc=>bif(cw (bT acc+1) 48)then(l9 Lib.cU (λ(_:aR) (_:aw) (_:aq) (_ _:aw) (_:aq) (H8:aR)=>ah H8) Lib.cU r 0 k s l b0 (acc++[nw k s l b0]))else aj)
  (λm i acc h h2 hp=>by
   have mN:b7 (aA (bw (ar r i 0))) (aA k)=true:=by rw[Lib.cK h];exact hp
   simp only[l3,r3,Lib.dm,h,aN,Lib.cE,aM,au,Lib.dX,mN,hw i h,Lib.iM,bA,Lib.ch (n:=acc.length+1) (b:=48) (by omega) (by omega)];have e:[CV.s (bw (ar r i 0)),CV.i ao (bF (ar r i 1)),CV.i ao (bF (ar r i (1+1))),CV.s (bw (ar r i (1+1+1)))]=cr r[i]:=by rw[Lib.cK h,Lib.cK h,Lib.cK h,Lib.cK h];rfl
   rw[e])
  (λm i acc h h2 hp=>by
   have mN:b7 (aA (bw (ar r i 0))) (aA k)=false:=by rw[Lib.cK h];exact hp
   simp only[l3,r3,Lib.dm,h,aN,Lib.cE,aM,au,Lib.dX,mN,ax,hw i h])
  (λm acc=>by simp only[l3,r3,Lib.dm,bm,bj,ax];rfl) Lib.cU [] (cF _) (cG (by omega))
 unfold b;refine gO.trans ?_;have hf:((r.filter (pl k)).map cr).length<=r.length:=by rw[bU];exact eC _ _
 rw[gC,Lib.ch (by omega) (by omega),au];exact auP _ (by rw[bP,bA];omega)
def Or(r:aR):Prop:=r.Pairwise lt/\∀y∈r,cr y=y
theorem Hp{r:aR}(h:∀y∈r,cr y=y)(q:az CV->aX):(r.filter q).map cr=r.filter q:=by have:=Qt (l:=r.filter q) (f:=cr) (g:=λz=>z) (λy hy=>h y (c9.1 hy).1);rw[this];exact List.map_id _
theorem xR{r:aR}(h:Or r)(k:aq)(s l:aw)(b:aq):Or (val r k s l b)/\(val r k s l b).length<=r.length+1:=by
 unfold val;rw[Hp h.2,Hp h.2];have hg:∀y,pg k y=ai->b7 (aA k) (key y)=true:=by intro y hy;unfold pg at hy;simp only[dr,iJ]at hy;refine Sl _ _ hy.1 (λe=> ?_);have:=hy.2;rw[e,Lib.qM]at this;cases this
 refine⟨⟨?_, ?_⟩, ?_⟩
 ·rw[cz,n9];refine⟨h.1.sublist jR, ?_, ?_⟩
  ·rw[uZ,qG];exact⟨λy hy=>hg y (c9.1 hy).2,h.1.sublist jR⟩
  ·intro y hy z hz;have h1:b7 (key y) (aA k)=true:=(c9.1 hy).2;rcases ba.1 hz with q|q
   ·rw[aZ.1 q];exact h1
   ·exact po _ _ _ h1 (hg z (c9.1 q).2)
 ·intro y hy;rcases ba.1 hy with q|q
  ·rcases ba.1 q with q|q
   ·exact h.2 y (c9.1 q).1
   ·rw[aZ.1 q];rfl
  ·exact h.2 y (c9.1 q).1
 ·have hlen:∀r:aR,(r.filter (pl k)).length+(r.filter (pg k)).length<=r.length:=by
   intro r;induction r with
   |nil=>exact cF _
   |cons y r ih=>
    have hx:pl k y=ai->pg k y=false:=by intro h;unfold pl at h;unfold pg;rw[h];rfl
    cases h1:pl k y with
    |true=>rw[dC h1,cC (by rw[hx h1];simp)];simp only[db];omega
    |false=>
     rw[cC (by simp[h1])];cases h2:pg k y with
     |true=>rw[dC h2];simp only[db];omega
     |false=>rw[cC (by simp[h2])];simp only[db];omega
  have:=hlen r;simp only[bP,bA];omega
end lN

namespace nv
def p(s:aR)(k:aq)(i:aF):aX:=bZ (aA (bw (ar s i 0))) (aA k)
theorem ok(d:aR)(n:aq)(hl:d.length<=4294967296):c d n=ai/\v d n=Lib.fi (p d n) d.length 0:=by
 refine out d n ?_;unfold vo b;refine m7 (p d n) d.length (λm (i:aF)=>l2 Lib.cU (λ(_:aR) (_:aq) (y7 _ _:aw)=>ah y7) (λ(_:aR) (_:aq) (_ _ _:aw)=>ah (-1)) m d n 0 (d.length:aw) (i:aw)) ah (λm i hi hp=> ?_) (λm i hi hp=> ?_) (λm=> ?_) Lib.cU (cG (by omega))
 ·unfold p at hp;simp only[l2,r2,Lib.dm,Lib.cE,Lib.dX,hi,aN,aM,au,AZ.v,hp]
 ·unfold p at hp;simp only[l2,r2,Lib.dm,Lib.cE,Lib.dX,hi,aN,aM,au,AZ.v,hp,ax,Lib.cZ hi (by omega:d.length<=9223372036854775807)]
 ·simp only[l2,r2,Lib.dm,bm,bj,ax]
end nv

namespace pf
def cn(y:az CV):aX:=match y with|[.s _, .i .i64 _, .i .i64 _, .s _]=>ai|_=>ak
def cr(y:az CV):az CV:=[CV.s (bw (y.getD 0 (.b ak))),CV.i ao (bF (y.getD 1 (.b ak))),CV.i ao (bF (y.getD 2 (.b ak))),CV.s (bw (y.getD 3 (.b ak)))]
theorem tE{y:az CV}(h:cn y=ai):cr y=y:=by
 unfold cn at h;split at h
 ·rfl
 ·cases h
theorem mz{y:az CV}(h:cn y=ai):y.length=4:=by rw[<-tE h];rfl
def keep(d:aq)(y:az CV):aX:= !List.beq (aA (bw (y.getD 0 (.b ak)))) (aA d)
theorem iu(d:aq){s:aR}{i:aF}(h:i<s.length):(s.take (i+1)).filter (keep d)=(s.take i).filter (keep d)++(bif keep d s[i]then [s[i]]else []):=by rw[cu h,gv];cases hk:keep d s[i]<;>simp[hk]
theorem run(N:aF)(s0:aR)(d:aq)(hc:s0.all cn=ai)(hn:s0.length<=9223372036854775807)(K:aq->aw->aw->aR->aC R)(kr:aR->aC R)
  (hK:∀(j:aF) x,x.length=s0.length->j<=s0.length->K d j s0.length x=kr (x.take j)) (m j i:aF) (x:aR)
  (hi:j<i/\i<=s0.length/\x.length=s0.length/\(∀y∈x,y.length=4)/\x.take j=(s0.take i).filter (keep d)/\x.drop i=s0.drop i) (hm:s0.length-i<m):
  l5 N K m d j i x=kr (s0.filter (keep d)):=by
 have K_:∀y∈s0,cn y=true:=bu.1 hc
 refine Lib.g9 (λm (s:aF×aF×aR)=>l5 N K m d s.1 s.2.1 s.2.2) (λs=>s0.length-s.2.1)
  (λs=>s.1<s.2.1/\s.2.1<=s0.length/\s.2.2.length=s0.length/\(∀y∈s.2.2,y.length=4)/\s.2.2.take s.1=(s0.take s.2.1).filter (keep d)/\s.2.2.drop s.2.1=s0.drop s.2.1)
  (λ_=>kr (s0.filter (keep d))) (λm s hs=> ?_) m (j,i,x) hi hm
 obtain⟨j,i,x⟩:=s;obtain⟨h1,h2,h3,h4,h5,h6⟩:=hs;simp only at h1 h2 h3 h4 h5 h6⊢;by_cases gg:i<s0.length
 ·right;have oD:i<x.length:=by omega
  have Hb:j<x.length:=by omega
  have hx:x[i]=s0[i]:=by have e1:=Lib.eL oD;have e2:=Lib.eL gg;rw[h6,e2]at e1;exact(kD e1).1.symm
  have hd:x.drop (i+1)=s0.drop (i+1):=by have e1:=Lib.eL oD;have e2:=Lib.eL gg;rw[h6,e2]at e1;exact(kD e1).2.symm
  have Lb:=K_ _ (bC gg);have hf:=iu d gg;cases hk:keep d s0[i]with
  |true=>
   refine⟨(j+1,i+1,x.set j s0[i]), ?_,by simp only;omega,trivial, ?_⟩
   ·rw[hk,au,<-h5]at hf;refine⟨by simp only;omega,by simp only;omega,by simpa using h3, ?_, ?_, ?_⟩
    ·intro y hy;rcases jL hy with h|h
     ·exact h4 y h
     ·rw[h];exact mz Lb
    ·rw[hf];rw[cu (by simpa using Hb)];simp[wN]
    ·simp only;rw[wM (by omega)];exact hd
   ·have e:AZ.v (bw (ar x i 0)) (bF (ar x i 1)) (bF (ar x i (1+1))) (bw (ar x i (1+1+1))) d=false:=by
     have:(!AZ.v (bw (ar x i 0)) (bF (ar x i 1)) (bF (ar x i (1+1))) (bw (ar x i (1+1+1))) d)=true:=by rw[Lib.cK oD,hx];exact hk
     simpa using this
    have es:eJ x j 0 [CV.s (bw (ar x i 0)),CV.i ao (bF (ar x i 1)),CV.i ao (bF (ar x i (1+1))),CV.s (bw (ar x i (1+1+1)))]=x.set j s0[i]:=by
     have hl:=h4 _ (bC Hb);rw[Lib.BH Hb,Lib.cK oD,Lib.cK oD,Lib.cK oD,Lib.cK oD,hx];have:iH x[j] 0 (cr s0[i])=s0[i]:=by rw[tE Lb];unfold iH;have:=mz Lb;simp[hl,this,gU]
     unfold cr at this;rw[this]
    have b1:(j:aw)<(x.length:aw):=by omega
    simp only[l5,r5,Lib.dm,Lib.cE,Lib.dX,oD,Hb,aN,bc,au,e,bR,es,Lib.cZ gg hn,Lib.cZ (show j<s0.length by omega) hn]
  |false=>
   refine⟨(j,i+1,x), ?_,by simp only;omega,trivial, ?_⟩
   ·rw[hk,ax,dn,<-h5]at hf;exact⟨by simp only;omega,by simp only;omega,h3,h4,hf.symm,hd⟩
   ·have e:AZ.v (bw (ar x i 0)) (bF (ar x i 1)) (bF (ar x i (1+1))) (bw (ar x i (1+1+1))) d=true:=by
     have:(!AZ.v (bw (ar x i 0)) (bF (ar x i 1)) (bF (ar x i (1+1))) (bw (ar x i (1+1+1))) d)=false:=by rw[Lib.cK oD,hx];exact hk
     simpa using this
    simp only[l5,r5,Lib.dm,Lib.cE,Lib.dX,oD,aN,bc,au,e,a_,ax,Lib.cZ gg hn]
 ·left;have:i=s0.length:=by omega
  subst this;rw[dD]at h5;have e:=hK j x h3 (by omega);rw[h5]at e;have oD:¬s0.length<x.length:=by omega
  simp only[l5,r5,Lib.dm,oD,bj,ax,e]
theorem ok(s0:aR)(i_:aq)(hc:s0.all cn=ai)(hn:s0.length<=4294967296):c s0 i_=ai/\v s0 i_=s0.filter (keep i_):=by
 refine out s0 i_ ?_;have hv:=nv.ok s0 i_ hn;unfold vo b;rw[hv.1,hv.2,au];rcases Lib.pz (nv.p s0 i_) s0.length 0 with ⟨h,n5⟩|⟨k,_,Ap,hk,Le,K9⟩
 ·rw[h];have:s0.filter (keep i_)=s0:=by rw[eK];intro y hy;obtain⟨i,hi,rfl⟩:=c6 hy;have:=n5 i (bI _) (by omega);unfold nv.p at this;rw[Lib.cK hi]at this;unfold keep;rw[this];rfl
  rw[this];rfl
 ·rw[hk];have D6:k<s0.length:=by omega
  have iB:decide ((k:aw)=Ku 1)=false:=aK (by show¬(k:aw)= -1;omega);rw[iB,ax,Lib.cZ D6 (by omega)];have K_:∀y∈s0,cn y=true:=bu.1 hc;refine run _ s0 i_ hc (by omega) _ ah (λj x hx hj=> ?_) _ k (k+1) s0 ⟨by omega,by omega,rfl,λy hy=>mz (K_ y hy), ?_,rfl⟩ (cG (by omega))
  ·have b1:g8 (j:aw) (s0.length:aw) (s0.length:aw)=true:=by simp[g8];omega
   have e:g_ j x++aP [Ck.s,Ck.i ao,Ck.i ao,Ck.s] (s0.length-j)++nt s0.length x=g_ j x++aP [Ck.s,Ck.i ao,Ck.i ao,Ck.s] (s0.length-j):=by rw[gU (by omega),dn]
   have hl:(g_ j x).length=j:=by simp;omega
   simp only[hx,Lib.dX,b1,au,e];rw[Lib.tz (by simp[g8];omega)];unfold eA;rw[show aW 0=0 from rfl,e_,sr,pb (by omega),jf (by omega)]
  ·rw[iu i_ D6];have e1:keep i_ s0[k]=false:=by unfold nv.p at Le;rw[Lib.cK D6]at Le;unfold keep;rw[Le];rfl
   have e2:(s0.take k).filter (keep i_)=s0.take k:=by
    rw[eK];intro y hy;obtain⟨i,hi,rfl⟩:=c6 hy;have Wx:i<k:=by simp at hi;omega
    have:=K9 i (bI _) Wx;unfold nv.p at this;rw[Lib.cK (by omega)]at this;rw[nC];unfold keep;rw[this];rfl
   rw[e1,e2,ax,dn]
end pf

namespace fY
open Lib (re En)
def fy(x y:aq):aX:=b7 (aA x) (aA y)
def So(en:az En):Prop:=en.Pairwise λx y=>fy x.k y.k=ai
def fS(en:az En)(k:aq):az En:=en.filter λx=> !decide (x.k=k)
def mC(en:az En)(e:En):az En:=en.filter (λx=>fy x.k e.k)++[e]++en.filter (λx=> !(fy x.k e.k||decide (x.k=e.k)))
theorem So.drop{en:az En}(h:So en)(k:aq):So (fS en k):=oH _ h
theorem xB(en:az En)(k:aq):(fS en k).length<=en.length:=eC ..
theorem drop_nil{en:az En}(h:∀e∈en,1<=e.k.size):fS en ⟨#[]⟩=en:=by unfold fS;rw[eK];intro e he;have:=h e he;simp only[dr,fu];intro e2;rw[e2]at this;exact cJ this (by decide)
theorem CT{en:az En}(h:So en):lN.Or (re en):=by
 constructor
 ·unfold Lib.re;rw[jA];exact h
 ·intro y hy;unfold Lib.re at hy;obtain⟨z,_,rfl⟩:=cW.1 hy;rfl
theorem tY(en:az En)(e:En):lN.val (re en) e.k e.st e.li e.bo=re (mC en e):=by
 unfold lN.val mC Lib.re;rw[o_,o_,mv,mv,di,di];have e1:(lN.pl e.k∘En.row)=λx:En=>fy x.k e.k:=rfl;have e2:(lN.pg e.k∘En.row)=λx:En=> !(fy x.k e.k||decide (x.k=e.k)):=by funext x;show(!(b7 (aA x.k) (aA e.k)||List.beq (aA x.k) (aA e.k)))=_;rw[Lib.fm];rfl
 rw[e1,e2];rfl
theorem GZ(en:az En)(k:aq):(re en).filter (pf.keep k)=re (fS en k):=by unfold Lib.re fS;rw[o_];congr 1;apply kV;intro x _;show(!List.beq (aA x.k) (aA k))=_;rw[Lib.fm]
theorem Sw(en:az En):(re en).all pf.cn=true:=by rw[bu];intro y hy;unfold Lib.re at hy;obtain⟨z,_,rfl⟩:=cW.1 hy;rfl
theorem sa(en:az En)(e:En)(h:So en):(mC en e).length<=en.length+1:=by have:=(lN.xR (CT h) e.k e.st e.li e.bo).2;rw[tY,dc,dc]at this;exact this
end fY

namespace gD
def el(r:aR)(i:aF):aX:=decide (1<=((bw (ar r i 0)).size:aw)/\((bw (ar r i 0)).size:aw)<=8)&&(!decide (((bw (ar r i 1)).size:aw)>20000)&&(decide (0<=bF (ar r i 2)/\bF (ar r i 2)<=((bw (ar r i 1)).size:aw))&&(i==0||Go.Op.bytesLess (aA (bw (ar r (i-1) 0))) (aA (bw (ar r i 0))))))
def val(r:aR):aX:=decide (r.length<=30)&&(b9 r.length).all (el r)
theorem m_(n a b:aw):km.v n a b=decide (a<=n/\n<=b):=by unfold km.v;by_cases h:a<=n<;>by_cases h2:n<=b<;>simp[h,h2]
theorem Dn{i:aF}(h:0<i)(hn:i<=9223372036854775807):bJ ((i:aw)-1)=((i-1:aF):aw):=by rw[de (by omega) (by omega)];omega
theorem ok(r:aR)(hl:r.length<=4294967296):c r=ai/\v r=val r:=by
 refine out r ?_;unfold vo b val;by_cases h30:(r.length:aw)>30
 ·rw[aE h30,au,aK (show¬r.length<=30 by omega)];rfl
 rw[aK h30,ax,aE (show r.length<=30 by omega),bc]
 have key:=iC (el r) r.length (λm (i:aF)=>l4 Lib.cU (λ(y3:aX) (_:aw) (_:aR)=>ah y3) (λ(_:aX) (_:aw) (_:aR)=>ah ai) m ak (i:aw) r) (ah ak) (ah ai)
  (λm i hi hp=>by
   unfold el at hp;simp only[aL]at hp;obtain⟨h1,h2,h3,h4⟩:=hp;have h3:decide (0<=bF (ar r i (1+1))/\bF (ar r i (1+1))<=((bw (ar r i 1)).size:aw))=true:=h3;have h2:decide (((bw (ar r i 1)).size:aw)>20000)=false:=by simpa using h2
   by_cases hz:0<i
   ·have e0:decide ((i:aw)>0)=true:=aE (by omega);have mN:i-1<r.length:=by omega
    have h5:b7 (aA (bw (ar r (i-1) 0))) (aA (bw (ar r i 0)))=true:=by
     rcases dL _ _▸h4 with q|q
     ·have:i=0:=by simpa using q
      omega
     ·exact q
    simp only[l4,r4,Lib.dm,hi,mN,aN,Lib.cE,aM,au,ax,Lib.dX,qm.v,m_,h1,h2,h3,h5,e0,Dn hz (by omega),a_,Lib.cZ hi (by omega:r.length<=9223372036854775807)]
   ·have e0:decide ((i:aw)>0)=false:=aK (by omega);simp only[l4,r4,Lib.dm,hi,aN,Lib.cE,aM,au,ax,Lib.dX,qm.v,m_,h1,h2,h3,e0,a_,Lib.cZ hi (by omega:r.length<=9223372036854775807)])
  (λm i hi hp=>by
   unfold el at hp;cases h1:decide (1<=((bw (ar r i 0)).size:aw)/\((bw (ar r i 0)).size:aw)<=8)with
   |false=>simp only[l4,r4,Lib.dm,hi,aN,Lib.cE,aM,au,ax,Lib.dX,qm.v,m_,h1,bR]
   |true=>
   cases h2:decide (((bw (ar r i 1)).size:aw)>20000)with
   |true=>simp only[l4,r4,Lib.dm,hi,aN,Lib.cE,aM,au,ax,Lib.dX,qm.v,m_,h1,h2,a_]
   |false=>
   cases h3:decide (0<=bF (ar r i (1+1))/\bF (ar r i (1+1))<=((bw (ar r i 1)).size:aw))with
   |false=>simp only[l4,r4,Lib.dm,hi,aN,Lib.cE,aM,au,ax,Lib.dX,qm.v,m_,h1,h2,h3,a_,bR]
   |true=>
   rw[h1,h2,show decide (0<=bF (ar r i 2)/\bF (ar r i 2)<=((bw (ar r i 1)).size:aw))=ai from h3,bR,bc,bc,bc]at hp;rw[iJ]at hp;obtain⟨h4,h5⟩:=hp;have hz:0<i:=by
    have:¬i=0:=by simpa using h4
    omega
   have e0:decide ((i:aw)>0)=true:=aE (by omega);have mN:i-1<r.length:=by omega
   simp only[l4,r4,Lib.dm,hi,mN,aN,Lib.cE,aM,au,ax,Lib.dX,qm.v,m_,h1,h2,h3,h5,e0,Dn hz (by omega),a_,bR])
  (λm=>by simp only[l4,r4,Lib.dm,bm,bj,ax]) Lib.cU (cG (by omega))
 refine key.trans ?_;cases (b9 r.length).all (el r)<;>rfl
end gD

namespace nz
def p(s:aR)(k:aq)(i:aF):aX:=bZ (aA (bw (ar s i 0))) (aA k)
theorem ok(d:aR)(n:aq)(hl:d.length<=4294967296):c d n=ai/\v d n=Lib.fi (p d n) d.length 0:=by
 refine out d n ?_;unfold vo b;refine m7 (p d n) d.length (λm (i:aF)=>l2 Lib.cU (λ(_:aR) (_:aq) (y7 _ _:aw)=>ah y7) (λ(_:aR) (_:aq) (_ _ _:aw)=>ah (-1)) m d n 0 (d.length:aw) (i:aw)) ah (λm i hi hp=> ?_) (λm i hi hp=> ?_) (λm=> ?_) Lib.cU (cG (by omega))
 ·unfold p at hp;simp only[l2,r2,Lib.dm,Lib.cE,Lib.dX,hi,aN,aM,au,A2.v,hp]
 ·unfold p at hp;simp only[l2,r2,Lib.dm,Lib.cE,Lib.dX,hi,aN,aM,au,A2.v,hp,ax,Lib.cZ hi (by omega:d.length<=9223372036854775807)]
 ·simp only[l2,r2,Lib.dm,bm,bj,ax]
end nz

namespace w7
def cn(y:az CV):aX:=match y with|[.s _, .s _, .i .i64 _]=>ai|_=>ak
def cr(y:az CV):az CV:=[CV.s (bw (y.getD 0 (.b ak))),CV.s (bw (y.getD 1 (.b ak))),CV.i ao (bF (y.getD 2 (.b ak)))]
theorem tE{y:az CV}(h:cn y=ai):cr y=y:=by
 unfold cn at h;split at h
 ·rfl
 ·cases h
theorem mz{y:az CV}(h:cn y=ai):y.length=3:=by rw[<-tE h];rfl
def keep(d:aq)(y:az CV):aX:= !List.beq (aA (bw (y.getD 0 (.b ak)))) (aA d)
theorem iu(d:aq){s:aR}{i:aF}(h:i<s.length):(s.take (i+1)).filter (keep d)=(s.take i).filter (keep d)++(bif keep d s[i]then [s[i]]else []):=by rw[cu h,gv];cases hk:keep d s[i]<;>simp[hk]
theorem run(N:aF)(s0:aR)(d:aq)(hc:s0.all cn=ai)(hn:s0.length<=9223372036854775807)(K:aq->aw->aw->aR->aC R)(kr:aR->aC R)
  (hK:∀(j:aF) x,x.length=s0.length->j<=s0.length->K d j s0.length x=kr (x.take j)) (m j i:aF) (x:aR)
  (hi:j<i/\i<=s0.length/\x.length=s0.length/\(∀y∈x,y.length=3)/\x.take j=(s0.take i).filter (keep d)/\x.drop i=s0.drop i) (hm:s0.length-i<m):
  l5 N K m d j i x=kr (s0.filter (keep d)):=by
 have K_:∀y∈s0,cn y=true:=bu.1 hc
 refine Lib.g9 (λm (s:aF×aF×aR)=>l5 N K m d s.1 s.2.1 s.2.2) (λs=>s0.length-s.2.1)
  (λs=>s.1<s.2.1/\s.2.1<=s0.length/\s.2.2.length=s0.length/\(∀y∈s.2.2,y.length=3)/\s.2.2.take s.1=(s0.take s.2.1).filter (keep d)/\s.2.2.drop s.2.1=s0.drop s.2.1)
  (λ_=>kr (s0.filter (keep d))) (λm s hs=> ?_) m (j,i,x) hi hm
 obtain⟨j,i,x⟩:=s;obtain⟨h1,h2,h3,h4,h5,h6⟩:=hs;simp only at h1 h2 h3 h4 h5 h6⊢;by_cases gg:i<s0.length
 ·right;have oD:i<x.length:=by omega
  have Hb:j<x.length:=by omega
  have hx:x[i]=s0[i]:=by have e1:=Lib.eL oD;have e2:=Lib.eL gg;rw[h6,e2]at e1;exact(kD e1).1.symm
  have hd:x.drop (i+1)=s0.drop (i+1):=by have e1:=Lib.eL oD;have e2:=Lib.eL gg;rw[h6,e2]at e1;exact(kD e1).2.symm
  have Lb:=K_ _ (bC gg);have hf:=iu d gg;cases hk:keep d s0[i]with
  |true=>
   refine⟨(j+1,i+1,x.set j s0[i]), ?_,by simp only;omega,trivial, ?_⟩
   ·rw[hk,au,<-h5]at hf;refine⟨by simp only;omega,by simp only;omega,by simpa using h3, ?_, ?_, ?_⟩
    ·intro y hy;rcases jL hy with h|h
     ·exact h4 y h
     ·rw[h];exact mz Lb
    ·rw[hf];rw[cu (by simpa using Hb)];simp[wN]
    ·simp only;rw[wM (by omega)];exact hd
   ·have e:A2.v (bw (ar x i 0)) (bw (ar x i 1)) (bF (ar x i (1+1))) d=false:=by
     have:(!A2.v (bw (ar x i 0)) (bw (ar x i 1)) (bF (ar x i (1+1))) d)=true:=by rw[Lib.cK oD,hx];exact hk
     simpa using this
    have es:eJ x j 0 [CV.s (bw (ar x i 0)),CV.s (bw (ar x i 1)),CV.i ao (bF (ar x i (1+1)))]=x.set j s0[i]:=by
     have hl:=h4 _ (bC Hb);rw[Lib.BH Hb,Lib.cK oD,Lib.cK oD,Lib.cK oD,hx];have:iH x[j] 0 (cr s0[i])=s0[i]:=by rw[tE Lb];unfold iH;have:=mz Lb;simp[hl,this,gU]
     unfold cr at this;rw[this]
    have b1:(j:aw)<(x.length:aw):=by omega
    simp only[l5,r5,Lib.dm,Lib.cE,Lib.dX,oD,Hb,aN,bc,au,e,bR,es,Lib.cZ gg hn,Lib.cZ (show j<s0.length by omega) hn]
  |false=>
   refine⟨(j,i+1,x), ?_,by simp only;omega,trivial, ?_⟩
   ·rw[hk,ax,dn,<-h5]at hf;exact⟨by simp only;omega,by simp only;omega,h3,h4,hf.symm,hd⟩
   ·have e:A2.v (bw (ar x i 0)) (bw (ar x i 1)) (bF (ar x i (1+1))) d=true:=by
     have:(!A2.v (bw (ar x i 0)) (bw (ar x i 1)) (bF (ar x i (1+1))) d)=false:=by rw[Lib.cK oD,hx];exact hk
     simpa using this
    simp only[l5,r5,Lib.dm,Lib.cE,Lib.dX,oD,aN,bc,au,e,a_,ax,Lib.cZ gg hn]
 ·left;have:i=s0.length:=by omega
  subst this;rw[dD]at h5;have e:=hK j x h3 (by omega);rw[h5]at e;have oD:¬s0.length<x.length:=by omega
  simp only[l5,r5,Lib.dm,oD,bj,ax,e]
theorem ok(s0:aR)(i_:aq)(hc:s0.all cn=ai)(hn:s0.length<=4294967296):c s0 i_=ai/\v s0 i_=s0.filter (keep i_):=by
 refine out s0 i_ ?_;have hv:=nz.ok s0 i_ hn;unfold vo b;rw[hv.1,hv.2,au];rcases Lib.pz (nz.p s0 i_) s0.length 0 with ⟨h,n5⟩|⟨k,_,Ap,hk,Le,K9⟩
 ·rw[h];have:s0.filter (keep i_)=s0:=by rw[eK];intro y hy;obtain⟨i,hi,rfl⟩:=c6 hy;have:=n5 i (bI _) (by omega);unfold nz.p at this;rw[Lib.cK hi]at this;unfold keep;rw[this];rfl
  rw[this];rfl
 ·rw[hk];have D6:k<s0.length:=by omega
  have iB:decide ((k:aw)=Ku 1)=false:=aK (by show¬(k:aw)= -1;omega);rw[iB,ax,Lib.cZ D6 (by omega)];have K_:∀y∈s0,cn y=true:=bu.1 hc;refine run _ s0 i_ hc (by omega) _ ah (λj x hx hj=> ?_) _ k (k+1) s0 ⟨by omega,by omega,rfl,λy hy=>mz (K_ y hy), ?_,rfl⟩ (cG (by omega))
  ·have b1:g8 (j:aw) (s0.length:aw) (s0.length:aw)=true:=by simp[g8];omega
   have e:g_ j x++aP [Ck.s,Ck.s,Ck.i ao] (s0.length-j)++nt s0.length x=g_ j x++aP [Ck.s,Ck.s,Ck.i ao] (s0.length-j):=by rw[gU (by omega),dn]
   have hl:(g_ j x).length=j:=by simp;omega
   simp only[hx,Lib.dX,b1,au,e];rw[Lib.tz (by simp[g8];omega)];unfold eA;rw[show aW 0=0 from rfl,e_,sr,pb (by omega),jf (by omega)]
  ·rw[iu i_ D6];have e1:keep i_ s0[k]=false:=by unfold nz.p at Le;rw[Lib.cK D6]at Le;unfold keep;rw[Le];rfl
   have e2:(s0.take k).filter (keep i_)=s0.take k:=by
    rw[eK];intro y hy;obtain⟨i,hi,rfl⟩:=c6 hy;have Wx:i<k:=by simp at hi;omega
    have:=K9 i (bI _) Wx;unfold nz.p at this;rw[Lib.cK (by omega)]at this;rw[nC];unfold keep;rw[this];rfl
   rw[e1,e2,ax,dn]
end w7

namespace dI
open Lib (rd el Fi)
def Wm(l:az Fi):Prop:=l.Pairwise λx y=>fY.fy x.n y.n=ai
def without(l:az Fi)(n:aq):az Fi:=l.filter λx=> !decide (x.n=n)
def put(l:az Fi)(f:Fi):az Fi:=l.filter (λx=>fY.fy x.n f.n)++[f]++l.filter (λx=> !(fY.fy x.n f.n||decide (x.n=f.n)))
def nN(f:Fi):aX:=decide (1<=(f.n.size:aw)/\(f.n.size:aw)<=8)&&(!decide ((f.t.size:aw)>20000)&&decide (0<=f.kp/\f.kp<=(f.t.size:aw)))
def sQ(l:az Fi):aX:=gD.val (rd l)
theorem irrefl(x:aq):fY.fy x x=false:=lN.oZ _
theorem j5{l:az Fi}:sQ l=ai↔l.length<=30/\(∀f∈l,nN f=ai)/\Wm l:=by
 unfold sQ gD.val;rw[aL,bf,bu,eB];have e:∀i (h:i<l.length),gD.el (rd l) i=(nN l[i]&&(i==0||fY.fy (l.getD (i-1) default).n l[i].n)):=λi h=>by
  unfold gD.el nN fY.fy;rw[JO h,WD h,show ar (rd l) i 2=CV.i ao l[i].kp from WE h,JO (show i-1<l.length by omega)];have h5:l.getD (i-1) default=l[i-1]:=by simp[jS,show i-1<l.length by omega]
  rw[h5];simp only[bw,bF,nS];rfl
 constructor
 ·rintro ⟨h1,h2⟩;have h3:∀i (h:i<l.length),nN l[i]=ai/\(i=0\/fY.fy (l.getD (i-1) default).n l[i].n=ai):=λi h=>by have:=h2 i (by simpa using h);rw[e i h,aL,dL]at this;exact⟨this.1,this.2.imp (λq=>by simpa using q) id⟩
  refine⟨h1,λf hf=> ?_, ?_⟩
  ·obtain⟨i,hi,rfl⟩:=c6 hf;exact(h3 i hi).1
  ·have adj:∀d i (hi:i+d+1<l.length),fY.fy l[i].n l[i+d+1].n=true:=by
    intro d;induction d with
    |zero=>
     intro i hi;rcases(h3 (i+1) (by omega)).2 with q|q
     ·omega
     ·simpa [jS,show i<l.length by omega]using q
    |succ d ih=>
     intro i hi;have a:=ih i (by omega);rcases(h3 (i+d+1+1) (by omega)).2 with q|q
     ·omega
     ·have q:fY.fy l[i+d+1].n l[i+d+1+1].n=true:=by simpa [jS,show i+d+1<l.length by omega]using q
      exact lN.po _ _ _ a q
   unfold Wm;rw[dB];intro i j hi hj Pv;have:=adj (j-i-1) i (by omega);simpa only[show i+(j-i-1)+1=j by omega]using this
 ·rintro ⟨h1,h2,h3⟩;refine⟨h1,λi hi=> ?_⟩
  have hi:i<l.length:=by simpa using hi
  rw[e i hi,h2 _ (bC hi),bc,dL];by_cases hz:i=0
  ·left;simpa using hz
  ·right;have:=dB.1 h3 (i-1) i (by omega) hi (by omega);simpa [jS,show i-1<l.length by omega]using this
theorem aiE(l:az Fi):(rd l).all w7.cn=true:=by rw[bu];intro y hy;unfold Lib.rd at hy;obtain⟨z,_,rfl⟩:=cW.1 hy;rfl
theorem ams(l:az Fi)(n:aq):(rd l).filter (w7.keep n)=rd (without l n):=by unfold Lib.rd without;rw[o_];congr 1;apply kV;intro x _;show(!List.beq (aA x.n) (aA n))=_;rw[Lib.fm]
theorem Mh(l:az Fi)(n:aq):(without l n).length<=l.length:=eC ..
theorem ad_{l:az Fi}(h:Wm l)(n:aq):Wm (without l n):=oH _ h
theorem sa{l:az Fi}(f:Fi):(put l f).length<=l.length+1:=by
 unfold put;have:∀r:az Fi,(r.filter λx=>fY.fy x.n f.n).length+(r.filter λx=> !(fY.fy x.n f.n||decide (x.n=f.n))).length<=r.length:=by
  intro r;induction r with
  |nil=>exact cF _
  |cons y r ih=>
   cases h1:fY.fy y.n f.n with
   |true=>rw[dC (by simpa using h1),cC (by simp[h1])];simp only[db];omega
   |false=>
    rw[cC (by simp[h1])];by_cases h2:y.n=f.n
    ·rw[cC (by simp[h2])];simp only[db];omega
    ·rw[dC (by simp[h1,h2])];simp only[db];omega
 have:=this l;simp only[bP,bA];omega
theorem j6{l:az Fi}{x f:Fi}:x∈put l f↔x=f\/(x∈l/\x.n≠f.n):=by
 unfold put;simp only[ba,c9,aZ,dr,iJ,fu];constructor
 ·rintro ((⟨h1,h2⟩|rfl)|⟨h1,h2⟩)
  ·refine .inr ⟨h1,λe2=> ?_⟩;rw[e2,irrefl]at h2;cases h2
  ·exact .inl rfl
  ·exact .inr ⟨h1,h2.2⟩
 ·rintro (rfl|⟨h1,h2⟩)
  ·exact .inl (.inr rfl)
  ·cases hl:fY.fy x.n f.n with
   |true=>exact .inl (.inl ⟨h1,rfl⟩)
   |false=>exact .inr ⟨h1,rfl,h2⟩
def Hs(l:az Fi)(k:aw)(n t o:aq):aC (az Fi):=
 match l.find? λx=>decide (x.n=n)with
 |some f=>
  if k=1 then ah (put l ⟨f.n,f.t++t,f.kp⟩)
  else if k=2 then ah (put l ⟨f.n,f.t,f.t.size⟩)
  else if k=3 then(if f.kp≠f.t.size\/o=n then aj else ah (put (without l n) ⟨o,f.t,f.kp⟩))
  else ah (without l n)
 |none=>if k=1 then ah (put l ⟨n,t,0⟩)else aj
def kh(k:aw)(t o:aq):aX:=decide (1<=k/\k<=4)&&((decide (t=⟨#[]⟩)||decide (k=1))&&(decide (o=⟨#[]⟩)||decide (k=3)))
def act(l:az Fi)(k:aw)(n t o:aq):aC (az Fi):=
 bif sQ l&&kh k t o then(match Hs l k n t o with|some d=>bif sQ d then ah d else aj|none=>aj)else aj
structure Ac where
 k:aw
 n:aq
 t:aq
 o:aq
 deriving DecidableEq
instance:Inhabited Ac:=⟨⟨0,⟨#[]⟩,⟨#[]⟩,⟨#[]⟩⟩⟩
def Ac.row(e:Ac):az CV:=[CV.i ao e.k,CV.s e.n,CV.s e.t,CV.s e.o]
def ra(l:az Ac):aR:=l.map Ac.row
theorem sb(l):(ra l).length=l.length:=by unfold ra;simp
theorem wa0{l:az Ac}{i:aF}(h:i<l.length):ar (ra l) i 0=CV.i ao (el l i).k:=fV _ l i 0 h
theorem wa1{l:az Ac}{i:aF}(h:i<l.length):ar (ra l) i 1=CV.s (el l i).n:=fV _ l i 1 h
theorem wa2{l:az Ac}{i:aF}(h:i<l.length):ar (ra l) i (1+1)=CV.s (el l i).t:=fV _ l i 2 h
theorem wa3{l:az Ac}{i:aF}(h:i<l.length):ar (ra l) i (1+1+1)=CV.s (el l i).o:=fV _ l i 3 h
def ki:az Fi->aF->az Ac->az Fi×aF
 |l,i,[]=>(l,i)
 |l,i,a::r=>match act l a.k a.n a.t a.o with|some d=>ki d (i+1) r|none=>(l,i)
theorem Bl{l d:az Fi}{k:aw}{n t o:aq}(h:act l k n t o=ah d):sQ d=ai/\d.length<=30:=by
 unfold act at h;cases hb:sQ l&&kh k t o with
 |false=>rw[hb]at h;cases h
 |true=>
  rw[hb,au]at h;split at h
  ·rename_i e _;cases ho:sQ e with
   |false=>rw[ho]at h;cases h
   |true=>rw[ho]at h;obtain rfl:=aJ h;exact⟨ho,(j5.1 ho).1⟩
  ·cases h
end dI

namespace pe
theorem size(x:aw):(v x).size=4:=by unfold v;rw[Lib.iU];simp only[cD,Lib.rU]
end pe

namespace jV
def rd(x:aw):aw:=bif decide (cy x 2=1)then(bE eI (↑(dV (mm (ca 32 (bE eI (cQ x 2))) (ca 32 3558460437))):aw))else(bE eI (cQ x 2))
def nP:aF->aw->aw|0,x=>x|n+1,x=>nP n (rd x)
theorem in6(N:aF)(K:aw->aq->aw->aw->aC R)(a:aq)(b:aw):∀(d n i:aF) (x:aw),d+i=8->d<n->l6 N K n x a b (i:aw)=K (nP d x) a b 8:=by
 intro d;induction d with
 |zero=>
  intro n i x h1 h2;obtain⟨n,rfl⟩:∃m,n=m+1:=⟨n-1,by omega⟩
  have:i=8:=by omega
  subst this;rfl
 |succ d ih=>
  intro n i x h1 h2;obtain⟨n,rfl⟩:∃m,n=m+1:=⟨n-1,by omega⟩
  have mi:bJ ((i:aw)+1)=((i+1:aF):aw):=de (by omega) (by omega);rw[nP,<-ih n (i+1) (rd x) (by omega) (by omega)];simp only[l6,r6,aE (show(i:aw)<8 by omega),au,mi,rd];cases decide (cy x 2=1)<;>rfl
def su(t:aq):aF->aF->aw->aw
 |0,_,s=>s
 |d+1,i,s=>su t d (i+1) (nP 8 (bE eI (↑(dV (mm (ca 32 s) (ca 32 (bE eI (↑(gQ t i):aw))))):aw)))
theorem run(s:aw)(t:aq)(ht:t.size<=4611686018427387904):vo s t=ah (su t t.size 0 s):=by
 unfold vo b;have key:∀(d n i:aF) (s:aw),d+i=t.size->d<n->l2 Lib.cU (λ(wz:aw) (_:aq) (_:aw)=>ah wz) n s t (i:aw)=ah (su t d i s):=by
  intro d;induction d with
  |zero=>
   intro n i s h1 h2;obtain⟨n,rfl⟩:∃m,n=m+1:=⟨n-1,by omega⟩
   simp only[l2,r2,Lib.dm,aK (show¬i<t.size by omega),ax];rfl
  |succ d ih=>
   intro n i s h1 h2;obtain⟨n,rfl⟩:∃m,n=m+1:=⟨n-1,by omega⟩
   have mi:bJ ((i:aw)+1)=((i+1:aF):aw):=de (by omega) (by omega);simp only[l2,r2,Lib.dm,aE (show i<t.size by omega),Lib.cE,aM,au,Lib.dX];have e:=in6 (R:=aw) Lib.cU (λy7 y8 y9 _=>l2 Lib.cU (λwz _ _=>ah wz) n y7 y8 (bJ (y9+1))) t (i:aw) 8 Lib.cU 0 (bE eI (↑(dV (mm (ca 32 s) (ca 32 (bE eI (↑(gQ t i):aw))))):aw)) rfl (by unfold Lib.cU;omega);refine e.trans ?_;rw[mi,ih n (i+1) _ (by omega) (by omega)];rfl
 exact key t.size Lib.cU 0 s (by omega) (cG (by omega))
theorem ok(s:aw)(t:aq)(ht:t.size<=4611686018427387904):c s t=ai/\v s t=su t t.size 0 s:=out s t (run s t ht)
end jV

namespace vW
theorem ok(t:aq)(ht:t.size<=4611686018427387904):c t=ai/\v t=jV.su t t.size 0 4294967295:=by have h:=jV.ok 4294967295 t ht;refine out t ?_;unfold vo b;rw[h.1,h.2];rfl
end vW

namespace fJ
def fr(t:aq):aq:=bytesOf (Lib.vb t.size)++pe.v (jV.su t t.size 0 4294967295)++t
def val(t:aq):aq×aX:=if 1<=t.size/\t.size<=9000 then(fr t,ai)else(⟨#[]⟩,ak)
theorem eO(n a b:aw):km.v n a b=decide (a<=n/\n<=b):=by unfold km.v;by_cases h:a<=n<;>by_cases h2:n<=b<;>simp[h,h2]
theorem XF{t:aq}(h:t.size<=9000):(fr t).size<=t.size+68:=by unfold fr;have:=Lib.jQ (x:=(t.size:aw)) (by omega);rw[Lib.kj,Lib.kj,pe.size];omega
theorem ok(t:aq):c t=ai/\v t=val t:=by
 refine out t ?_;unfold vo b val;rw[eO];by_cases h:1<=t.size/\t.size<=9000
 ·have hs:=vW.ok t (by omega);have hc:kF.c (t.size:aw)=true:=aE (show(t.size:aw)<=9223372036854775807 by omega);have z1:(kF.v (t.size:aw)).size<=64:=Lib.jQ (x:=(t.size:aw)) (by omega);rw[aE (show(1:aw)<=(t.size:aw)/\(t.size:aw)<=9000 by omega),bz h,hs.1,hs.2];simp(disch:=omega) only[a_,ax,au,hc,Lib.kj,pe.size,Lib.Sz];rfl
 ·rw[aK (show¬((1:aw)<=(t.size:aw)/\(t.size:aw)<=9000)by omega),bH h];rfl
end fJ

namespace rM
theorem head{t:aq}{p:aF}{b:H0}{r:az H0}(h:t.data.toList.drop p=b::r):p<t.size/\gQ t p=b.toNat/\t.data.toList.drop (p+1)=r:=by
 have hl:=lO bT h;rw[iE,db]at hl;have hs:t.data.toList.length=t.size:=rfl;have hp:p<t.data.toList.length:=by omega
 have hd:=dE hp;rw[hd]at h;injection h with h1 h2;refine⟨by omega, ?_,h2⟩
 unfold gQ;have mN:p<t.data.size:=hp;rw[show t.data.getD p 0=t.data[p]by unfold Array.getD;rw[dif_pos mN];rfl];rw[<-h1];rfl
theorem Ce(x:aw)(r:aR):(bytesOf ([CV.i bh x]::r)).data.toList=ay x.toNat::(bytesOf r).data.toList:=rfl
theorem U7(t:aq)(a:aF)(rest:az H0):∀(f j:aF) (n y:aw),0<=y->0<=n->n+y*128^j<=1000000000->y<=1000000000->(j>0->0<y)->t.data.toList.drop (a+j)=(bytesOf (Lib.vb y)).data.toList++rest->(Lib.vb y).length<=f->
  Lib.rv t a f j n=(n+y*128^j,((a+j+(Lib.vb y).length:aF):aw),ai)/\t.data.toList.drop (a+j+(Lib.vb y).length)=rest
 |0,j,n,y,h0,hn,hb,hy,hj,hd,hf=>by
  by_cases hc:y>127
  ·rw[Lib.wx hc]at hf;simp at hf
  ·rw[Lib.nc hc]at hf;simp at hf
 |f+1,j,n,y,h0,hn,hb,hy,hj,hd,hf=>by
  by_cases hc:y>127
  ·have e1:cy y 128=y%128:=ir (by omega);have e2:cQ y 128=y/128:=ie (by omega);have e3:bJ (y%128+128)=y%128+128:=de (by omega) (by omega);have e4:bE bh (y%128+128)=y%128+128:=by show(y%128+128)%256=_;omega
   have e5:bJ (y/128)=y/128:=de (by omega) (by omega);have ev:Lib.vb y=[CV.i bh (y%128+128)]::Lib.vb (y/128):=by rw[Lib.wx hc,e1,e2,e3,e4,e5]
   rw[ev,Ce,BZ]at hd;obtain⟨q1,q2,q3⟩:=head hd;have q4:(gQ t (a+j):aw)=y%128+128:=by rw[q2,M6];omega
   rw[ev,db]at hf;have hP:y*128^j=y%128*128^j+y/128*128^(j+1):=by
    have hyd:y=y%128+128*(y/128):=by omega
    rw[uY];generalize (128:aw)^j=P;conv=>lhs;rw[hyd]
    rw[Int.add_mul,Int.mul_comm P 128,<-Int.mul_assoc,Int.mul_comm (y/128) 128]
   have hpp:(0:aw)<=y%128*128^j:=Int.mul_nonneg (by omega) (Int.le_of_lt (Int.pow_pos (by omega)));obtain⟨i1,i2⟩:=U7 t a rest f (j+1) (n+y%128*128^j) (y/128) (by omega) (by omega) (by omega) (by omega) (by omega) (by rw[show a+(j+1)=a+j+1 by omega];exact q3) (by omega);refine⟨?_, ?_⟩
   ·unfold Lib.rv;rw[bz q1,q4,bz (by omega),show(y%128+128)%128=y%128 by omega,i1,hP,ev,db];refine Prod.ext ?_ (Prod.ext ?_ rfl)
    ·dsimp only;omega
    ·dsimp only;omega
   ·rw[ev,db,show a+j+((Lib.vb (y/128)).length+1)=a+(j+1)+(Lib.vb (y/128)).length by omega];exact i2
  ·have e4:bE bh y=y:=by show y%256=_;omega
   have ev:Lib.vb y=[[CV.i bh y]]:=by rw[Lib.nc hc,e4]
   rw[ev,Ce,BZ]at hd;obtain⟨q1,q2,q3⟩:=head hd;have q4:(gQ t (a+j):aw)=y:=by rw[q2,M6];omega
   refine⟨?_,by rw[ev];exact q3⟩
   unfold Lib.rv;rw[bz q1,q4,bH hc,show y%128=y by omega,bH (by omega),ev];rfl
theorem vb5{y:aw}(h:y<=1000000000):(Lib.vb y).length<=5:=by
 have e:(128:aw)^(4+1)=34359738368:=by decide
 exact Lib.BM 4 y (by rw[e];omega)
theorem mI(t:aq)(p:aF)(y:aw)(rest:az H0)(h0:0<=y)(h1:y<=1000000000)(hd:t.data.toList.drop p=(bytesOf (Lib.vb y)).data.toList++rest):Lib.eF t p=(y,((p+(Lib.vb y).length:aF):aw),ai)/\t.data.toList.drop (p+(Lib.vb y).length)=rest:=by
 have hl:=lO bT hd;have iB:0<(Lib.vb y).length:=by
  by_cases hc:y>127
  ·rw[Lib.wx hc];simp
  ·rw[Lib.nc hc];simp
 have hb:(bytesOf (Lib.vb y)).data.toList.length=(Lib.vb y).length:=Lib.iU _;rw[iE,bP,hb]at hl;have hs:t.data.toList.length=t.size:=rfl;obtain⟨i1,i2⟩:=U7 t p rest 5 0 0 y h0 (by omega) (by simp;omega) h1 (by omega) (by simpa using hd) (vb5 h1);refine⟨?_,by simpa using i2⟩
 unfold Lib.eF;rw[bz (by omega),show((p:aF):aw).toNat=p from rfl,i1];simp
theorem KT(t k:aq)(p:aF)(rest:az H0)(hd:t.data.toList.drop p=k.data.toList++rest):t.extract p (p+k.size)=k:=by apply Lib.tw;simp only[gi,iz,ig];rw[hd,show p+k.size-p=k.data.toList.length by show p+k.size-p=k.size;omega,List.take_left]
theorem enc(k:aq)(s l:aw)(b:aq)(h:ni.v k s l b=ai):v (jM.sV k s l b)=(k,s,l,b,ai):=by
 obtain⟨⟨k1,k2⟩,⟨s1,s2⟩,⟨l1,l2⟩,b1⟩:=ni.Ef h;generalize ht:jM.sV k s l b=t;have hT:t.data.toList=(bytesOf (Lib.vb k.size)).data.toList++(k.data.toList++((bytesOf (Lib.vb s)).data.toList++((bytesOf (Lib.vb l)).data.toList++b.data.toList))):=by rw[<-ht];unfold jM.sV;simp only[mE,vF,cz]
 have hs:t.data.toList.length=t.size:=rfl;have hk:k.data.toList.length=k.size:=rfl;obtain⟨a1,a2⟩:=mI t 0 (k.size:aw) _ (by omega) (by omega) (by rw[e_];exact hT);rw[bV]at a1 a2;generalize (Lib.vb (k.size:aw)).length=n1 at a1 a2;have auR:=lO bT a2;simp only[iE,bP,hk,hs]at auR;have ek:=KT t k n1 _ a2;have a3:t.data.toList.drop (n1+k.size)=(bytesOf (Lib.vb s)).data.toList++((bytesOf (Lib.vb l)).data.toList++b.data.toList):=by rw[<-vN,a2];exact List.drop_left' (by rw[hk])
 obtain⟨b1',b2⟩:=mI t (n1+k.size) s _ (by omega) (by omega) a3;obtain⟨c1,c2⟩:=mI t (n1+k.size+(Lib.vb s).length) l _ (by omega) (by omega) b2;have hr:Lib.ic t 0=(k,((n1+k.size:aF):aw),ai):=by unfold Lib.ic;rw[show(0:aw)=((0:aF):aw)from rfl,a1];dsimp only;rw[bz (by omega)];rw[show((n1:aF):aw).toNat=n1 from rfl,show((n1:aw)+(k.size:aw)).toNat=n1+k.size by omega,ek];rfl
 have eb:t.extract (n1+k.size+(Lib.vb s).length+(Lib.vb l).length) t.size=b:=by
  have Fa:=lO bT c2;rw[iE,hs]at Fa;have hbs:b.data.toList.length=b.size:=rfl;by_cases hz:b.size=0
  ·apply Lib.tw;simp only[gi,iz,ig];rw[c2];exact jf (by omega)
  ·apply Lib.tw;simp only[gi,iz,ig];rw[c2];exact jf (by omega)
 unfold v;rw[hr];dsimp only;rw[b1'];dsimp only;rw[c1];dsimp only;rw[show((n1+k.size+(Lib.vb s).length+(Lib.vb l).length:aF):aw).toNat=n1+k.size+(Lib.vb s).length+(Lib.vb l).length from rfl,eb,bz h]
end rM

namespace wZ
theorem in6(N:aF)(K:aw->aq->aw->aw->aC R)(a:aq)(b:aw):∀(d n i:aF) (x:aw),d+i=8->d<n->l6 N K n x a b (i:aw)=K (jV.nP d x) a b 8:=by
 intro d;induction d with
 |zero=>
  intro n i x h1 h2;obtain⟨n,rfl⟩:∃m,n=m+1:=⟨n-1,by omega⟩
  have:i=8:=by omega
  subst this;rfl
 |succ d ih=>
  intro n i x h1 h2;obtain⟨n,rfl⟩:∃m,n=m+1:=⟨n-1,by omega⟩
  have mi:bJ ((i:aw)+1)=((i+1:aF):aw):=de (by omega) (by omega);rw[jV.nP,<-ih n (i+1) (jV.rd x) (by omega) (by omega)];simp only[l6,r6,aE (show(i:aw)<8 by omega),au,mi,jV.rd];cases decide (cy x 2=1)<;>rfl
theorem run(s:aw)(t:aq)(ht:t.size<=4611686018427387904):vo s t=ah (jV.su t t.size 0 s):=by
 unfold vo b;have key:∀(d n i:aF) (s:aw),d+i=t.size->d<n->l2 Lib.cU (λ(wz:aw) (_:aq) (_:aw)=>ah wz) n s t (i:aw)=ah (jV.su t d i s):=by
  intro d;induction d with
  |zero=>
   intro n i s h1 h2;obtain⟨n,rfl⟩:∃m,n=m+1:=⟨n-1,by omega⟩
   simp only[l2,r2,Lib.dm,aK (show¬i<t.size by omega),ax];rfl
  |succ d ih=>
   intro n i s h1 h2;obtain⟨n,rfl⟩:∃m,n=m+1:=⟨n-1,by omega⟩
   have mi:bJ ((i:aw)+1)=((i+1:aF):aw):=de (by omega) (by omega);simp only[l2,r2,Lib.dm,aE (show i<t.size by omega),Lib.cE,aM,au,Lib.dX];have e:=in6 (R:=aw) Lib.cU (λy7 y8 y9 _=>l2 Lib.cU (λwz _ _=>ah wz) n y7 y8 (bJ (y9+1))) t (i:aw) 8 Lib.cU 0 (bE eI (↑(dV (mm (ca 32 s) (ca 32 (bE eI (↑(gQ t i):aw))))):aw)) rfl (by unfold Lib.cU;omega);refine e.trans ?_;rw[mi,ih n (i+1) _ (by omega) (by omega)];rfl
 exact key t.size Lib.cU 0 s (by omega) (cG (by omega))
theorem ok(s:aw)(t:aq)(ht:t.size<=4611686018427387904):c s t=ai/\v s t=jV.su t t.size 0 s:=out s t (run s t ht)
end wZ

namespace vi
theorem ok(t:aq)(ht:t.size<=4611686018427387904):c t=ai/\v t=jV.su t t.size 0 4294967295:=by have h:=wZ.ok 4294967295 t ht;refine out t ?_;unfold vo b;rw[h.1,h.2];rfl
end vi

namespace vf
theorem ok(t:aq)(ht:t.size<=4611686018427387904):c t=ai/\v t=pe.v (jV.su t t.size 0 4294967295):=by have h:=vi.ok t ht;refine out t ?_;unfold vo b;rw[h.1,h.2];rfl
end vf

namespace HY
theorem cut(a s s' b:aq):bZ (aA (a++s++b)) (aA (a++s'++b))=bZ (aA s) (aA s'):=by
 rw[Lib.fm,Lib.fm,cg];constructor
 ·intro h;have h2:=lO (λx:aq=>x.data.toList) h;simp only[mE,vF,cz]at h2;have h3:=List.append_cancel_right (List.append_cancel_left h2);exact Lib.tw h3
 ·intro h;rw[h]
theorem mK(n a b:aw):lB.v n a b=decide (a<=n/\n<=b):=fJ.eO n a b
theorem both(t:aq)(ht:t.size<=20000):∀(d:aF) (gP:aF) (acc:aR) (n m:aF) (z:aw),t.size-gP<=d->gP<=t.size->acc.length<=gP->d<n->d<m->
  ∃R:aR×aw,U122.l3 Lib.cU (λ(_:aq) (y4:aw) (y5:aR)=>ah (y5,y4)) n t (gP:aw) acc=ah R/\l5 Lib.cU (λ(_:aq) (y5 _:aw) (y7:aR)=>ah (y7,y5)) (λ(_:aq) (_ Ki:aw) (wz:aR)=>ah (wz,Ki)) m t z (gP:aw) acc=ah R/\R.1.length<=20000:=by
 intro d;induction d with
 |zero=>
  intro gP acc n m z h1 h2 h3 h4 h5;obtain⟨n,rfl⟩:∃n',n=n'+1:=⟨n-1,by omega⟩
  obtain⟨m,rfl⟩:∃m',m=m'+1:=⟨m-1,by omega⟩
  have jD:decide ((gP:aw)<(t.size:aw))=false:=aK (by omega);have hr:(Lib.eF t (gP:aw)).2.2=false:=by
   cases h:Lib.eF t (gP:aw)with
   |mk a r=>
    obtain⟨x,o⟩:=r;cases o with
    |false=>rfl
    |true=>have:=Lib.j7 h;omega
  have e1:∀a b,gk.v a b=Lib.eF a b:=λ_ _=>rfl;refine⟨(acc,(gP:aw)), ?_, ?_,by dsimp only;omega⟩
  ·simp only[U122.l3,U122.r3,e1,hr,aE (show(t.size:aw)<=20000 by omega),au,bR]
  ·simp only[l5,r5,jD,ax]
 |succ d ih=>
  intro gP acc n m z h1 h2 h3 h4 h5;obtain⟨n,rfl⟩:∃n',n=n'+1:=⟨n-1,by omega⟩
  obtain⟨m,rfl⟩:∃m',m=m'+1:=⟨m-1,by omega⟩
  have e1:∀a b,gk.v a b=Lib.eF a b:=λ_ _=>rfl;have e2:∀a b,fO.v a b=Lib.eF a b:=λ_ _=>rfl;have gh:decide ((t.size:aw)<=20000)=true:=aE (by omega);cases hr:Lib.eF t (gP:aw)with
  |mk N r=>
   obtain⟨nx,o⟩:=r;cases o with
   |false=>
    refine⟨(acc,(gP:aw)), ?_, ?_,by dsimp only;omega⟩
    ·simp only[U122.l3,U122.r3,e1,hr,gh,au,bR]
    ·by_cases jD:(gP:aw)<(t.size:aw)
     ·simp only[l5,r5,e2,hr,aE jD,au,bR]
     ·simp only[l5,r5,aK jD,ax]
   |true=>
    obtain⟨q1,q2,q3,q4,q5,q6⟩:=Lib.j7 hr;have jD:decide ((gP:aw)<(t.size:aw))=true:=aE (by omega);have w1:bJ (N+4)=N+4:=de (by omega) (by omega);have w2:bJ ((t.size:aw)-nx)=(t.size:aw)-nx:=de (by omega) (by omega);have w3:bJ ((t.size:aw)-nx-4)=(t.size:aw)-nx-4:=de (by omega) (by omega);have w4:bJ (nx+4)=nx+4:=de (by omega) (by omega);have w5:bJ (nx+4+N)=nx+4+N:=de (by omega) (by omega);by_cases tK:N+4>(t.size:aw)-nx
    ·have E_:N>(t.size:aw)-nx-4:=by omega
     refine⟨(acc,(gP:aw)), ?_, ?_,by dsimp only;omega⟩
     ·cases X1:decide (1<=N/\N<=9000)with
      |false=>simp only[U122.l3,U122.r3,e1,hr,gh,mK,X1,au,ax,a_,bR]
      |true=>simp only[U122.l3,U122.r3,e1,hr,gh,mK,X1,w1,w2,aE tK,au,ax,a_]
     ·simp only[l5,r5,e2,hr,jD,w2,w3,aE E_,au,ax,a_]
    ·have E_:¬N>(t.size:aw)-nx-4:=by omega
     have i1:g8 (nx+4) (nx+4+N) (t.size:aw)=true:=by simp[g8];omega
     have i2:g8 nx (nx+4) (t.size:aw)=true:=by simp[g8];omega
     have i3:g8 (gP:aw) (nx+4+N) (t.size:aw)=true:=by simp[g8];omega
     have hts:(t.extract (nx+4).toNat (nx+4+N).toNat).size=N.toNat:=by rw[yJ];omega
     generalize Wy:t.extract (nx+4).toNat (nx+4+N).toNat=tx at hts;have f1:=fJ.ok tx;have f2:=vf.ok tx (by omega);by_cases X1:1<=N/\N<=9000
     ·have Ww:fJ.val tx=(fJ.fr tx,ai):=by unfold fJ.val;rw[bz (by omega)]
      have ar_:((tx.size:aF):aw)=N:=by omega
      have Ao:fJ.fr tx=t.extract gP nx.toNat++pe.v (jV.su tx tx.size 0 4294967295)++tx:=by unfold fJ.fr;rw[ar_,q6];rfl
      have hwh:t.extract gP (nx+4+N).toNat=t.extract gP nx.toNat++t.extract nx.toNat (nx+4).toNat++tx:=by rw[<-Wy,Lib.xG t (by omega) (by omega),Lib.xG t (by omega) (by omega)]
      have XN:bZ (aA (fJ.fr tx)) (aA (t.extract gP (nx+4+N).toNat))=bZ (aA (pe.v (jV.su tx tx.size 0 4294967295))) (aA (t.extract nx.toNat (nx+4).toNat)):=by rw[Ao,hwh];exact cut _ _ _ _
      have Jn:cw (acc.length+1) 16=true:=Lib.ch (by omega) (by omega);cases hs:bZ (aA (pe.v (jV.su tx tx.size 0 4294967295))) (aA (t.extract nx.toNat (nx+4).toNat))with
      |false=>
       rw[hs]at XN;refine⟨(acc,(gP:aw)), ?_, ?_,by dsimp only;omega⟩
       ·simp only[U122.l3,U122.r3,e1,hr,gh,mK,aE X1,w1,w2,w4,w5,aK tK,i1,i2,Wy,f2.1,f2.2,hs,au,ax,a_,bR]
       ·simp only[l5,r5,e2,hr,jD,w2,w3,w4,w5,aK E_,i1,i3,Wy,f1.1,f1.2,Ww,dG,XN,au,ax,a_,bR]
      |true=>
       rw[hs]at XN;obtain⟨a2,ha2⟩:∃a2:aF,nx+4+N=(a2:aw):=⟨(nx+4+N).toNat,by omega⟩
       obtain⟨R,g1,g2,g3⟩:=ih a2 (acc++[[CV.s tx]]) n m z (by omega) (by omega) (by rw[bP,bA];omega) (by omega) (by omega);refine⟨R, ?_, ?_,g3⟩
       ·simp only[U122.l3,U122.r3,e1,hr,gh,mK,aE X1,w1,w2,w4,w5,aK tK,i1,i2,Wy,f2.1,f2.2,hs,Lib.iM,bA,Jn,au,ax,a_];rw[ha2];exact g1
       ·simp only[l5,r5,e2,hr,jD,w2,w3,w4,w5,aK E_,i1,i3,Wy,f1.1,f1.2,Ww,dG,XN,Lib.iM,bA,Jn,au,ax,a_];rw[ha2];exact g2
     ·have Ww:fJ.val tx=(⟨#[]⟩,ak):=by unfold fJ.val;rw[bH (by omega)]
      refine⟨(acc,(gP:aw)), ?_, ?_,by dsimp only;omega⟩
      ·simp only[U122.l3,U122.r3,e1,hr,gh,mK,aK X1,au,ax,a_,bR]
      ·simp only[l5,r5,e2,hr,jD,w2,w3,w4,w5,aK E_,i1,Wy,f1.1,f1.2,Ww,au,ax,a_,bR]
theorem same(t:aq):∃R:aR×aw,(c t=ai/\v t=R)/\(U122.c t=ai/\U122.v t=R)/\R.1.length<=20000:=by
 by_cases ht:t.size<=20000
 ·obtain⟨R,g1,g2,g3⟩:=both t ht t.size 0 [] Lib.cU Lib.cU 0 (by omega) (bI _) (cF _) (cG (by omega)) (cG (by omega));refine⟨R,out t ?_,U122.out t ?_,g3⟩
  ·unfold vo b;rw[aK (show¬(t.size:aw)>20000 by omega),ax];exact g2
  ·unfold U122.vo U122.b;exact g1
 ·refine⟨([],0),out t ?_,U122.out t ?_,bI _⟩
  ·unfold vo b;rw[aE (show(t.size:aw)>20000 by omega)];rfl
  ·unfold U122.vo U122.b;have hb:Lib.cU=18446744073709551615+1:=rfl;have:∀n,U122.l3 Lib.cU (λ(_:aq) (y4:aw) (y5:aR)=>ah (y5,y4)) (n+1) t 0 (aP [Ck.s] 0)=ah ([],0):=by intro n;simp only[U122.l3,U122.r3,aK (show¬(t.size:aw)<=20000 by omega),ax];rfl
   exact this 18446744073709551615
end HY

namespace WQ
def fs:az aq->aq
 |[]=>⟨#[]⟩|x::r=>fJ.fr x++fs r
theorem toL(a b:aq):(a++b).data.toList=a.data.toList++b.data.toList:=by simp[mE]
theorem G6(x:aq):(fJ.fr x).data.toList=(bytesOf (Lib.vb x.size)).data.toList++((pe.v (jV.su x x.size 0 4294967295)).data.toList++x.data.toList):=by unfold fJ.fr;rw[toL,toL,cz]
theorem Kf(x:aq):x.data.toList.length=x.size:=dR
def Stop(z:aq):Prop:=z=⟨#[]⟩\/∃(x:aq) (w:az H0),x.size<=9000/\(fJ.fr x).data.toList=z.data.toList++w/\w≠[]
theorem o4(n:aw):(pe.v n).size=4:=rfl
theorem vbl(n:aw):(bytesOf (Lib.vb n)).data.toList.length=(Lib.vb n).length:=by rw[Kf,Lib.iU]
theorem stop{t z:aq}{p:aF}(hz:Stop z)(hp:p<=t.size)(hd:t.data.toList.drop p=z.data.toList){N nx:aw}(h:Lib.eF t p=(N,nx,ai)):N+4>(t.size:aw)-nx:=by
 obtain⟨q1,q2,q3,q4,q5,q6⟩:=Lib.j7 h;have hl:t.size-p=z.size:=by have:=lO bT hd;rw[iE,Kf,Kf]at this;exact this
 rcases hz with rfl|⟨x,w,hx,hF,hw⟩
 ·have:(⟨#[]⟩:aq).size=0:=rfl;omega
 ·-- the file's next bytes are the number's
  have e1:(t.extract p nx.toNat).data.toList=z.data.toList.take (nx.toNat-p):=by rw[<-hd];simp[gi,iz,List.extract]
  rw[dG]at q6;have Ll:nx.toNat-p<=z.data.toList.length:=by rw[Kf];omega
  have e2:(fJ.fr x).data.toList.drop 0=(bytesOf (Lib.vb N)).data.toList++(z.data.toList.drop (nx.toNat-p)++w):=by rw[e_,hF,q6,e1,<-cz,List.take_append_drop]
  have e3:(fJ.fr x).data.toList.drop 0=(bytesOf (Lib.vb x.size)).data.toList++((pe.v (jV.su x x.size 0 4294967295)).data.toList++x.data.toList):=by rw[e_,G6]
  have r1:=(rM.mI _ 0 N _ q4 q5 e2).1;have r2:=(rM.mI _ 0 (x.size:aw) _ (by omega) (by omega) e3).1;rw[r1]at r2;obtain⟨hN,hq⟩:=bW r2;have hlen:(Lib.vb N).length=nx.toNat-p:=by have:=lO bT (lO (λy:aq=>y.data.toList) q6);simp only[vbl,e1,eD]at this;omega
  have hFl:=lO bT hF;rw[G6,bP,bP,bP,vbl,Kf,Kf,Kf,o4]at hFl;have hw1:1<=w.length:=by cases w with|nil=>exact cJ rfl hw|cons=>simp
  subst hN;omega
theorem go(t:aq)(ht:t.size<=20000)(z:aq)(hz:Stop z):∀(es:az aq),(∀x∈es,1<=x.size/\x.size<=9000)->∀(p n:aF) (acc:aR),p<=t.size->acc.length<=p->t.data.toList.drop p=(fs es++z).data.toList->t.size-p<n->
  U122.l3 Lib.cU (λ(_:aq) (y4:aw) (y5:aR)=>ah (y5,y4)) n t (p:aw) acc=ah (acc++Lib.rs es,((p+(fs es).size:aF):aw)):=by
 have e0:∀a b,gk.v a b=Lib.eF a b:=λ_ _=>rfl;have gh:decide ((t.size:aw)<=20000)=true:=aE (by omega);intro es;induction es with
 |nil=>
  intro hes p n acc hp ha hd hn;obtain⟨n,rfl⟩:∃n',n=n'+1:=⟨n-1,by omega⟩
  have hd:t.data.toList.drop p=z.data.toList:=by rw[hd];unfold fs;rw[toL];rfl
  have e1:acc++Lib.rs []=acc:=dn _;have e2:((p+(fs []).size:aF):aw)=(p:aw):=rfl;rw[e1,e2];cases hr:Lib.eF t (p:aw)with
  |mk N r=>
   obtain⟨nx,o⟩:=r;cases o with
   |false=>simp only[U122.l3,U122.r3,e0,hr,gh,au,bR]
   |true=>
    have hs:=stop hz hp hd hr;obtain⟨q1,q2,q3,q4,q5,q6⟩:=Lib.j7 hr;have w1:bJ (N+4)=N+4:=de (by omega) (by omega);have w2:bJ ((t.size:aw)-nx)=(t.size:aw)-nx:=de (by omega) (by omega);cases X1:decide (1<=N/\N<=9000)with
    |false=>simp only[U122.l3,U122.r3,e0,hr,gh,HY.mK,X1,au,ax,a_,bR]
    |true=>simp only[U122.l3,U122.r3,e0,hr,gh,HY.mK,X1,w1,w2,aE hs,au,ax,a_]
 |cons x es ih=>
  intro hes p n acc hp ha hd hn;obtain⟨n,rfl⟩:∃n',n=n'+1:=⟨n-1,by omega⟩
  have hx:=hes x (by simp);have hd1:t.data.toList.drop p=(bytesOf (Lib.vb x.size)).data.toList++((pe.v (jV.su x x.size 0 4294967295)).data.toList++(x.data.toList++(fs es++z).data.toList)):=by rw[hd,show fs (x::es)=fJ.fr x++fs es from rfl,toL,toL,G6,toL];simp only[cz]
  obtain⟨hr,hd2⟩:=rM.mI t p (x.size:aw) _ (by omega) (by omega) hd1;have Pt:(fJ.fr x).size=(Lib.vb x.size).length+4+x.size:=by rw[<-Kf,G6,bP,bP,vbl,Kf,Kf,o4];omega
  have hlen:=lO bT hd;rw[iE,Kf,Kf]at hlen;have n5:(fs (x::es)++z).size=(fJ.fr x).size+(fs es).size+z.size:=by rw[show fs (x::es)=fJ.fr x++fs es from rfl,dJ,dJ]
  rw[n5,Pt]at hlen;generalize hm:(Lib.vb (x.size:aw)).length=m at*
  have x4:t.extract (p+m) (p+m+4)=pe.v (jV.su x x.size 0 4294967295):=by have:=rM.KT t _ (p+m) _ hd2;rwa[o4]at this
  have hd3:t.data.toList.drop (p+m+4)=x.data.toList++(fs es++z).data.toList:=by rw[<-vN,hd2,Bd (by rw[Kf,o4];omega),Ic (by rw[Kf,o4];omega),gC]
  have x5:t.extract (p+m+4) (p+m+4+x.size)=x:=rM.KT t x (p+m+4) _ hd3;have hd4:t.data.toList.drop (p+m+4+x.size)=(fs es++z).data.toList:=by rw[<-vN,hd3,Bd (by rw[Kf];omega),Ic (by rw[Kf];omega),gC]
  have i:=ih (λy hy=>hes y (by simp[hy])) (p+m+4+x.size) n (acc++[[CV.s x]]) (by omega) (by simp;omega) hd4 (by omega);have w1:bJ ((x.size:aw)+4)=(x.size:aw)+4:=de (by omega) (by omega);have w2:bJ ((t.size:aw)-((p+m:aF):aw))=(t.size:aw)-((p+m:aF):aw):=de (by omega) (by omega);have w4:bJ (((p+m:aF):aw)+4)=((p+m+4:aF):aw):=by rw[de (by omega) (by omega)];omega
  have w5:bJ (((p+m+4:aF):aw)+(x.size:aw))=((p+m+4+x.size:aF):aw):=by rw[de (by omega) (by omega)];omega
  have b1:¬(x.size:aw)+4>(t.size:aw)-((p+m:aF):aw):=by omega
  have i1:g8 ((p+m+4:aF):aw) ((p+m+4+x.size:aF):aw) (t.size:aw)=true:=by simp[g8];omega
  have i2:g8 ((p+m:aF):aw) ((p+m+4:aF):aw) (t.size:aw)=true:=by simp[g8];omega
  have f2:=vf.ok x (by omega);have Jn:cw (acc.length+1) 16=true:=Lib.ch (by omega) (by omega);simp only[U122.l3,U122.r3,e0,hr,gh,HY.mK,aE (show 1<=(x.size:aw)/\(x.size:aw)<=9000 by omega),w1,w2,w4,w5,aK b1,i1,i2,dG,x4,x5,f2.1,f2.2,Lib.qM,Lib.iM,bA,Jn,au,ax,a_];rw[i];have e3:acc++[[CV.s x]]++Lib.rs es=acc++Lib.rs (x::es):=by unfold Lib.rs;simp
  have e4:p+m+4+x.size+(fs es).size=p+(fs (x::es)).size:=by
   have:(fs (x::es)).size=(fJ.fr x).size+(fs es).size:=by rw[show fs (x::es)=fJ.fr x++fs es from rfl,dJ]
   omega
  rw[e3,e4]
theorem ok(es:az aq)(hes:∀x∈es,1<=x.size/\x.size<=9000)(z:aq)(hz:Stop z)(ht:(fs es++z).size<=20000):
  (U122.c (fs es++z)=ai/\U122.v (fs es++z)=(Lib.rs es,((fs es).size:aw)))/\(HY.c (fs es++z)=ai/\HY.v (fs es++z)=(Lib.rs es,((fs es).size:aw))):=by
 have h1:=U122.out (fs es++z) (x:=(Lib.rs es,((fs es).size:aw))) (by unfold U122.vo U122.b;have:=go (fs es++z) ht z hz es hes 0 Lib.cU [] (bI _) (bI _) (by rw[e_]) (cG (by omega));rw[bV,gC]at this;exact this);obtain⟨R,s1,s2,_⟩:=HY.same (fs es++z);refine⟨h1,s1.1, ?_⟩
 rw[s1.2,<-s2.2,h1.2]
end WQ

namespace B3
theorem wi(n a b:aw):lB.v n a b=decide (a<=n/\n<=b):=fJ.eO n a b
theorem ok(t:aq):c t=ai/\v t=fJ.val t:=by
 refine out t ?_;unfold vo b fJ.val;rw[wi];by_cases h:1<=t.size/\t.size<=9000
 ·have hs:=vf.ok t (by omega);have z1:(bytesOf (Lib.vb (t.size:aw))).size<=64:=Lib.jQ (x:=(t.size:aw)) (by omega);have e2:nV.v (t.size:aw)=(bytesOf (Lib.vb t.size),ai):=by unfold nV.v;rw[bz (by omega)]
  rw[aE (show(1:aw)<=(t.size:aw)/\(t.size:aw)<=9000 by omega),bz h,hs.1,hs.2,e2];simp(disch:=omega) only[a_,ax,au,Lib.kj,pe.size,Lib.Sz];rfl
 ·rw[aK (show¬((1:aw)<=(t.size:aw)/\(t.size:aw)<=9000)by omega),bH h];rfl
end B3

namespace mY
theorem ue{k b:aq}{s l:aw}(h:ni.v k s l b=ai):(jM.sV k s l b).size<=1000:=by have hr:=ni.Ef h;have z1:(bytesOf (Lib.vb (k.size:aw))).size<=64:=Lib.jQ (x:=(k.size:aw)) (by omega);have z2:(bytesOf (Lib.vb s)).size<=64:=Lib.jQ (x:=s) (by omega);have z3:(bytesOf (Lib.vb l)).size<=64:=Lib.jQ (x:=l) (by omega);unfold jM.sV;simp only[Lib.kj];omega
theorem BK{k b:aq}{s l:aw}(h:ni.v k s l b=ai):1<=(jM.sV k s l b).size:=by have hr:=ni.Ef h;unfold jM.sV;simp only[Lib.kj];omega
def val(k:aq)(s l:aw)(b:aq):aq×aX:=if ni.v k s l b=ai then(fJ.fr (jM.sV k s l b),ai)else(⟨#[]⟩,ak)
theorem ok(k:aq)(s l:aw)(b0:aq):c k s l b0=ai/\v k s l b0=val k s l b0:=by
 refine out k s l b0 ?_;have hf:=B3.ok (DX.v k s l b0).1;unfold vo b val;rw[hf.1,hf.2];unfold DX.v jM.v fJ.val;by_cases h:ni.v k s l b0=ai
 ·have h1:=ue h;have h2:=BK h;rw[bz h,bz h,bz (by dsimp only;omega)];rfl
 ·rw[bH h,bH h];rfl
end mY

namespace jB
def p(d:aR)(n:aq)(i:aF):aX:=bZ (aA (bw (ar d i 0))) (aA n)
theorem ok(d:aR)(n:aq)(hl:d.length<=4294967296):c d n=ai/\v d n=Lib.fi (p d n) d.length 0:=by
 refine out d n ?_;unfold vo b;refine m7 (p d n) d.length (λm (i:aF)=>l2 Lib.cU (λ(_:aq) (y5 _:aw) (_:aR)=>ah y5) (λ(_:aq) (_ _:aw) (_:aR)=>ah (-1)) m n 0 (i:aw) d) ah (λm i hi hp=> ?_) (λm i hi hp=> ?_) (λm=> ?_) Lib.cU (cG (by omega))
 ·unfold p at hp;simp only[l2,r2,Lib.dm,Lib.cE,Lib.dX,hi,aN,aM,au,hp]
 ·unfold p at hp;simp only[l2,r2,Lib.dm,Lib.cE,Lib.dX,hi,aN,aM,au,hp,ax,Lib.cZ hi (by omega:d.length<=9223372036854775807)]
 ·simp only[l2,r2,Lib.dm,bm,bj,ax]
end jB

namespace v7
def val(d:aR)(n:aq):aq×aX:=if Lib.fi (jB.p d n) d.length 0<0 then(⟨#[]⟩,ak)else(bw (ar d (Lib.fi (jB.p d n) d.length 0).toNat 1),ai)
theorem Ef(d:aR)(n:aq)(h:¬Lib.fi (jB.p d n) d.length 0<0):0<=Lib.fi (jB.p d n) d.length 0/\Lib.fi (jB.p d n) d.length 0<(d.length:aw):=by
 rcases Lib.pz (jB.p d n) d.length 0 with ⟨h1,_⟩|⟨k,h1,h2,h3,_,_⟩
 ·rw[h1]at h;omega
 ·rw[h3];omega
theorem ok(d:aR)(n:aq)(hl:d.length<=4294967296):c d n=ai/\v d n=val d n:=by
 refine out d n ?_;have h:=jB.ok d n hl;unfold vo b val;rw[h.1,h.2,au];by_cases hn:Lib.fi (jB.p d n) d.length 0<0
 ·rw[aE hn,bz hn];rfl
 ·have hr:=Ef d n hn;rw[aK hn,bH hn,ax,aE hr.1,aE hr.2];rfl
end v7

namespace il
theorem ok(r:aR)(hl:r.length<=4294967296):c r=ai/\v r=gD.val r:=by
 refine out r ?_;unfold vo b gD.val;have gg:∀a b c,lB.v a b c=km.v a b c:=λ_ _ _=>rfl
 have key:=iC (gD.el r) r.length (λm (i:aF)=>l2 Lib.cU (λ(y5:aX) (_:aR) (_ _:aw) (_:aR)=>ah y5) (λ(_:aX) (_:aR) (_ _:aw) (OE:aR)=>ah (decide ((OE.length:aw)<=30))) m ak r (r.length:aw) (i:aw) r) (ah ak) (ah (decide ((r.length:aw)<=30)))
  (λm i hi hp=>by
   unfold gD.el at hp;simp only[aL]at hp;obtain⟨h1,h2,h3,h4⟩:=hp;have h3:decide (0<=bF (ar r i (1+1))/\bF (ar r i (1+1))<=((bw (ar r i 1)).size:aw))=true:=h3;have h2:decide (((bw (ar r i 1)).size:aw)>20000)=false:=by simpa using h2
   by_cases hz:0<i
   ·have e0:decide ((i:aw)>0)=true:=aE (by omega);have mN:i-1<r.length:=by omega
    have h5:b7 (aA (bw (ar r (i-1) 0))) (aA (bw (ar r i 0)))=true:=by
     rcases dL _ _▸h4 with q|q
     ·have:i=0:=by simpa using q
      omega
     ·exact q
    simp only[l2,r2,Lib.dm,hi,mN,aN,Lib.cE,aM,au,ax,Lib.dX,gg,gD.m_,h1,h2,h3,h5,e0,gD.Dn hz (by omega),a_,Lib.cZ hi (by omega:r.length<=9223372036854775807)]
   ·have e0:decide ((i:aw)>0)=false:=aK (by omega);simp only[l2,r2,Lib.dm,hi,aN,Lib.cE,aM,au,ax,Lib.dX,gg,gD.m_,h1,h2,h3,e0,a_,Lib.cZ hi (by omega:r.length<=9223372036854775807)])
  (λm i hi hp=>by
   unfold gD.el at hp;cases h1:decide (1<=((bw (ar r i 0)).size:aw)/\((bw (ar r i 0)).size:aw)<=8)with
   |false=>simp only[l2,r2,Lib.dm,hi,aN,Lib.cE,aM,au,ax,Lib.dX,gg,gD.m_,h1,bR]
   |true=>
   cases h2:decide (((bw (ar r i 1)).size:aw)>20000)with
   |true=>simp only[l2,r2,Lib.dm,hi,aN,Lib.cE,aM,au,ax,Lib.dX,gg,gD.m_,h1,h2,a_]
   |false=>
   cases h3:decide (0<=bF (ar r i (1+1))/\bF (ar r i (1+1))<=((bw (ar r i 1)).size:aw))with
   |false=>simp only[l2,r2,Lib.dm,hi,aN,Lib.cE,aM,au,ax,Lib.dX,gg,gD.m_,h1,h2,h3,a_,bR]
   |true=>
   rw[h1,h2,show decide (0<=bF (ar r i 2)/\bF (ar r i 2)<=((bw (ar r i 1)).size:aw))=ai from h3,bR,bc,bc,bc]at hp;rw[iJ]at hp;obtain⟨h4,h5⟩:=hp;have hz:0<i:=by
    have:¬i=0:=by simpa using h4
    omega
   have e0:decide ((i:aw)>0)=true:=aE (by omega);have mN:i-1<r.length:=by omega
   simp only[l2,r2,Lib.dm,hi,mN,aN,Lib.cE,aM,au,ax,Lib.dX,gg,gD.m_,h1,h2,h3,h5,e0,gD.Dn hz (by omega),a_,bR])
  (λm=>by simp only[l2,r2,Lib.dm,bm,bj,ax]) Lib.cU (cG (by omega))
 refine key.trans ?_;rw[show decide ((r.length:aw)<=30)=decide (r.length<=30)from by rw[cg];omega];cases (b9 r.length).all (gD.el r)<;>cases decide (r.length<=30)<;>rfl
end il

namespace sA
theorem ok(d:aR)(n:aq)(hl:d.length<=4294967296):c d n=ai/\v d n=Lib.fi (jB.p d n) d.length 0:=by
 refine out d n ?_;unfold vo b;refine m7 (jB.p d n) d.length (λm (i:aF)=>l2 Lib.cU (λ(_:aR) (_:aq) (y7 _ _:aw)=>ah y7) (λ(_:aR) (_:aq) (_ _ _:aw)=>ah (-1)) m d n 0 (d.length:aw) (i:aw)) ah (λm i hi hp=> ?_) (λm i hi hp=> ?_) (λm=> ?_) Lib.cU (cG (by omega))
 ·unfold jB.p at hp;simp only[l2,r2,Lib.dm,Lib.cE,Lib.dX,hi,aN,aM,au,KA.v,hp]
 ·unfold jB.p at hp;simp only[l2,r2,Lib.dm,Lib.cE,Lib.dX,hi,aN,aM,au,KA.v,hp,ax,Lib.cZ hi (by omega:d.length<=9223372036854775807)]
 ·simp only[l2,r2,Lib.dm,bm,bj,ax]
end sA

namespace eE
theorem ok(d:aR)(n:aq)(hl:d.length<=4294967296):c d n=ai/\v d n=Lib.fi (jB.p d n) d.length 0:=by have h:=sA.ok d n hl;exact out d n (by unfold vo b;rw[h.1,h.2,au])
end eE

namespace tp
theorem ok(d:aR)(h:d.length<=1000000000):c d=ai/\v d=d:=by refine out d ?_;unfold vo b;rw[Lib.rU,Lib.ch (by omega) (by omega)];rfl
end tp

namespace i9
open Lib (rd Fi)
open dI (without)
theorem ok(l:az Fi)(n:aq)(hl:l.length<=1000000):c (rd l) n=ai/\v (rd l) n=rd (without l n):=by have h1:=tp.ok (rd l) (by rw[eB];omega);have h2:=w7.ok (rd l) n (dI.aiE l) (by rw[eB];omega);exact out _ _ (by unfold vo b;rw[h1.1,h1.2,h2.1,h2.2,dI.ams];rfl)
end i9

namespace gM
open Lib (rd Fi)
open dI (without put Wm)
def nw(n t:aq)(k:aw):az CV:=[CV.s n,CV.s t,CV.i ao k]
def pn(n:aq)(y:az CV):aX:=b7 (aA (bw (y.getD 0 (.b ak)))) (aA n)
theorem ok(l:az Fi)(n t:aq)(k:aw)(hs:Wm l)(hl:l.length<=1000000):c (rd l) n t k=ai/\v (rd l) n t k=rd (put l ⟨n,t,k⟩):=by
 refine out _ _ _ _ ?_;have hd:=i9.ok l n hl;unfold vo b;rw[hd.1,hd.2,au];have Fb:=dI.Mh l n;have e1:(without l n).filter (λx=>fY.fy x.n n)=l.filter λx=>fY.fy x.n n:=by
  unfold without;rw[pM];apply kV;intro y _;by_cases h:y.n=n
  ·rw[h,dI.irrefl];rfl
  ·rw[aK h];simp
 have e2:(without l n).filter (λx=> !fY.fy x.n n)=l.filter λx=> !(fY.fy x.n n||decide (x.n=n)):=by unfold without;rw[pM];apply kV;intro y _;cases fY.fy y.n n<;>cases decide (y.n=n)<;>rfl
 have htw:=Lib.zX (λx:Fi=>fY.fy x.n n) (λx=> !fY.fy x.n n) (without l n) (λ_ _=>rfl) ((dI.ad_ hs n).imp λ{y z} hyz hz=>lN.po _ _ _ hyz hz);rw[e1,e2]at htw;generalize without l n=o at Fb htw
 have:=uc (pn n) (rd o) (λm (i:aF)=>l3 Lib.cU (λ(y5:aw) (y6 y7:aq) (y8:aw) (y9:aR)=>bif(decide (0<=y5)&&decide (y5<=(↑(bT y9):aw))&&cw (bT y9+bT (aD (aP [Ck.s,Ck.s,Ck.i ao] 1) 0 [CV.s y6,CV.s y7,CV.i ao y8])) 40)then(ah (Pu.tN y9 (aW y5) (aD (aP [Ck.s,Ck.s,Ck.i ao] 1) 0 [CV.s y6,CV.s y7,CV.i ao y8])))else(aj)) m (i:aw) n t k (rd o))
  (λa=>bif decide ((a:aw)<=((rd o).length:aw))then ah (Pu.tN (rd o) a [nw n t k])else aj)
  (λm i h hp=>by
   have mN:b7 (aA (bw (ar (rd o) i 0))) (aA n)=true:=by rw[Lib.cK h];exact hp
   simp only[l3,r3,Lib.dm,h,aN,Lib.cE,aM,au,Lib.dX,mN,Lib.cZ h (by rw[eB];omega:(rd o).length<=9223372036854775807)])
  (λm i h hp=>by
   have mN:b7 (aA (bw (ar (rd o) i 0))) (aA n)=false:=by rw[Lib.cK h];exact hp
   simp only[l3,r3,Lib.dm,h,aN,Lib.cE,aM,bc,ju,au,ax,Lib.dX,mN,Lib.iM,bA,Lib.ch (n:=(rd o).length+1) (b:=40) (by rw[eB];omega) (by rw[eB];omega)];rfl)
  (λm=>by simp only[l3,r3,Lib.dm,bm,bj,aN,Lib.cE,aM,bc,ju,au,ax,Lib.dX,Lib.iM,bA,Lib.ch (n:=(rd o).length+1) (b:=40) (by rw[eB];omega) (by rw[eB];omega)];rfl) Lib.cU (cG (by rw[eB];omega))
 refine this.trans ?_;have hle:=FC (pn n) (rd o);rw[aE (by omega),au];unfold Pu.tN;rw[yC,xC];have e3:pn n∘Fi.row=λx:Fi=>fY.fy x.n n:=rfl;unfold Lib.rd;rw[OQ,OP,e3,htw.1,htw.2];unfold put;rw[di,di];rfl
end gM

namespace rL
open Lib (rd el Fi)
open dI (without put Wm sQ act Hs j5)
def res(o:aC (az Fi)):aR×aX:=match o with|some d=>(rd d,ai)|none=>([],ak)
theorem find(l:az Fi)(n:aq):(Lib.fi (jB.p (rd l) n) l.length 0= -1/\l.find? (λx=>decide (x.n=n))=aj)\/∃i,i<l.length/\Lib.fi (jB.p (rd l) n) l.length 0=(i:aw)/\l.find? (λx=>decide (x.n=n))=ah (el l i):=by
 have hq:∀i (hi:i<l.length),jB.p (rd l) n i=decide (l[i].n=n):=λi hi=>by unfold jB.p;rw[JO hi];exact Lib.fm
 rcases Lib.pz (jB.p (rd l) n) l.length 0 with ⟨e,ha⟩|⟨k,_,hk,e,hp,hb⟩
 ·refine .inl ⟨e,W6.2 λx hx=> ?_⟩;obtain⟨i,hi,rfl⟩:=c6 hx;rw[<-hq i hi,ha i (by omega) (by omega)];simp
 ·have vx:k<l.length:=by omega
  refine .inr ⟨k,vx,e, ?_⟩;rw[AL];exact⟨by rw[eN vx,<-hq k vx];exact hp,k,vx,(eN vx).symm,λj hj=>by rw[<-hq j (by omega),hb j (by omega) hj];rfl⟩
theorem Zo(d:az Fi)(h:d.length<=1000000):il.c (rd d)=ai/\il.v (rd d)=sQ d:=il.ok (rd d) (by rw[eB];omega)
theorem Sa(k:aw)(n t o:aq):KB.v k n t o=dI.kh k t o:=by
 unfold KB.v dI.kh lB.v;rw[Lib.fm,Lib.fm];by_cases h1:1<=k
 ·by_cases h2:k<=4
  ·rw[aE h1,aE h2,aE (⟨h1,h2⟩:1<=k/\k<=4)];cases decide (t=⟨#[]⟩)<;>cases decide (o=⟨#[]⟩)<;>cases decide (k=1)<;>cases decide (k=3)<;>rfl
  ·rw[aE h1,aK h2,aK (show¬(1<=k/\k<=4)by omega)];rfl
 ·rw[aK h1,aK (show¬(1<=k/\k<=4)by omega)];rfl
theorem ok(l:az Fi)(k:aw)(n t o:aq)(hl:l.length<=1000)(ht:t.size<=2305843009213693952):c (rd l) k n t o=ai/\v (rd l) k n t o=res (act l k n t o):=by
 refine out _ _ _ _ _ ?_;unfold vo b;have h1:=eE.ok (rd l) n (by rw[eB];omega);have h2:=Zo l (by omega);rw[h1.1,h1.2,h2.1,h2.2,Sa,au,au,eB];unfold act;cases hk:sQ l with
 |false=>rfl
 |true=>
 rw[a_,ax,bc];obtain⟨q1,q2,q3⟩:=j5.1 hk;cases ha:dI.kh k t o with
 |false=>rfl
 |true=>
 rw[a_,ax,au];have hk4:1<=k/\k<=4:=by unfold dI.kh at ha;rw[aL]at ha;exact cq ha.1
 have wp:=λ(m:az Fi) (hm:Wm m) (hml:m.length<=1000) (n t:aq) (k:aw)=>gM.ok m n t k hm (by omega);have wo:=i9.ok l n (by omega);have wol:=dI.Mh l n;have pl:=λ(m:az Fi) (f:Fi) (hm:m.length<=1000)=>Zo (put m f) (dh (dI.sa f) (by omega));have fin:∀d:az Fi,(bif !sQ d then ah (([]:aR),ak)else ah (rd d,ai))=ah (res (bif sQ d then ah d else aj)):=λd=>by cases sQ d<;>rfl
 unfold Hs;rcases find l n with ⟨e1,e2⟩|⟨i,hi,e1,e2⟩
 ·rw[e1,e2];by_cases k1:k=1
  ·subst k1;have p:=wp l q3 hl n (⟨#[]⟩++t) 0;have d:=pl l ⟨n,⟨#[]⟩++t,0⟩ hl;have et:(⟨#[]⟩:aq)++t=t:=lP;rw[show decide ((-1:aw)<0)=ai from rfl,show decide ((-1:aw)≥0)=ak from rfl,show((1:aw) !=1)=ak from rfl,au,ax,ax,aE (show(1:aw)=1 from rfl),au,aE (show(⟨#[]⟩:aq).size+t.size<=4611686018427387904 from by rw[show(⟨#[]⟩:aq).size=0 from rfl];omega),au,p.1,p.2,au,d.1,d.2,au,fin,et];rfl
  ·rw[show decide ((-1:aw)<0)=ai from rfl,au,show(k !=1)=ai from bne_iff_ne.2 k1,au,bH k1];rfl
 ·have hf:(el l i).n=n:=by have:=vp e2;exact cq this
  have xM:((el l i).t.size:aw)<=20000:=by have:=q2 _ (kA hi);unfold dI.nN at this;simp only[aL,bf,dr,fu]at this;omega
  rw[e1,e2,aK (show¬((i:aF):aw)<0 by omega),aE (show((i:aF):aw)≥0 by omega),ax,au];simp only[Lib.dm,hi,aN,Lib.dX,wd0 hi,wd1 hi,wd2 hi,bw,bF,aM,bc,au];by_cases k1:k=1
  ·subst k1;have p:=wp l q3 hl (el l i).n ((el l i).t++t) (el l i).kp;have d:=pl l ⟨(el l i).n,(el l i).t++t,(el l i).kp⟩ hl;rw[aE (show(1:aw)=1 from rfl),au,aE (show(el l i).t.size+t.size<=4611686018427387904 by omega),au,p.1,p.2,au,d.1,d.2,au,fin];rfl
  rw[aK k1,ax,bH k1];by_cases k2:k=2
  ·subst k2;have p:=wp l q3 hl (el l i).n (el l i).t ((el l i).t.size:aw);have d:=pl l ⟨(el l i).n,(el l i).t,((el l i).t.size:aw)⟩ hl;rw[aE (show(2:aw)=2 from rfl),au,p.1,p.2,au,d.1,d.2,au,fin];rfl
  rw[aK k2,ax,bH k2];by_cases k3:k=3
  ·subst k3;rw[aE (show(3:aw)=3 from rfl),au,bz rfl];by_cases b1:(el l i).kp=((el l i).t.size:aw)
   ·rw[show((el l i).kp !=((el l i).t.size:aw))=ak from by simp[b1],ax,Lib.fm];by_cases b2:o=n
    ·rw[aE b2,au,bz (.inr b2)];rfl
    ·have p:=wp (without l n) (dI.ad_ q3 n) (by omega) o (el l i).t (el l i).kp;have d:=pl (without l n) ⟨o,(el l i).t,(el l i).kp⟩ (by omega);rw[aK b2,ax,wo.1,wo.2,au,p.1,p.2,au,d.1,d.2,au,fin,bH (by rintro (h|h);exact h b1;exact b2 h)]
   ·rw[show((el l i).kp !=((el l i).t.size:aw))=ai from bne_iff_ne.2 b1,au,bz (.inl b1)];rfl
  rw[aK k3,ax,bH k3];have d:=Zo (without l n) (by omega);rw[wo.1,wo.2,au,d.1,d.2,au,fin]
end rL

namespace wV
theorem ok(l:aR)(hl:l.length<=4294967296):c l=ai/\v l=l:=by refine out l ?_;unfold vo b;rw[show bT (aP [Ck.s,Ck.i ao,Ck.i ao,Ck.s] 0)+l.length=l.length by simp[aP],Lib.ch (by omega) (by omega)];rfl
end wV

namespace pP
theorem ok(l:aR)(k:aq)(hc:l.all pf.cn=ai)(hl:l.length<=4294967296):c l k=ai/\v l k=l.filter (pf.keep k):=by have h1:=wV.ok l hl;have h2:=pf.ok l k hc hl;exact out l k (by unfold vo b;rw[h1.1,h1.2,h2.1,h2.2,au,au])
end pP

namespace u9
theorem zX(p q:az CV->aX):∀r:aR,(∀y∈r,q y= !p y)->r.Pairwise (λy z=>p z=ai->p y=ai)->r.takeWhile p=r.filter p/\r.dropWhile p=r.filter q
 |[],_,_=>⟨rfl,rfl⟩
 |y::r,hq,h=>by
  rw[qG]at h;have hy:=hq y (by simp);cases hp:p y with
  |true=>rw[hp]at hy;obtain⟨i1,i2⟩:=zX p q r (λz hz=>hq z (by simp[hz])) h.2;rw[ql hp,dC hp,List.dropWhile_cons_of_pos hp,cC (by rw[hy];simp),i1,i2];exact⟨rfl,rfl⟩
  |false=>
   rw[hp]at hy;have hn:¬p y=true:=by rw[hp];simp
   have ha:∀z∈r,p z=false:=λz hz=>by
    cases Ea:p z with
    |false=>rfl
    |true=>exact cJ (h.1 z hz Ea) hn
   rw[qk hn,cC hn,List.dropWhile_cons_of_neg hn,dC (by rw[hy];rfl)];refine⟨?_, ?_⟩
   ·symm;rw[List.filter_eq_nil_iff];intro z hz;rw[ha z hz];simp
   ·congr 1;symm;rw[eK];intro z hz;rw[hq z (by simp[hz]),ha z hz];rfl
theorem aeQ{r:aR}(h:∀y∈r,lN.cr y=y):r.all pf.cn=true:=by rw[bu];intro y hy;rw[<-h y hy];rfl
theorem ok(r:aR)(k:aq)(s l:aw)(b0:aq)(hO:lN.Or r)(hl:r.length<=1048576):c r k s l b0=ai/\v r k s l b0=lN.val r k s l b0:=by
 refine out r k s l b0 ?_;have hd:=pP.ok r k (aeQ hO.2) (by omega);unfold vo b;rw[hd.1,au,hd.2];have Pt:(r.filter (pf.keep k)).length<=r.length:=eC _ _;have hke:∀y,pf.keep k y= !List.beq (lN.key y) (aA k):=λ_=>rfl;have htw:=zX (lN.pl k) (lN.pg k) (r.filter (pf.keep k)) (λy hy=>by
  have h2:=(c9.1 hy).2;rw[hke]at h2;have h3:bZ (lN.key y) (aA k)=false:=by simpa using h2
  unfold lN.pg lN.pl;rw[h3,Bool.or_false]) ((hO.1.sublist jR).imp (λ{y z} hyz hz=>lN.po _ _ _ hyz hz))
 have e1:(r.filter (pf.keep k)).filter (lN.pl k)=r.filter (lN.pl k):=by
  rw[pM];apply kV;intro y _;cases h:lN.pl k y with
  |false=>rfl
  |true=>
   rw[hke,bc];cases h2:bZ (lN.key y) (aA k)with
   |false=>rfl
   |true=>exfalso;have h3:=Lib.beq_iff.1 h2;unfold lN.pl at h;rw[h3,lN.oZ]at h;cases h
 have e2:(r.filter (pf.keep k)).filter (lN.pg k)=r.filter (lN.pg k):=by rw[pM];apply kV;intro y _;rw[hke];unfold lN.pg;cases bZ (lN.key y) (aA k)<;>cases b7 (lN.key y) (aA k)<;>rfl
 generalize r.filter (pf.keep k)=o at Pt htw e1 e2
 have:=uc (lN.pl k) o (λm (i:aF)=>l3 Lib.cU (λ(y6:aw) (y7:aq) (y8 y9:aw) (Ki:aq) (wz:aR)=>bif(decide (0<=y6)&&decide (y6<=(↑(bT wz):aw))&&cw (bT wz+bT (aD (aP [Ck.s,Ck.i ao,Ck.i ao,Ck.s] 1) 0 [CV.s y7,CV.i ao y8,CV.i ao y9,CV.s Ki])) 48)then(ah (Pu.tN wz (aW y6) (aD (aP [Ck.s,Ck.i ao,Ck.i ao,Ck.s] 1) 0 [CV.s y7,CV.i ao y8,CV.i ao y9,CV.s Ki])))else(aj)) m (i:aw) k s l b0 o)
  (λa=>bif decide ((a:aw)<=(o.length:aw))then ah (Pu.tN o a [lN.nw k s l b0])else aj)
  (λm i h hp=>by
   have mN:b7 (aA (bw (ar o i 0))) (aA k)=true:=by rw[Lib.cK h];exact hp
   simp only[l3,r3,Lib.dm,h,aN,Lib.cE,aM,au,Lib.dX,mN,Lib.cZ h (by omega:o.length<=9223372036854775807)])
  (λm i h hp=>by
   have mN:b7 (aA (bw (ar o i 0))) (aA k)=false:=by rw[Lib.cK h];exact hp
   simp only[l3,r3,Lib.dm,h,aN,Lib.cE,aM,bc,ju,au,ax,Lib.dX,mN,Lib.iM,bA,Lib.ch (n:=o.length+1) (b:=48) (by omega) (by omega)];rfl)
  (λm=>by simp only[l3,r3,Lib.dm,bm,bj,aN,Lib.cE,aM,bc,ju,au,ax,Lib.dX,Lib.iM,bA,Lib.ch (n:=o.length+1) (b:=48) (by omega) (by omega)];rfl) Lib.cU (cG (by omega))
 refine this.trans ?_;have hle:=FC (lN.pl k) o;rw[aE (by omega),au];unfold Pu.tN lN.val;rw[yC,xC,htw.1,htw.2,e1,e2,lN.Hp hO.2,lN.Hp hO.2]
end u9

namespace u6
theorem ok(d:aR)(n:aq)(hl:d.length<=4294967296):c d n=ai/\v d n=v7.val d n:=by
 refine out d n ?_;have h:=eE.ok d n hl;unfold vo b v7.val;rw[h.1,h.2,au];by_cases hn:Lib.fi (jB.p d n) d.length 0<0
 ·rw[aE hn,bz hn];rfl
 ·have hr:=v7.Ef d n hn;rw[aK hn,bH hn,ax,aE hr.1,aE hr.2];rfl
end u6

namespace yL
def nm:aq:={data:= #[ay 107,ay 101,ay 112,ay 116]}
theorem both(rec:aR)(hr:rec.length<=20000):∀(d i:aF) (o:aR) (n m:aF),rec.length-i<=d->i<=rec.length->lN.Or o->o.length<=i->d<n->d<m->
  ∃L:aR,U61.l7 Lib.cU (λ(_ _:aw) (y6:aR) (_:aR)=>ah y6) n (rec.length:aw) (i:aw) o rec=ah L/\l7 Lib.cU (λ(_:aw) (y4 _:aR)=>ah y4) m (i:aw) o rec=ah L/\lN.Or L/\L.length<=20000:=by
 have e1:∀t,vS.v t=rM.v t:=λ_=>rfl;intro d;induction d with
 |zero=>
  intro i o n m h1 h2 hO h3 h4 h5;obtain⟨n,rfl⟩:∃n',n=n'+1:=⟨n-1,by omega⟩
  obtain⟨m,rfl⟩:∃m',m=m'+1:=⟨m-1,by omega⟩
  have jD:decide ((i:aw)<(rec.length:aw))=false:=aK (by omega);exact⟨o,by simp only[U61.l7,U61.r7,jD,ax],by simp only[l7,r7,jD,ax],hO,by omega⟩
 |succ d ih=>
  intro i o n m h1 h2 hO h3 h4 h5;obtain⟨n,rfl⟩:∃n',n=n'+1:=⟨n-1,by omega⟩
  obtain⟨m,rfl⟩:∃m',m=m'+1:=⟨m-1,by omega⟩
  by_cases hi:i<rec.length
  ·have hw:bJ ((i:aw)+1)=((i+1:aF):aw):=de (by omega) (by omega);cases cf:(rM.v (bw (ar rec i 0))).2.2.2.2 with
   |false=>
    obtain⟨L,g1,g2,g3,g4⟩:=ih (i+1) o n m (by omega) hi hO (by omega) (by omega) (by omega);refine⟨L, ?_, ?_,g3,g4⟩
    ·simp only[U61.l7,U61.r7,Lib.dm,hi,aN,Lib.cE,aM,au,Lib.dX,e1,cf,ax,hw];exact g1
    ·simp only[l7,r7,Lib.dm,hi,aN,Lib.cE,aM,au,Lib.dX,cf,ax,hw];exact g2
   |true=>
    have p1:=lN.ok o (rM.v (bw (ar rec i 0))).1 (rM.v (bw (ar rec i 0))).2.1 (rM.v (bw (ar rec i 0))).2.2.1 (rM.v (bw (ar rec i 0))).2.2.2.1 (by omega);have p2:=u9.ok o (rM.v (bw (ar rec i 0))).1 (rM.v (bw (ar rec i 0))).2.1 (rM.v (bw (ar rec i 0))).2.2.1 (rM.v (bw (ar rec i 0))).2.2.2.1 hO (by omega);have p3:=lN.xR hO (rM.v (bw (ar rec i 0))).1 (rM.v (bw (ar rec i 0))).2.1 (rM.v (bw (ar rec i 0))).2.2.1 (rM.v (bw (ar rec i 0))).2.2.2.1;obtain⟨L,g1,g2,g3,g4⟩:=ih (i+1) _ n m (by omega) hi p3.1 (by omega) (by omega) (by omega);refine⟨L, ?_, ?_,g3,g4⟩
    ·simp only[U61.l7,U61.r7,Lib.dm,hi,aN,Lib.cE,aM,au,Lib.dX,e1,cf,p2.1,p2.2,hw];exact g1
    ·simp only[l7,r7,Lib.dm,hi,aN,Lib.cE,aM,au,Lib.dX,cf,p1.1,p1.2,hw];exact g2
  ·have jD:decide ((i:aw)<(rec.length:aw))=false:=aK (by omega);exact⟨o,by simp only[U61.l7,U61.r7,jD,ax],by simp only[l7,r7,jD,ax],hO,by omega⟩
theorem same(d:aR)(hd:d.length<=1048576):∃L:aR,(c d=ai/\v d=L)/\(U61.c d=ai/\U61.v d=L)/\(∀y∈L,y.length=4)/\L.length<=20000:=by
 have k1:=gD.ok d (by omega);have k2:=il.ok d (by omega);cases hv:gD.val d with
 |false=>
  refine⟨[],out d ?_,U61.out d ?_,λy hy=>(by cases hy),bI _⟩
  ·unfold vo b;rw[k1.1,k1.2,hv];rfl
  ·unfold U61.vo U61.b;rw[k2.1,k2.2,hv];rfl
 |true=>
  have k3:=v7.ok d nm (by omega);have k4:=u6.ok d nm (by omega);obtain⟨R,u1,u2,u3⟩:=HY.same (v7.val d nm).1;obtain⟨L,g1,g2,g3,g4⟩:=both R.1 u3 R.1.length 0 [] Lib.cU Lib.cU (by omega) (bI _) ⟨gb,λy hy=>(by cases hy)⟩ (bI _) (cG (by omega)) (cG (by omega));refine⟨L,out d ?_,U61.out d ?_,λy hy=>(by rw[<-g3.2 y hy];rfl),g4⟩
  ·unfold nm at k3 u1;unfold vo b;rw[k1.1,k1.2,hv,au,a_,ax,k3.1,au,k3.2,u1.1,au,u1.2];exact g2
  ·unfold nm at k4 u2;unfold U61.vo U61.b;rw[k2.1,k2.2,hv,au,a_,ax,k4.1,au,k4.2,u2.1,au,u2.2];exact g1
end yL

namespace ve
def kept:aq:={data:= #[ay 107,ay 101,ay 112,ay 116]}
def ki(f:aq):aR:=[[CV.i ao 1,CV.s kept,CV.s f,CV.s {data:= #[]}],[CV.i ao 2,CV.s kept,CV.s {data:= #[]},CV.s {data:= #[]}]]
def val(k:aq)(s l:aw)(b:aq):aR×aX:=if ni.v k s l b=ai then(ki (fJ.fr (jM.sV k s l b)),ai)else([],ak)
theorem ok(k:aq)(s l:aw)(b0:aq):c k s l b0=ai/\v k s l b0=val k s l b0:=by
 refine out k s l b0 ?_;have hf:=mY.ok k s l b0;unfold vo b val;rw[hf.1,hf.2];unfold mY.val;by_cases h:ni.v k s l b0=ai
 ·rw[bz h,bz h];rfl
 ·rw[bH h,bH h];rfl
end ve

namespace gT
open Lib (rd re rs el Fi En)
open dI (sQ j5 act ki Hs put without ra Ac nN)
open fY (So mC fy)
open WQ (fs Stop)
abbrev qv:aq:={data:= #[ay 107,ay 101,ay 112,ay 116]}
def sV(e:En):aq:=jM.sV e.k e.st e.li e.bo
def EY(e:En):aX:=ni.v e.k e.st e.li e.bo
def H5(e:En):aq:=fJ.fr (sV e)
def tx(es:az En):aq:=fs (es.map sV)
def kp(es:az En):az En:=es.foldl mC []
theorem Hl(es:az En)(e:En):kp (es++[e])=mC (kp es) e:=by unfold kp;rw[kW];rfl
theorem ae3(a b:az aq):fs (a++b)=fs a++fs b:=by
 induction a with
 |nil=>exact lP.symm
 |cons x a ih=>rw[BZ];show fJ.fr x++fs (a++b)=fJ.fr x++fs a++fs b;rw[ih,Dt]
theorem ZX(es:az En)(e:En):tx (es++[e])=tx es++H5 e:=by unfold tx;rw[di,ae3];show fs (es.map sV)++(fJ.fr (sV e)++⟨#[]⟩)=_;rw[show(⟨#[]⟩:aq)=HV from rfl,qC];rfl
theorem ZY{e:En}(h:EY e=ai):1<=(sV e).size/\(sV e).size<=1000:=⟨mY.BK h,mY.ue h⟩
theorem wv{en:az En}(h:So en)(e:En):So (mC en e):=by have:=(lN.xR (fY.CT h) e.k e.st e.li e.bo).1.1;rw[fY.tY]at this;unfold Lib.re at this;rw[jA]at this;exact this
theorem ZO(es:az En):∀o,So o->So (es.foldl mC o):=by
 induction es with
 |nil=>intro o h;exact h
 |cons e es ih=>intro o h;exact ih _ (wv h e)
theorem ajW(es:az En):So (kp es):=ZO es [] gb
theorem j6{en:az En}{x e:En}:x∈mC en e↔x=e\/(x∈en/\x.k≠e.k):=by
 unfold mC;simp only[ba,c9,aZ,dr,iJ,fu];constructor
 ·rintro ((⟨h1,h2⟩|rfl)|⟨h1,h2⟩)
  ·refine .inr ⟨h1,λe2=> ?_⟩;rw[e2]at h2;unfold fy at h2;rw[lN.oZ]at h2;cases h2
  ·exact .inl rfl
  ·exact .inr ⟨h1,h2.2⟩
 ·rintro (rfl|⟨h1,h2⟩)
  ·exact .inl (.inr rfl)
  ·cases hl:fy x.k e.k with
   |true=>exact .inl (.inl ⟨h1,rfl⟩)
   |false=>exact .inr ⟨h1,rfl,h2⟩
theorem Ls{es:az En}{x:En}(h:x∈kp es):x∈es:=by
 have:∀(es o:az En),x∈es.foldl mC o->x∈o\/x∈es:=by
  intro es;induction es with
  |nil=>intro o h;exact .inl h
  |cons e es ih=>
   intro o h;rcases ih _ h with h|h
   ·rcases j6.1 h with rfl|h
    ·exact .inr (by simp)
    ·exact .inl h.1
   ·exact .inr (by simp[h])
 rcases this es [] h with h|h
 ·cases h
 ·exact h
theorem Hk(es:az En):(kp es).length<=es.length:=by
 have:∀(es o:az En),So o->(es.foldl mC o).length<=o.length+es.length:=by
  intro es;induction es with
  |nil=>intro o h;exact cF _
  |cons e es ih=>intro o h;have:=ih _ (wv h e);have:=fY.sa o e h;simp only[DI,db];omega
 have:=this es [] gb;rw[jT,bV]at this;exact this
theorem fileAt(d:az Fi)(n:aq):v7.val (rd d) n=match d.find? (λx=>decide (x.n=n))with|some f=>(f.t,ai)|none=>(⟨#[]⟩,ak):=by
 unfold v7.val;rw[eB];rcases rL.find d n with ⟨e1,e2⟩|⟨i,hi,e1,e2⟩
 ·rw[e1,e2];rfl
 ·rw[e1,e2,bH (by omega),dG,wd1 hi];rfl
theorem avx(es:az En)(he:∀e∈es,EY e=ai)(hl:es.length<=20000):∀(d i n:aF) (o:az En),es.length-i<=d->i<=es.length->So o->o.length<=i->d<n->
  U61.l7 Lib.cU (λ(_ _:aw) (y6:aR) (_:aR)=>ah y6) n (es.length:aw) (i:aw) (re o) (rs (es.map sV))=ah (re ((es.drop i).foldl mC o)):=by
 have e1:∀t,vS.v t=rM.v t:=λ_=>rfl;intro d;induction d with
 |zero=>
  intro i n o h1 h2 hO h3 h5;obtain⟨n,rfl⟩:∃n',n=n'+1:=⟨n-1,by omega⟩
  have:i=es.length:=by omega
  subst this;simp only[U61.l7,U61.r7,Lib.dm,bm,bj,ax,dj,W7]
 |succ d ih=>
  intro i n o h1 h2 hO h3 h5;obtain⟨n,rfl⟩:∃n',n=n'+1:=⟨n-1,by omega⟩
  by_cases hi:i<es.length
  ·have sC:i<(es.map sV).length:=by simpa using hi
   have hk:=he _ (bC hi);have hr:rM.v (sV es[i])=(es[i].k,es[i].st,es[i].li,es[i].bo,ai):=rM.enc _ _ _ _ hk;have hp:=u9.ok (re o) es[i].k es[i].st es[i].li es[i].bo (fY.CT hO) (by rw[dc];omega);rw[fY.tY o es[i]]at hp;have hg:(es.map sV)[i]=sV es[i]:=by simp
   simp only[U61.l7,U61.r7,Lib.dm,hi,eZ,bU,aN,Lib.cE,aM,au,Lib.dX,WG sC,hg,bw,e1,hr,hp.1,hp.2,Lib.cZ hi (by omega:es.length<=9223372036854775807)];rw[dE hi,DI];exact ih (i+1) n _ (by omega) hi (wv hO _) (by have:=fY.sa o es[i] hO;omega) (by omega)
  ·have:i=es.length:=by omega
   subst this;simp only[U61.l7,U61.r7,Lib.dm,bm,bj,ax,dj,W7]
theorem fk(d:az Fi)(es:az En)(z:aq)(hd:sQ d=ai)(hf:(v7.val (rd d) qv).1=tx es++z)(he:∀e∈es,EY e=ai)(hz:Stop z):
  (U61.c (rd d)=ai/\U61.v (rd d)=re (kp es))/\(yL.c (rd d)=ai/\yL.v (rd d)=re (kp es)):=by
 obtain⟨q1,q2,q3⟩:=j5.1 hd;have hs:(tx es++z).size<=20000:=by
  rw[<-hf,fileAt];cases h:d.find? (λx=>decide (x.n=qv))with
  |none=>exact bI _
  |some f=>have:=q2 f (qF h);unfold nN at this;simp only[aL,bf,dr,fu]at this;show f.t.size<=20000;omega
 have hl:es.length<=20000:=by
  have:∀es:az En,es.length<=(tx es).size:=by
   intro es;induction es with
   |nil=>exact cF _
   |cons e es ih=>
    have:(tx (e::es)).size=(H5 e).size+(tx es).size:=dJ;have h2:4<=(H5 e).size:=by unfold H5 fJ.fr;rw[dJ,dJ,WQ.o4];omega
    rw[this,db];omega
  have h2:=this es;rw[dJ]at hs;omega
 have u:=WQ.ok (es.map sV) (λx hx=>by obtain⟨e,h,rfl⟩:=cW.1 hx;have:=ZY (he e h);omega) z hz hs;have k2:=rL.Zo d (by omega);have k4:=u6.ok (rd d) qv (by rw[eB];omega);have h1:=U61.out (rd d) (x:=re (kp es)) (by unfold U61.vo U61.b;rw[k2.1,k2.2,hd,au,a_,ax,k4.1,au,k4.2,hf];have hu:=u.1;rw[show fs (es.map sV)=tx es from rfl]at hu;rw[hu.1,au,hu.2];dsimp only;rw[eZ,bU];have:=avx es he hl es.length 0 Lib.cU [] (by omega) (bI _) gb (bI _) (cG (by omega));rw[e_]at this;exact this);obtain⟨L,s1,s2,_⟩:=yL.same (rd d) (by rw[eB];omega);refine⟨h1,s1.1, ?_⟩
 rw[s1.2,<-s2.2,h1.2]
def base:aC aq->az Fi
 |none=>[]|some t=>[⟨qv,t,t.size⟩]
def bt:aC aq->aq|none=>⟨#[]⟩|some t=>t
def sE(f:aq):az Ac:=[⟨1,qv,f,⟨#[]⟩⟩,⟨2,qv,⟨#[]⟩,⟨#[]⟩⟩]
theorem ok1(f:Fi):sQ [f]=nN f:=by
 cases h:nN f with
 |true=>exact j5.2 ⟨by simp,λg hg=>by rw[aZ.1 hg];exact h,by unfold dI.Wm;simp⟩
 |false=>
  cases h2:sQ [f]with
  |false=>rfl
  |true=>have:=(j5.1 h2).2.1 f (by simp);rw[h]at this;cases this
theorem ae2(t:aq)(k:aw)(h1:t.size<=20000)(h2:0<=k/\k<=(t.size:aw)):nN ⟨qv,t,k⟩=true:=by unfold nN;have:((qv.size:aF):aw)=4:=rfl;rw[this,aE (by omega),aE h2,aK (by dsimp only;omega)];rfl
theorem uB{o:aC aq}(h:(bt o).size<=20000):sQ (base o)=true:=by
 cases o with
 |none=>exact j5.2 ⟨bI _,⟨λf hf=>(by cases hf),gb⟩⟩
 |some t=>exact(ok1 _).trans (ae2 t _ h ⟨by omega,by omega⟩)
theorem xW{g f:Fi}(h:g.n=f.n):put [g] f=[f]:=by unfold put;rw[cC (by rw[h,dI.irrefl];simp),cC (by simp[h])];rfl
theorem aez{o:aC aq}{f:aq}(h:(bt o).size+f.size<=20000):act (base o) 1 qv f ⟨#[]⟩=ah [⟨qv,bt o++f,(bt o).size⟩]:=by
 unfold act;rw[uB (by omega),show dI.kh 1 f ⟨#[]⟩=ai from by unfold dI.kh;simp,aM,au];have hs:(bt o++f).size<=20000:=by rw[dJ];omega
 have hn:Hs (base o) 1 qv f ⟨#[]⟩=ah [⟨qv,bt o++f,(bt o).size⟩]:=by
  cases o with
  |none=>unfold Hs;show(if(1:aw)=1 then ah (put [] ⟨qv,f,0⟩)else aj)=_;rw[bz rfl];show ah [(⟨qv,f,0⟩:Fi)]=ah [⟨qv,(⟨#[]⟩:aq)++f,((⟨#[]⟩:aq).size:aw)⟩];rw[show(⟨#[]⟩:aq)++f=f from lP];rfl
  |some t=>unfold Hs;rw[show(base (ah t)).find? (λx=>decide (x.n=qv))=ah ⟨qv,t,t.size⟩from by unfold base;simp];dsimp only;rw[bz rfl];exact lO ah (xW rfl)
 rw[hn];dsimp only;rw[ok1,ae2 _ _ hs ⟨by omega,by rw[dJ];omega⟩];rfl
theorem Ye{t:aq}{k:aw}(h:t.size<=20000)(hk:0<=k/\k<=(t.size:aw)):act [⟨qv,t,k⟩] 2 qv ⟨#[]⟩ ⟨#[]⟩=ah (base (ah t)):=by
 unfold act;rw[ok1,ae2 _ _ h hk,show dI.kh 2 ⟨#[]⟩ ⟨#[]⟩=ai from by unfold dI.kh;simp,aM,au];have hn:Hs [⟨qv,t,k⟩] 2 qv ⟨#[]⟩ ⟨#[]⟩=ah (base (ah t)):=by unfold Hs;rw[show([⟨qv,t,k⟩]:az Fi).find? (λx=>decide (x.n=qv))=ah ⟨qv,t,k⟩from by simp];dsimp only;rw[bH (by omega),bz rfl];exact lO ah (xW rfl)
 rw[hn];dsimp only;rw[uB (o:=ah t) h];rfl
theorem Tz{o:aC aq}{f:aq}(h:(bt o).size+f.size<=20000):ki (base o) 0 (sE f)=(base (ah (bt o++f)),2):=by have hs:(bt o++f).size=(bt o).size+f.size:=dJ;unfold sE ki;dsimp only;rw[aez h];dsimp only;unfold ki;dsimp only;rw[Ye (by omega) ⟨by omega,by omega⟩];rfl
theorem OX(o:aC aq):(v7.val (rd (base o)) qv).1=bt o:=by
 rw[fileAt];cases o with
 |none=>rfl
 |some t=>rw[show(base (ah t)).find? (λx=>decide (x.n=qv))=ah ⟨qv,t,t.size⟩from by unfold base;simp];rfl
def kd(es:az En):az Fi:=base (match es with|[]=>aj|_=>ah (tx es))
theorem auO(es:az En):∃o,kd es=base o/\bt o=tx es:=by
 cases es with
 |nil=>exact⟨aj,rfl,rfl⟩
 |cons e es=>exact⟨ah (tx (e::es)),rfl,rfl⟩
end gT

namespace fj
def has(l:az aq)(k:aq):aX:=l.any λx=>decide (x=k)
def without(l:az aq)(k:aq):az aq:=l.filter λx=> !decide (x=k)
theorem gK{l:az aq}{k:aq}:has l k=ai↔k∈l:=by unfold has;simp
theorem lM{l:az aq}{k:aq}:has l k=ak↔k∉l:=by rw[<-gK];cases has l k<;>simp
theorem wy{l:az aq}{k:aq}(h:has l k=ak):without l k=l:=by unfold without;rw[eK];intro x hx;have:=lM.1 h;simp;intro e;subst e;exact this hx
theorem ix{l:az aq}{k:aq}:(without l k).length<=l.length:=eC ..
theorem pH{l:az aq}{k:aq}(h:has l k=ai):(without l k).length<l.length:=by unfold without;refine List.length_filter_lt_length_iff_exists.2 ⟨k,gK.1 h,by simp⟩
theorem ok(l:az aq)(k:aq)(hl:l.length<=4294967296):c (Lib.rs l) k=ai/\v (Lib.rs l) k=has l k:=by
 refine out _ _ ?_;unfold vo b
 have:=B7 l (λx=>decide (x=k)) (λm (i:aF)=>l2 Lib.cU (λ(_:aR) (_:aq) (y6:aX) (_:aw)=>ah y6) (λ(_:aR) (_:aq) (_:aX) (_:aw)=>ah ak) m (Lib.rs l) k ak (i:aw)) (ah ai) (ah ak)
  (λm i h hp=>by simp only[l2,r2,eZ,Lib.dm,h,aN,Lib.cE,aM,au,Lib.dX,WG h,bw,Lib.fm,hp])
  (λm i h hp=>by simp only[l2,r2,eZ,Lib.dm,h,aN,Lib.cE,aM,au,Lib.dX,WG h,bw,Lib.fm,hp,ax,Lib.cZ h (by omega:l.length<=9223372036854775807)])
  (λm=>by simp only[l2,r2,eZ,Lib.dm,bm,bj,ax]) Lib.cU (cG (by omega))
 refine this.trans ?_;unfold has;cases l.any λx=>decide (x=k)<;>rfl
end fj

namespace v5
theorem ok(l:aR)(hl:l.length<=4294967296):c l=ai/\v l=l:=by refine out l ?_;unfold vo b;rw[show bT (aP [Ck.i ao] 0)+l.length=l.length by simp[aP],Lib.ch (by omega) (by omega)];rfl
end v5

namespace jq
open Lib (rr)
def oS(s:az (az aw)):Prop:=s.length<=1048576/\∀q∈s,q.length<=1048576
theorem run(N:aF)(K0:aR->aw->aw->aw->aw->aC R)(K1:aR->aw->aw->aw->aw->aR->aC R)(s:az (az aw))(z a:aw)(hf:oS s)(m:aF)(hm:s.length+1<m)(kr:aR->aC R)
  (h0:s=[]->K0 (rr s) 0 0 z a=kr []) (h1:K1 (rr s) s.length s.length z a (rr s)=kr (rr s)):l3 N K0 K1 m (rr s) (s.length:aw) 0 z a=kr (rr s):=by
 obtain⟨m,rfl⟩:∃m',m=m'+1:=⟨m-1,by omega⟩
 have hci:∀i (h:i<s.length),v5.c (Lib.ri s[i])=ai/\v5.v (Lib.ri s[i])=Lib.ri s[i]:=λi h=>v5.ok _ (by rw[Lib.gW];have:=hf.2 _ (bC h);omega);by_cases hs:s=[]
 ·subst hs;simp only[l3,r3,jT,Wi,Ks,bj,ax];exact h0 rfl
 ·have hp:0<s.length:=ML.2 hs;have key:=mg (R:=R) s.length (λm i (x:aR)=>sO N K0 K1 m (rr s) (s.length:aw) (i:aw) z a x) (λi=>rr (s.take i)) (kr (rr s)) (λm i h=>by
   have hl:=hf.1;simp only[sO,zQ,Lib.dm,h,aN,au,Lib.cE,bc,gX,Lib.dX,Ke h,jz,(hci i h).1,(hci i h).2,pR,bA];rw[Lib.ch (by rw[eD];omega) (by rw[eD];omega),au,Lib.cZ h (by omega)];have:=o6 (λq=>[CV.l 3 (Lib.ri q)]) s i h;unfold rr;rw[<-this]) (λm=>by
   simp only[sO,zQ,Lib.dm,bm,bj,ax,dD];exact h1) m 1 hp (by omega)
  simp only[l3,r3,aE (show(0:aw)<(s.length:aw)by omega),au,aM,gX,show decide ((0:aw)<=0)=ai from rfl];have e:=hci 0 hp;have e0:=Ke (l:=s) hp;simp only[show aW 0=0 from rfl,e0,jz,e.1,e.2,au,pR,gC];rw[show bJ (0+1)=((1:aF):aw)from rfl];refine Eq.trans ?_ key;have:=o6 (λq=>[CV.l 3 (Lib.ri q)]) s 0 hp;unfold rr;rw[show(0+1)=1 from rfl]at this;rw[<-this];rfl
theorem ok(s:az (az aw))(a:aw)(hf:oS s):c (rr s) a=ai/\v (rr s) a=(rr s,a):=by refine out _ _ ?_;unfold vo b;rw[gX];exact run Lib.cU (λ_ _ _ _ y=>ah ([],y)) (λ_ _ _ _ wA Kj=>ah (Kj,wA)) s 0 a hf Lib.cU (cG (by have:=hf.1;omega)) (λx=>ah (x,a)) (λ_=>rfl) rfl
end jq

namespace fF
open Lib (rr)
def NQ(n:aw):aX:=decide (0<=n/\n<=15)
def sG(q:az aw):aX:=decide (q.length=16)&&q.all NQ
def ot(s:az (az aw))(a:aw):aX:=decide (s.length=3)&&(decide (0<=a/\a<=63)&&s.all sG)
theorem eO(n a b:aw):km.v n a b=decide (a<=n/\n<=b):=by
 unfold km.v;by_cases h1:a<=n
 ·rw[aE (show n≥a from h1),au];by_cases h2:n<=b<;>simp[h1,h2]
 ·rw[aK (show¬n≥a from h1),ax];simp[h1]
theorem ok(s:az (az aw))(a:aw)(hf:jq.oS s):c (rr s) a=ai/\v (rr s) a=ot s a:=by
 refine out _ _ ?_;unfold vo b ot;rw[gX];by_cases h3:¬s.length=3
 ·rw[show((s.length:aw) !=3)=ai by simp;omega,aK h3];rfl
 have h3:s.length=3:=Decidable.not_not.1 h3;rw[show((s.length:aw) !=3)=ak by simp;omega,aE h3,ax,eO];cases h4:decide (0<=a/\a<=63)with
 |false=>rfl
 |true=>
  rw[a_,ax,bc,bc];have inner:∀i (h:i<s.length) (K0 K1:aX->aw->aw->aR->aw->aC aX) (kf kt:aC aX) (h0:∀j:aw,K0 ak i j (rr s) a=kf) (h1:∀j:aw,K1 ak i j (rr s) a=kt),l9 Lib.cU K0 K1 Lib.cU ak (i:aw) 0 (rr s) a=bif(s[i]).all NQ then kt else kf:=λi h K0 K1 kf kt h0 h1=>
   pk (s[i]) NQ (λm (j:aF)=>l9 Lib.cU K0 K1 m ak (i:aw) (j:aw) (rr s) a) kf kt
    (λm j hj hp=>by have hl:=hf.2 _ (bC h);unfold NQ at hp;simp only[l9,r9,gX,Lib.dm,h,aN,Lib.cE,aM,au,Lib.dX,Ke h,jz,Lib.gW,hj,QK hj,bF,eO,hp,a_,ax,Lib.cZ hj (by omega:s[i].length<=9223372036854775807)])
    (λm j hj hp=>by unfold NQ at hp;simp only[l9,r9,gX,Lib.dm,h,aN,Lib.cE,aM,au,Lib.dX,Ke h,jz,Lib.gW,hj,QK hj,bF,eO,hp,bR,h0])
    (λm=>by simp only[l9,r9,gX,Lib.dm,h,aN,Lib.cE,aM,au,Lib.dX,Ke h,jz,Lib.gW,bm,bj,ax,h1]) Lib.cU (cG (by have:=hf.2 _ (bC h);omega))
  have key:=pk s sG (λm (i:aF)=>l4 Lib.cU (λ(El:aX) (_:aw) (_:aR) (_:aw)=>ah El) (λ(_:aX) (_:aw) (_:aR) (_:aw)=>ah ai) m ak (i:aw) (rr s) a) (ah ak) (ah ai)
   (λm i h hp=>by unfold sG at hp;rw[aL]at hp;have hl:=cq hp.1;simp only[l4,r4,gX,Lib.dm,h,aN,Lib.cE,aM,au,Lib.dX,Ke h,jz,Lib.gW,hl,show(((16:aF):aw) !=16)=ak from rfl,ax];rw[inner i h _ _ _ _ (λ_=>rfl) (λ_=>rfl),hp.2,au,Lib.cZ h (by omega)])
   (λm i h hp=>by
    unfold sG at hp;by_cases hl:s[i].length=16
    ·rw[aE hl,bc]at hp;simp only[l4,r4,gX,Lib.dm,h,aN,Lib.cE,aM,au,Lib.dX,Ke h,jz,Lib.gW,hl,show(((16:aF):aw) !=16)=ak from rfl,ax];rw[inner i h _ _ _ _ (λ_=>rfl) (λ_=>rfl),hp,ax]
    ·simp only[l4,r4,gX,Lib.dm,h,aN,Lib.cE,aM,au,Lib.dX,Ke h,jz,Lib.gW,show((s[i].length:aw) !=16)=ai by simp;omega])
   (λm=>by simp only[l4,r4,gX,Lib.dm,bm,bj,ax]) Lib.cU (cG (by omega))
  refine key.trans ?_;cases s.all sG<;>rfl
end fF

namespace jC
open Lib (rr rs)
open fj (has without gK lM)
def eR(k:aq):aX:=decide (1<=(k.size:aw)/\(k.size:aw)<=30)
def Lp(l:az aq)(i:aF):aX:=eR (l.getD i ⟨#[]⟩)&& !has (l.take i) (l.getD i ⟨#[]⟩)
def nI(l:az aq):aX:=(b9 l.length).all (Lp l)
def sR(w m:az aq)(s:az (az aw))(a:aw):aX:=nI (w++m)&&(decide (w.length<=2)&&(decide (m.length<=4)&&fF.ot s a))
theorem iS(k:aq):tf.v k=eR k:=fF.eO _ _ _
theorem yE(l:az aq)(i:aF):eA (Lib.rs l) (aW 0) i=Lib.rs (l.take i):=by unfold eA Lib.rs;rw[show aW 0=0 from rfl,e_,sr,List.map_take]
theorem ok(w m:az aq)(s:az (az aw))(a:aw)(hw:w.length<=1048576)(hm:m.length<=1048576)(hf:jq.oS s):c (rs w) (rs m) (rr s) a=ai/\v (rs w) (rs m) (rr s) a=sR w m s a:=by
 refine out _ _ _ _ ?_;have h2:=fF.ok s a hf;unfold vo b;have r1:cw (bT (aP [Ck.s] 0)+bT (rs w)) 16=true:=Lib.ch (by simp[aP,eZ];omega) (by simp[aP,eZ];omega);have r2:cw (bT (aP [Ck.s] 0++rs w)+bT (rs m)) 16=true:=Lib.ch (by simp[aP,eZ];omega) (by simp[aP,eZ];omega);have e:aP [Ck.s] 0++rs w++rs m=rs (w++m):=by rw[show aP [Ck.s] 0++rs w=rs w from rfl];unfold Lib.rs;rw[di]
 rw[r1,r2,au,au,e];have hl:(w++m).length<=2097152:=by rw[bP];omega
 have gg:∀i,i<(w++m).length->fj.c (rs ((w++m).take i)) ((w++m).getD i ⟨#[]⟩)=ai/\fj.v (rs ((w++m).take i)) ((w++m).getD i ⟨#[]⟩)=has ((w++m).take i) ((w++m).getD i ⟨#[]⟩):=λi hi=>fj.ok _ _ (by rw[eD];omega);have hk:∀i (hi:i<(w++m).length),bw (ar (rs (w++m)) i 0)=(w++m).getD i ⟨#[]⟩:=λi hi=>by rw[WG hi,show(w++m).getD i ⟨#[]⟩=(w++m)[i]by rw[cS,eV hi];rfl];rfl
 generalize hL:w++m=L at hl gg hk
 have key:=iC (Lp L) L.length (λn (i:aF)=>l3 Lib.cU (λ(y7:aX) (_:aw) (_ _ _:aR) (_:aw) (_:aR)=>ah y7) (λ(_:aX) (_:aw) (QO DC FH:aR) (El:aw) (_:aR)=>bif(decide ((↑(bT QO):aw)<=2))then(bif(decide ((↑(bT DC):aw)<=4))then(bif(fF.c FH El)then(ah (fF.v FH El))else(aj))else(ah ak))else(ah ak)) n ak (i:aw) (rs w) (rs m) (rr s) a (rs L)) (ah ak) (ah (decide (w.length<=2)&&(decide (m.length<=4)&&fF.ot s a)))
  (λn i hi hp=>by
   unfold Lp at hp;rw[aL,dr]at hp;have b1:g8 0 (i:aw) (L.length:aw)=true:=by simp[g8];omega
   simp only[l3,r3,eZ,Lib.dm,hi,aN,Lib.cE,aM,au,Lib.dX,hk i hi,iS,hp.1,a_,ax,b1,yE,(gg i hi).1,(gg i hi).2,hp.2,Lib.cZ hi (by omega:L.length<=9223372036854775807)])
  (λn i hi hp=>by
   have b1:g8 0 (i:aw) (L.length:aw)=true:=by simp[g8];omega
   unfold Lp at hp;cases h1:eR (L.getD i ⟨#[]⟩)with
   |false=>simp only[l3,r3,eZ,Lib.dm,hi,aN,Lib.cE,aM,au,Lib.dX,hk i hi,iS,h1,bR]
   |true=>rw[h1,bc,nk]at hp;simp only[l3,r3,eZ,Lib.dm,hi,aN,Lib.cE,aM,au,Lib.dX,hk i hi,iS,h1,a_,ax,b1,yE,(gg i hi).1,(gg i hi).2,hp])
  (λn=>by simp only[l3,r3,eZ,Lib.dm,bm,bj,ax,h2.1,h2.2,au];rw[show decide ((w.length:aw)<=2)=decide (w.length<=2)by rw[cg];omega,show decide ((m.length:aw)<=4)=decide (m.length<=4)by rw[cg];omega];cases decide (w.length<=2)<;>cases decide (m.length<=4)<;>rfl) Lib.cU (cG (by omega))
 refine key.trans ?_;unfold sR nI;rw[hL];cases (b9 L.length).all (Lp L)<;>rfl
end jC

namespace th
open Lib (rr rs)
open fj (has)
theorem ok(w m:az aq)(s:aR)(a:aw)(k:aq)(hw:w.length<=1048576)(hm:m.length<=1048576):c (rs w) (rs m) s a k=ai/\v (rs w) (rs m) s a k=(has w k||has m k):=by have h1:=fj.ok w k (by omega);have h2:=fj.ok m k (by omega);exact out _ _ _ _ _ (by unfold vo b;rw[h1.1,h1.2,h2.1,h2.2,au,au];cases has w k<;>rfl)
end th

namespace nU
open Lib (rr rs re el oE qz qA qB En)
open fj (has)
open jC (sR)
def vl(e:En):aX:=ni.v e.k e.st e.li e.bo
def H3(en:az En)(w m:az aq)(i:aF):aX:=
 vl (el en i)&&((decide (i=0)||Go.Op.bytesLess (aA (el en (i-1)).k) (aA (el en i).k))&&(has w (el en i).k||has m (el en i).k))
def Nj(en:az En)(w m:az aq)(s:az (az aw))(a:aw):aX:=(b9 en.length).all (H3 en w m)&&(sR w m s a&&decide (w.length+m.length=en.length))
theorem ok(i0:aw)(en:az En)(w m:az aq)(s:az (az aw))(a:aw)(r6 r7:aR)(i8:aw)(he:en.length<=1048576)(hw:w.length<=1048576)(hm:m.length<=1048576)(hf:jq.oS s):
  c i0 (re en) (rs w) (rs m) (rr s) a r6 r7 i8=ai/\v i0 (re en) (rs w) (rs m) (rr s) a r6 r7 i8=Nj en w m s a:=by
 refine out _ _ _ _ _ _ _ _ _ ?_;have h1:=jC.ok w m s a hw hm hf;have h2:=λk=>th.ok w m (rr s) a k hw hm;unfold vo b
 have key:=iC (H3 en w m) en.length (λn (i:aF)=>l2 Lib.cU (λ(wz:aX) (_ _:aw) (_ _ _ _:aR) (_:aw) (_ _:aR) (_:aw)=>ah wz) (λ(_:aX) (_ _:aw) (QP QQ H8 QR:aR) (QS:aw) (_ _:aR) (_:aw)=>bif(jC.c QQ H8 QR QS)then(bif(jC.v QQ H8 QR QS)then(ah (decide ((↑(bT QP):aw)=bJ ((↑(bT QQ):aw)+(↑(bT H8):aw)))))else(ah ak))else(aj)) n ak (i:aw) i0 (re en) (rs w) (rs m) (rr s) a r6 r7 i8) (ah ak) (ah (sR w m s a&&decide (w.length+m.length=en.length)))
  (λn i hi hp=>by
   unfold H3 vl at hp;rw[aL,aL]at hp;obtain⟨p1,p2,p3⟩:=hp;by_cases hz:i=0
   ·subst hz;simp only[l2,r2,dc,Lib.dm,hi,aN,Lib.cE,aM,au,Lib.dX,oE hi,qz hi,qA hi,qB hi,bw,bF,p1,a_,ax,aK (show¬(((0:aF):aw)>0)by omega),(h2 _).1,(h2 _).2,p3,Lib.cZ hi (by omega:en.length<=9223372036854775807)]
   ·rw[aK hz,ox]at p2;have mi:i-1<en.length:=by omega
    simp only[l2,r2,dc,Lib.dm,hi,aN,Lib.cE,aM,au,Lib.dX,oE hi,qz hi,qA hi,qB hi,bw,bF,p1,a_,ax,aE (show(i:aw)>0 by omega),l_ (show 0<i by omega) (by omega),mi,oE mi,p2,(h2 _).1,(h2 _).2,p3,Lib.cZ hi (by omega:en.length<=9223372036854775807)])
  (λn i hi hp=>by
   unfold H3 vl at hp;cases p1:ni.v (el en i).k (el en i).st (el en i).li (el en i).bo with
   |false=>simp only[l2,r2,dc,Lib.dm,hi,aN,Lib.cE,aM,au,Lib.dX,oE hi,qz hi,qA hi,qB hi,bw,bF,p1,bR]
   |true=>
    rw[p1,bc]at hp;by_cases hz:i=0
    ·subst hz;rw[aE rfl,AE,bc]at hp;simp only[l2,r2,dc,Lib.dm,hi,aN,Lib.cE,aM,au,Lib.dX,oE hi,qz hi,qA hi,qB hi,bw,bF,p1,a_,bR,ax,aK (show¬(((0:aF):aw)>0)by omega),(h2 _).1,(h2 _).2,hp]
    ·rw[aK hz,ox]at hp;have mi:i-1<en.length:=by omega
     cases p2:b7 (aA (el en (i-1)).k) (aA (el en i).k)with
     |false=>simp only[l2,r2,dc,Lib.dm,hi,aN,Lib.cE,aM,au,Lib.dX,oE hi,qz hi,qA hi,qB hi,bw,bF,p1,a_,bR,ax,aE (show(i:aw)>0 by omega),l_ (show 0<i by omega) (by omega),mi,oE mi,p2]
     |true=>rw[p2,bc]at hp;simp only[l2,r2,dc,Lib.dm,hi,aN,Lib.cE,aM,au,Lib.dX,oE hi,qz hi,qA hi,qB hi,bw,bF,p1,a_,bR,ax,aE (show(i:aw)>0 by omega),l_ (show 0<i by omega) (by omega),mi,oE mi,p2,(h2 _).1,(h2 _).2,hp])
  (λn=>by simp only[l2,r2,dc,Lib.dm,bm,bj,ax,h1.1,h1.2,au,eZ];rw[de (x:=(w.length:aw)+(m.length:aw)) (by omega) (by omega),show decide ((en.length:aw)=(w.length:aw)+(m.length:aw))=decide (w.length+m.length=en.length)by rw[cg];omega];cases sR w m s a<;>rfl) Lib.cU (cG (by omega))
 refine key.trans ?_;unfold Nj;cases (b9 en.length).all (H3 en w m)<;>rfl
end nU

namespace np
open Lib (rf el Dp DB Qm z5 QM QN Fe)
open jC (eR)
def nN(now:aw)(f:Fe):aX:=eR f.k&&(decide ((f.t.size:aw)<=400)&&(decide (1<=f.sta/\f.sta<=3)&&(decide (0<=f.li/\f.li<=999999)&&decide (0<=f.st/\f.st<=now))))
def lF(f g:Fe):aX:=decide (f.sta=1)&&(decide (g.sta=1)&&decide (f.k=g.k))
def apart(fe:az Fe)(i:aF):aX:=(b9 i).all λj=> !lF (el fe i) (el fe j)
theorem eO(n a b:aw):km.v n a b=decide (a<=n/\n<=b):=fF.eO n a b
theorem ok(i0:aw)(r1 r2 r3 r4:aR)(i5:aw)(fe:az Fe)(r7:aR)(i8:aw)(i:aF)(hi:i<fe.length)(hf:fe.length<=1048576):
  c i0 r1 r2 r3 r4 i5 (rf fe) r7 i8 (i:aw)=ai/\v i0 r1 r2 r3 r4 i5 (rf fe) r7 i8 (i:aw)=(nN i0 (el fe i)&&apart fe i):=by
 refine out _ _ _ _ _ _ _ _ _ _ ?_;unfold vo b
 have key:=iC (λj=> !lF (el fe i) (el fe j)) i (λn (j:aF)=>l5 Lib.cU (λ(_:aw) (FH:aX) (_ _:aw) (_ _ _ _:aR) (_:aw) (_ _:aR) (_:aw) (_ _:aq) (_ _ _:aw)=>ah FH) (λ(_:aw) (_:aX) (_ _:aw) (_ _ _ _:aR) (_:aw) (_ _:aR) (_:aw) (_ _:aq) (_ _ _:aw)=>ah ai) n (i:aw) ak (j:aw) i0 r1 r2 r3 r4 i5 (rf fe) r7 i8 (el fe i).k (el fe i).t (el fe i).sta (el fe i).li (el fe i).st) (ah ak) (ah ai)
  (λn j hj hp=>by
   have j8:j<fe.length:=by omega
   rw[dr]at hp;unfold lF at hp;have e:decide ((el fe j).k=(el fe i).k)=decide ((el fe i).k=(el fe j).k):=by rw[cg];exact IV
   simp only[l5,r5,Lib.dm,hj,aN,Lib.cE,aM,au,Lib.dX,dM,j8,Dp j8,z5 j8,bw,bF,Lib.fm,e,Lib.cZ hj (by omega:i<=9223372036854775807)];revert hp;cases decide ((el fe i).k=(el fe j).k)<;>cases decide ((el fe j).sta=1)<;>cases decide ((el fe i).sta=1)<;>intro hp<;>first|rfl|cases hp)
  (λn j hj hp=>by
   have j8:j<fe.length:=by omega
   rw[nk]at hp;unfold lF at hp;rw[aL,aL]at hp;have e:decide ((el fe j).k=(el fe i).k)=decide ((el fe i).k=(el fe j).k):=by rw[cg];exact IV
   simp only[l5,r5,Lib.dm,hj,aN,Lib.cE,aM,au,Lib.dX,dM,j8,Dp j8,z5 j8,bw,bF,Lib.fm,e,hp.1,hp.2.1,hp.2.2])
  (λn=>by simp only[l5,r5,Lib.dm,bm,bj,ax]) Lib.cU (cG (by omega))
 simp only[dM,Lib.dm,hi,aN,Lib.cE,aM,au,Lib.dX,Dp hi,DB hi,Qm hi,QM hi,QN hi,bw,bF,eO,jC.iS];rw[show l5 Lib.cU _ _ Lib.cU (i:aw) ak 0 i0 r1 r2 r3 r4 i5 (rf fe) r7 i8 (el fe i).k (el fe i).t (el fe i).sta (el fe i).li (el fe i).st=_ from key];unfold nN apart;rw[show decide (((el fe i).t.size:aw)>400)= !decide (((el fe i).t.size:aw)<=400)by rw[<-decide_not,cg];omega];cases eR (el fe i).k<;>cases decide (((el fe i).t.size:aw)<=400)<;>cases decide (1<=(el fe i).sta/\(el fe i).sta<=3)<;>cases decide (0<=(el fe i).li/\(el fe i).li<=999999)<;>cases decide (0<=(el fe i).st/\(el fe i).st<=i0)<;>cases (b9 i).all (λj=> !lF (el fe i) (el fe j))<;>rfl
end np

namespace pj
open Lib (rr rs re rf rc el En Fe Cl Px Kh VY VZ V0 V1 V2 V3)
open jC (eR)
open nU (Nj)
open np (nN apart eO)
def H2(now:aw)(nf:aF)(cl:az Cl)(i:aF):aX:=
 decide (1<=(el cl i).id/\(el cl i).id<=9)&&((decide (i=0)||decide ((el cl (i-1)).id<(el cl i).id))&&(eR (el cl i).k&&(decide (1<=(el cl i).sta/\(el cl i).sta<=3)&&(decide (0<=(el cl i).fe/\(el cl i).fe<=(nf:aw))&&(decide (((el cl i).mQ.size:aw)<=400)&&(decide (0<=(el cl i).fr/\(el cl i).fr<=now)&&decide (0<=(el cl i).age)))))))
def jd(p:Px):aX:=
 decide (1<=p.now/\p.now<=1000000000)&&(Nj p.en p.w p.m p.s p.a&&(decide (p.fe.length<=20)&&(decide (p.cl.length<=6)&&(decide (0<=p.hits/\p.hits<=1000000000)&&((b9 p.fe.length).all (λi=>nN p.now (el p.fe i)&&apart p.fe i)&&(b9 p.cl.length).all (H2 p.now p.fe.length p.cl))))))
theorem step(N:aF)(g k0 k1:aX->aw->aw->aR->aR->aR->aR->aw->aR->aR->aw->aC R)(i0:aw)(q1 q2 q3 q4:aR)(i5:aw)(fe:az Fe)(cl:az Cl)(i8:aw)(i:aF)(hi:i<cl.length)(hl:cl.length<=1048576):
  r9 N g k0 k1 ak (i:aw) i0 q1 q2 q3 q4 i5 (rf fe) (rc cl) i8=bif H2 i0 fe.length cl i then g ak ((i+1:aF):aw) i0 q1 q2 q3 q4 i5 (rf fe) (rc cl) i8 else k0 ak (i:aw) i0 q1 q2 q3 q4 i5 (rf fe) (rc cl) i8:=by
 unfold H2;have e1:decide (((el cl i).mQ.size:aw)>400)= !decide (((el cl i).mQ.size:aw)<=400):=by rw[<-decide_not,cg];omega
 have e2:decide ((el cl i).age<0)= !decide (0<=(el cl i).age):=by rw[<-decide_not,cg];omega
 by_cases hz:i=0
 ·subst hz;simp only[r9,fc,dM,Lib.dm,hi,aN,Lib.cE,aM,au,Lib.dX,Kh hi,VY hi,VZ hi,V0 hi,V1 hi,V2 hi,V3 hi,bw,bF,eO,jC.iS,aK (show¬(((0:aF):aw)>0)by omega),ax,e1,e2,Lib.cZ hi (by omega:cl.length<=9223372036854775807),AE,bc];cases decide (1<=(el cl 0).id/\(el cl 0).id<=9)<;>cases eR (el cl 0).k<;>cases decide (1<=(el cl 0).sta/\(el cl 0).sta<=3)<;>cases decide (0<=(el cl 0).fe/\(el cl 0).fe<=(fe.length:aw))<;>cases decide (((el cl 0).mQ.size:aw)<=400)<;>cases decide (0<=(el cl 0).fr/\(el cl 0).fr<=i0)<;>cases decide (0<=(el cl 0).age)<;>rfl
 ·have mi:i-1<cl.length:=by omega
  have e3:decide ((el cl (i-1)).id≥(el cl i).id)= !decide ((el cl (i-1)).id<(el cl i).id):=by rw[<-decide_not,cg];omega
  simp only[r9,fc,dM,Lib.dm,hi,aN,Lib.cE,aM,au,Lib.dX,Kh hi,VY hi,VZ hi,V0 hi,V1 hi,V2 hi,V3 hi,bw,bF,eO,jC.iS,aE (show(i:aw)>0 by omega),l_ (show 0<i by omega) (by omega),mi,Kh mi,ax,e1,e2,e3,Lib.cZ hi (by omega:cl.length<=9223372036854775807),aK hz,ox];cases decide (1<=(el cl i).id/\(el cl i).id<=9)<;>cases decide ((el cl (i-1)).id<(el cl i).id)<;>cases eR (el cl i).k<;>cases decide (1<=(el cl i).sta/\(el cl i).sta<=3)<;>cases decide (0<=(el cl i).fe/\(el cl i).fe<=(fe.length:aw))<;>cases decide (((el cl i).mQ.size:aw)<=400)<;>cases decide (0<=(el cl i).fr/\(el cl i).fr<=i0)<;>cases decide (0<=(el cl i).age)<;>rfl
theorem ok(p:Px)(hp:p.Fit 1048576):c p.now (re p.en) (rs p.w) (rs p.m) (rr p.s) p.a (rf p.fe) (rc p.cl) p.hits=ai/\v p.now (re p.en) (rs p.w) (rs p.m) (rr p.s) p.a (rf p.fe) (rc p.cl) p.hits=jd p:=by
 refine out _ _ _ _ _ _ _ _ _ ?_;have h1:=nU.ok p.now p.en p.w p.m p.s p.a (rf p.fe) (rc p.cl) p.hits hp.en hp.w hp.m ⟨hp.s.1,hp.s.2.1⟩;have H7:=hp.fe;have oe:=hp.cl;unfold vo b;have h2:=λi hi=>np.ok p.now (re p.en) (rs p.w) (rs p.m) (rr p.s) p.a p.fe (rc p.cl) p.hits i hi H7
 have kc:=λ(n:aF) (hn:p.cl.length<n)=>iC (H2 p.now p.fe.length p.cl) p.cl.length (λn (i:aF)=>l9 Lib.cU (λ(V9:aX) (_ _:aw) (_ _ _ _:aR) (_:aw) (_ _:aR) (_:aw)=>ah V9) (λ(_:aX) (_ _:aw) (_ _ _ _:aR) (_:aw) (_ _:aR) (_:aw)=>ah ai) n ak (i:aw) p.now (re p.en) (rs p.w) (rs p.m) (rr p.s) p.a (rf p.fe) (rc p.cl) p.hits) (ah ak) (ah ai)
  (λn i hi hq=>by simp only[l9];rw[step _ _ _ _ _ _ _ _ _ _ _ _ _ i hi oe,hq];rfl)
  (λn i hi hq=>by simp only[l9];rw[step _ _ _ _ _ _ _ _ _ _ _ _ _ i hi oe,hq];rfl)
  (λn=>by simp only[l9,r9,fc,Lib.dm,bm,bj,ax]) n hn
 have kf:=iC (λi=>nN p.now (el p.fe i)&&apart p.fe i) p.fe.length (λn (i:aF)=>l4 Lib.cU (λ(wz:aX) (_ _:aw) (_ _ _ _:aR) (_:aw) (_ _:aR) (_:aw)=>ah wz) (λ(Kk:aX) (_ WN:aw) (QP QQ H8 QR:aR) (QS:aw) (QT QU:aR) (Qo:aw)=>l9 Lib.cU (λ(V9:aX) (_ _:aw) (_ _ _ _:aR) (_:aw) (_ _:aR) (_:aw)=>ah V9) (λ(_:aX) (_ _:aw) (_ _ _ _:aR) (_:aw) (_ _:aR) (_:aw)=>ah ai) Lib.cU Kk 0 WN QP QQ H8 QR QS QT QU Qo) n ak (i:aw) p.now (re p.en) (rs p.w) (rs p.m) (rr p.s) p.a (rf p.fe) (rc p.cl) p.hits) (ah ak) (ah ((b9 p.cl.length).all (H2 p.now p.fe.length p.cl)))
  (λn i hi hq=>by simp only[l4,r4,dM,Lib.dm,hi,aN,au,(h2 i hi).1,(h2 i hi).2,hq,a_,ax,Lib.cZ hi (by omega:p.fe.length<=9223372036854775807)])
  (λn i hi hq=>by simp only[l4,r4,dM,Lib.dm,hi,aN,au,(h2 i hi).1,(h2 i hi).2,hq,bR])
  (λn=>by simp only[l4,r4,dM,Lib.dm,bm,bj,ax];refine(kc Lib.cU (cG (by omega))).trans ?_;cases (b9 p.cl.length).all (H2 p.now p.fe.length p.cl)<;>rfl) Lib.cU (cG (by omega))
 rw[eO,eO,h1.1,h1.2,au,dM,fc];rw[show l4 Lib.cU _ _ Lib.cU ak 0 p.now (re p.en) (rs p.w) (rs p.m) (rr p.s) p.a (rf p.fe) (rc p.cl) p.hits=_ from kf];unfold jd;rw[show decide ((p.fe.length:aw)>20)= !decide (p.fe.length<=20)by rw[<-decide_not,cg];omega,show decide ((p.cl.length:aw)>6)= !decide (p.cl.length<=6)by rw[<-decide_not,cg];omega];cases decide (1<=p.now/\p.now<=1000000000)<;>cases Nj p.en p.w p.m p.s p.a<;>cases decide (p.fe.length<=20)<;>cases decide (p.cl.length<=6)<;>cases decide (0<=p.hits/\p.hits<=1000000000)<;>cases (b9 p.fe.length).all (λi=>nN p.now (el p.fe i)&&apart p.fe i)<;>cases (b9 p.cl.length).all (H2 p.now p.fe.length p.cl)<;>rfl
end pj

namespace uU
open Lib (Px Cl Fe En el)
def ec(f:aF)(st:aw)(t:aq)(c:Cl):Cl:=bif decide (c.fe=(f:aw)+1)&&decide (c.sta=1)then{c with sta:=st,mQ:=t}else c
def nY(cl:az Cl)(f:aF)(st:aw)(t:aq):az Cl:=cl.map (ec f st t)
theorem lx{α:Type}(l:az α)(g:α->α):l.mapIdx (λ_ c=>g c)=l.map g:=by apply lT<;>simp
end uU

namespace gq
open Lib (Px Cl Fe En el)
open pj (jd)
open uU (nY)
def s6(p:Px)(f:aw):aX:=jd p&&(decide (0<=f/\f<=(p.fe.length:aw)-1)&&decide ((el p.fe f.toNat).sta=1))
def told(p:Px)(f:aF)(g:Fe)(st:aw):Px:={p with fe:=p.fe.set f g,cl:=nY p.cl f st g.t}
theorem iT{p:Px}{f:aw}(h:s6 p f=ai):∃n:aF,f=(n:aw)/\n<p.fe.length/\jd p=ai/\(el p.fe n).sta=1:=by unfold s6 at h;simp only[aL,bf]at h;obtain⟨h1,h2,h3⟩:=h;exact⟨f.toNat,by omega,by omega,h1,h3⟩
theorem n7{p:Px}{n f:aF}{g:Fe}{st:aw}(h:p.Fit n):(told p f g st).Fit n:=by
 refine⟨h.en,h.w,h.m,h.s, ?_, ?_⟩
 ·show(p.fe.set f g).length<=n;rw[cD];exact h.fe
 ·show(nY p.cl f st g.t).length<=n;unfold uU.nY;rw[bU];exact h.cl
def Cd(p:Px)(f:aw):Px×aX:=bif s6 p f then(told p f.toNat {el p.fe f.toNat with sta:=3} 3,ai)else(p,ak)
def C3(p:Px)(f:aw)(t:aq):Px×aX:=
 bif s6 p f&&(decide (1<=t.size/\t.size<=40)&&decide ((el p.fe f.toNat).t.size+t.size<=400))then(told p f.toNat {el p.fe f.toNat with t:=(el p.fe f.toNat).t++t} 1,ai)else(p,ak)
theorem iR{l:az Fe}{n:aF}{g:Fe}(h:n<l.length):el (l.set n g) n=g:=by rw[eN (by rw[cD];exact h),kK]
theorem yw(l:az Fe)(n j:aF)(ys:az CV)(g:Fe)(h:n<l.length)(hs:iH (Fe.row (el l n)) j ys=Fe.row g):eJ (Lib.rf l) n j ys=Lib.rf (l.set n g):=by rw[eN h]at hs;exact kU Fe.row l n j ys g h hs
theorem Nn{p:Px}(h:jd p=ai)(i:aF)(hi:i<p.fe.length):np.nN p.now (el p.fe i)=true:=by unfold pj.jd at h;simp only[aL,bf]at h;obtain⟨_,_,_,_,_,h6,_⟩:=h;rw[bu]at h6;have:=h6 i (by simpa using hi);rw[aL]at this;exact this.1
end gq

namespace gm
theorem amt(x:aw):0<=bE eI x/\bE eI x<4294967296:=by have e:bE eI x=x%4294967296:=rfl;rw[e];omega
theorem agv(x:aw):0<=jV.rd x/\jV.rd x<4294967296:=by unfold jV.rd;cases decide (cy x 2=1)<;>exact amt _
theorem N4:∀(n:aF) (x:aw),0<=x/\x<4294967296->0<=jV.nP n x/\jV.nP n x<4294967296
 |0,_,h=>h
 |n+1,x,_=>N4 n _ (agv x)
theorem VR(t:aq):∀(d i:aF) (s:aw),0<=s/\s<4294967296->0<=jV.su t d i s/\jV.su t d i s<4294967296
 |0,_,_,h=>h
 |d+1,i,s,h=>VR t d (i+1) _ (N4 8 _ (amt _))
def keyed(i:aF)(key:aq):aq:=key++bytesOf [[CV.i bh (i:aw)]]
def sm(i:aF)(key:aq):aw:=jV.su (keyed i key) (keyed i key).size 0 4294967295
def pl(i:aF)(key:aq):aF:=(cy (sm i key) 16).toNat
theorem LZ(i:aF)(key:aq):0<=sm i key/\sm i key<4294967296:=VR _ _ _ _ (by omega)
theorem pl_int(i:aF)(key:aq):cy (sm i key) 16=(pl i key:aw):=by have:=LZ i key;have h:0<=cy (sm i key) 16:=W5 _ this.1;unfold pl;omega
theorem C1(i:aF)(key:aq):pl i key<16:=by have:=LZ i key;have h:=Int.tmod_lt_of_pos (sm i key) (show(0:aw)<16 by omega);have h2:0<=cy (sm i key) 16:=W5 _ this.1;unfold pl;omega
theorem Dd(i:aF)(key:aq):(keyed i key).size=key.size+1:=by unfold keyed;rw[dJ,Dc]
theorem ok(i:aF)(key:aq)(hi:i<3)(hk:key.size<=140737488355328):c (i:aw) key=ai/\v (i:aw) key=(pl i key:aw):=by
 refine out _ _ ?_;unfold vo b;have e:(key++bytesOf (aD (aP [Ck.i bh] 1) 0 [CV.i bh (bE bh (i:aw))]))=keyed i key:=by
  unfold keyed;match i,hi with
  |0,_=>rfl
  |1,_=>rfl
  |2,_=>rfl
 have hs:=Dd i key;have h:=vW.ok (keyed i key) (by omega);have e2:cm key+cm (bytesOf (aD (aP [Ck.i bh] 1) 0 [CV.i bh (bE bh (i:aw))]))=key.size+1:=by rw[pR,Dc]
 rw[e2,e,aE (by omega),au,h.1,h.2,au];have hp:=pl_int i key;have hl:=C1 i key;unfold sm at hp;rw[hp,de (by omega) (by omega)]
end gm

namespace n_
open Lib (rr)
theorem run(N:aF)(K0:aw->aR->aw->aw->aw->aC R)(K1:aw->aR->aw->aw->aw->aR->aC R)(s:az (az aw))(z y a:aw)(hf:jq.oS s)(m:aF)(hm:s.length+1<m)(kr:aR->aC R)
  (h0:s=[]->K0 0 (rr s) z y a=kr []) (h1:K1 s.length (rr s) z y a (rr s)=kr (rr s)):l3 N K0 K1 m 0 (rr s) z y a=kr (rr s):=by
 obtain⟨m,rfl⟩:∃m',m=m'+1:=⟨m-1,by omega⟩
 have hz:∀q:aR,aP [Ck.i ao] 0++q=q:=λq=>rfl;have hci:∀i (h:i<s.length),cw (bT (aP [Ck.i ao] 0)+bT (Lib.ri s[i])) 8=true:=λi h=>by have:=hf.2 _ (bC h);exact Lib.ch (by rw[Lib.gW];simp[aP];omega) (by rw[Lib.gW];simp[aP];omega)
 by_cases hs:s=[]
 ·subst hs;simp only[l3,r3,gX,jT,Wi,Ks,bj,ax];exact h0 rfl
 ·have hp:0<s.length:=ML.2 hs;have key:=mg (R:=R) s.length (λm i (x:aR)=>sO N K0 K1 m (i:aw) (rr s) z y a x) (λi=>rr (s.take i)) (kr (rr s)) (λm i h=>by
   have hl:=hf.1;simp only[sO,zQ,gX,Lib.dm,h,aN,au,Lib.cE,bc,Lib.dX,Ke h,jz,hci i h,hz,pR,bA];rw[Lib.ch (by rw[eD];omega) (by rw[eD];omega),au,Lib.cZ h (by omega)];have:=o6 (λq=>[CV.l 3 (Lib.ri q)]) s i h;unfold rr;rw[<-this]) (λm=>by
   simp only[sO,zQ,gX,Lib.dm,bm,bj,ax,dD];exact h1) m 1 hp (by omega)
  have e:=hci 0 hp;have e0:=Ke (l:=s) hp;simp only[l3,r3,aE (show(0:aw)<(s.length:aw)by omega),au,aM,gX,show decide ((0:aw)<=0)=ai from rfl,show aW 0=0 from rfl,e0,jz,e,hz,au,pR,gC];rw[show bJ (0+1)=((1:aF):aw)from rfl];refine Eq.trans ?_ key;have:=o6 (λq=>[CV.l 3 (Lib.ri q)]) s 0 hp;unfold rr;rw[show(0+1)=1 from rfl]at this;rw[<-this];rfl
theorem ok(s:az (az aw))(a:aw)(hf:jq.oS s):c (rr s) a=ai/\v (rr s) a=(rr s,a):=by refine out _ _ ?_;unfold vo b;exact run Lib.cU (λ_ _ _ _ y=>ah ([],y)) (λ_ _ _ _ wA Kj=>ah (Kj,wA)) s a 0 a hf Lib.cU (cG (by have:=hf.1;omega)) (λx=>ah (x,a)) (λ_=>rfl) rfl
end n_

namespace dv
open Lib (rr ri)
def bq(p:aF)(q:az aw):az aw:=q.set p (bif decide (q.getD p 0<15)then q.getD p 0+1 else q.getD p 0)
def DZ(s:az (az aw))(key:aq):az (az aw):=s.mapIdx λi q=>bq (gm.pl i key) q
def half(s:az (az aw)):az (az aw):=s.map λq=>q.map λn=>cQ n 2
def val(s:az (az aw))(a:aw)(key:aq):az (az aw)×aw:=
 bif fF.ot s a then(bif decide (a+1=64)then(half (DZ s key),0)else(DZ s key,a+1))else(s,a)
def fR(q:az aw):az CV:=[CV.l 3 (ri q)]
theorem Qh(q:az aw)(p:aF)(x:aw)(h:p<q.length):eJ (ri q) p 0 [CV.i ao x]=ri (q.set p x):=kU (λn=>[CV.i ao n]) q p 0 _ x h rfl
theorem Qi(L:az (az aw))(i:aF)(q:az aw)(h:i<L.length):eJ (L.map fR) i 0 [CV.l 3 (ri q)]=(L.set i q).map fR:=kU fR L i 0 _ q h rfl
theorem Cf(L:az (az aw))(i:aF)(h:i<L.length):ar (L.map fR) i 0=CV.l 3 (ri L[i]):=eW fR L i 0 h
theorem uN{s:az (az aw)}{a:aw}(h:fF.ot s a=ai):s.length=3/\(0<=a/\a<=63)/\∀q∈s,q.length=16/\∀n∈q,0<=n/\n<=15:=by
 unfold fF.ot at h;rw[aL,aL]at h;refine⟨cq h.1,cq h.2.1,λq hq=> ?_⟩
 have:=bu.1 h.2.2 q hq;unfold fF.sG at this;rw[aL]at this;refine⟨cq this.1,λn hn=> ?_⟩
 have:=bu.1 this.2 n hn;unfold fF.NQ at this;exact cq this
theorem oT{q:az aw}{p:aF}(h:p<q.length):q.getD p 0=q[p]:=by simp[jS,h]
theorem agz(K:aq->aw->aw->aw->aR->aC R)(s:az (az aw))(key:aq)(y a:aw)(hs:s.length=3)(hq:∀q∈s,q.length=16/\∀n∈q,0<=n/\n<=15)(hk:key.size<=140737488355328):
  l5 Lib.cU K Lib.cU key 0 y a (rr s)=K key 3 y a (rr (DZ s key)):=by
 refine(nR fR s (λi q=>bq (gm.pl i key) q) (λm (i:aF) x=>l5 Lib.cU K m key (i:aw) y a x) (λx=>K key 3 y a x) (λm i L h h2 hL wc=> ?_) (λm L hL=> ?_) Lib.cU (cG (by omega)))
 ·have hp:=gm.ok i key (by omega) hk;have s5:=gm.C1 i key;obtain⟨Kb,hn⟩:=hq _ (bC h);have e0:ar (L.map fR) i 0=CV.l 3 (ri s[i]):=by rw[Cf L i h2,wc]
  have hb:gm.pl i key<s[i].length:=by omega
  have hx:=hn _ (bC hb);simp only[l5,r5,bU,Lib.dm,h2,aN,au,hp.1,hp.2,Lib.cE,aM,Lib.dX,e0,jz,Lib.gW,Kb,s5,QK hb,bF];unfold bq;rw[oT hb];cases hd:decide (s[i][gm.pl i key]<15)with
  |true=>have:=cq hd;rw[au,au,de (x:=s[i][gm.pl i key]+1) (by omega) (by omega),Qh _ _ _ hb,Qi _ _ _ h2,Lib.cZ h2 (by omega)]
  |false=>rw[ax,ax,Lib.cZ h2 (by omega),fA,<-wc,fA]
 ·simp only[l5,r5,bU,Lib.dm,hL,bm,bj,ax,hs];rfl
theorem tB{s:az (az aw)}{key:aq}(hs:s.length=3)(hq:∀q∈s,q.length=16/\∀n∈q,0<=n/\n<=15):(DZ s key).length=3/\∀q∈DZ s key,q.length=16/\∀n∈q,0<=n/\n<=15:=by
 unfold DZ;refine⟨by simp[hs],λq hm=> ?_⟩
 obtain⟨i,hi,rfl⟩:=List.mem_mapIdx.1 hm;obtain⟨Kb,hn⟩:=hq _ (bC hi);unfold bq;have hb:gm.pl i key<s[i].length:=by have:=gm.C1 i key;omega
 refine⟨by rw[cD];exact Kb,λn h=> ?_⟩
 rcases jL h with h|h
 ·exact hn n h
 ·rw[oT hb]at h;have hx:=hn _ (bC hb);rw[h];cases hd:decide (s[i][gm.pl i key]<15)with
  |true=>have:=cq hd;rw[au];omega
  |false=>rw[ax];exact hx
theorem alQ(K:aw->aw->aw->aw->aR->aC R)(L:az (az aw))(i:aF)(h:i<L.length)(y a:aw)(hl:L.length<=1048576)(hq:L[i].length=16)(hn:∀n∈L[i],0<=n/\n<=15):
  l17 Lib.cU K Lib.cU (i:aw) 0 y a (L.map fR)=K i 16 y a ((L.set i (L[i].map λn=>cQ n 2)).map fR):=by
 have hmi:L[i].mapIdx (λ_ n=>cQ n 2)=L[i].map λn=>cQ n 2:=by apply lT<;>simp
 have key:=mg (L[i].length) (λm (k:aF) x=>l17 Lib.cU K m (i:aw) (k:aw) y a x) (λk=>(L.set i (ou L[i] (λ_ n=>cQ n 2) k)).map fR) (K i 16 y a ((L.set i (L[i].map λn=>cQ n 2)).map fR)) (λm k hk=> ?_) (λm=> ?_) Lib.cU 0 (bI _) (cG (by omega))
 ·rw[Dl,fA]at key;exact key
 ·have hu:=qX L[i] (λ_ n=>cQ n 2) k (by omega);generalize hU:ou L[i] (λ_ n=>cQ n 2) k=U at hu;have hku:k<U.length:=by omega
  have gf:U[k]=L[i][k]:=by subst hU;exact yD _ _ _ hk _
  have afr:U.set k (cQ L[i][k] 2)=ou L[i] (λ_ n=>cQ n 2) (k+1):=by subst hU;exact uf L[i] (λ_ n=>cQ n 2) k hk
  have h2:i<(L.set i U).length:=by simpa using h
  have e0:ar ((L.set i U).map fR) i 0=CV.l 3 (ri U):=by rw[Cf _ _ h2,kK]
  have hx:=hn _ (bC hk);have ht:0<=cQ L[i][k] 2:=Int.tdiv_nonneg hx.1 (by omega);have Hf:cQ L[i][k] 2<=15:=BV (Int.tdiv_le_self _ hx.1) hx.2;simp only[l17,r17,bU,cD,Lib.dm,h,hku,aN,au,Lib.cE,aM,Lib.dX,e0,jz,Lib.gW,QK hku,bF,gf];rw[de (x:=cQ L[i][k] 2) (by omega) (by omega),Qh _ _ _ hku,Qi _ _ _ h2,afr,pN,Lib.cZ hk (by omega)]
 ·have e0:ar ((L.set i (ou L[i] (λ_ n=>cQ n 2) L[i].length)).map fR) i 0=CV.l 3 (ri (L[i].map λn=>cQ n 2)):=by rw[Cf _ _ (by simpa using h),kK,qW,hmi]
  simp only[l17,r17,bU,cD,Lib.dm,h,aN,au,Lib.cE,aM,Lib.dX,e0,jz,Lib.gW,bm,bj,ax];rw[qW,hmi,hq];rfl
theorem alO(K:aw->aw->aw->aR->aC R)(s:az (az aw))(y a:aw)(hs:s.length=3)(hq:∀q∈s,q.length=16/\∀n∈q,0<=n/\n<=15):
  l14 Lib.cU K Lib.cU 0 y a (rr s)=K 3 y a (rr (half s)):=by
 have hmi:s.mapIdx (λ_ q=>q.map λn=>cQ n 2)=half s:=by unfold half;apply lT<;>simp
 rw[<-hmi];refine(nR fR s (λ_ q=>q.map λn=>cQ n 2) (λm (i:aF) x=>l14 Lib.cU K m (i:aw) y a x) (λx=>K 3 y a x) (λm i L h h2 hL wc=> ?_) (λm L hL=> ?_) Lib.cU (cG (by omega)))
 ·obtain⟨Kb,hn⟩:=hq _ (bC h);simp only[l14,r14,bU,Lib.dm,h2,aN,au];rw[alQ _ L i h2 y a (by omega) (by rw[wc];exact Kb) (by rw[wc];exact hn),Lib.cZ h2 (by omega),wc]
 ·simp only[l14,r14,bU,Lib.dm,hL,bm,bj,ax,hs];rfl
theorem ok(s:az (az aw))(a:aw)(key:aq)(hf:jq.oS s)(hk:key.size<=140737488355328):c (rr s) a key=ai/\v (rr s) a key=(rr (val s a key).1,(val s a key).2):=by
 refine out _ _ _ ?_;have h1:=n_.ok s a hf;have h2:=fF.ok s a hf;unfold vo b val;rw[h1.1,h1.2,h2.1,h2.2,au,au];cases cf:fF.ot s a with
 |false=>rfl
 |true=>
  obtain⟨hs,ha,hq⟩:=uN cf;obtain⟨b1,b2⟩:=tB (key:=key) hs hq;rw[a_,ax,au,agz _ s key _ _ hs hq hk,de (x:=a+1) (by omega) (by omega)];cases hd:decide (a+1=64)with
  |false=>rfl
  |true=>rw[au,au,alO _ _ _ _ b1 b2]
end dv

namespace mL
open Lib (rr ri)
def gs(key:aq):aF->az (az aw)->aw->aw
 |_,[],x=>x
 |i,q::r,x=>gs key (i+1) r (bif decide (q.getD (gm.pl i key) 0<x)then q.getD (gm.pl i key) 0 else x)
def val(s:az (az aw))(a:aw)(key:aq):aw:=bif fF.ot s a then gs key 0 s 15 else 0
theorem G_(key:aq)(s:az (az aw))(i:aF)(h:i<s.length)(x:aw):gs key i (s.drop i) x=gs key (i+1) (s.drop (i+1)) (bif decide (s[i].getD (gm.pl i key) 0<x)then s[i].getD (gm.pl i key) 0 else x):=by rw[dE h];rfl
theorem ok(s:az (az aw))(a:aw)(key:aq)(hf:jq.oS s)(hk:key.size<=140737488355328):c (rr s) a key=ai/\v (rr s) a key=val s a key:=by
 refine out _ _ _ ?_;have h2:=fF.ok s a hf;unfold vo b val;rw[h2.1,h2.2,au];cases cf:fF.ot s a with
 |false=>rfl
 |true=>
  obtain⟨hs,ha,hq⟩:=dv.uN cf;rw[a_,ax,au];have:=Lib.g9 (λm (t:aF×aw)=>l5 Lib.cU (λ(_:aq) (y6 _:aw) (_:aR) (_:aw)=>ah y6) m key t.2 (t.1:aw) (rr s) a) (λt=>s.length-t.1) (λt=>t.1<=s.length) (λt=>ah (gs key t.1 (s.drop t.1) t.2)) (λm t ht=>by
   obtain⟨i,x⟩:=t;dsimp only at ht⊢;by_cases h:i<s.length
   ·right;have hp:=gm.ok i key (by omega) hk;have s5:=gm.C1 i key;obtain⟨Kb,hn⟩:=hq _ (bC h);have hb:gm.pl i key<s[i].length:=by omega
    refine⟨(i+1,bif decide (s[i].getD (gm.pl i key) 0<x)then s[i].getD (gm.pl i key) 0 else x),by dsimp only;omega,by dsimp only;omega,by rw[<-G_ key s i h x], ?_⟩
    simp only[l5,r5,gX,Lib.dm,h,aN,au,hp.1,hp.2,Lib.cE,aM,Lib.dX,Ke h,jz,Lib.gW,Kb,s5,QK hb,bF,Lib.cZ h (by omega:s.length<=9223372036854775807)];rw[dv.oT hb];cases decide (s[i][gm.pl i key]<x)<;>rfl
   ·left;have:i=s.length:=by omega
    subst this;simp only[l5,r5,gX,Lib.dm,bm,bj,ax,dj,gs]) Lib.cU (0,15) (bI _) (cG (by dsimp only;omega))
  simpa using this
end mL

namespace f_
open Lib (rr rs)
theorem ok(w m:az aq)(s:az (az aw))(a:aw)(hw:w.length<=1048576)(hm:m.length<=1048576)(hf:jq.oS s):c (rs w) (rs m) (rr s) a=ai/\v (rs w) (rs m) (rr s) a=(rs w,rs m,rr s,a):=by have h3:=n_.ok s a hf;have r1:cw (bT (aP [Ck.s] 0)+bT (rs w)) 16=true:=Lib.ch (by simp[aP,eZ];omega) (by simp[aP,eZ];omega);have r2:cw (bT (aP [Ck.s] 0)+bT (rs m)) 16=true:=Lib.ch (by simp[aP,eZ];omega) (by simp[aP,eZ];omega);exact out _ _ _ _ (by unfold vo b;rw[r1,r2,h3.1,h3.2,au,au,au];rfl)
end f_

namespace ph
theorem ok(l:az aq)(k:aq)(hl:l.length<=1048576):c (Lib.rs l) k=ai/\v (Lib.rs l) k=Lib.rs (fj.without l k):=by
 refine out _ _ ?_;unfold vo b;have key:=mg l.length (λm (i:aF) (x:aR)=>l3 Lib.cU (λ(_:aR) (_:aq) (_:aw) (y7:aR)=>ah y7) m (Lib.rs l) k (i:aw) x) (λi=>Lib.rs (fj.without (l.take i) k)) (ah (Lib.rs (fj.without l k))) (λm i h=>by
  have hlen:=fj.ix (l:=l.take i) (k:=k);rw[eD]at hlen;simp only[l3,r3,eZ,Lib.dm,h,aN,Lib.cE,aM,au,Lib.dX,WG h,bw,Lib.fm,pR,bA,Lib.cZ h (by omega:l.length<=9223372036854775807)];rw[Lib.ch (by omega) (by omega),au];have e:fj.without (l.take (i+1)) k=fj.without (l.take i) k++(bif !decide (l[i]=k)then [l[i]]else []):=by unfold fj.without;rw[cu h,gv];cases hd:decide (l[i]=k)<;>simp[hd]
  rw[e];cases hd:decide (l[i]=k)with
  |true=>rw[a_,ax,ax,dn]
  |false=>rw[bR,au,au];unfold Lib.rs;rw[di];rfl) (λm=>by
  simp only[l3,r3,eZ,Lib.dm,bm,bj,ax,dD]) Lib.cU 0 (bI _) (cG (by omega))
 exact key
end ph

namespace e6
open Lib (rr rs)
open fj (has without gK lM wy ix pH)
open jC (eR Lp nI sR iS)
def val(w m:az aq)(s:az (az aw))(a:aw)(key:aq):az aq×az aq×az (az aw)×aw×aq:=
 bif sR w m s a&&eR key then
  bif has w key then(without w key++[key],m,(dv.val s a key).1,(dv.val s a key).2,⟨#[]⟩)
  else bif has m key then(w,without m key++[key],(dv.val s a key).1,(dv.val s a key).2,⟨#[]⟩)
  else bif decide ((w++[key]).length<=2)then(w++[key],m,(dv.val s a key).1,(dv.val s a key).2,⟨#[]⟩)
  else bif decide (m.length<4)then((w++[key]).tail,m++[(w++[key]).getD 0 ⟨#[]⟩],(dv.val s a key).1,(dv.val s a key).2,⟨#[]⟩)
  else bif decide (mL.val (dv.val s a key).1 (dv.val s a key).2 ((w++[key]).getD 0 ⟨#[]⟩)>mL.val (dv.val s a key).1 (dv.val s a key).2 (m.getD 0 ⟨#[]⟩))then
   ((w++[key]).tail,m.tail++[(w++[key]).getD 0 ⟨#[]⟩],(dv.val s a key).1,(dv.val s a key).2,m.getD 0 ⟨#[]⟩)
  else((w++[key]).tail,m,(dv.val s a key).1,(dv.val s a key).2,(w++[key]).getD 0 ⟨#[]⟩)
 else(w,m,s,a,⟨#[]⟩)
theorem De(l:az aq)(k:aq):rs l++[[CV.s k]]=rs (l++[k]):=by unfold Lib.rs;rw[di];rfl
theorem zer(l:az aq):aP [Ck.s] 0++rs l=rs l:=rfl
theorem SW(l:az aq):bw (ar (rs l) (aW 0) 0)=l.getD 0 ⟨#[]⟩:=by cases l<;>rfl
theorem VT(l:az aq):eA (rs l) (aW 1) (aW (l.length:aw))=rs l.tail:=by unfold eA Lib.rs;rw[show aW 1=1 from rfl,Lib.dX,List.drop_one,<-List.map_tail,jf (by simp)]
theorem nJ{l:az aq}(h:nI l=ai){k:aq}(hk:k∈l):eR k=true:=by
 unfold nI at h;rw[bu]at h;obtain⟨i,hi,rfl⟩:=c6 hk;have:=h i (by simpa using hi);unfold Lp at this;rw[aL]at this;have e:l.getD i ⟨#[]⟩=l[i]:=by simp[jS,hi]
 rw[e]at this;exact this.1
theorem wj{l:az aq}:nI l=ai↔(∀k∈l,eR k=ai)/\l.Nodup:=by
 constructor
 ·intro h;refine⟨λk hk=>nJ h hk, ?_⟩
  rw[lK,dB];intro i j hi hj Pv he;unfold nI at h;rw[bu]at h;have h2:=h j (by simpa using hj);unfold Lp at h2;have e:l.getD j ⟨#[]⟩=l[j]:=by simp[jS,hj]
  rw[e,aL,dr,lM]at h2;refine h2.2 ?_;rw[<-he];have:(l.take j)[i]'(by rw[eD];omega)=l[i]:=nC ..;rw[<-this];exact bC _
 ·intro h;unfold nI;rw[bu];intro j hj;have hj:j<l.length:=by simpa using hj
  unfold Lp;have e:l.getD j ⟨#[]⟩=l[j]:=by simp[jS,hj]
  rw[e,aL,dr,lM];refine⟨h.1 _ (bC hj),λhm=> ?_⟩
  obtain⟨i,hi,he⟩:=c6 hm;rw[eD]at hi;rw[nC]at he;have h2:=h.2;rw[lK,dB]at h2;exact h2 i j (by omega) hj (by omega) he
theorem kO{k:aq}(h:eR k=ai):1<=k.size/\k.size<=30:=by unfold eR at h;have:=cq h;omega
theorem LW{s:az (az aw)}{a:aw}{key:aq}(h:jq.oS s):jq.oS (dv.val s a key).1:=by
 unfold dv.val;cases cf:fF.ot s a with
 |false=>exact h
 |true=>
  obtain⟨hs,_,hq⟩:=dv.uN cf;obtain⟨b1,b2⟩:=dv.tB (key:=key) hs hq;rw[au];cases decide (a+1=64)with
  |false=>exact⟨by rw[ax];dsimp only;omega,λq h=>by have:=(b2 q h).1;omega⟩
  |true=>
   rw[au];dsimp only;unfold dv.half;refine⟨by rw[bU];omega,λq h=> ?_⟩
   obtain⟨q',hq',rfl⟩:=cW.1 h;rw[bU];have:=(b2 q' hq').1;omega
theorem tI{l:az aq}(h:0<l.length):l.getD 0 ⟨#[]⟩∈l:=by
 cases l with
 |nil=>simp at h
 |cons x r=>exact dq ..
theorem CY{w m:az aq}{s:az (az aw)}{a:aw}(h:sR w m s a=ai):nI (w++m)=ai/\w.length<=2/\m.length<=4/\fF.ot s a=true:=by unfold sR at h;simp only[aL,bf]at h;exact⟨h.1,h.2.1,h.2.2.1,h.2.2.2⟩
theorem ok(w m:az aq)(s:az (az aw))(a:aw)(key:aq)(hw:w.length<=1048576)(hm:m.length<=1048576)(hf:jq.oS s)(hk:key.size<=140737488355328):
  c (rs w) (rs m) (rr s) a key=ai/\v (rs w) (rs m) (rr s) a key=(rs (val w m s a key).1,rs (val w m s a key).2.1,rr (val w m s a key).2.2.1,(val w m s a key).2.2.2.1,(val w m s a key).2.2.2.2):=by
 refine out _ _ _ _ _ ?_;have h1:=f_.ok w m s a hw hm hf;have h2:=jC.ok w m s a hw hm hf;have h3:=dv.ok s a key hf hk;have h4:=fj.ok w key (by omega);have h5:=fj.ok m key (by omega);have h6:=ph.ok w key hw;have h7:=ph.ok m key hm;have sf:=LW (a:=a) (key:=key) hf;unfold vo b;simp only[Lib.lt,h1.1,h1.2,h2.1,h2.2,au];unfold val;cases hp:sR w m s a with
 |false=>rfl
 |true=>
  obtain⟨p1,p2,p3,p4⟩:=CY hp;rw[iS,bc];cases Ap:eR key with
  |false=>rfl
  |true=>
   have A_:=kO Ap;have l6:=ix (l:=w) (k:=key);have l7:=ix (l:=m) (k:=key);simp only[a_,ax,au,h3.1,h3.2,h4.1,h4.2,h5.1,h5.2,h6.1,h6.2,h7.1,h7.2,De,zer,eZ,pR,bA];rw[Lib.ch (n:=(without w key).length+1) (by omega) (by omega),Lib.ch (n:=(without m key).length+1) (by omega) (by omega),Lib.ch (n:=w.length+1) (by omega) (by omega)];simp only[au];cases hA:has w key with
   |true=>rfl
   |false=>
    cases hB:has m key with
    |true=>rfl
    |false=>
     simp only[ax];rw[show decide (((w++[key]).length:aw)<=2)=decide ((w++[key]).length<=2)by rw[cg];omega];cases hC:decide ((w++[key]).length<=2)with
     |true=>rfl
     |false=>
      have hlw:(w++[key]).length=3:=by have:=l8 hC;rw[bP,bA]at this⊢;omega
      have hfm:(w++[key]).getD 0 ⟨#[]⟩∈w++[key]:=tI (by omega);have Lc:((w++[key]).getD 0 ⟨#[]⟩).size<=30:=by
       rcases ba.1 hfm with h|h
       ·exact(kO (nJ p1 (bM _ h))).2
       ·rw[aZ]at h;rw[h];exact A_.2
      have g1:=mL.ok (dv.val s a key).1 (dv.val s a key).2 ((w++[key]).getD 0 ⟨#[]⟩) sf (by omega);have i1:g8 1 ((w++[key]).length:aw) ((w++[key]).length:aw)=true:=by rw[hlw];rfl
      have ht:(w++[key]).tail.length=2:=by rw[W8];omega
      have rz:cw (bT (aP [Ck.s] 0)+(w++[key]).tail.length) 16=true:=Lib.ch (by rw[ht];decide) (by rw[ht];decide);simp only[ax,aE (show(0:aw)<((w++[key]).length:aw)by omega),i1,au,SW,VT,rz,zer,De,eZ,Lib.ch (n:=m.length+1) (b:=16) (by omega) (by omega),g1.1,g1.2];rw[show decide ((m.length:aw)<4)=decide (m.length<4)by rw[cg];omega];cases hD:decide (m.length<4)with
      |true=>rfl
      |false=>
       have hm4:m.length=4:=by have:=l8 hD;omega
       have hmm:m.getD 0 ⟨#[]⟩∈m:=tI (by omega);have hms:=(kO (nJ p1 (bN _ hmm))).2;have g2:=mL.ok (dv.val s a key).1 (dv.val s a key).2 (m.getD 0 ⟨#[]⟩) sf (by omega);have i2:g8 1 (m.length:aw) (m.length:aw)=true:=by simp[g8];omega
       have Hf:m.tail.length=3:=by rw[W8];omega
       have rz2:cw (bT (aP [Ck.s] 0)+m.tail.length) 16=true:=Lib.ch (by rw[Hf];decide) (by rw[Hf];decide);simp only[ax,aE (show(0:aw)<(m.length:aw)by omega),i2,au,rz2,De,Lib.ch (n:=m.tail.length+1) (b:=16) (by omega) (by omega),g2.1,g2.2];cases decide (mL.val (dv.val s a key).1 (dv.val s a key).2 ((w++[key]).getD 0 ⟨#[]⟩)>mL.val (dv.val s a key).1 (dv.val s a key).2 (m.getD 0 ⟨#[]⟩))<;>rfl
def lens(s:az (az aw)):az aF:=s.map bT
theorem Fj(s:az (az aw))(key:aq):lens (dv.DZ s key)=lens s:=by
 unfold lens dv.DZ;apply lT
 ·simp
 ·intro i h1 h2;simp[dv.bq]
theorem PM(s:az (az aw)):lens (dv.half s)=lens s:=by unfold lens dv.half;rw[mv];apply Qt;intro q _;simp
theorem Yg(s:az (az aw))(a:aw)(key:aq):lens (dv.val s a key).1=lens s:=by
 unfold dv.val;cases fF.ot s a with
 |false=>rfl
 |true=>
  cases decide (a+1=64)with
  |false=>exact Fj s key
  |true=>exact(PM _).trans (Fj s key)
theorem Md(w m:az aq)(s:az (az aw))(a:aw)(key:aq):(val w m s a key).1.length<=w.length+1/\(val w m s a key).2.1.length<=m.length+1/\lens (val w m s a key).2.2.1=lens s:=by
 have hw:=ix (l:=w) (k:=key);have hm:=ix (l:=m) (k:=key);have hs:=Yg s a key;unfold val;cases sR w m s a&&eR key with
 |false=>exact⟨by rw[ax];exact jx _,by rw[ax];exact jx _,rfl⟩
 |true=>
  rw[au];cases has w key with
  |true=>refine⟨?_, ?_,hs⟩<;>(simp only[au];simp;try omega)
  |false=>
   cases has m key with
   |true=>refine⟨?_, ?_,hs⟩<;>(simp only[au,ax];simp;try omega)
   |false=>
    cases decide ((w++[key]).length<=2)with
    |true=>refine⟨?_, ?_,hs⟩<;>(simp only[au,ax];simp;try omega)
    |false=>
     cases decide (m.length<4)with
     |true=>refine⟨?_, ?_,hs⟩<;>(simp only[au,ax];simp;try omega)
     |false=>
      cases decide (mL.val (dv.val s a key).1 (dv.val s a key).2 ((w++[key]).getD 0 ⟨#[]⟩)>mL.val (dv.val s a key).1 (dv.val s a key).2 (m.getD 0 ⟨#[]⟩))with
      |true=>refine⟨?_, ?_,hs⟩<;>(simp only[au,ax];simp;try omega)
      |false=>refine⟨?_, ?_,hs⟩<;>(simp only[au,ax];simp;try omega)
end e6

namespace kC
open Lib (rr rs re rf rc Px En el)
open fj (has)
open fY (fy So fS mC xB drop_nil CT tY GZ Sw sa)
def yB(p:Px)(e:En):Px:=
 {p with
  w:=(e6.val p.w p.m p.s p.a e.k).1
  m:=(e6.val p.w p.m p.s p.a e.k).2.1
  s:=(e6.val p.w p.m p.s p.a e.k).2.2.1
  a:=(e6.val p.w p.m p.s p.a e.k).2.2.2.1
  en:=bif has (e6.val p.w p.m p.s p.a e.k).1 e.k||has (e6.val p.w p.m p.s p.a e.k).2.1 e.k then mC (fS p.en (e6.val p.w p.m p.s p.a e.k).2.2.2.2) e else fS p.en (e6.val p.w p.m p.s p.a e.k).2.2.2.2}
theorem alT{en:az En}{w m:az aq}(h:(b9 en.length).all (nU.H3 en w m)=ai):So en/\∀e∈en,1<=e.k.size:=by
 rw[bu]at h;have h1:∀i (hi:i<en.length),nU.H3 en w m i=true:=λi hi=>h i (by simpa using hi);constructor
 ·have adj:∀d i (hi:i+d+1<en.length),fy (el en i).k (el en (i+d+1)).k=true:=by
   intro d;induction d with
   |zero=>
    intro i hi;have:=h1 (i+1) (by omega);unfold nU.H3 at this;rw[aL,aL,dL]at this;rcases this.2.1 with h|h
    ·have:=cq h;omega
    ·exact h
   |succ d ih=>
    intro i hi;have a:=ih i (by omega);have:=h1 (i+d+1+1) (by omega);unfold nU.H3 at this;rw[aL,aL,dL]at this;rcases this.2.1 with h|h
    ·have:=cq h;omega
    ·exact lN.po _ _ _ a h
  unfold So;rw[dB];intro i j hi hj Pv;have:=adj (j-i-1) i (by omega);rw[show i+(j-i-1)+1=j by omega,eN hi,eN hj]at this;exact this
 ·intro e he;obtain⟨i,hi,rfl⟩:=c6 he;have:=h1 i hi;unfold nU.H3 nU.vl at this;rw[aL,eN hi]at this;exact(ni.Ef this.1).1.1
theorem BF{p:Px}(h:pj.jd p=ai):So p.en/\(∀e∈p.en,1<=e.k.size)/\p.en.length<=6/\p.w.length<=2/\p.m.length<=4/\p.fe.length<=20/\p.cl.length<=6/\(1<=p.now/\p.now<=1000000000)/\(0<=p.hits/\p.hits<=1000000000)/\jC.sR p.w p.m p.s p.a=ai/\(∀i,i<p.fe.length->np.nN p.now (el p.fe i)=ai):=by
 unfold pj.jd at h;simp only[aL,bf]at h;obtain⟨h1,h2,h3,h4,h5,h6,h7⟩:=h;unfold nU.Nj at h2;simp only[aL,bf]at h2;obtain⟨g1,g2,g3⟩:=h2;obtain⟨s1,s2⟩:=alT g1;obtain⟨_,q2,q3,_⟩:=e6.CY g2;refine⟨s1,s2,by omega,q2,q3,h3,h4,h1,h5,g2,λi hi=> ?_⟩
 rw[bu]at h6;have:=h6 i (by simpa using hi);rw[aL]at this;exact this.1
theorem kB{p:Px}(h:pj.jd p=ai):p.Fit 48:=by
 obtain⟨_,_,a1,a2,a3,a4,a5,_,_,hp,_⟩:=BF h;obtain⟨_,_,_,hs⟩:=e6.CY hp;unfold fF.ot at hs;simp only[aL,bf,bu]at hs;obtain⟨s1,_,s3⟩:=hs;have s4:∀q∈p.s,q.length=16:=λq hq=>by have:=s3 q hq;unfold fF.sG at this;rw[aL,bf]at this;exact this.1
 refine⟨by omega,by omega,by omega,⟨by omega,λq hq=>by rw[s4 q hq];omega, ?_⟩,by omega,by omega⟩
 have:p.s.map bT=List.replicate 3 16:=by
  rw[List.eq_replicate_iff];refine⟨by rw[bU,s1],λx hx=> ?_⟩
  obtain⟨q,hq,rfl⟩:=cW.1 hx;exact s4 q hq
 rw[this];decide
end kC

namespace s7
open Lib (Px Cl Fe En el)
open gq (s6 told)
def kG(f:Fe):En:=⟨f.k,f.st,f.li,f.t⟩
def cls(p:Px)(f:aw)(life:aw):Px×aX:=
 bif s6 p f&&decide (0<=life/\life<=999999)then
  (bif decide (life>0)then kC.yB (told p f.toNat {el p.fe f.toNat with sta:=2,li:=life,st:=p.now} 2) (kG {el p.fe f.toNat with sta:=2,li:=life,st:=p.now})
   else told p f.toNat {el p.fe f.toNat with sta:=2,li:=life,st:=p.now} 2,ai)
 else(p,ak)
theorem IJ{p:Px}{f life:aw}:(cls p f life).1.now=p.now/\(cls p f life).1.hits=p.hits:=by
 unfold cls;cases s6 p f&&decide (0<=life/\life<=999999)with
 |false=>exact⟨rfl,rfl⟩
 |true=>cases decide (life>0)<;>exact⟨rfl,rfl⟩
end s7

namespace im
open Lib (Px Cl Fe En el rc rf re)
open fj (has without)
open jC (eR)
open pj (jd)
open fY (So fS)
def mP(e:En)(now:aw):aX:=GN.v e.k e.st e.li e.bo now
def jn(l:az Cl)(c:Cl):az Cl:=l.filter (λx=>decide (x.id<c.id))++[c]++l.filter (λx=>decide (x.id>c.id))
def lC(l:az Cl)(id:aw):aX:=l.any λx=>decide (x.id=id)
def H4(l:az En)(key:aq):aC En:=l.find? λe=>decide (e.k=key)
def Fs(key:aq)(f:Fe):aX:=decide (f.k=key)&&decide (f.sta=1)
def N1(l:az Fe)(key:aq):aC aF:=l.findIdx? (Fs key)
def rW(key:aq):Fe:=⟨key,⟨#[]⟩,1,0,0⟩
def put(p:Px)(id:aw)(key:aq)(h:aX)(fe:az Fe)(i:aF):Px:=
 {p with en:=bif h then fS p.en key else p.en,w:=bif h then without p.w key else p.w,m:=bif h then without p.m key else p.m,s:=(dv.val p.s p.a key).1,a:=(dv.val p.s p.a key).2,fe:=fe,cl:=jn p.cl ⟨id,key,(i:aw)+1,0,1,(el fe i).t,0⟩}
def sP(p:Px)(id:aw)(key:aq)(h:aX):Px×aw:=
 match N1 p.fe key with
 |some i=>(put p id key h p.fe i,0)
 |none=>bif decide (p.fe.length<20)then(put p id key h (p.fe++[rW key]) p.fe.length,0)else(p,2)
def hit(p:Px)(id:aw)(key:aq)(e:En):Px:=
 {p with w:=(e6.val p.w p.m p.s p.a key).1,m:=(e6.val p.w p.m p.s p.a key).2.1,s:=(e6.val p.w p.m p.s p.a key).2.2.1,a:=(e6.val p.w p.m p.s p.a key).2.2.2.1,cl:=jn p.cl ⟨id,key,0,e.st,2,e.bo,p.now-e.st⟩,hits:=bif decide (p.hits<1000000000)then p.hits+1 else p.hits}
def ask(p:Px)(id:aw)(key:aq):Px×aw:=
 bif jd p&&(decide (1<=id/\id<=9)&&(eR key&&(!lC p.cl id&&decide (p.cl.length<6))))then
  match H4 p.en key with
  |some e=>bif mP e p.now then(hit p id key e,0)else sP p id key ai
  |none=>sP p id key ak
 else(p,1)
theorem Cr{α:Type}(l:az α)(q:α->aX)(p:aF->aX)(h:∀i (hi:i<l.length),p i=q l[i]):decide (Lib.fi p l.length 0≥0)=l.any q:=by
 rcases Lib.pz p l.length 0 with ⟨e,ha⟩|⟨k,_,hk,e,hp,_⟩
 ·rw[e,aK (by omega)];symm;rw[List.any_eq_false];intro x hx;obtain⟨i,hi,rfl⟩:=c6 hx;rw[<-h i hi,ha i (by omega) (by omega)];simp
 ·rw[e,aE (by omega)];symm;rw[F2];exact⟨_,bC (by omega:k<l.length),by rw[<-h k (by omega)];exact hp⟩
theorem Bu{α:Type}[Inhabited α](l:az α)(q:α->aX)(p:aF->aX)(h:∀i (hi:i<l.length),p i=q l[i]):
  (Lib.fi p l.length 0= -1/\l.find? q=aj/\l.findIdx? q=aj)\/∃i,i<l.length/\Lib.fi p l.length 0=(i:aw)/\l.find? q=ah (el l i)/\l.findIdx? q=ah i:=by
 rcases Lib.pz p l.length 0 with ⟨e,ha⟩|⟨k,_,hk,e,hp,hb⟩
 ·have hn:∀x∈l,q x=false:=λx hx=>by obtain⟨i,hi,rfl⟩:=c6 hx;rw[<-h i hi,ha i (by omega) (by omega)]
  refine .inl ⟨e,W6.2 λx hx=>by rw[hn x hx];simp,Ez.2 hn⟩
 ·have vx:k<l.length:=by omega
  have f:l.findIdx? q=ah k:=mW.2 ⟨vx,by rw[<-h k vx];exact hp,λj hj=>by rw[<-h j (by omega),hb j (by omega) hj];simp⟩;refine .inr ⟨k,vx,e, ?_,f⟩;rw[AL];exact⟨by rw[eN vx,<-h k vx];exact hp,k,vx,(eN vx).symm,λj hj=>by rw[<-h j (by omega),hb j (by omega) hj];rfl⟩
def lid(id:aw)(y:az CV):aX:=decide (bF (y.getD 0 (.b ak))<id)
theorem Tw{l:az Cl}{c:Cl}(cs:l.Pairwise λa b=>a.id<b.id)(hn:lC l c.id=ak):
  (rc l).take ((rc l).takeWhile (lid c.id)).length++[Cl.row c]++(rc l).drop ((rc l).takeWhile (lid c.id)).length=rc (jn l c):=by
 rw[yC,xC];have iB:∀y∈l,y.id≠c.id:=λy hy e=>by unfold lC at hn;rw[List.any_eq_false]at hn;exact hn y hy (aE e)
 obtain⟨t1,t2⟩:=Lib.zX (λx:Cl=>decide (x.id<c.id)) (λx=>decide (x.id>c.id)) l (λy hy=>by
  have:=iB y hy;by_cases h:y.id<c.id
  ·rw[aE h,aK (by omega)];rfl
  ·rw[aK h,aE (by omega)];rfl) (cs.imp λ{a b} XJ h=>aE (by have:=cq h;omega))
 unfold Lib.rc;rw[OQ,OP];have e:lid c.id∘Cl.row=λx:Cl=>decide (x.id<c.id):=rfl;rw[e,t1,t2];unfold jn;rw[di,di];rfl
end im

namespace wR
open Lib (rd el Fi)
open dI (sQ j5)
def kN(left:aR)(i:aF)(f:Fi):aw:=bif decide (i<left.length)then iv ai f.kp (iv ak (bF (ar left i 0)) (f.t.size:aw))else f.kp
def O6(left:aR)(i:aF)(f:Fi):Fi:=⟨f.n,f.t.extract 0 (kN left i f).toNat,kN left i f⟩
def Lu(d:az Fi)(left:aR):aC (az Fi):=bif sQ d then ah (d.mapIdx (O6 left))else aj
theorem Ln(left:aR)(i:aF){f:Fi}(h:0<=f.kp/\f.kp<=(f.t.size:aw)):f.kp<=kN left i f/\kN left i f<=(f.t.size:aw):=by
 unfold kN iv;cases decide (i<left.length)with
 |false=>rw[ax];omega
 |true=>simp only[au,ax];split<;>split<;>omega
theorem ok(d:az Fi)(left:aR)(hd:d.length<=1000):c (rd d) left=ai/\v (rd d) left=rL.res (Lu d left):=by
 refine out _ _ ?_;unfold vo b Lu;have h1:=rL.Zo d (by omega);have h2:=tp.ok (rd d) (by rw[eB];omega);rw[h1.1,h1.2,au];cases hk:sQ d with
 |false=>rfl
 |true=>
 rw[a_,ax,h2.1,h2.2,au,au,eB];obtain⟨q1,q2,q3⟩:=j5.1 hk;have rn:∀f∈d,0<=f.kp/\f.kp<=(f.t.size:aw):=λf hf=>by have:=q2 f hf;unfold dI.nN at this;simp only[aL,bf,dr,fu]at this;exact this.2.2
 refine nR Fi.row d (O6 left) (λm (i:aF) (x:aR)=>l5 Lib.cU (λ(_ _:aR) (_ _:aw) (y9:aR)=>ah (y9,ai)) m left (rd d) (d.length:aw) (i:aw) x) (λx=>ah (x,ai)) (λm i L h h2 hl he=> ?_) (λm L hl=> ?_) Lib.cU (cG (by omega))
 ·have hr:=Ln left i (rn _ (bC h));have h0:=(rn _ (bC h)).1;have hLl:(L.map Fi.row).length=L.length:=bU ..;have hs:∀n:aw,n=kN left i d[i]->eJ (L.map Fi.row) i 0 [CV.s d[i].n,CV.s (d[i].t.extract (aW 0) n.toNat),CV.i ao n]=(L.set i (O6 left i d[i])).map Fi.row:=λn hn=>by subst hn;exact kU Fi.row L i 0 _ (O6 left i d[i]) h2 (by rw[he];rfl)
  have ci:∀k n,bF (CV.i k n)=n:=λ_ _=>rfl;have cs:∀x,bw (CV.s x)=x:=λ_=>rfl;by_cases hi:i<left.length
  ·have e:kN left i d[i]=iv ai d[i].kp (iv ak (bF (ar left i 0)) (d[i].t.size:aw)):=by unfold kN;rw[aE hi];rfl
   have ib:g8 0 (iv ai d[i].kp (iv ak (bF (ar left i 0)) (d[i].t.size:aw))) (d[i].t.size:aw)=true:=by rw[<-e];simp[g8];omega
   simp only[l5,r5,Lib.dm,h,hi,h2,hLl,eB,aN,Lib.cE,aM,au,Lib.dX,JO h,WD h,WE h,cs,ci,ib,hs _ e.symm,Lib.cZ h (by omega:d.length<=9223372036854775807)]
  ·have e:kN left i d[i]=d[i].kp:=by unfold kN;rw[aK hi];rfl
   have ib:g8 0 d[i].kp (d[i].t.size:aw)=true:=by have:=rn _ (bC h);simp[g8];omega
   simp only[l5,r5,Lib.dm,h,hi,h2,hLl,eB,aN,bj,Lib.cE,aM,au,ax,Lib.dX,JO h,WD h,WE h,cs,ci,ib,hs _ e.symm,Lib.cZ h (by omega:d.length<=9223372036854775807)]
 ·simp only[l5,r5,Lib.dm,bm,bj,ax]
end wR

namespace jN
def eo(l:aR)(i:aF):aX:=ni.v (bw (ar l i 0)) (bF (ar l i 1)) (bF (ar l i 2)) (bw (ar l i 3))
def tx(l:aR)(i:aF):aq:=jM.sV (bw (ar l i 0)) (bF (ar l i 1)) (bF (ar l i 2)) (bw (ar l i 3))
def fs(l:aR):aF->aF->aq->aC aq
 |0,_,acc=>ah acc
 |d+1,i,acc=>if eo l i=ai then fs l d (i+1) (acc++fJ.fr (tx l i))else aj
theorem G8(l:aR)(d i:aF)(acc:aq):fs l (d+1) i acc=if eo l i=ai then fs l d (i+1) (acc++fJ.fr (tx l i))else none:=rfl
def fin(o:aC aq)(kf:aC R)(kt:aq->aC R):aC R:=match o with|some x=>kt x|none=>kf
theorem Nc(l:aR)(hl:l.length<=1048576)(F:aF->aF->aq->aC R)(kf:aC R)(kt:aq->aC R)
  (hT:∀m i acc,i<l.length->acc.size<=2000*i->(fJ.fr (tx l i)).size<=2000->eo l i=ai->F (m+1) i acc=F m (i+1) (acc++fJ.fr (tx l i)))
  (hF:∀m i acc,i<l.length->eo l i=ak->F (m+1) i acc=kf) (hE:∀m acc,F (m+1) l.length acc=kt acc):F Lib.cU 0 ⟨#[]⟩=fin (fs l l.length 0 ⟨#[]⟩) kf kt:=by
 have:=Lib.g9 (λn (z:aF×aq)=>F n z.1 z.2) (λz=>l.length-z.1) (λz=>z.1<=l.length/\z.2.size<=2000*z.1) (λz=>fin (fs l (l.length-z.1) z.1 z.2) kf kt) (λm z hz=>by
  obtain⟨i,acc⟩:=z;obtain⟨h1,h2⟩:=hz;dsimp only at h1 h2⊢;by_cases h:i<l.length
  ·have e:l.length-i=(l.length-(i+1))+1:=by omega
   cases ho:eo l i with
   |true=>
    right;have hs:=mY.ue ho;have hf:(fJ.fr (tx l i)).size<=2000:=by have:=fJ.XF (t:=tx l i) (by unfold tx;omega);unfold tx at this⊢;omega
    exact⟨(i+1,acc++fJ.fr (tx l i)),⟨h,by dsimp only;rw[Lib.kj];omega⟩,by dsimp only;omega,by dsimp only;rw[e,G8,bz ho],hT m i acc h h2 hf ho⟩
   |false=>left;rw[hF m i acc h ho,e,G8,bH (by simp[ho])];rfl
  ·left;have:i=l.length:=by omega
   subst this;rw[hE,Nat.sub_self];rfl) Lib.cU (0,⟨#[]⟩) ⟨bI _,bI _⟩ (cG (by dsimp only;omega))
 simpa using this
def nm:aq:={data:= #[ay 110,ay 101,ay 119]}
def ki(has:aX)(x:aq):aR:=(if has=ai then [[CV.i ao 4,CV.s nm,CV.s {data:= #[]},CV.s {data:= #[]}]]else [])++[[CV.i ao 1,CV.s nm,CV.s x,CV.s {data:= #[]}],[CV.i ao 2,CV.s nm,CV.s {data:= #[]},CV.s {data:= #[]}],[CV.i ao 3,CV.s nm,CV.s {data:= #[]},CV.s {data:= #[ay 107,ay 101,ay 112,ay 116]}]]
def val(d l:aR):aR×aX:=bif gD.val d then(match fs l l.length 0 ⟨#[]⟩with|some x=>(ki (v7.val d nm).2 x,ai)|none=>([],ak))else([],ak)
theorem ok(d l:aR)(hd:d.length<=1048576)(hl:l.length<=1048576):c d l=ai/\v d l=val d l:=by
 refine out d l ?_;have k1:=gD.ok d (by omega);have k2:=v7.ok d {data:= #[ay 110,ay 101,ay 119]} (by omega);have e2:v7.val d {data:= #[ay 110,ay 101,ay 119]}=v7.val d nm:=rfl;unfold vo b val;rw[k1.1,k1.2,au];cases gD.val d with
 |false=>rfl
 |true=>
  rw[a_,ax,au,k2.1,au,k2.2,e2];have tr:∀(K0:aR->aX->aq->aw->aR->aR->aC (aR×aX)) (K1:aR->aX->aq->aw->aR->aC (aR×aX)) (base:aR) (kt:aq->aC (aR×aX)) (h0:∀x i,K0 l ak x i [] base=ah ([],ak)) (h1:∀x i,K1 l ak x i base=kt x),l9 Lib.cU K0 K1 Lib.cU l ak ⟨#[]⟩ 0 base=fin (fs l l.length 0 ⟨#[]⟩) (ah ([],ak)) kt:=by
   intro K0 K1 base kt h0 h1;refine Nc l hl (λm i acc=>l9 Lib.cU K0 K1 m l ak acc (i:aw) base) _ kt (λm i acc hi ha hf ho=> ?_) (λm i acc hi ho=> ?_) (λm acc=> ?_)
   ·have mi:bJ ((i:aw)+1)=((i+1:aF):aw):=de (by omega) (by omega);have t1:jM.v (bw (ar l i 0)) (bF (ar l i 1)) (bF (ar l i (1+1))) (bw (ar l i (1+1+1)))=(tx l i,ai):=by unfold jM.v;exact bz ho
    have f1:=fJ.ok (tx l i);have f2:fJ.val (tx l i)=(fJ.fr (tx l i),ai):=by unfold fJ.val;have q1:=mY.BK ho;have q2:=mY.ue ho;rw[bz ⟨q1,dh q2 (by omega)⟩]
    simp only[l9,r9,Lib.dm,Lib.cE,Lib.dX,hi,aN,aM,au,ax,t1,f1.1,f1.2,f2,a_,aE (show acc.size+(fJ.fr (tx l i)).size<=4611686018427387904 by omega),mi]
   ·have t1:jM.v (bw (ar l i 0)) (bF (ar l i 1)) (bF (ar l i (1+1))) (bw (ar l i (1+1+1)))=(⟨#[]⟩,ak):=by unfold jM.v;rw[bH (by intro h;have h':eo l i=true:=h;rw[ho]at h';cases h')]
    have f1:=fJ.ok ⟨#[]⟩;simp only[l9,r9,Lib.dm,Lib.cE,Lib.dX,hi,aN,aM,au,t1,f1.1,bR];exact h0 acc i
   ·simp only[l9,r9,Lib.dm,bm,bj,ax];exact h1 acc _
  cases hh:(v7.val d nm).2 with
  |true=>rw[au];refine(tr _ _ _ (λx=>ah (ki ai x,ai)) (λ_ _=>rfl) (λ_ _=>rfl)).trans ?_;cases fs l l.length 0 ⟨#[]⟩<;>rfl
  |false=>rw[ax];refine(tr _ _ _ (λx=>ah (ki ak x,ai)) (λ_ _=>rfl) (λ_ _=>rfl)).trans ?_;cases fs l l.length 0 ⟨#[]⟩<;>rfl
end jN

namespace pT
open Lib (re rd el En Fi)
open gT (kd kp EY tx H5 base bt qv auO)
open dI (ki act sQ nN put without Hs ra Ac)
open fY (So mC fy)
open wR (Lu O6 kN Ln)
abbrev rh:aq:={data:= #[ay 110,ay 101,ay 119]}
def tv(x:aq):az Ac:=[⟨1,rh,x,⟨#[]⟩⟩,⟨2,rh,⟨#[]⟩,⟨#[]⟩⟩,⟨3,rh,⟨#[]⟩,qv⟩]
theorem SC(T:aq):T.extract 0 T.size=T:=Lib.G0 T
theorem PN{d:az Fi}(h:sQ d=ai)(hk:∀f∈d,f.kp=(f.t.size:aw))(left:aR):Lu d left=ah d:=by
 unfold Lu;rw[h,au];congr 1;apply lT (by simp);intro i h1 h2;rw[List.getElem_mapIdx];have hf:=hk _ (bC h2);have hr:=Ln left i (f:=d[i]) ⟨by omega,by omega⟩;have e:kN left i d[i]=(d[i].t.size:aw):=by omega
 unfold O6;rw[e,dG,SC];cases hd:d[i];rw[hd]at hf;dsimp only at hf⊢;rw[hf]
theorem OY(o:aC aq):∀f∈base o,f.kp=(f.t.size:aw):=λf hf=>by
 cases o with
 |none=>cases hf
 |some t=>rw[aZ.1 hf]
theorem less:fy qv rh=true:=by unfold fy;rw[kE,kE];rfl
theorem aru(t:aq)(k:aw)(h1:t.size<=20000)(h2:0<=k/\k<=(t.size:aw)):nN ⟨rh,t,k⟩=true:=by unfold nN;have:((rh.size:aF):aw)=3:=rfl;rw[this,aE (by omega),aE h2,aK (by dsimp only;omega)];rfl
theorem HM{o:aC aq}{x:aq}{k:aw}(h:(bt o).size<=20000)(hx:x.size<=20000)(hk:0<=k/\k<=(x.size:aw)):sQ (base o++[⟨rh,x,k⟩])=true:=by
 refine dI.j5.2 ⟨?_,λf hf=> ?_, ?_⟩
 ·cases o<;>simp[base]
 ·rcases ba.1 hf with hf|hf
  ·exact(dI.j5.1 (gT.uB h)).2.1 f hf
  ·rw[aZ.1 hf];exact aru x k hx hk
 ·cases o with
  |none=>exact HX ..
  |some t=>exact qG.2 ⟨λy hy=>by rw[aZ.1 hy];exact less,HX ..⟩
theorem nKN:qv≠rh:=by decide
theorem SG(o:aC aq)(x:aq)(k:aw):(base o++[(⟨rh,x,k⟩:Fi)]).find? (λy=>decide (y.n=rh))=ah ⟨rh,x,k⟩:=by
 cases o with
 |none=>rfl
 |some t=>rw[show base (ah t)++[(⟨rh,x,k⟩:Fi)]=[⟨qv,t,t.size⟩,⟨rh,x,k⟩]from rfl,Kv (by simp[nKN]),List.find?_cons_of_pos (by simp)]
theorem aj4(o:aC aq):(base o).find? (λy=>decide (y.n=rh))=none:=by
 cases o with
 |none=>rfl
 |some t=>rw[show base (ah t)=[⟨qv,t,t.size⟩]from rfl,Kv (by simp[nKN]),List.find?_nil]
theorem alI(o:aC aq)(x:aq)(k:aw):put (base o) ⟨rh,x,k⟩=base o++[⟨rh,x,k⟩]:=by
 cases o with
 |none=>rfl
 |some t=>unfold put;rw[show base (ah t)=[⟨qv,t,t.size⟩]from rfl,dC (by simpa using less),cC (by simp[less])];rfl
theorem ags(o:aC aq)(x y:aq)(k m:aw):put (base o++[⟨rh,y,m⟩]) ⟨rh,x,k⟩=base o++[⟨rh,x,k⟩]:=by
 cases o with
 |none=>exact gT.xW rfl
 |some t=>unfold put;rw[show base (ah t)++[(⟨rh,y,m⟩:Fi)]=[⟨qv,t,t.size⟩,⟨rh,y,m⟩]from rfl,dC (by simpa using less),cC (by rw[dI.irrefl];simp),cC (by simp[less]),cC (by simp)];rfl
theorem mov(o:aC aq)(x:aq)(k:aw):put (without (base o++[⟨rh,x,k⟩]) rh) ⟨qv,x,k⟩=[⟨qv,x,k⟩]:=by
 have:without (base o++[⟨rh,x,k⟩]) rh=base o:=by
  unfold without;rw[gv,cC (by simp),List.filter_nil,dn,eK];intro f hf;cases o with
  |none=>cases hf
  |some t=>rw[aZ.1 hf];simp[nKN]
 rw[this];cases o with
 |none=>rfl
 |some t=>exact gT.xW rfl
theorem a1{o:aC aq}{x:aq}(h:(bt o).size<=20000)(hx:x.size<=20000):act (base o) 1 rh x ⟨#[]⟩=ah (base o++[⟨rh,x,0⟩]):=by
 unfold act;rw[gT.uB h,show dI.kh 1 x ⟨#[]⟩=ai from by unfold dI.kh;simp,aM,au];have hn:Hs (base o) 1 rh x ⟨#[]⟩=ah (base o++[⟨rh,x,0⟩]):=by unfold Hs;rw[aj4];dsimp only;rw[bz rfl,alI]
 rw[hn];dsimp only;rw[HM h hx ⟨by omega,by omega⟩];rfl
theorem a2{o:aC aq}{x:aq}(h:(bt o).size<=20000)(hx:x.size<=20000):act (base o++[⟨rh,x,0⟩]) 2 rh ⟨#[]⟩ ⟨#[]⟩=ah (base o++[⟨rh,x,x.size⟩]):=by
 unfold act;rw[HM h hx ⟨by omega,by omega⟩,show dI.kh 2 ⟨#[]⟩ ⟨#[]⟩=ai from by unfold dI.kh;simp,aM,au];have hn:Hs (base o++[⟨rh,x,0⟩]) 2 rh ⟨#[]⟩ ⟨#[]⟩=ah (base o++[⟨rh,x,x.size⟩]):=by unfold Hs;rw[SG];dsimp only;rw[bH (by omega),bz rfl,ags]
 rw[hn];dsimp only;rw[HM h hx ⟨by omega,by omega⟩];rfl
theorem a3{o:aC aq}{x:aq}(h:(bt o).size<=20000)(hx:x.size<=20000):act (base o++[⟨rh,x,x.size⟩]) 3 rh ⟨#[]⟩ qv=ah (base (ah x)):=by
 unfold act;rw[HM h hx ⟨by omega,by omega⟩,show dI.kh 3 ⟨#[]⟩ qv=ai from by unfold dI.kh;simp,aM,au];have hn:Hs (base o++[⟨rh,x,x.size⟩]) 3 rh ⟨#[]⟩ qv=ah (base (ah x)):=by unfold Hs;rw[SG];dsimp only;rw[bH (by omega),bH (by omega),bz rfl,bH (by rintro (h|h);exact h rfl;exact nKN h),mov];rfl
 rw[hn];dsimp only;rw[gT.uB (o:=ah x) hx];rfl
theorem arj{o:aC aq}{x:aq}(h:(bt o).size<=20000)(hx:x.size<=20000):ki (base o) 0 (tv x)=(base (ah x),3):=by unfold tv ki;dsimp only;rw[a1 h hx];dsimp only;unfold ki;dsimp only;rw[a2 h hx];dsimp only;unfold ki;dsimp only;rw[a3 h hx];rfl
theorem ae4(l:az En)(Nz:∀x∈l,EY x=ai):∀(d i:aF) (acc:aq),d+i=l.length->jN.fs (re l) d i acc=ah (acc++tx (l.drop i)):=by
 intro d;induction d with
 |zero=>
  intro i acc h;have:i=l.length:=by omega
  subst this;rw[dj];exact lO ah (qC).symm
 |succ d ih=>
  intro i acc h;have hi:i<l.length:=by omega
  have h0:jN.eo (re l) i=true:=by unfold jN.eo;rw[oE hi,qz hi,show ar (re l) i 2=CV.i ao (el l i).li from qA hi,show ar (re l) i 3=CV.s (el l i).bo from qB hi];exact Nz _ (kA hi)
  have h1:jN.tx (re l) i=gT.sV l[i]:=by unfold jN.tx;rw[oE hi,qz hi,show ar (re l) i 2=CV.i ao (el l i).li from qA hi,show ar (re l) i 3=CV.s (el l i).bo from qB hi,eN hi];rfl
  rw[jN.G8,bz h0,h1,ih (i+1) _ (by omega),dE hi,Dt];rfl
end pT

namespace jU
open Lib (En Fi Px Cl Fe el re rd rf rc rs rr)
open fY (So mC)
open dI (sQ ki Ac ra)
open gT (sV EY H5 tx kp base bt sE)
open pT (tv)
open wR (Lu)
def dk(o:aC (az En)):az Fi:=base (o.map tx)
def es(o:aC (az En)):az En:=o.getD []
theorem Iw(o:aC (az En)):bt (o.map tx)=tx (es o):=by cases o<;>rfl
theorem Cj(o:aC (az En)):(dk o).length<=1:=by cases o<;>simp[dk,base]
theorem EW{o:aC (az En)}(h:(tx (es o)).size<=20000):sQ (dk o)=true:=gT.uB (by rw[Iw];exact h)
theorem Xp{o:aC (az En)}(h:(tx (es o)).size<=20000)(left:aR):Lu (dk o) left=ah (dk o):=pT.PN (EW h) (pT.OY _) left
theorem Sx{o:aC (az En)}(h:(tx (es o)).size<=20000)(he:∀e∈es o,EY e=ai):(U61.c (rd (dk o))=ai/\U61.v (rd (dk o))=re (kp (es o)))/\(yL.c (rd (dk o))=ai/\yL.v (rd (dk o))=re (kp (es o))):=by refine gT.fk (dk o) (es o) ⟨#[]⟩ (EW h) ?_ he (.inl rfl);unfold dk;rw[gT.OX,Iw];exact(qC).symm
theorem Nh{o:aC (az En)}{e:En}(h:(tx (es o)).size+(H5 e).size<=20000):ki (dk o) 0 (sE (H5 e))=(dk (ah (es o++[e])),2):=by unfold dk;rw[gT.Tz (by rw[Iw];exact h),Iw,jh,gT.ZX]
theorem Ng{o:aC (az En)}{l:az En}(h:(tx (es o)).size<=20000)(hl:(tx l).size<=20000):ki (dk o) 0 (tv (tx l))=(dk (ah l),3):=pT.arj (by rw[Iw];exact h) hl
theorem aa2{o:aC (az En)}{l:az En}(hs:(tx (es o)).size<=20000)(Nz:∀x∈l,EY x=ai):jN.val (rd (dk o)) (re l)=(ra (tv (tx l)),ai):=by
 unfold jN.val;rw[show gD.val (rd (dk o))=ai from EW hs,au,dc,pT.ae4 l Nz l.length 0 ⟨#[]⟩ (by omega),e_];have zF:(v7.val (rd (dk o)) jN.nm).2=false:=by unfold dk;rw[gT.fileAt,show jN.nm=pT.rh from rfl,pT.aj4]
 dsimp only;rw[zF,show(⟨#[]⟩:aq)++tx l=tx l from lP];rfl
end jU

namespace dZ
open Lib (rr rs re rf rc Px En el)
open fY (So fS mC fy)
open kC (yB)
def J8:az aw:=[0,0,0,0,0,0,0,0,0,0,0,0,0,0,0,0]
def p0(now:aw):Px:=⟨now,[],[],[],[J8,J8,J8],0,[],[],0⟩
def mP(e:En)(now:aw):aX:=GN.v e.k e.st e.li e.bo now
def one(now:aw)(p:Px)(e:En):Px:=bif mP e now then yB p e else p
def qc(now:aw)(l:az En):Px:=l.foldl (one now) (p0 now)
structure Inv (now:aw) (i:aF) (p:Px):Prop where
 so:So p.en
 ks:∀e∈p.en,1<=e.k.size
 en:p.en.length<=i
 w:p.w.length<=i
 m:p.m.length<=i
 s:e6.lens p.s=[16,16,16]
 fe:p.fe=[]
 cl:p.cl=[]
 now:p.now=now
 hits:p.hits=0
theorem asy(now:aw):Inv now 0 (p0 now):=⟨gb,λe h=>(nomatch h),cF _,cF _,cF _,rfl,rfl,rfl,rfl,rfl⟩
theorem TF{s:az (az aw)}(h:e6.lens s=[16,16,16]):s.length=3/\(∀q∈s,q.length=16)/\(s.map bT).sum=48:=by
 refine⟨?_,λq hq=> ?_, ?_⟩
 ·have:=lO bT h;unfold e6.lens at this;simpa using this
 ·have:q.length∈e6.lens s:=cW.2 ⟨q,hq,rfl⟩;rw[h]at this;simpa using this
 ·rw[show s.map bT=[16,16,16]from h];rfl
theorem Inv.fit{now:aw}{i:aF}{p:Px}(h:Inv now i p){n:aF}(hn:i<=n)(h48:48<=n):p.Fit n:=by
 obtain⟨a,b,c⟩:=TF h.s;have hq:∀q∈p.s,q.length<=n:=λq hq=>by have:=b q hq;omega
 exact⟨dh h.en hn,dh h.w hn,dh h.m hn,⟨by omega,hq,by omega⟩,by rw[h.fe];exact bI _,by rw[h.cl];exact bI _⟩
theorem Inv.up{now:aw}{i:aF}{p:Px}(h:Inv now i p):Inv now (i+1) p:=⟨h.so,h.ks,nu h.en,nu h.w,nu h.m,h.s,h.fe,h.cl,h.now,h.hits⟩
theorem wv{en:az En}(h:So en)(e:En):So (mC en e):=by have:=(lN.xR (fY.CT h) e.k e.st e.li e.bo).1.1;rw[fY.tY]at this;unfold Lib.re at this;rw[jA]at this;exact this
theorem Inv.store{now:aw}{i:aF}{p:Px}(h:Inv now i p)(e:En)(he:1<=e.k.size):Inv now (i+1) (yB p e):=by
 obtain⟨b1,b2,b3⟩:=e6.Md p.w p.m p.s p.a e.k;have hw:=h.w;have hm:=h.m;have hn:=h.en;refine⟨?_, ?_, ?_,dh b1 (by omega),dh b2 (by omega),b3.trans h.s,h.fe,h.cl,h.now,h.hits⟩
 ·show So (bif _ then mC (fS p.en _) e else fS p.en _);cases fj.has (e6.val p.w p.m p.s p.a e.k).1 e.k||fj.has (e6.val p.w p.m p.s p.a e.k).2.1 e.k with
  |true=>exact wv (h.so.drop _) e
  |false=>exact h.so.drop _
 ·show∀x∈(bif _ then mC (fS p.en _) e else fS p.en _),1<=x.k.size;have hd:∀x∈fS p.en (e6.val p.w p.m p.s p.a e.k).2.2.2.2,1<=x.k.size:=λx hx=>h.ks x (c9.1 hx).1;cases fj.has (e6.val p.w p.m p.s p.a e.k).1 e.k||fj.has (e6.val p.w p.m p.s p.a e.k).2.1 e.k with
  |true=>
   intro x hx;rw[au]at hx;unfold mC at hx;rcases ba.1 hx with hx|hx
   ·rcases ba.1 hx with hx|hx
    ·exact hd x (c9.1 hx).1
    ·rw[aZ]at hx;rw[hx];exact he
   ·exact hd x (c9.1 hx).1
  |false=>exact hd
 ·show(bif _ then mC (fS p.en _) e else fS p.en _).length<=i+1;have d:=fY.xB p.en (e6.val p.w p.m p.s p.a e.k).2.2.2.2;have q:=fY.sa (fS p.en (e6.val p.w p.m p.s p.a e.k).2.2.2.2) e (h.so.drop _);cases fj.has (e6.val p.w p.m p.s p.a e.k).1 e.k||fj.has (e6.val p.w p.m p.s p.a e.k).2.1 e.k with
  |true=>rw[au];omega
  |false=>rw[ax];omega
theorem zD{e:En}{now:aw}(h:mP e now=ai):ni.v e.k e.st e.li e.bo=true:=by
 unfold mP GN.v at h;cases hq:ni.v e.k e.st e.li e.bo with
 |true=>rfl
 |false=>rw[show wP.v e.k e.st e.li e.bo=ak from hq]at h;cases h
theorem rS(now:aw)(l:az En):∀i,i<=l.length->Inv now i (qc now (l.take i)):=by
 intro i;induction i with
 |zero=>intro _;exact asy now
 |succ i ih=>
  intro hi;have h:=ih (by omega);have e:qc now (l.take (i+1))=one now (qc now (l.take i)) l[i]:=by unfold qc;rw[cu (by omega),kW];rfl
  rw[e];unfold one;cases hf:mP l[i] now with
  |true=>exact h.store _ (ni.Ef (zD hf)).1.1
  |false=>exact h.up
theorem yp(now:aw)(l:az En)(i:aF)(h:i<l.length):qc now (l.take (i+1))=one now (qc now (l.take i)) (el l i):=by unfold qc;rw[cu h,kW,eN h];rfl
end dZ

namespace fP
open Lib (rr rs re rf rc Px)
theorem ok(p:Px)(hp:p.Fit 1048576):c p.now (re p.en) (rs p.w) (rs p.m) (rr p.s) p.a (rf p.fe) (rc p.cl) p.hits=ai/\v p.now (re p.en) (rs p.w) (rs p.m) (rr p.s) p.a (rf p.fe) (rc p.cl) p.hits=(p.now,re p.en,rs p.w,rs p.m,rr p.s,p.a,rf p.fe,rc p.cl,p.hits):=by have he:=hp.en;have hf:=hp.fe;have hc:=hp.cl;have h2:=f_.ok p.w p.m p.s p.a hp.w hp.m ⟨hp.s.1,hp.s.2.1⟩;exact out _ _ _ _ _ _ _ _ _ (by unfold vo b;rw[h2.1,h2.2,au,Lib.ch (b:=48) (by simp[aP,dc];omega) (by simp[aP,dc];omega),Lib.ch (b:=56) (by simp[aP,dM];omega) (by simp[aP,dM];omega),Lib.ch (b:=72) (by simp[aP,fc];omega) (by simp[aP,fc];omega)];rfl)
end fP

namespace qK
open Lib (rr rs re rf rc Px)
def later(now n:aw):aw:=bif decide (now>1000000000-n%1000)then 1000000000 else bJ (now+n%1000)
def val(p:Px)(n:aw):Px:={p with now:=later p.now n}
theorem tm(n:aw):(0<=cy n 1000->cy n 1000=n%1000)/\(cy n 1000<0->cy n 1000+1000=n%1000):=by
 rw[Int.tmod_eq_emod];by_cases h:0<=n\/(1000:aw)∣n
 ·rw[bz h];constructor<;>omega
 ·rw[bH h];have hd:¬(1000:aw)∣n:=λx=>h (.inr x);have:n%1000≠0:=λe=>hd (Int.dvd_of_emod_eq_zero e);constructor<;>simp<;>omega
theorem ok(p:Px)(n:aw)(hp:p.Fit 1048576):c p.now (re p.en) (rs p.w) (rs p.m) (rr p.s) p.a (rf p.fe) (rc p.cl) p.hits n=ai/\v p.now (re p.en) (rs p.w) (rs p.m) (rr p.s) p.a (rf p.fe) (rc p.cl) p.hits n=((val p n).now,re p.en,rs p.w,rs p.m,rr p.s,p.a,rf p.fe,rc p.cl,p.hits):=by
 have h:=fP.ok p hp;refine out _ _ _ _ _ _ _ _ _ _ ?_;have t:=tm n;unfold vo b val later;simp only[Lib.lt,h.1,h.2,au];by_cases hn:cy n 1000<0
 ·have e:=t.2 hn;rw[aE hn,au,e,de (x:=n%1000) (by omega) (by omega),de (x:=1000000000-n%1000) (by omega) (by omega)];cases decide (p.now>1000000000-n%1000)<;>rfl
 ·have e:=t.1 (by omega);rw[aK hn,ax,e,de (x:=1000000000-n%1000) (by omega) (by omega)];cases decide (p.now>1000000000-n%1000)<;>rfl
end qK

namespace tl
open Lib (rr rs re rf rc Px Cl el Kh VY VZ V0 V1 V2 V3)
def val(p:Px)(id:aw):Px:={p with cl:=p.cl.filter λc=> !decide (c.id=id)}
theorem ok(p:Px)(id:aw)(hp:p.Fit 1048576):c p.now (re p.en) (rs p.w) (rs p.m) (rr p.s) p.a (rf p.fe) (rc p.cl) p.hits id=ai/\v p.now (re p.en) (rs p.w) (rs p.m) (rr p.s) p.a (rf p.fe) (rc p.cl) p.hits id=(p.now,re p.en,rs p.w,rs p.m,rr p.s,p.a,rf p.fe,rc (val p id).cl,p.hits):=by
 have h:=fP.ok p hp;have hc:=hp.cl;refine out _ _ _ _ _ _ _ _ _ _ ?_;unfold vo b;simp only[Lib.lt,h.1,h.2,au];have key:=mg p.cl.length (λn (i:aF) (x:aR)=>l4 Lib.cU (λ(_ _ _:aw) (_ _ _ _:aR) (_:aw) (_ _:aR) (_ _ _ _ y37 y38 y39:aw) (y40 y41 y42 y43 V9 y45:aR)=>ah (y37,y40,y41,y42,y43,y38,V9,y45,y39)) n id (i:aw) p.now (re p.en) (rs p.w) (rs p.m) (rr p.s) p.a (rf p.fe) (rc p.cl) p.hits 0 0 0 p.now p.a p.hits (re p.en) (rs p.w) (rs p.m) (rr p.s) (rf p.fe) x) (λi=>rc ((p.cl.take i).filter λc=> !decide (c.id=id))) (ah (p.now,re p.en,rs p.w,rs p.m,rr p.s,p.a,rf p.fe,rc (val p id).cl,p.hits)) (λn i hi=>by
  have hlen:((p.cl.take i).filter λc=> !decide (c.id=id)).length<=i:=by refine dh (eC ..) ?_;rw[eD];omega
  have e:(p.cl.take (i+1)).filter (λc=> !decide (c.id=id))=(p.cl.take i).filter (λc=> !decide (c.id=id))++(bif !decide ((el p.cl i).id=id)then [el p.cl i]else []):=by rw[cu hi,gv,eN hi];cases hd:decide (p.cl[i].id=id)<;>simp[hd]
  rw[e];simp only[l4,r4,fc,Lib.dm,hi,aN,Lib.cE,aM,au,Lib.dX,Kh hi,VY hi,VZ hi,V0 hi,V1 hi,V2 hi,V3 hi,bw,bF,pR,bA,Lib.cZ hi (by omega:p.cl.length<=9223372036854775807)];rw[Lib.ch (by omega) (by omega),au,show((el p.cl i).id !=id)= !decide ((el p.cl i).id=id)from rfl];cases decide ((el p.cl i).id=id)with
  |true=>rw[a_,ax,ax,dn]
  |false=>rw[bR,au,au];unfold Lib.rc;rw[di];rfl) (λn=>by
  simp only[l4,r4,fc,Lib.dm,bm,bj,ax,dD];rfl) Lib.cU 0 (bI _) (cG (by omega))
 exact key
end tl

namespace gE
open Lib (En Fi Px Cl Fe el)
open gT (kp EY)
open s7 (cls kG)
open gq (Cd C3)
open im (lC)
open jU (dk es)
structure Wo where
 p:Px
 o:aC (az En)
 cd:az aw
 bd:az En
structure Ev where
 k:aw
 id:aw
 t:aq
 n:aw
 l:aR
def flag(b:aX):aw:=bif b then 0 else 1
def js(w:Wo):az En:=(kp (es w.o)).filter λe=>dZ.mP e w.p.now
def closed(w:Wo)(id life:aw):Wo×aw:=
 let q:=cls w.p id life
 (bif q.2&&decide (life>0)then{w with p:=q.1,o:=ah (es w.o++[kG (el q.1.fe id.toNat)]),bd:=w.bd++[kG (el q.1.fe id.toNat)]}else{w with p:=q.1},flag q.2)
def tG(w:Wo):Wo:={w with p:=dZ.qc w.p.now (js w),o:=ah (js w)}
def act(w:Wo)(e:Ev):Wo×aw:=
 bif decide (e.k=1)then({w with p:=(im.ask w.p e.id e.t).1},(im.ask w.p e.id e.t).2)
 else bif decide (e.k=2)then({w with p:=(C3 w.p e.id e.t).1},flag (C3 w.p e.id e.t).2)
 else bif decide (e.k=3)then closed w e.id (e.n%1000000)
 else bif decide (e.k=4)then({w with p:=(Cd w.p e.id).1},flag (Cd w.p e.id).2)
 else bif decide (e.k=5)then({w with p:=qK.val w.p e.n},0)
 else bif decide (e.k=6)then({w with p:=tl.val w.p e.id},flag (lC w.p.cl e.id))
 else(tG w,0)
def step(w:Wo)(e:Ev):Wo:={(act w e).1 with cd:=w.cd++[(act w e).2]}
def iA(e:Ev):aX:=decide (1<=e.k/\e.k<=7)&&(decide (0<=e.id/\e.id<=30)&&(decide (e.t.size<=60)&&(decide (0<=e.n)&&decide (e.l.length<=4))))
end gE

namespace rj
open Lib (Px Cl Fe En el)
open fj (has gK)
open jC (eR sR)
open nU (vl H3 Nj)
open np (nN lF apart)
open pj (H2 jd)
open fY (So fy)
def IC(now:aw)(nf:aF)(c:Cl):aX:=
 decide (1<=c.id/\c.id<=9)&&(eR c.k&&(decide (1<=c.sta/\c.sta<=3)&&(decide (0<=c.fe/\c.fe<=(nf:aw))&&(decide ((c.mQ.size:aw)<=400)&&(decide (0<=c.fr/\c.fr<=now)&&decide (0<=c.age))))))
structure g7 (p:Px):Prop where
 now:1<=p.now/\p.now<=1000000000
 en:∀e∈p.en,vl e=ai
 so:So p.en
 ek:∀e∈p.en,e.k∈p.w\/e.k∈p.m
 pol:sR p.w p.m p.s p.a=ai
 len:p.w.length+p.m.length=p.en.length
 fl:p.fe.length<=20
 fe:∀f∈p.fe,nN p.now f=ai
 ap:p.fe.Pairwise λf g=>lF g f=ak
 cll:p.cl.length<=6
 cl:∀c∈p.cl,IC p.now p.fe.length c=ai
 cs:p.cl.Pairwise λc d=>c.id<d.id
 hits:0<=p.hits/\p.hits<=1000000000
theorem UN{α:Type}(R:α->α->Prop)(tr:∀x y z,R x y->R y z->R x z)(l:az α)(h:∀i (hi:i+1<l.length),R (l[i]) (l[i+1])):l.Pairwise R:=by
 rw[dB];have adj:∀d i (hi:i+d+1<l.length),R (l[i]) (l[i+d+1]):=by
  intro d;induction d with
  |zero=>intro i hi;exact h i hi
  |succ d ih=>intro i hi;exact tr _ _ _ (ih i (by omega)) (h (i+d+1) (by omega))
 intro i j hi hj Pv;have:=adj (j-i-1) i (by omega);simp only[show i+(j-i-1)+1=j by omega]at this;exact this
theorem Lt(x y z:aq)(a:fy x y=ai)(b:fy y z=ai):fy x z=true:=lN.po _ _ _ a b
theorem alA{p:Px}(h:jd p=ai):g7 p:=by
 obtain⟨h1,h2,h3,h4,h5,h6,h7⟩:_/\_/\_/\_/\_/\_/\_:=by unfold jd at h;simpa only[aL,bf,bu,gV]using h
 obtain⟨g1,g2,g3⟩:_/\_/\_:=by unfold Nj at h2;simpa only[aL,bf,bu,gV]using h2
 have e1:∀i (hi:i<p.en.length),vl p.en[i]=ai/\(0<i->fy (el p.en (i-1)).k p.en[i].k=ai)/\(p.en[i].k∈p.w\/p.en[i].k∈p.m):=λi hi=>by have:=g1 i hi;unfold H3 at this;simp only[aL,dL,bf,eN hi,gK]at this;exact⟨this.1,λh0=>this.2.1.resolve_left (by omega),this.2.2⟩
 have c1:∀i (hi:i<p.cl.length),IC p.now p.fe.length p.cl[i]=ai/\(0<i->(el p.cl (i-1)).id<p.cl[i].id):=λi hi=>by have:=h7 i hi;unfold H2 at this;unfold IC;simp only[aL,dL,bf,eN hi]at this⊢;exact⟨⟨this.1,this.2.2⟩,λh0=>this.2.1.resolve_left (by omega)⟩
 have f1:∀i (hi:i<p.fe.length),nN p.now p.fe[i]=ai/\∀j (hj:j<i),lF p.fe[i] (p.fe[j]'(by omega))=false:=λi hi=>by
  have:=h6 i hi;unfold apart at this;simp only[bu,gV,eN hi]at this;refine⟨this.1,λj hj=> ?_⟩
  have h:=this.2 j hj;rw[eN (show j<p.fe.length by omega)]at h;simpa using h
 refine⟨h1,λe he=> ?_, ?_,λe he=> ?_,g2,g3,h3,λf hf=> ?_, ?_,h4,λc hc=> ?_, ?_,h5⟩
 ·obtain⟨i,hi,rfl⟩:=c6 he;exact(e1 i hi).1
 ·refine UN (λx y:En=>fy x.k y.k=ai) (λx y z a b=>Lt _ _ _ a b) p.en λi hi=> ?_;have:=(e1 (i+1) hi).2.1 (by omega);rw[Qu,eN (show i<p.en.length by omega)]at this;exact this
 ·obtain⟨i,hi,rfl⟩:=c6 he;exact(e1 i hi).2.2
 ·obtain⟨i,hi,rfl⟩:=c6 hf;exact(f1 i hi).1
 ·rw[dB];intro i j hi hj Pv;exact(f1 j hj).2 i Pv
 ·obtain⟨i,hi,rfl⟩:=c6 hc;exact(c1 i hi).1
 ·refine UN (λc d:Cl=>c.id<d.id) (λx y z a b=>Int.lt_trans a b) p.cl λi hi=> ?_;have:=(c1 (i+1) hi).2 (by omega);rw[Qu,eN (show i<p.cl.length by omega)]at this;exact this
theorem aj6{p:Px}(h:g7 p):jd p=true:=by
 unfold jd Nj;simp only[aL,bf,bu,gV];refine⟨h.now,⟨λi hi=> ?_,h.pol,h.len⟩,h.fl,h.cll,h.hits,λi hi=>⟨?_, ?_⟩,λi hi=> ?_⟩
 ·unfold H3;simp only[aL,dL,bf,eN hi,gK];refine⟨h.en _ (bC hi), ?_,h.ek _ (bC hi)⟩
  by_cases h0:i=0
  ·exact .inl h0
  ·right;rw[eN (show i-1<p.en.length by omega)];exact dB.1 h.so (i-1) i (by omega) hi (by omega)
 ·rw[eN hi];exact h.fe _ (bC hi)
 ·unfold apart;simp only[bu,gV];intro j hj;rw[eN hi,eN (show j<p.fe.length by omega),dB.1 h.ap j i (by omega) hi hj];rfl
 ·have hc:=h.cl _ (bC hi);unfold IC at hc;unfold H2;simp only[aL,dL,bf,eN hi]at hc⊢;refine⟨hc.1, ?_,hc.2⟩
  by_cases h0:i=0
  ·exact .inl h0
  ·right;rw[eN (show i-1<p.cl.length by omega)];exact dB.1 h.cs (i-1) i (by omega) hi (by omega)
theorem oh{p:Px}:jd p=ai↔g7 p:=⟨alA,aj6⟩
end rj

namespace H9
open fj (has without gK lM)
open jC (eR nI sR)
open fF (ot NQ sG)
theorem jH{w m:az aq}{s:az (az aw)}{a:aw}:sR w m s a=ai↔((∀k∈w++m,eR k=ai)/\(w++m).Nodup)/\w.length<=2/\m.length<=4/\ot s a=true:=by unfold sR;rw[aL,aL,aL,bf,bf,e6.wj]
theorem HH{s:az (az aw)}{a:aw}:ot s a=ai↔s.length=3/\(0<=a/\a<=63)/\∀q∈s,q.length=16/\∀n∈q,0<=n/\n<=15:=by unfold ot sG NQ;simp only[aL,bf,bu]
theorem LX{s:az (az aw)}{a:aw}(key:aq)(h:ot s a=ai):ot (dv.val s a key).1 (dv.val s a key).2=true:=by
 unfold dv.val;rw[h,au];obtain⟨h1,h2,h3⟩:=HH.1 h;obtain⟨b1,b2⟩:=dv.tB (key:=key) h1 h3;by_cases ha:a+1=64
 ·rw[aE ha,au,HH];unfold dv.half;refine⟨by rw[bU];exact b1,by omega,λq hq=> ?_⟩
  obtain⟨r,hr,rfl⟩:=cW.1 hq;refine⟨by rw[bU];exact(b2 r hr).1,λn hn=> ?_⟩
  obtain⟨k,hk,rfl⟩:=cW.1 hn;have:=(b2 r hr).2 k hk;rw[ie this.1];omega
 ·rw[aK ha,ax,HH];exact⟨b1,by omega,b2⟩
theorem Hr{k:aq}(h:eR k=ai):k≠⟨#[]⟩:=by intro e;rw[e]at h;exact cJ h (by decide)
theorem ud{w m:az aq}{s:az (az aw)}{a:aw}{key:aq}(h:sR w m s a=ai)(hk:eR key=ai):
  sR (e6.val w m s a key).1 (e6.val w m s a key).2.1 (e6.val w m s a key).2.2.1 (e6.val w m s a key).2.2.2.1=ai
  /\∀x,x∈(e6.val w m s a key).1\/x∈(e6.val w m s a key).2.1↔(x∈w\/x∈m\/x=key)/\x≠(e6.val w m s a key).2.2.2.2:=by
 obtain⟨⟨k1,nd⟩,l1,l2,hs⟩:=jH.1 h;have NC:=LX key hs;have kn:=Hr hk;have wn:∀x,x∈w\/x∈m->x≠⟨#[]⟩:=λx hx=>Hr (k1 x (ba.2 hx));unfold e6.val;rw[h,hk,aM,au];generalize dv.val s a key=V at NC;obtain⟨S,A⟩:=V;dsimp only at NC⊢;rw[eQ]at nd;obtain⟨n1,n2,n3⟩:=nd;have hwo:∀l:az aq,l.Nodup->(without l key).Nodup/\(∀x,x∈without l key↔x∈l/\x≠key):=λl hl=>by unfold without;exact⟨hl.sublist jR,λx=>by simp⟩
 cases h1:has w key with
 |true=>
  have hm:=gK.1 h1;obtain⟨o1,o2⟩:=hwo w n1;have o3:=fj.pH h1;dsimp only[au];refine⟨jH.2 ⟨⟨λk hx=> ?_, ?_⟩,by simp;omega,l2,NC⟩,λx=> ?_⟩
  ·simp only[ba,aZ,o2]at hx;rcases hx with (hx|rfl)|hx
   ·exact k1 _ (ba.2 (.inl hx.1))
   ·exact hk
   ·exact k1 _ (ba.2 (.inr hx))
  ·simp only[eQ,ba,aZ,o2];grind
  ·simp only[ba,aZ,o2];grind
 |false=>
  rw[ax];have hw:=lM.1 h1;cases h2:has m key with
  |true=>
   have hm:=gK.1 h2;obtain⟨o1,o2⟩:=hwo m n2;have o3:=fj.pH h2;dsimp only[au];refine⟨jH.2 ⟨⟨λk hx=> ?_, ?_⟩,l1,by simp;omega,NC⟩,λx=> ?_⟩
   ·simp only[ba,aZ,o2]at hx;rcases hx with hx|hx|rfl
    ·exact k1 _ (ba.2 (.inl hx))
    ·exact k1 _ (ba.2 (.inr hx.1))
    ·exact hk
   ·simp only[eQ,ba,aZ,o2];grind
   ·simp only[ba,aZ,o2];grind
  |false=>
   rw[ax];have hmn:=lM.1 h2;have n5:∀x,x∈w++[key]\/x∈m↔x∈w\/x∈m\/x=key:=λx=>by simp only[ba,aZ];grind
   have SY:∀x,x∈w++[key]\/x∈m->eR x=true:=λx hx=>by
    rcases(n5 x).1 hx with hx|hx|rfl
    ·exact k1 _ (ba.2 (.inl hx))
    ·exact k1 _ (ba.2 (.inr hx))
    ·exact hk
   have Jk:(w++[key]).Nodup/\∀x∈w++[key],x∉m:=by simp only[eQ,ba,aZ];grind
   have hlen:(w++[key]).length=w.length+1:=by simp
   generalize w++[key]=W at n5 SY Jk hlen;obtain⟨d1,d2⟩:=Jk;by_cases h3:W.length<=2
   ·rw[aE h3,au];refine⟨jH.2 ⟨⟨λk hx=>SY k (ba.1 hx), ?_⟩,h3,l2,NC⟩,λx=> ?_⟩
    ·simp only[eQ];grind
    ·dsimp only;rw[n5];grind
   ·rw[aK h3,ax];cases W with
    |nil=>simp at hlen
    |cons x0 t=>
     rw[lh]at d1;rw[db]at hlen;have hg:(x0::t).getD 0 ⟨#[]⟩=x0:=rfl;have ht:(x0::t).tail=t:=rfl;rw[hg,ht];by_cases h4:m.length<4
     ·rw[aE h4,au];refine⟨jH.2 ⟨⟨λk hx=>SY k ?_, ?_⟩,by dsimp only;omega,by simp;omega,NC⟩,λx=> ?_⟩
      ·simp only[ba,aZ,cB]at hx⊢;grind
      ·simp only[eQ,ba,aZ,cB]at d2⊢;grind
      ·dsimp only;rw[<-n5];simp only[ba,aZ,cB];grind
     ·rw[aK h4,ax];cases m with
      |nil=>simp at h4
      |cons y0 u=>
       rw[lh]at n2;rw[db]at l2 h4;have hg2:(y0::u).getD 0 ⟨#[]⟩=y0:=rfl;have Hf:(y0::u).tail=u:=rfl;rw[hg2,Hf];cases decide (mL.val S A x0>mL.val S A y0)with
       |true=>
        rw[au];refine⟨jH.2 ⟨⟨λk hx=>SY k ?_, ?_⟩,by dsimp only;omega,by simp;omega,NC⟩,λx=> ?_⟩
        ·simp only[ba,aZ,cB]at hx⊢;grind
        ·simp only[eQ,ba,aZ,cB]at d2⊢;grind
        ·dsimp only;rw[<-n5];simp only[ba,aZ,cB]at d2⊢;grind
       |false=>
        rw[ax];refine⟨jH.2 ⟨⟨λk hx=>SY k ?_, ?_⟩,by dsimp only;omega,by simp;omega,NC⟩,λx=> ?_⟩
        ·simp only[ba,cB]at hx⊢;grind
        ·simp only[eQ,lh,cB]at d2⊢;grind
        ·dsimp only;rw[<-n5];simp only[cB]at d2⊢;grind
end H9

namespace z_
open Lib (Px Cl Fe En el)
open fj (has without gK lM)
open jC (eR sR)
open nU (vl)
open np (nN lF)
open pj (jd)
open fY (So fy fS mC)
open kC (yB)
open rj (g7 IC oh)
open H9 (jH ud)
open gq (s6 told Cd C3 iT)
theorem aaZ{p:Px}(h:g7 p){n:aw}(h1:p.now<=n)(h2:n<=1000000000):g7 {p with now:=n}:=by
 have:=h.now;refine⟨⟨by dsimp only;omega,h2⟩,h.en,h.so,h.ek,h.pol,h.len,h.fl,λf hf=> ?_,h.ap,h.cll,λc hc=> ?_,h.cs,h.hits⟩
 ·have:=h.fe f hf;unfold nN at this⊢;simp only[aL,bf]at this⊢;exact⟨this.1,this.2.1,this.2.2.1,this.2.2.2.1,this.2.2.2.2.1,BV this.2.2.2.2.2 h1⟩
 ·have:=h.cl c hc;unfold IC at this⊢;simp only[aL,bf]at this⊢;exact⟨this.1,this.2.1,this.2.2.1,this.2.2.2.1,this.2.2.2.2.1,⟨this.2.2.2.2.2.1.1,BV this.2.2.2.2.2.1.2 h1⟩,this.2.2.2.2.2.2⟩
theorem BJ{p:Px}{n:aF}{g:Fe}{st:aw}(h:g7 p)(hn:n<p.fe.length)(hk:g.k=(el p.fe n).k)(hg:nN p.now g=ai)(hs:g.sta=1->(el p.fe n).sta=1)(h1:1<=st/\st<=3):g7 (told p n g st):=by
 rw[eN hn]at hk hs;refine⟨h.now,h.en,h.so,h.ek,h.pol,h.len, ?_,λf hf=> ?_, ?_, ?_,λc hc=> ?_, ?_,h.hits⟩
 ·show(p.fe.set n g).length<=20;rw[cD];exact h.fl
 ·rcases jL hf with q|rfl
  ·exact h.fe f q
  ·exact hg
 ·show(p.fe.set n g).Pairwise _;rw[dB];intro i j hi hj Pv;rw[cD]at hi hj;have:=dB.1 h.ap i j hi hj Pv;rw[R3,R3];unfold lF at this⊢;by_cases e1:n=i
  ·by_cases e2:n=j
   ·omega
   ·subst e1;simp only[if_true,e2,if_false];rw[hk];by_cases e3:g.sta=1
    ·rw[hs e3]at this;rw[e3];exact this
    ·rw[aK e3];simp
  ·by_cases e2:n=j
   ·subst e2;simp only[e1,if_true,if_false];rw[hk];by_cases e3:g.sta=1
    ·rw[hs e3]at this;rw[e3];exact this
    ·rw[aK e3];simp
   ·simp only[e1,e2,if_false];exact this
 ·show(uU.nY p.cl n st g.t).length<=6;unfold uU.nY;rw[bU];exact h.cll
 ·have Jc:c∈uU.nY p.cl n st g.t:=hc;unfold uU.nY at Jc;obtain⟨d,hd,rfl⟩:=cW.1 Jc;have h2:=h.cl d hd;show IC p.now (p.fe.set n g).length _=ai;rw[cD];unfold uU.ec;cases decide (d.fe=(n:aw)+1)&&decide (d.sta=1)with
  |false=>exact h2
  |true=>rw[au];unfold IC at h2⊢;unfold nN at hg;simp only[aL,bf]at h2 hg⊢;exact⟨h2.1,h2.2.1,h1,h2.2.2.2.1,hg.2.1,h2.2.2.2.2.2⟩
 ·show(uU.nY p.cl n st g.t).Pairwise _;unfold uU.nY;rw[jA];refine h.cs.imp λ{a b} XJ=> ?_;have e:∀d:Cl,(uU.ec n st g.t d).id=d.id:=λd=>by unfold uU.ec;cases decide (d.fe=(n:aw)+1)&&decide (d.sta=1)<;>rfl
  rw[e,e];exact XJ
theorem IZ{p:Px}(h:g7 p){n:aF}(hn:n<p.fe.length):eR (el p.fe n).k=ai/\((el p.fe n).t.size:aw)<=400/\(1<=(el p.fe n).sta/\(el p.fe n).sta<=3)/\(0<=(el p.fe n).li/\(el p.fe n).li<=999999)/\0<=(el p.fe n).st/\(el p.fe n).st<=p.now:=by have:=h.fe _ (kA hn);unfold nN at this;simpa only[aL,bf]using this
theorem Sm{p:Px}(f:aw)(h:g7 p):g7 (Cd p f).1:=by
 unfold Cd;cases ho:s6 p f with
 |false=>exact h
 |true=>obtain⟨n,rfl,hn,_,h1⟩:=iT ho;obtain⟨g1,g2,g3,g4,g5⟩:=IZ h hn;refine BJ h hn rfl ?_ (λe=>cJ e (by dsimp only;omega)) (by omega);unfold nN;simp only[aL,bf];exact⟨g1,g2,by omega,g4,g5⟩
theorem UM{p:Px}(f:aw)(t:aq)(h:g7 p):g7 (C3 p f t).1:=by
 unfold C3;cases ho:s6 p f&&(decide (1<=t.size/\t.size<=40)&&decide ((el p.fe f.toNat).t.size+t.size<=400))with
 |false=>exact h
 |true=>
  simp only[aL,bf]at ho;obtain⟨n,rfl,hn,_,h1⟩:=iT ho.1;obtain⟨g1,g2,g3,g4,g5⟩:=IZ h hn;rw[dG]at ho;refine BJ h hn rfl ?_ (λ_=>h1) (by omega);unfold nN;simp only[aL,bf];refine⟨g1, ?_,g3,g4,g5⟩
  show((((el p.fe n).t++t).size:aF):aw)<=400;rw[dJ];omega
def OR(en:az En)(w m:az aq):Prop:=∀k,k∈w\/k∈m↔∃e∈en,e.k=k
theorem yA{en:az En}(h:So en):(en.map λe=>e.k).Nodup:=by rw[lK,jA];refine h.imp λ{a b} XJ e=> ?_;rw[e]at XJ;unfold fy at XJ;rw[lN.oZ]at XJ;cases XJ
theorem BG{p:Px}(h:g7 p):OR p.en p.w p.m:=by
 obtain⟨⟨_,nd⟩,_⟩:=jH.1 h.pol;have ne:=yA h.so;have sub:(p.en.map λe=>e.k)⊆p.w++p.m:=λx hx=>by obtain⟨e,he,rfl⟩:=cW.1 hx;exact ba.2 (h.ek e he)
 intro k;constructor
 ·intro hk;have hk:k∈p.w++p.m:=ba.2 hk;refine AF λhn=> ?_;have nn:(k::p.en.map λe=>e.k).Nodup:=lh.2 ⟨λhx=>hn (by obtain⟨e,he,q⟩:=cW.1 hx;exact⟨e,he,q⟩),ne⟩;have:=nn.length_le_of_subset (l₂:=p.w++p.m) (λx hx=>by
   rcases cB.1 hx with rfl|hx
   ·exact hk
   ·exact sub hx)
  have hl:=h.len;simp only[db,bU,bP]at this;omega
 ·rintro ⟨e,he,rfl⟩;exact h.ek e he
theorem of_same{en:az En}{w m:az aq}{s:az (az aw)}{a:aw}(h:OR en w m)(so:So en)(hp:sR w m s a=ai):(∀e∈en,e.k∈w\/e.k∈m)/\w.length+m.length=en.length:=by
 obtain⟨⟨_,nd⟩,_⟩:=jH.1 hp;refine⟨λe he=>(h _).2 ⟨e,he,rfl⟩, ?_⟩
 have:=((List.perm_ext_iff_of_nodup nd (yA so)).2 λx=>by rw[ba,h x,cW]).length_eq;rw[bP,bU]at this;exact this
theorem jr{en:az En}{k:aq}{e:En}:e∈fS en k↔e∈en/\e.k≠k:=by unfold fS;simp
theorem j6{en:az En}{x e:En}:x∈mC en e↔x=e\/(x∈en/\x.k≠e.k):=by
 unfold mC;simp only[ba,c9,aZ,dr,iJ,fu];constructor
 ·rintro ((⟨h1,h2⟩|rfl)|⟨h1,h2⟩)
  ·refine .inr ⟨h1,λe2=> ?_⟩;rw[e2]at h2;unfold fy at h2;rw[lN.oZ]at h2;cases h2
  ·exact .inl rfl
  ·exact .inr ⟨h1,h2.2⟩
 ·rintro (rfl|⟨h1,h2⟩)
  ·exact .inl (.inr rfl)
  ·cases hl:fy x.k e.k with
   |true=>exact .inl (.inl ⟨h1,rfl⟩)
   |false=>exact .inr ⟨h1,rfl,h2⟩
theorem wv{en:az En}(h:So en)(e:En):So (mC en e):=by have:=(lN.xR (fY.CT h) e.k e.st e.li e.bo).1.1;rw[fY.tY]at this;unfold Lib.re at this;rw[jA]at this;exact this
theorem Ma{p:Px}{e:En}(h:g7 p)(he:vl e=ai):g7 (yB p e):=by
 have hk:eR e.k=true:=by have:=(ni.Ef he).1;unfold eR;exact aE (by omega)
 obtain⟨t1,t2⟩:=ud h.pol hk;have sm:=BG h;unfold yB;generalize e6.val p.w p.m p.s p.a e.k=V at t1 t2;obtain⟨W,M,S,A,G⟩:=V;dsimp only at t1 t2⊢;have key:∀en',So en'->(∀x∈en',vl x=ai)->OR en' W M->g7 ⟨p.now,en',W,M,S,A,p.fe,p.cl,p.hits⟩:=λen' o1 o2 o3=>by obtain⟨q1,q2⟩:=of_same o3 o1 t1;exact⟨h.now,o2,o1,q1,t1,q2,h.fl,h.fe,h.ap,h.cll,h.cl,h.cs,h.hits⟩
 have d1:So (fS p.en G):=h.so.drop G;have d2:∀x∈fS p.en G,vl x=true:=λx hx=>h.en x (jr.1 hx).1;cases hh:has W e.k||has M e.k with
 |true=>
  rw[au];have gg:e.k∈W\/e.k∈M:=by rwa[dL,gK,gK]at hh
  refine key _ (wv d1 e) (λx hx=> ?_) λk=> ?_
  ·rcases j6.1 hx with rfl|q
   ·exact he
   ·exact d2 x q.1
  ·rw[t2 k];have hg:=((t2 e.k).1 gg).2;constructor
   ·rintro ⟨q,hn⟩;by_cases e1:k=e.k
    ·exact⟨e,j6.2 (.inl rfl),e1.symm⟩
    ·have q2:k∈p.w\/k∈p.m:=q.elim .inl λq=>q.elim .inr λq=>cJ q e1;obtain⟨x,hx,rfl⟩:=(sm k).1 q2;exact⟨x,j6.2 (.inr ⟨jr.2 ⟨hx,hn⟩,e1⟩),rfl⟩
   ·rintro ⟨x,hx,rfl⟩;rcases j6.1 hx with rfl|q
    ·exact⟨.inr (.inr rfl),hg⟩
    ·obtain⟨q1,q2⟩:=jr.1 q.1;exact⟨((sm x.k).2 ⟨x,q1,rfl⟩).elim .inl λz=> .inr (.inl z),q2⟩
 |false=>
  rw[ax];have gg:¬(e.k∈W\/e.k∈M):=by rw[<-gK,<-gK,<-dL,hh];simp
  have hg:e.k=G:=AF λhn=>gg ((t2 e.k).2 ⟨.inr (.inr rfl),hn⟩);refine key _ d1 d2 λk=> ?_;rw[t2 k];constructor
  ·rintro ⟨q,hn⟩;have q2:k∈p.w\/k∈p.m:=q.elim .inl λq=>q.elim .inr λq=>cJ (q.trans hg) hn;obtain⟨x,hx,rfl⟩:=(sm k).1 q2;exact⟨x,jr.2 ⟨hx,hn⟩,rfl⟩
  ·rintro ⟨x,hx,rfl⟩;obtain⟨q1,q2⟩:=jr.1 hx;exact⟨((sm x.k).2 ⟨x,q1,rfl⟩).elim .inl λz=> .inr (.inl z),q2⟩
end z_

namespace vT
theorem eq(k:aq)(s l:aw)(b:aq)(n:aw):GN.v k s l b n=vT.v k s l b n:=by
 have e:wP.v k s l b=ni.v k s l b:=rfl;unfold GN.v vT.v;rw[e];cases h:ni.v k s l b with
 |false=>rfl
 |true=>
  have hs:(0<=s/\s<=1000000000)/\1<=l/\l<=999999:=by unfold ni.v at h;cases h1:tf.v k<;>rw[h1]at h<;>simp only[au,ax,dx]at h;cases h2:km.v s 0 1000000000<;>rw[h2]at h<;>simp only[au,ax,dx]at h;cases h3:km.v l 1 999999<;>rw[h3]at h<;>simp only[au,ax,dx]at h;simp[km.v]at h2 h3;omega
  simp only[au,R9.v,lB.v,km.v,cL,bf];by_cases h1:0<=n/\n<=1000000000
  ·rw[iI (x:=n-s) (by omega) (by omega),iI (x:=s+l) (by omega) (by omega),iI (x:=s+l-1) (by omega) (by omega)];by_cases h2:s<=n<;>by_cases h3:n-s<l<;>simp[h1,h2,h3]<;>omega
  ·by_cases h2:s<=n<;>by_cases h3:0<=n<;>by_cases h4:n<=1000000000<;>simp[h2,h3,h4]<;>omega
end vT

namespace FI
open Lib (Px Cl Fe En el)
open fj (has without gK lM)
open jC (eR sR)
open nU (vl)
open np (nN lF)
open pj (jd)
open fY (So fy fS mC)
open rj (g7 IC oh)
open H9 (jH ud LX Hr)
open z_ (OR BG of_same jr)
open im (hit sP put H4 N1 Fs lC jn rW mP)
theorem ZW(l:az Cl)(n:aw):(l.filter λx=>decide (x.id<n)).length+(l.filter λx=>decide (x.id>n)).length<=l.length:=by
 induction l with
 |nil=>exact cF _
 |cons y l ih=>
  simp only[List.filter_cons];by_cases h1:y.id<n
  ·rw[aE h1,aK (show¬y.id>n by omega)];simp only[if_true,dx,if_false,db];omega
  ·rw[aK h1];by_cases h2:y.id>n
   ·rw[aE h2];simp only[if_true,dx,if_false,db];omega
   ·rw[aK h2];simp only[dx,if_false,db];omega
theorem ab1{l:az Cl}{c:Cl}(cs:l.Pairwise λa b=>a.id<b.id):(jn l c).length<=l.length+1/\((jn l c).Pairwise λa b=>a.id<b.id)/\∀x∈jn l c,x=c\/x∈l:=by
 unfold jn;refine⟨?_, ?_,λx hx=> ?_⟩
 ·have:=ZW l c.id;simp only[bP,db,jT];omega
 ·rw[cz,n9];refine⟨cs.filter _, ?_,λa ha b hb=> ?_⟩
  ·rw[uZ,qG];exact⟨λb hb=>cq (c9.1 hb).2,cs.filter _⟩
  ·have ha:=cq (c9.1 ha).2;rcases ba.1 hb with hb|hb
   ·rw[aZ]at hb;rw[hb];exact ha
   ·have hb:=cq (c9.1 hb).2;omega
 ·rcases ba.1 hx with hx|hx
  ·rcases ba.1 hx with hx|hx
   ·exact .inr (c9.1 hx).1
   ·exact .inl (aZ.1 hx)
  ·exact .inr (c9.1 hx).1
theorem ZV{w m:az aq}{s:az (az aw)}{a:aw}{key:aq}(h:key∈w\/key∈m):(e6.val w m s a key).2.2.2.2=⟨#[]⟩:=by
 unfold e6.val;cases sR w m s a&&eR key with
 |false=>rfl
 |true=>
  rw[au];cases h1:has w key with
  |true=>rfl
  |false=>have h2:has m key=true:=gK.2 (h.resolve_left (lM.1 h1));rw[h2];rfl
theorem J4{w m:az aq}{s:az (az aw)}{a:aw}{key:aq}(h:sR w m s a=ai)(hk:eR key=ai):(has (e6.val w m s a key).1 key||has (e6.val w m s a key).2.1 key)=true:=by
 obtain⟨⟨k1,nd⟩,l1,l2,hs⟩:=jH.1 h;rw[dL,gK,gK];refine((ud h hk).2 key).2 ⟨.inr (.inr rfl), ?_⟩;have kn:=Hr hk;unfold e6.val;rw[h,hk,aM,au];cases h1:has w key with
 |true=>exact kn
 |false=>
  rw[ax];have hw:=lM.1 h1;cases h2:has m key with
  |true=>exact kn
  |false=>
   rw[ax];have hm:=lM.1 h2;by_cases h3:(w++[key]).length<=2
   ·rw[aE h3];exact kn
   ·rw[aK h3,ax];have iB:(w++[key]).getD 0 ⟨#[]⟩≠key:=by
     cases w with
     |nil=>simp at h3
     |cons x w=>intro e;exact hw (by rw[<-e];simp)
    by_cases h4:m.length<4
    ·rw[aE h4];exact kn
    ·rw[aK h4,ax];cases decide (mL.val (dv.val s a key).1 (dv.val s a key).2 ((w++[key]).getD 0 ⟨#[]⟩)>mL.val (dv.val s a key).1 (dv.val s a key).2 (m.getD 0 ⟨#[]⟩))with
     |true=>
      intro e;cases m with
      |nil=>simp at h4
      |cons x m=>exact hm (by rw[e];simp)
     |false=>exact λe=>iB e.symm
theorem aff{p:Px}{id:aw}{key:aq}{e:En}(h:g7 p)(Jf:1<=id/\id<=9)(hk:eR key=ai)(hl:p.cl.length<6)(he:e∈p.en)(hek:e.k=key)(Li:e.st<=p.now):g7 (hit p id key e):=by
 have gg:key∈p.w\/key∈p.m:=by rw[<-hek];exact h.ek e he
 obtain⟨t1,t2⟩:=ud h.pol hk;have tg:=ZV (s:=p.s) (a:=p.a) gg;have sm:=BG h;have hr:=ni.Ef (h.en e he);obtain⟨j1,j2,j3⟩:=ab1 (c:=⟨id,key,0,e.st,2,e.bo,p.now-e.st⟩) h.cs;unfold hit;generalize e6.val p.w p.m p.s p.a key=V at t1 t2 tg;obtain⟨W,M,S,A,G⟩:=V;dsimp only at t1 t2 tg⊢;subst tg;have sm2:OR p.en W M:=λk=>by
  rw[t2 k];refine Iff.trans ?_ (sm k);constructor
  ·rintro ⟨q|q|rfl,_⟩
   ·exact .inl q
   ·exact .inr q
   ·exact gg
  ·intro q;refine⟨q.elim .inl λq=> .inr (.inl q), ?_⟩
   obtain⟨x,hx,rfl⟩:=(sm k).1 q;have:=(ni.Ef (h.en x hx)).1;intro e;rw[e]at this;exact cJ this.1 (by decide)
 obtain⟨q1,q2⟩:=of_same sm2 h.so t1;refine⟨h.now,h.en,h.so,q1,t1,q2,h.fl,h.fe,h.ap,by dsimp only;omega,λc hc=> ?_,j2, ?_⟩
 ·rcases j3 c hc with rfl|hc
  ·unfold IC;simp only[aL,bf];exact⟨Jf,hk,by omega,⟨by omega,by omega⟩,by omega,⟨by omega,Li⟩,by omega⟩
  ·exact h.cl c hc
 ·have:=h.hits;dsimp only;by_cases hh:p.hits<1000000000
  ·rw[aE hh,au];omega
  ·rw[aK hh,ax];exact this
theorem HN{l:az aq}{k x:aq}:x∈without l k↔x∈l/\x≠k:=by unfold without;simp
theorem HA{p:Px}{id:aw}{key:aq}{h:aX}{fe:az Fe}{i:aF}(ho:g7 p)(Jf:1<=id/\id<=9)(hk:eR key=ai)(hl:p.cl.length<6)(hn:p.fe.length<=fe.length)(QC:fe.length<=20)(hf:∀f∈fe,nN p.now f=ai)(hap:fe.Pairwise λf g=>lF g f=ak)(hi:i<fe.length)(hp:h=ak->True):g7 (put p id key h fe i):=by
 obtain⟨⟨k1,nd⟩,l1,l2,hs⟩:=jH.1 ho.pol;have NC:=LX key hs;have sm:=BG ho;obtain⟨j1,j2,j3⟩:=ab1 (c:=⟨id,key,(i:aw)+1,0,1,(el fe i).t,0⟩) ho.cs;have hfi:=hf _ (kA hi);have oe:∀c∈jn p.cl ⟨id,key,(i:aw)+1,0,1,(el fe i).t,0⟩,IC p.now fe.length c=true:=λc hc=>by
  rcases j3 c hc with rfl|hc
  ·unfold nN at hfi;unfold IC;simp only[aL,bf]at hfi⊢;have:=ho.now;exact⟨Jf,hk,by omega,⟨by omega,by omega⟩,hfi.2.1,⟨by omega,by omega⟩,by omega⟩
  ·have:=ho.cl c hc;unfold IC at this⊢;simp only[aL,bf]at this⊢;exact⟨this.1,this.2.1,this.2.2.1,⟨this.2.2.2.1.1,by omega⟩,this.2.2.2.2⟩
 unfold put;cases h with
 |false=>have XV:sR p.w p.m (dv.val p.s p.a key).1 (dv.val p.s p.a key).2=true:=jH.2 ⟨⟨k1,nd⟩,l1,l2,NC⟩;exact⟨ho.now,ho.en,ho.so,ho.ek,XV,ho.len,QC,hf,hap,by dsimp only;omega,oe,j2,ho.hits⟩
 |true=>
  have XV:sR (without p.w key) (without p.m key) (dv.val p.s p.a key).1 (dv.val p.s p.a key).2=true:=by
   refine jH.2 ⟨⟨λk hx=> ?_, ?_⟩,dh fj.ix l1,dh fj.ix l2,NC⟩
   ·rcases ba.1 hx with q|q
    ·exact k1 k (ba.2 (.inl (HN.1 q).1))
    ·exact k1 k (ba.2 (.inr (HN.1 q).1))
   ·have:without p.w key++without p.m key=(p.w++p.m).filter λx=> !decide (x=key):=by unfold without;rw[gv]
    rw[this];exact nd.sublist jR
  have sm2:OR (fS p.en key) (without p.w key) (without p.m key):=λk=>by
   rw[HN,HN];constructor
   ·intro q;have iB:k≠key:=q.elim (·.2) (·.2);obtain⟨x,hx,rfl⟩:=(sm k).1 (q.elim (λq=> .inl q.1) (λq=> .inr q.1));exact⟨x,jr.2 ⟨hx,iB⟩,rfl⟩
   ·rintro ⟨x,hx,rfl⟩;obtain⟨hx,iB⟩:=jr.1 hx;exact((sm x.k).2 ⟨x,hx,rfl⟩).elim (λq=> .inl ⟨q,iB⟩) (λq=> .inr ⟨q,iB⟩)
  have so:=ho.so.drop key;obtain⟨q1,q2⟩:=of_same sm2 so XV;exact⟨ho.now,λe he=>ho.en e (jr.1 he).1,so,q1,XV,q2,QC,hf,hap,by dsimp only;omega,oe,j2,ho.hits⟩
theorem NP{p:Px}{id:aw}{key:aq}{h:aX}(ho:g7 p)(Jf:1<=id/\id<=9)(hk:eR key=ai)(hl:p.cl.length<6):g7 (sP p id key h).1:=by
 unfold sP;cases XS:N1 p.fe key with
 |some i=>have hi:i<p.fe.length:=(mW.1 XS).1;exact HA ho Jf hk hl (cF _) ho.fl ho.fe ho.ap hi (λ_=>trivial)
 |none=>
  dsimp only;by_cases QC:p.fe.length<20
  ·rw[aE QC,au];have zF:∀f∈p.fe,Fs key f=false:=λf hf=>by have:=Ez.1 XS f hf;simpa using this
   have XR:=ho.now;refine HA ho Jf hk hl (by simp) (by simp;omega) (λf hf=> ?_) ?_ (by simp) (λ_=>trivial)
   ·rcases ba.1 hf with q|q
    ·exact ho.fe f q
    ·rw[aZ]at q;subst q;unfold nN rW;simp only[aL,bf];exact⟨hk,by show((0:aF):aw)<=400;omega,by omega,by omega,by omega,by omega⟩
   ·rw[n9];refine⟨ho.ap,by simp,λa ha b hb=> ?_⟩
    rw[aZ]at hb;subst hb;have:=zF a ha;unfold Fs at this;unfold lF rW;dsimp only;revert this;rw[show decide (key=a.k)=decide (a.k=key)from by rw[cg];exact IV];cases decide (a.k=key)<;>cases decide (a.sta=1)<;>simp
  ·rw[aK QC];exact ho
theorem aeH{p:Px}(id:aw)(key:aq)(h:g7 p):g7 (im.ask p id key).1:=by
 unfold im.ask;cases hg:jd p&&(decide (1<=id/\id<=9)&&(eR key&&(!lC p.cl id&&decide (p.cl.length<6))))with
 |false=>exact h
 |true=>
  simp only[aL,bf]at hg;obtain⟨_,Jf,hk,_,hl⟩:=hg;rw[au];cases he:H4 p.en key with
  |none=>exact NP h Jf hk hl
  |some e=>
   dsimp only;cases hf:mP e p.now with
   |false=>exact NP h Jf hk hl
   |true=>
    unfold H4 at he;have h1:=qF he;have h2:=vp he;refine aff h Jf hk hl h1 (cq h2) ?_;unfold mP at hf;rw[vT.eq]at hf;unfold vT.v at hf;rw[show ni.v e.k e.st e.li e.bo=ai from h.en e h1,au,show km.v p.now e.st 1000000000=decide (e.st<=p.now/\p.now<=1000000000)from fF.eO _ _ _]at hf;cases hd:decide (e.st<=p.now/\p.now<=1000000000)with
    |true=>exact(cq hd).1
    |false=>rw[hd]at hf;cases hf
end FI

namespace FJ
open Lib (Px Cl Fe En el)
open rj (g7 IC oh)
open z_ (aaZ)
theorem zK{now n:aw}(h:1<=now/\now<=1000000000):now<=qK.later now n/\qK.later now n<=1000000000:=by
 unfold qK.later;have:=W3 n (show(1000:aw)≠0 by omega);have:=Qr n (show(0:aw)<1000 by omega);by_cases hc:now>1000000000-n%1000
 ·rw[aE hc,au];omega
 ·rw[aK hc,ax,de (by omega) (by omega)];omega
theorem Zu{p:Px}(n:aw)(h:g7 p):g7 (qK.val p n):=aaZ h (zK h.now).1 (zK h.now).2
theorem TD{p:Px}(id:aw)(h:g7 p):g7 (tl.val p id):=
 ⟨h.now,h.en,h.so,h.ek,h.pol,h.len,h.fl,h.fe,h.ap,dh (eC _ _) h.cll,λc hc=>h.cl c (c9.1 hc).1,h.cs.sublist jR,h.hits⟩
end FJ

namespace hZ
open Lib (Px Cl Fe En el)
open fj (has gK)
open jC (eR sR)
open nU (vl)
open np (nN lF)
open pj (jd)
open rj (g7 IC oh)
open gq (s6 told Cd C3 iT)
open s7 (cls kG)
open kC (yB)
open gT (EY H5 tx kp sV)
open jU (dk es)
open gE (Wo Ev closed tG js iA flag)
open z_ (BJ IZ Sm UM Ma)
def on(l:az Fe):aF:=l.countP λf=>decide (f.sta=1)
theorem vb5{x:aw}(h:x<=1000000000):(bytesOf (Lib.vb x)).size<=5:=by
 rw[Lib.iU]
 exact Lib.BM 4 x (by have:(128:aw)^5=34359738368:=by decide
                      omega)
theorem K4{e:En}(h:EY e=ai):(H5 e).size<=460:=by
 have hr:=ni.Ef h;have z1:=vb5 (x:=(e.k.size:aw)) (by omega);have z2:=vb5 (x:=e.st) (by omega);have z3:=vb5 (x:=e.li) (by omega);have ht:(sV e).size<=445:=by unfold sV jM.sV;simp only[Lib.kj];omega
 have z4:=vb5 (x:=((sV e).size:aw)) (by omega);unfold H5 fJ.fr;rw[Lib.kj,Lib.kj,pe.size];omega
theorem VV(l:az En)(h:∀e∈l,EY e=ai):(tx l).size<=460*l.length:=by
 induction l with
 |nil=>exact cF _
 |cons e l ih=>have h1:=K4 (h e (by simp));have h2:=ih λx hx=>h x (by simp[hx]);have:(tx (e::l)).size=(H5 e).size+(tx l).size:=dJ;rw[this,db];omega
structure tu (i:aF) (w:Wo):Prop where
 px:g7 w.p
 eo:∀e∈es w.o,EY e=ai
 ct:2*(es w.o).length+on w.p.fe<=i
 cd:w.cd.length=i
 bd:w.bd.length<=i
 bo:∀e∈w.bd,EY e=ai
theorem tu.len{i:aF}{w:Wo}(h:tu i w)(hi:i<=71):(es w.o).length<=35:=by have:=h.ct;omega
theorem tu.tx{i:aF}{w:Wo}(h:tu i w)(hi:i<=71):(tx (es w.o)).size<=16100:=by have:=VV _ h.eo;have:=h.len hi;omega
theorem LC{l:az Fe}{n:aF}{g:Fe}(hn:n<l.length):on (l.set n g)+(if(el l n).sta=1 then 1 else 0)=on l+(if g.sta=1 then 1 else 0):=by
 unfold on;rw[List.countP_set hn,eN hn];have hle:l[n].sta=1->1<=l.countP λf=>decide (f.sta=1):=λh=>List.countP_pos_iff.2 ⟨_,bC hn,aE h⟩;generalize l.countP (λf=>decide (f.sta=1))=m at hle;by_cases h1:l[n].sta=1
 ·have:=hle h1;by_cases h2:g.sta=1
  ·rw[bz h1,bz h2,bz (aE h1),bz (aE h2)];omega
  ·rw[bz h1,bH h2,bz (aE h1),bH (by rw[aK h2];simp)];omega
 ·by_cases h2:g.sta=1
  ·rw[bH h1,bz h2,bH (by rw[aK h1];simp),bz (aE h2)];omega
  ·rw[bH h1,bH h2,bH (by rw[aK h1];simp),bH (by rw[aK h2];simp)];omega
theorem LP{now:aw}(hn:1<=now/\now<=1000000000)(l:az En):g7 (dZ.qc now l):=by
 have key:∀(l:az En) (p:Px),g7 p->g7 (l.foldl (dZ.one now) p):=by
  intro l;induction l with
  |nil=>intro p h;exact h
  |cons e l ih=>
   intro p h;rw[DI];refine ih _ ?_;unfold dZ.one;cases hf:dZ.mP e now with
   |true=>exact Ma h (dZ.zD hf)
   |false=>exact h
 refine key l _ ⟨hn,λe h=>(by cases h),gb,λe h=>(by cases h), ?_,rfl,bI _,λf h=>(by cases h),gb,bI _,λc h=>(by cases h),gb,by show(0:aw)<=0/\(0:aw)<=1000000000;omega⟩;refine H9.jH.2 ⟨⟨λk h=>(by cases h),List.nodup_nil⟩,bI _,bI _,H9.HH.2 ⟨rfl,by show(0:aw)<=0/\(0:aw)<=63;omega,λq hq=> ?_⟩⟩;have:q=dZ.J8:=by change q∈[dZ.J8,dZ.J8,dZ.J8]at hq;simp at hq;exact hq
 subst this;refine⟨rfl,λn hn=> ?_⟩
 unfold dZ.J8 at hn;simp at hn;omega
theorem KO{p:Px}{f life:aw}(h:g7 p)(hl:0<=life/\life<=999999):
  g7 (cls p f life).1/\(((cls p f life).2=ak/\(cls p f life).1=p)\/((cls p f life).2=ai/\∃n:aF,f=(n:aw)/\n<p.fe.length/\(cls p f life).1.fe=p.fe.set n {el p.fe n with sta:=2,li:=life,st:=p.now}/\(el p.fe n).sta=1/\
   (life>0->EY (kG {el p.fe n with sta:=2,li:=life,st:=p.now})=ai/\(has (cls p f life).1.w (el p.fe n).k||has (cls p f life).1.m (el p.fe n).k)=ai))):=by
 unfold cls;cases ho:s6 p f&&decide (0<=life/\life<=999999)with
 |false=>exact⟨h, .inl ⟨rfl,rfl⟩⟩
 |true=>
  rw[aL]at ho;obtain⟨n,rfl,hn,_,h1⟩:=iT ho.1;obtain⟨g1,g2,g3,g4,g5⟩:=IZ h hn;have XR:=h.now;rw[au,dG];have ht:g7 (told p n {el p.fe n with sta:=2,li:=life,st:=p.now} 2):=by refine BJ h hn rfl ?_ (λe=>cJ e (by dsimp only;omega)) (by omega);unfold nN;simp only[aL,bf];exact⟨g1,g2,by omega,hl,by omega,by omega⟩
  have he:life>0->EY (kG {el p.fe n with sta:=2,li:=life,st:=p.now})=true:=λPy=>by unfold EY kG ni.v;dsimp only;rw[jC.iS,g1,au,show km.v p.now 0 1000000000=decide (0<=p.now/\p.now<=1000000000)from fF.eO _ _ _,aE (show 0<=p.now/\p.now<=1000000000 by omega),au,show km.v life 1 999999=decide (1<=life/\life<=999999)from fF.eO _ _ _,aE (show 1<=life/\life<=999999 by omega),au];exact aE g2
  by_cases Py:life>0
  ·rw[aE Py,au];have gg:=FI.J4 (key:=(el p.fe n).k) ht.pol g1;exact⟨Ma ht (he Py), .inr ⟨rfl,n,rfl,hn,rfl,h1,λ_=>⟨he Py,gg⟩⟩⟩
  ·rw[aK Py,ax];exact⟨ht, .inr ⟨rfl,n,rfl,hn,rfl,h1,λh=>cJ h Py⟩⟩
theorem aeI(p:Px)(id:aw)(key:aq):on (im.ask p id key).1.fe<=on p.fe+1:=by
 have hm:∀h,on (im.sP p id key h).1.fe<=on p.fe+1:=λh=>by
  unfold im.sP;cases im.N1 p.fe key with
  |some i=>exact jx _
  |none=>
   dsimp only;cases decide (p.fe.length<20)with
   |true=>show on (p.fe++[im.rW key])<=_;unfold on;rw[List.countP_append];exact cF _
   |false=>exact jx _
 unfold im.ask;cases jd p&&(decide (1<=id/\id<=9)&&(eR key&&(!im.lC p.cl id&&decide (p.cl.length<6))))with
 |false=>exact jx _
 |true=>
  rw[au];cases im.H4 p.en key with
  |none=>exact hm _
  |some e=>
   dsimp only;cases im.mP e p.now with
   |false=>exact hm _
   |true=>exact jx _
theorem Cw(w:Wo):(js w).length<=(es w.o).length:=dh (eC ..) (gT.Hk _)
theorem G7{w:Wo}(h:∀e∈es w.o,EY e=ai):∀e∈js w,EY e=true:=λe he=>h e (gT.Ls (c9.1 he).1)
theorem BI{i:aF}{w:Wo}{e:Ev}(h:tu i w)(he:iA e=ai):tu (i+1) (gE.step w e):=by
 unfold iA at he;simp only[aL,bf]at he;obtain⟨hk,Jf,ht,hn,hl⟩:=he;have hct:=h.ct;have XL:=h.bd;have cdl:∀n:aw,(w.cd++[n]).length=i+1:=λn=>by rw[bP,h.cd];rfl
 have px':∀(p:Px) (n:aw),g7 p->on p.fe<=on w.p.fe+1->tu (i+1) {{w with p:=p}with cd:=w.cd++[n]}:=λp n hp ho=>⟨hp,h.eo,by dsimp only;omega,cdl n,nu h.bd,h.bo⟩
 unfold gE.step gE.act;by_cases k1:e.k=1
 ·rw[aE k1,au];exact px' _ _ (FI.aeH _ _ h.px) (aeI ..)
 rw[aK k1,ax];by_cases k2:e.k=2
 ·rw[aE k2,au];refine px' _ _ (UM _ _ h.px) ?_;unfold C3;cases ho:s6 w.p e.id&&(decide (1<=e.t.size/\e.t.size<=40)&&decide ((el w.p.fe e.id.toNat).t.size+e.t.size<=400))with
  |false=>exact jx _
  |true=>
   rw[aL]at ho;obtain⟨n,en,hn,_,h1⟩:=iT ho.1;rw[en,dG];have q:∀g:Fe,g.sta=(el w.p.fe n).sta->on (w.p.fe.set n g)<=on w.p.fe+1:=λg hg=>by have:=LC (g:=g) hn;rw[hg]at this;omega
   exact q _ rfl
 rw[aK k2,ax];by_cases k3:e.k=3
 ·rw[aE k3,au];have hlr:0<=e.n%1000000/\e.n%1000000<=999999:=by omega
  obtain⟨q1,q2⟩:=KO (f:=e.id) h.px hlr;unfold closed;dsimp only;rcases q2 with ⟨r1,r2⟩|⟨r1,n,rn,hn,rf,rs,rl⟩
  ·rw[r1,lG,ax];exact px' _ _ q1 (by rw[r2];exact jx _)
  ·have:=LC (g:={el w.p.fe n with sta:=2,li:=e.n%1000000,st:=w.p.now}) hn;rw[bz rs,bH (show¬(2:aw)=1 by omega)]at this;have ho:on (cls w.p e.id (e.n%1000000)).1.fe+1=on w.p.fe:=by rw[rf];exact this
   rw[r1,bc];by_cases Py:e.n%1000000>0
   ·rw[aE Py,au];obtain⟨s1,s2⟩:=rl Py;have hx:EY (kG (el (cls w.p e.id (e.n%1000000)).1.fe e.id.toNat))=true:=by rw[rn,dG,<-rn,rf,gq.iR hn];exact s1
    refine⟨q1,λy hy=> ?_, ?_,cdl _, ?_,λy hy=> ?_⟩
    ·rcases ba.1 hy with hy|hy
     ·exact h.eo y hy
     ·rw[aZ]at hy;rw[hy];exact hx
    ·show 2*(es w.o++[_]).length+on (cls w.p e.id (e.n%1000000)).1.fe<=i+1;rw[bP,bA];omega
    ·show(w.bd++[_]).length<=i+1;rw[bP,bA];omega
    ·rcases ba.1 hy with hy|hy
     ·exact h.bo y hy
     ·rw[aZ]at hy;rw[hy];exact hx
   ·rw[aK Py,ax];exact px' _ _ q1 (by omega)
 rw[aK k3,ax];by_cases k4:e.k=4
 ·rw[aE k4,au];refine px' _ _ (Sm _ h.px) ?_;unfold Cd;cases ho:s6 w.p e.id with
  |false=>exact jx _
  |true=>
   obtain⟨n,en,hn,_,h1⟩:=iT ho;rw[en,dG];have q:∀g:Fe,g.sta=3->on (w.p.fe.set n g)<=on w.p.fe+1:=λg hg=>by have:=LC (g:=g) hn;rw[bz h1,bH (show¬g.sta=1 by omega)]at this;omega
   exact q _ rfl
 rw[aK k4,ax];by_cases k5:e.k=5
 ·rw[aE k5,au];exact px' _ _ (FJ.Zu _ h.px) (jx _)
 rw[aK k5,ax];by_cases k6:e.k=6
 ·rw[aE k6,au];exact px' _ _ (FJ.TD _ h.px) (jx _)
 rw[aK k6,ax];have Pt:=Cw w;have hinv:=dZ.rS w.p.now (js w) (js w).length (cF _);rw[dD]at hinv;refine⟨LP h.px.now _,G7 h.eo, ?_,cdl _,nu h.bd,h.bo⟩
 show 2*(js w).length+on (dZ.qc w.p.now (js w)).fe<=i+1;rw[hinv.fe];show 2*(js w).length+0<=i+1;omega
end hZ

namespace fU
open Lib (rr rs re rf rc rd Px En el oE qz qA qB)
open gE (Wo Ev)
open jU (dk es)
def ri(l:az aw):aR:=l.map λn=>[CV.i ao n]
theorem gW(l:az aw):(ri l).length=l.length:=by unfold ri;simp
def v8(w:Wo):aw×aR×aR×aR×aR×aw×aR×aR×aw×aR×aR×aR:=(w.p.now,re w.p.en,rs w.p.w,rs w.p.m,rr w.p.s,w.p.a,rf w.p.fe,rc w.p.cl,w.p.hits,rd (dk w.o),ri w.cd,re w.bd)
theorem ub(l:az En)(e:En):re l++aD (aP [Ck.s,Ck.i ao,Ck.i ao,Ck.s] 1) 0 [CV.s e.k,CV.i ao e.st,CV.i ao e.li,CV.s e.bo]=re (l++[e]):=by unfold Lib.re;rw[di];rfl
theorem acO(l:az aw)(n:aw):ri l++aD (aP [Ck.i ao] 1) 0 [CV.i ao n]=ri (l++[n]):=by unfold ri;rw[di];rfl
theorem avN(l:az En):aP [Ck.s,Ck.i ao,Ck.i ao,Ck.s] 0++re l=re l:=rfl
theorem avO(l:az aw):aP [Ck.i ao] 0++ri l=ri l:=rfl
theorem nb(ks:az Ck)(y:az CV):(aD (aP ks 1) 0 y).length=1:=rfl
theorem kB{p:Px}(h:rj.g7 p):p.Fit 1048576:=(kC.kB (rj.oh.2 h)).le (by omega)
theorem lt_eq{α β:Type}(x:α)(f:α->β):Lib.lt x f=f x:=by have h:∀y,y=Lib.lt x f->y=f x:=λy hy=>hy.trans (Eq.refl _);exact h _ (Eq.refl _)
end fU

namespace qf
open Lib (rr rs re rf rc rd Px En el)
open gE (Wo Ev iA)
open jU (dk es)
open hZ (tu)
open fU (ri v8)
instance:Inhabited Ev:=⟨⟨0,0,⟨#[]⟩,0,[]⟩⟩
def Evr(e:Ev):az CV:=[CV.i ao e.k,CV.i ao e.id,CV.s e.t,CV.i ao e.n,CV.l 3 e.l]
def rv(l:az Ev):aR:=l.map Evr
theorem ua(l):(rv l).length=l.length:=by unfold rv;simp
theorem wv0{l:az Ev}{i:aF}(h:i<l.length):ar (rv l) i 0=CV.i ao (el l i).k:=fV _ l i 0 h
theorem wv1{l:az Ev}{i:aF}(h:i<l.length):ar (rv l) i 1=CV.i ao (el l i).id:=fV _ l i 1 h
theorem wv2{l:az Ev}{i:aF}(h:i<l.length):ar (rv l) i (1+1)=CV.s (el l i).t:=fV _ l i 2 h
theorem wv3{l:az Ev}{i:aF}(h:i<l.length):ar (rv l) i (1+1+1)=CV.i ao (el l i).n:=fV _ l i 3 h
theorem wv4{l:az Ev}{i:aF}(h:i<l.length):ar (rv l) i (1+1+1+1)=CV.l 3 (el l i).l:=fV _ l i 4 h
theorem NZ(e:Ev):U31.v e.k e.id e.t e.n e.l=iA e:=by unfold U31.v iA;rw[show lB.v e.k 1 7=decide (1<=e.k/\e.k<=7)from fF.eO _ _ _,show lB.v e.id 0 30=decide (0<=e.id/\e.id<=30)from fF.eO _ _ _,show decide (((e.t.size:aF):aw)<=60)=decide (e.t.size<=60)from by rw[cg];omega,show decide (e.n≥0)=decide (0<=e.n)from rfl,show decide (((e.l.length:aF):aw)<=4)=decide (e.l.length<=4)from by rw[cg];omega];cases decide (1<=e.k/\e.k<=7)<;>cases decide (0<=e.id/\e.id<=30)<;>cases decide (e.t.size<=60)<;>cases decide (0<=e.n)<;>rfl
def w0:Wo:=⟨dZ.p0 1,aj,[],[]⟩
def run(l:az Ev):Wo:=l.foldl gE.step w0
theorem Db(l:az Ev)(i:aF)(h:i<l.length):run (l.take (i+1))=gE.step (run (l.take i)) (el l i):=by unfold run;rw[cu h,kW,eN h];rfl
theorem amr:tu 0 w0:=by refine⟨hZ.LP (now:=1) (by omega) [],λe h=>(by cases h),cF _,rfl,cF _,λe h=>(by cases h)⟩
theorem LQ{l:az Ev}(h:∀e∈l,iA e=ai):∀i,i<=l.length->tu i (run (l.take i)):=by
 intro i;induction i with
 |zero=>intro _;exact amr
 |succ i ih=>intro hi;rw[Db l i hi];exact hZ.BI (ih (by omega)) (h _ (kA hi))
theorem LR{l:az Ev}(h:∀e∈l,iA e=ai):tu l.length (run l):=by have:=LQ h l.length (cF _);rwa[dD]at this
def W13(w:Wo)(b:aX):aw×aR×aR×aR×aR×aw×aR×aR×aw×aR×aR×aR×aX:=(w.p.now,re w.p.en,rs w.p.w,rs w.p.m,rr w.p.s,w.p.a,rf w.p.fe,rc w.p.cl,w.p.hits,rd (dk w.o),ri w.cd,re w.bd,b)
def Ja(l:az Ev):aX:=decide (l.length<=70)&&(b9 l.length).all λi=>iA (el l i)
def life(l:az Ev):aw×aR×aR×aR×aR×aw×aR×aR×aw×aR×aR×aR×aX:=bif Ja l then W13 (run l) ai else(0,[],[],[],[],0,[],[],0,[],[],[],ak)
theorem Cy{l:az Ev}:Ja l=ai↔l.length<=70/\∀e∈l,iA e=true:=by unfold Ja;rw[aL,bf,bu];refine and_congr Iff.rfl ⟨λh e he=> ?_,λh i hi=>h _ (kA (gV.1 hi))⟩;obtain⟨i,hi,rfl⟩:=c6 he;have:=h i (gV.2 hi);rwa[eN hi]at this
end qf

namespace dt
def I(q:aR)(a:aw):Prop:=0<=a/\a<=(q.length:aw)/\q.length<=1048576
theorem Ef(x:BitVec 64):0<=bJ ((dV (jv x (ca 64 255)):aF):aw)/\bJ ((dV (jv x (ca 64 255)):aF):aw)<=255:=by
 have h:dV (jv x (ca 64 255))<=255:=by have e:dV (jv x (ca 64 255))=x.toNat&&&255:=BitVec.toNat_and x (ca 64 255);rw[e];exact Nat.and_le_right
 rw[de (by omega) (by omega)];omega
theorem ok(q:aR)(a s:aw)(hI:I q a):∃n a' s',c q a s=ai/\v q a s=(n,q,a',s')/\I q a'/\0<=n/\n<=255:=by
 obtain⟨h0,h1,h2⟩:=hI;by_cases h:a<(q.length:aw)
 ·have hw:bJ (a+1)=a+1:=de (by omega) (by omega);have hvo:∃n s',vo q a s=ah (n,q,a+1,s')/\0<=n/\n<=255:=by unfold vo b;rw[aE h,aE h0,au,aM,au,hw];exact⟨_,_,rfl,Ef _⟩
  obtain⟨n,s',hv,hr⟩:=hvo;obtain⟨e1,e2⟩:=out q a s hv;exact⟨n,a+1,s',e1,e2,⟨by omega,by omega,h2⟩,hr⟩
 ·have hvo:∃n s',vo q a s=ah (n,q,a,s')/\0<=n/\n<=255:=by unfold vo b;rw[aK h,ax];exact⟨_,_,rfl,Ef _⟩
  obtain⟨n,s',hv,hr⟩:=hvo;obtain⟨e1,e2⟩:=out q a s hv;exact⟨n,a,s',e1,e2,⟨h0,h1,h2⟩,hr⟩
end dt

namespace nE
theorem ok(q:aR)(a s k:aw)(hI:dt.I q a):∃n a' s',c q a s k=ai/\v q a s k=(n,q,a',s')/\dt.I q a'/\0<=n/\(0<k->n<k):=by
 by_cases hk:k<=0
 ·obtain⟨e1,e2⟩:=out q a s k (x:=(0,q,a,s)) (by unfold vo b;rw[aE hk,au]);exact⟨0,a,s,e1,e2,hI,by omega,λh=>by omega⟩
 ·have hm:∀x:aw,0<=x->0<=cy x k/\cy x k<k:=λx hx=>by rw[ir hx];exact⟨W3 _ (by omega),Qr _ (by omega)⟩
  have hk0:¬k=0:=by omega
  obtain⟨n1,a1,s1,c1,v1,I1,g1,u1⟩:=dt.ok q a s hI;by_cases h2:k<=256
  ·obtain⟨e1,e2⟩:=out q a s k (x:=(cy n1 k,q,a1,s1)) (by unfold vo b;simp only[hk,h2,hk0,c1,v1,aN,bj,au,ax,bR]);exact⟨_,a1,s1,e1,e2,I1,(hm n1 g1).1,λ_=>(hm n1 g1).2⟩
  ·obtain⟨n2,a2,s2,c2,v2,I2,g2,u2⟩:=dt.ok q a1 s1 I1;obtain⟨n3,a3,s3,c3,v3,I3,g3,u3⟩:=dt.ok q a2 s2 I2;obtain⟨n4,a4,s4,c4,v4,I4,g4,u4⟩:=dt.ok q a3 s3 I3;have w1:bJ (n1*16777216)=n1*16777216:=de (by omega) (by omega);have w2:bJ (n2*65536)=n2*65536:=de (by omega) (by omega);have w3:bJ (n3*256)=n3*256:=de (by omega) (by omega);have w4:bJ (n1*16777216+n2*65536)=n1*16777216+n2*65536:=de (by omega) (by omega);have w5:bJ (n1*16777216+n2*65536+n3*256)=n1*16777216+n2*65536+n3*256:=de (by omega) (by omega);have w6:bJ (n1*16777216+n2*65536+n3*256+n4)=n1*16777216+n2*65536+n3*256+n4:=de (by omega) (by omega);obtain⟨e1,e2⟩:=out q a s k (x:=(cy (n1*16777216+n2*65536+n3*256+n4) k,q,a4,s4)) (by unfold vo b;simp only[hk,h2,hk0,c1,v1,c2,v2,c3,v3,c4,v4,w1,w2,w3,w4,w5,w6,aN,bj,au,ax,bR]);have:=hm (n1*16777216+n2*65536+n3*256+n4) (by omega);exact⟨_,a4,s4,e1,e2,I4,this.1,λ_=>this.2⟩
end nE

namespace HZ
theorem ok(q:aR)(a s k:aw)(hI:dt.I q a):∃x a' s',c q a s k=ai/\v q a s k=(x,q,a',s')/\dt.I q a':=by obtain⟨n1,a1,s1,c1,v1,I1,g1,u1⟩:=nE.ok q a s k hI;obtain⟨e1,e2⟩:=out q a s k (x:=(decide (n1=0),q,a1,s1)) (by unfold vo b;simp only[c1,v1,au]);exact⟨_,a1,s1,e1,e2,I1⟩
end HZ

namespace Af
theorem ok(q:aR)(a s:aw)(l:aR)(hI:dt.I q a)(hl:0<l.length):∃i a' s',c q a s l=ai/\v q a s l=(bF (ar l i 0),q,a',s',l)/\dt.I q a'/\i<l.length:=by obtain⟨n1,a1,s1,c1,v1,I1,g1,u1⟩:=nE.ok q a s (l.length:aw) hI;have hu:=u1 (by omega);obtain⟨e1,e2⟩:=out q a s l (x:=(bF (ar l n1.toNat 0),q,a1,s1,l)) (by unfold vo b;simp only[c1,v1,g1,hu,aN,aM,au]);exact⟨n1.toNat,a1,s1,e1,e2,I1,by omega⟩
end Af

namespace pO
theorem ok(q:aR)(a s:aw)(l:aR)(hI:dt.I q a)(hl:0<l.length):∃i a' s',c q a s l=ai/\v q a s l=(bw (ar l i 0),q,a',s',l)/\dt.I q a'/\i<l.length:=by obtain⟨n1,a1,s1,c1,v1,I1,g1,u1⟩:=nE.ok q a s (l.length:aw) hI;have hu:=u1 (by omega);obtain⟨e1,e2⟩:=out q a s l (x:=(bw (ar l n1.toNat 0),q,a1,s1,l)) (by unfold vo b;simp only[c1,v1,g1,hu,aN,aM,au]);exact⟨n1.toNat,a1,s1,e1,e2,I1,by omega⟩
end pO

namespace u_
theorem ok(q:aR)(a s:aw)(hI:dt.I q a):∃k a' s',c q a s=ai/\v q a s=(k,q,a',s')/\dt.I q a'/\k.size=2:=by
 obtain⟨i,a1,s1,c1,v1,I1,g1⟩:=pO.ok q a s (aD (aD (aD (aD (aD (aD (aD (aD (aP [Ck.s] 8) 0 [CV.s {data:= #[ay 47,ay 97]}]) 1 [CV.s {data:= #[ay 47,ay 98]}]) 2 [CV.s {data:= #[ay 47,ay 99]}]) 3 [CV.s {data:= #[ay 47,ay 100]}]) 4 [CV.s {data:= #[ay 47,ay 101]}]) 5 [CV.s {data:= #[ay 47,ay 102]}]) 6 [CV.s {data:= #[ay 47,ay 103]}]) 7 [CV.s {data:= #[ay 47,ay 104]}]) hI (by simp[aP]);obtain⟨e1,e2⟩:=out q a s (x:=(_,q,a1,s1)) (by unfold vo b;simp only[c1,v1,au];rfl);refine⟨_,a1,s1,e1,e2,I1, ?_⟩
 have g2:i<8:=by simpa [aP]using g1
 match i,g2 with
 |0,_=>rfl
 |1,_=>rfl
 |2,_=>rfl
 |3,_=>rfl
 |4,_=>rfl
 |5,_=>rfl
 |6,_=>rfl
 |7,_=>rfl
end u_

namespace A_Post
open dt (I)
def jk{α:Type}(o:aC α)(P:α->Prop):Prop:=∃x,o=ah x/\P x
theorem ret{α:Type}{x:α}{P:α->Prop}(h:P x):jk (ah x) P:=⟨x,rfl,h⟩
theorem br{α:Type}{b:aX}{A B:aC α}{P:α->Prop}(h1:b=ai->jk A P)(h2:b=ak->jk B P):jk (bif b then A else B) P:=by
 cases b
 ·exact h2 rfl
 ·exact h1 rfl
theorem ck{α:Type}{b:aX}{A B:aC α}{P:α->Prop}(h:b=ai)(h1:jk A P):jk (bif b then A else B) P:=by subst h;exact h1
theorem cn{α:Type}{b:aX}{A B:aC α}{P:α->Prop}(h:b=ak)(h1:jk B P):jk (bif b then A else B) P:=by subst h;exact h1
theorem eq{α:Type}{o o':aC α}{P:α->Prop}(e:o=o')(h:jk o' P):jk o P:=by rw[e];exact h
theorem call{α β:Type}{b:aX}{w u:β}{X:β->aC α}{P:α->Prop}(h:b=ai)(e:w=u)(hx:jk (X u) P):jk (bif b then Lib.lt w X else aj) P:=by subst h;rw[au,fU.lt_eq,e];exact hx
theorem below{α:Type}{q:aR}{a s k:aw}{X:aw×aR×aw×aw->aC α}{P:α->Prop}(hI:I q a)(hx:∀n a' s',I q a'->0<=n->(0<k->n<k)->jk (X (n,q,a',s')) P):jk (bif nE.c q a s k then Lib.lt (nE.v q a s k) X else aj) P:=by obtain⟨n,a',s',h1,h2,h3,h4,h5⟩:=nE.ok q a s k hI;exact call h1 h2 (hx n a' s' h3 h4 h5)
theorem once{α:Type}{q:aR}{a s k:aw}{X:aX×aR×aw×aw->aC α}{P:α->Prop}(hI:I q a)(hx:∀n a' s',I q a'->jk (X (n,q,a',s')) P):jk (bif HZ.c q a s k then Lib.lt (HZ.v q a s k) X else aj) P:=by obtain⟨n,a',s',h1,h2,h3⟩:=HZ.ok q a s k hI;exact call h1 h2 (hx n a' s' h3)
theorem acK{α:Type}{q:aR}{a s:aw}{l:aR}{X:aw×aR×aw×aw×aR->aC α}{P:α->Prop}(R:aw->Prop)(hR:0<l.length/\∀i,i<l.length->R (bF (ar l i 0)))(hI:I q a)(hx:∀n a' s',I q a'->R n->jk (X (n,q,a',s',l)) P):jk (bif Af.c q a s l then Lib.lt (Af.v q a s l) X else aj) P:=by obtain⟨n,a',s',h1,h2,h3,h4⟩:=Af.ok q a s l hI hR.1;exact call h1 h2 (hx _ a' s' h3 (hR.2 n h4))
theorem alF{α:Type}{q:aR}{a s:aw}{l:aR}{X:aq×aR×aw×aw×aR->aC α}{P:α->Prop}(R:aq->Prop)(hR:0<l.length/\∀i,i<l.length->R (bw (ar l i 0)))(hI:I q a)(hx:∀n a' s',I q a'->R n->jk (X (n,q,a',s',l)) P):jk (bif pO.c q a s l then Lib.lt (pO.v q a s l) X else aj) P:=by obtain⟨n,a',s',h1,h2,h3,h4⟩:=pO.ok q a s l hI hR.1;exact call h1 h2 (hx _ a' s' h3 (hR.2 n h4))
theorem key{α:Type}{q:aR}{a s:aw}{X:aq×aR×aw×aw->aC α}{P:α->Prop}(hI:I q a)(hx:∀n a' s',I q a'->n.size=2->jk (X (n,q,a',s')) P):jk (bif u_.c q a s then Lib.lt (u_.v q a s) X else aj) P:=by obtain⟨n,a',s',h1,h2,h3,h4⟩:=u_.ok q a s hI;exact call h1 h2 (hx n a' s' h3 h4)
theorem idx{n:aw}{m:aF}(h0:0<=n)(h1:0<(m:aw)->n<(m:aw))(hm:decide ((m:aw)>0)=ai):(decide (0<=n)&&decide (n<(m:aw)))=true:=by have:=h1 (cq hm);rw[aE h0,aE this,aM]
end A_Post

namespace Em
open Lib (Px Cl Fe En el)
open gT (kp Hl Ls)
open fY (mC fS)
open z_ (jr j6)
open s7 (cls kG)
open gq (Cd C3 s6 told iR)
open uU (nY ec)
open im (hit sP put H4 N1 Fs lC jn rW)
open dZ (mP qc one p0)
open kC (yB)
open gE (Wo Ev closed tG js iA flag)
open jU (es)
open rj (g7)
open hZ (tu)
theorem xL{e:En}{now:aw}(hn:1<=now/\now<=1000000000):mP e now=ai↔ni.v e.k e.st e.li e.bo=ai/\e.st<=now/\now-e.st<e.li:=by
 unfold mP;rw[vT.eq];unfold vT.v;rw[show km.v now e.st 1000000000=decide (e.st<=now/\now<=1000000000)from fF.eO _ _ _];cases h:ni.v e.k e.st e.li e.bo with
 |false=>simp
 |true=>
  have hr:=ni.Ef h;rw[au,de (x:=now-e.st) (by omega) (by omega)];by_cases h2:e.st<=now
  ·rw[aE (⟨h2,hn.2⟩:e.st<=now/\now<=1000000000),au];simp[h2]
  ·rw[aK (λq:e.st<=now/\now<=1000000000=>h2 q.1),ax];simp[h2]
theorem Hj:∀(l:az En),(l.Pairwise λa b=>a.k≠b.k)->∀x∈l,x∈kp l:=by
 intro l;rw[<-vQ l];generalize l.reverse=r;induction r with
 |nil=>intro _ x hx;cases hx
 |cons e r ih=>
  intro h x hx;rw[yW]at h hx⊢;rw[Hl];rw[n9]at h;obtain⟨h1,_,h3⟩:=h;rcases ba.1 hx with hx|hx
  ·exact j6.2 (.inr ⟨ih h1 x hx,h3 x hx e dq⟩)
  ·rw[aZ.1 hx];exact j6.2 (.inl rfl)
theorem uF(w:Wo):(js w).Pairwise λa b=>a.k≠b.k:=by have h:=z_.yA (gT.ajW (es w.o));rw[lK,jA]at h;exact oH _ h
def Gp(fe:az Fe)(bd:az En)(c:Cl):Prop:=
 (c.fe=0/\c.sta=2/\∃e∈bd,e.k=c.k/\e.st=c.fr/\e.bo=c.mQ/\e.li>c.age)\/
 ∃n:aF,c.fe=(n:aw)+1/\n<fe.length/\(el fe n).k=c.k/\c.mQ=(el fe n).t/\(el fe n).sta=c.sta/\(1<=c.sta/\c.sta<=3)
structure u5 (w:Wo):Prop where
 st:∀e∈w.p.en,e.st<=w.p.now
 bd:∀e∈w.p.en,e∈w.bd
 ob:∀e∈es w.o,e∈w.bd
 fr:∀e∈w.p.en,mP e w.p.now=ai->e∈kp (es w.o)
 cl:∀c∈w.p.cl,Gp w.p.fe w.bd c
theorem Gp.bd{fe:az Fe}{b b':az En}{c:Cl}(h:Gp fe b c)(hb:∀e∈b,e∈b'):Gp fe b' c:=by
 rcases h with ⟨h1,h2,e,he,h3⟩|h
 ·exact .inl ⟨h1,h2,e,hb e he,h3⟩
 ·exact .inr h
theorem Gp.app{fe:az Fe}{b:az En}{c:Cl}(h:Gp fe b c)(g:Fe):Gp (fe++[g]) b c:=by
 rcases h with h|⟨n,h1,h2,h3,h4,h5,h6⟩
 ·exact .inl h
 ·have e:el (fe++[g]) n=el fe n:=by rw[eN (by rw[bP];omega),eN h2,List.getElem_append_left h2]
  exact .inr ⟨n,h1,by rw[bP];omega,by rw[e];exact h3,by rw[e];exact h4,by rw[e];exact h5,h6⟩
theorem z8{p:Px}{b:az En}{n:aF}{g:Fe}{st:aw}(hn:n<p.fe.length)(ho:(el p.fe n).sta=1)(hk:g.k=(el p.fe n).k)(hg:g.sta=st)(h1:1<=st/\st<=3)(h:∀c∈p.cl,Gp p.fe b c):∀c∈(told p n g st).cl,Gp (told p n g st).fe b c:=by
 intro c hc;obtain⟨x,hx,rfl⟩:=cW.1 (show c∈p.cl.map (ec n st g.t)from hc);have QH:=h x hx;show Gp (p.fe.set n g) b (ec n st g.t x);rcases QH with h0|⟨m,m1,m2,m3,m4,m5,m6⟩
 ·have e:ec n st g.t x=x:=by unfold ec;rw[aK (show¬x.fe=(n:aw)+1 by have:=h0.1;omega)];rfl
  rw[e];exact .inl h0
 ·by_cases hm:m=n
  ·subst hm;have e:ec m st g.t x={x with sta:=st,mQ:=g.t}:=by unfold ec;rw[aE m1,aE (show x.sta=1 by rw[<-m5];exact ho)];rfl
   rw[e];refine .inr ⟨m,m1,by rw[cD];exact m2, ?_, ?_, ?_,h1⟩
   ·rw[iR m2,hk];exact m3
   ·rw[iR m2]
   ·rw[iR m2];exact hg
  ·have e:ec n st g.t x=x:=by unfold ec;rw[aK (show¬x.fe=(n:aw)+1 by omega)];rfl
   have e2:el (p.fe.set n g) m=el p.fe m:=by rw[eN (by rw[cD];exact m2),eN m2,List.getElem_set_ne (by omega)]
   rw[e];exact .inr ⟨m,m1,by rw[cD];exact m2,by rw[e2];exact m3,by rw[e2];exact m4,by rw[e2];exact m5,m6⟩
theorem ZU{p:Px}{e x:En}(h:x∈(yB p e).en):x=e\/x∈p.en:=by
 unfold yB at h;dsimp only at h;cases hb:fj.has (e6.val p.w p.m p.s p.a e.k).1 e.k||fj.has (e6.val p.w p.m p.s p.a e.k).2.1 e.k with
 |true=>
  rw[hb,au]at h;rcases j6.1 h with h|h
  ·exact .inl h
  ·exact .inr (jr.1 h.1).1
 |false=>rw[hb,ax]at h;exact .inr (jr.1 h).1
theorem VP{p:Px}{e x:En}(hp:jC.sR p.w p.m p.s p.a=ai)(hk:jC.eR e.k=ai)(h:x∈(yB p e).en):x=e\/(x∈p.en/\x.k≠e.k):=by
 have hb:=FI.J4 (key:=e.k) hp hk;unfold yB at h;dsimp only at h;rw[hb,au]at h;rcases j6.1 h with h|h
 ·exact .inl h
 ·exact .inr ⟨(jr.1 h.1).1,h.2⟩
theorem Tx{l:az Cl}{c x:Cl}(h:x∈jn l c):x=c\/x∈l:=by
 unfold jn at h;rcases ba.1 h with h|h
 ·rcases ba.1 h with h|h
  ·exact .inr (c9.1 h).1
  ·exact .inl (aZ.1 h)
 ·exact .inr (c9.1 h).1
theorem zP{w:Wo}{p:Px}(h:u5 w)(hn:p.now=w.p.now)(he:∀x∈p.en,x∈w.p.en)(hc:∀c∈p.cl,Gp p.fe w.bd c):u5 {w with p:=p}:=
 ⟨λx hx=>by show x.st<=p.now;rw[hn];exact h.st x (he x hx),λx hx=>h.bd x (he x hx),h.ob,λx hx hf=>h.fr x (he x hx) (by rw[<-hn];exact hf),hc⟩
theorem N3{w:Wo}{id:aw}{key:aq}{b:aX}{fe:az Fe}{i:aF}(h:u5 w)(H7:∀c,Gp w.p.fe w.bd c->Gp fe w.bd c)(hi:i<fe.length)(hk:(el fe i).k=key)(hs:(el fe i).sta=1):u5 {w with p:=put w.p id key b fe i}:=by
 refine zP h rfl (λx hx=> ?_) (λc hc=> ?_)
 ·unfold put at hx;cases b with
  |true=>exact(jr.1 hx).1
  |false=>exact hx
 ·rcases Tx hc with rfl|hc
  ·exact .inr ⟨i,rfl,hi,hk,rfl,hs,by dsimp only;omega⟩
  ·exact H7 c (h.cl c hc)
theorem JB{w:Wo}{id:aw}{key:aq}{b:aX}(h:u5 w):u5 {w with p:=(sP w.p id key b).1}:=by
 unfold sP;cases XS:N1 w.p.fe key with
 |some i=>obtain⟨hi,hq,_⟩:=mW.1 XS;unfold Fs at hq;rw[aL,bf,bf]at hq;exact N3 h (λ_ q=>q) hi (by rw[eN hi];exact hq.1) (by rw[eN hi];exact hq.2)
 |none=>
  dsimp only;by_cases QC:w.p.fe.length<20
  ·rw[aE QC,au];have e:el (w.p.fe++[rW key]) w.p.fe.length=rW key:=by rw[eN (by rw[bP];show w.p.fe.length<w.p.fe.length+1;omega),List.getElem_append_right (cF _)];simp
   exact N3 h (λc q=>q.app _) (by rw[bP];show w.p.fe.length<w.p.fe.length+1;omega) (by rw[e];rfl) (by rw[e];rfl)
  ·rw[aK QC];exact h
theorem Xh{w:Wo}(id:aw)(key:aq)(ho:g7 w.p)(h:u5 w):u5 {w with p:=(im.ask w.p id key).1}:=by
 unfold im.ask;cases hg:pj.jd w.p&&(decide (1<=id/\id<=9)&&(jC.eR key&&(!lC w.p.cl id&&decide (w.p.cl.length<6))))with
 |false=>exact h
 |true=>
  rw[au];cases he:H4 w.p.en key with
  |none=>exact JB h
  |some e=>
   dsimp only;cases hf:im.mP e w.p.now with
   |false=>exact JB h
   |true=>
    unfold H4 at he;have h1:=qF he;have h2:e.k=key:=by have:=vp he;exact cq this
    obtain⟨f1,f2,f3⟩:=(xL ho.now).1 (show mP e w.p.now=ai from hf);refine zP h rfl (λx hx=>hx) (λc hc=> ?_);rcases Tx hc with rfl|hc
    ·exact .inl ⟨rfl,rfl,e,h.bd e h1,h2,rfl,rfl,by dsimp only;omega⟩
    ·exact h.cl c hc
theorem Zv{w:Wo}(f:aw)(t:aq)(h:u5 w):u5 {w with p:=(C3 w.p f t).1}:=by
 unfold C3;cases ho:s6 w.p f&&(decide (1<=t.size/\t.size<=40)&&decide ((el w.p.fe f.toNat).t.size+t.size<=400))with
 |false=>exact h
 |true=>rw[aL]at ho;obtain⟨n,rfl,hn,_,h1⟩:=gq.iT ho.1;rw[au,dG];exact zP h rfl (λx hx=>hx) (z8 hn h1 rfl h1 (by omega) h.cl)
theorem Xl{w:Wo}(f:aw)(h:u5 w):u5 {w with p:=(Cd w.p f).1}:=by
 unfold Cd;cases ho:s6 w.p f with
 |false=>exact h
 |true=>obtain⟨n,rfl,hn,_,h1⟩:=gq.iT ho;rw[au,dG];exact zP h rfl (λx hx=>hx) (z8 hn h1 rfl rfl (by omega) h.cl)
theorem KN{w:Wo}(f life:aw)(ho:g7 w.p)(hl:0<=life/\life<=999999)(h:u5 w):u5 (closed w f life).1:=by
 unfold closed;dsimp only;unfold cls;cases XS:s6 w.p f&&decide (0<=life/\life<=999999)with
 |false=>exact h
 |true=>
  rw[aL]at XS;obtain⟨n,rfl,hn,_,h1⟩:=gq.iT XS.1;obtain⟨g1,g2,g3,g4,g5⟩:=z_.IZ ho hn;rw[au,dG];have ht:∀c∈(told w.p n {el w.p.fe n with sta:=2,li:=life,st:=w.p.now} 2).cl,Gp (told w.p n {el w.p.fe n with sta:=2,li:=life,st:=w.p.now} 2).fe w.bd c:=z8 hn h1 rfl rfl (by omega) h.cl;by_cases Py:life>0
  ·rw[aE Py,au];dsimp only[bc,au];have ee:el (yB (told w.p n {el w.p.fe n with sta:=2,li:=life,st:=w.p.now} 2) (kG {el w.p.fe n with sta:=2,li:=life,st:=w.p.now})).fe n={el w.p.fe n with sta:=2,li:=life,st:=w.p.now}:=iR hn;rw[ee];generalize hE:kG {el w.p.fe n with sta:=2,li:=life,st:=w.p.now}=E;have hEk:E.k=(el w.p.fe n).k:=by rw[<-hE];rfl
   have hEs:E.st=w.p.now:=by rw[<-hE];rfl
   have mem:∀x∈(yB (told w.p n {el w.p.fe n with sta:=2,li:=life,st:=w.p.now} 2) E).en,x=E\/(x∈w.p.en/\x.k≠E.k):=λx hx=>VP (p:=told w.p n {el w.p.fe n with sta:=2,li:=life,st:=w.p.now} 2) ho.pol (by rw[hEk];exact g1) hx;refine⟨λx hx=> ?_,λx hx=> ?_,λx hx=> ?_,λx hx hf=> ?_,λc hc=>(ht c hc).bd λx hx=>bM _ hx⟩
   ·rcases mem x hx with rfl|hx
    ·exact Int.le_of_eq hEs
    ·exact h.st x hx.1
   ·rcases mem x hx with rfl|hx
    ·exact bN _ dq
    ·exact bM _ (h.bd x hx.1)
   ·rcases ba.1 (show x∈es w.o++[E]from hx)with hx|hx
    ·exact bM _ (h.ob x hx)
    ·exact bN _ hx
   ·show x∈kp (es w.o++[E]);rw[Hl];rcases mem x hx with rfl|hx
    ·exact j6.2 (.inl rfl)
    ·exact j6.2 (.inr ⟨h.fr x hx.1 hf,hx.2⟩)
  ·rw[aK Py,ax];exact zP h rfl (λx hx=>hx) ht
theorem UJ{w:Wo}(n:aw)(ho:g7 w.p)(h:u5 w):u5 {w with p:=qK.val w.p n}:=by
 obtain⟨l1,l2⟩:=FJ.zK (n:=n) ho.now;have XR:=ho.now;refine⟨λx hx=>BV (h.st x hx) l1,h.bd,h.ob,λx hx hf=>h.fr x hx ?_,h.cl⟩
 obtain⟨f1,f2,f3⟩:=(xL (now:=qK.later w.p.now n) ⟨by omega,l2⟩).1 hf;have:=h.st x hx;exact(xL ho.now).2 ⟨f1,this,by omega⟩
theorem PK{w:Wo}(id:aw)(h:u5 w):u5 {w with p:=tl.val w.p id}:=
 zP h rfl (λx hx=>hx) (λc hc=>h.cl c (c9.1 hc).1)
theorem yo{now:aw}:∀(l:az En),∀x∈(qc now l).en,x∈l/\mP x now=true:=by
 intro l;rw[<-vQ l];generalize l.reverse=r;induction r with
 |nil=>intro x hx;cases hx
 |cons e r ih=>
  intro x hx;rw[yW]at hx⊢;have e1:qc now (r.reverse++[e])=one now (qc now r.reverse) e:=by unfold qc;rw[kW];rfl
  rw[e1]at hx;unfold one at hx;cases hf:mP e now with
  |false=>rw[hf,ax]at hx;exact⟨bM _ (ih x hx).1,(ih x hx).2⟩
  |true=>
   rw[hf,au]at hx;rcases ZU hx with rfl|hx
   ·exact⟨bN _ dq,hf⟩
   ·exact⟨bM _ (ih x hx).1,(ih x hx).2⟩
theorem SE{w:Wo}(ho:g7 w.p)(h:u5 w):u5 (tG w):=by
 have V:=dZ.rS w.p.now (js w) (js w).length (cF _);rw[dD]at V;have hm:∀x∈js w,x∈es w.o:=λx hx=>Ls (c9.1 hx).1;refine⟨λx hx=> ?_,λx hx=>h.ob x (hm x (yo _ x hx).1),λx hx=>h.ob x (hm x hx),λx hx _=>Hj _ (uF w) x (yo _ x hx).1,λc hc=> ?_⟩
 ·show x.st<=(qc w.p.now (js w)).now;rw[V.now];exact((xL ho.now).1 (yo _ x hx).2).2.1
 ·have:c∈(qc w.p.now (js w)).cl:=hc;rw[V.cl]at this;cases this
theorem aeN{w:Wo}{l:az aw}(h:u5 w):u5 {w with cd:=l}:=⟨h.st,h.bd,h.ob,h.fr,h.cl⟩
theorem VO{i:aF}{w:Wo}{e:Ev}(hW:tu i w)(h:u5 w):u5 (gE.step w e):=by
 unfold gE.step;refine aeN ?_;unfold gE.act;cases decide (e.k=1)
 ·cases decide (e.k=2)
  ·cases decide (e.k=3)
   ·cases decide (e.k=4)
    ·cases decide (e.k=5)
     ·cases decide (e.k=6)
      ·exact SE hW.px h
      ·exact PK _ h
     ·exact UJ _ hW.px h
    ·exact Xl _ h
   ·exact KN _ _ hW.px (by omega) h
  ·exact Zv _ _ h
 ·exact Xh _ _ hW.px h
theorem ZI:∀{l:az Ev},(∀e∈l,iA e=ai)->u5 (qf.run l):=by
 intro l;rw[<-vQ l];generalize l.reverse=r;induction r with
 |nil=>intro _;show u5 qf.w0;exact⟨λx h=>cJ h gG,λx h=>cJ h gG,λx h=>cJ h gG,λx h=>cJ h gG,λx h=>cJ h gG⟩
 |cons e r ih=>
  intro h;rw[yW]at h⊢;have e1:qf.run (r.reverse++[e])=gE.step (qf.run r.reverse) e:=by unfold qf.run;rw[kW];rfl
  have h2:∀x∈r.reverse,iA x=true:=λx hx=>h x (bM _ hx);rw[e1];exact VO (qf.LR h2) (ih h2)
end Em

namespace KF
open dt (I)
open A_Post (jk)
open gE (Ev iA)
def Dr(q e w m s fe cl dk cd bd:aR)(x:aw×aw×aq×aw×aR×aR×aw×aw×aR×aR×aR×aR×aR×aR×aR×aR×aR):Prop:=
 ∃k id t n a' s',x=(k,id,t,n,[],q,a',s',e,w,m,s,fe,cl,dk,cd,bd)/\I q a'/\iA ⟨k,id,t,n,[]⟩=ai/\k<=6
theorem leaf{q e w m s fe cl dk cd bd:aR}{k id:aw}{t:aq}{n a' s':aw}(hI:I q a')(hk:1<=k/\k<=6)(Jf:0<=id/\id<=30)(ht:t.size<=60)(hn:0<=n):jk (ah (k,id,t,n,([]:aR),q,a',s',e,w,m,s,fe,cl,dk,cd,bd)) (Dr q e w m s fe cl dk cd bd):=by
 refine⟨_,rfl,k,id,t,n,a',s',rfl,hI, ?_,hk.2⟩
 unfold iA;rw[aE (show 1<=k/\k<=7 by omega),aE Jf,aE ht,aE hn];rfl
theorem idA{n:aw}(h0:0<=n)(h1:(0:aw)<3->n<3):0<=n/\n<=30:=by omega
theorem idB{n:aw}(h0:0<=n)(h1:(0:aw)<9->n<9):0<=bJ (1+n)/\bJ (1+n)<=30:=by rw[de (x:=1+n) (by omega) (by omega)];omega
theorem idC{l:aR}{n:aw}(hl:∀j,j<l.length->0<=bF (ar l j 0)/\bF (ar l j 0)<=30)(h0:0<=n)(h1:0<(l.length:aw)->n<(l.length:aw))(hp:decide ((l.length:aw)>0)=ai):0<=bF (ar l n.toNat 0)/\bF (ar l n.toNat 0)<=30:=by have:=h1 (cq hp);exact hl _ (by omega)
theorem tA{t:aq}(h:t.size=2):t.size<=60:=by omega
theorem opens{P:R->Prop}(N:aF)(K:aw->aw->aw->aw->aR->aw->aw->aR->aR->aR->aR->aR->aR->aR->aR->aR->aw->aw->aw->aw->aw->aq->aw->aw->aw->aq->aw->aR->aC R)(x1 x2 x3:aw)(x5:aR)(x6 x7:aw)(x8 x9 WH WI HO WJ x14 WK WL:aR)(Z1 Z2 Z3 Z4 Z5:aw)(Z6:aq)(Z7 Z8 Z9:aw)(Z_:aq)(x27:aw)(hf:HO.length<=20)
  (hK:∀l:aR,(∀j,j<l.length->0<=bF (ar l j 0)/\bF (ar l j 0)<=30)->jk (K x1 x2 x3 (HO.length:aw) x5 x6 x7 x8 x9 WH WI HO WJ x14 WK WL Z1 Z2 Z3 Z4 Z5 Z6 Z7 Z8 Z9 Z_ x27 l) P):
  ∀(d i n:aF) (l:aR),HO.length-i<=d->i<=HO.length->d<n->l.length<=i->(∀j,j<l.length->0<=bF (ar l j 0)/\bF (ar l j 0)<=30)->
   jk (l4 N K n x1 x2 x3 (i:aw) x5 x6 x7 x8 x9 WH WI HO WJ x14 WK WL Z1 Z2 Z3 Z4 Z5 Z6 Z7 Z8 Z9 Z_ x27 l) P:=by
 have fin:∀(n:aF) (l:aR),(∀j,j<l.length->0<=bF (ar l j 0)/\bF (ar l j 0)<=30)->jk (l4 N K (n+1) x1 x2 x3 (HO.length:aw) x5 x6 x7 x8 x9 WH WI HO WJ x14 WK WL Z1 Z2 Z3 Z4 Z5 Z6 Z7 Z8 Z9 Z_ x27 l) P:=λn l hl=>by refine A_Post.eq ?_ (hK l hl);simp only[l4,r4,Lib.dm,bm,bj,ax]
 intro d;induction d with
 |zero=>
  intro i n l h1 h2 h3 h4 h5;obtain⟨n,rfl⟩:∃k,n=k+1:=⟨n-1,by omega⟩
  have:i=HO.length:=by omega
  subst this;exact fin n l h5
 |succ d ih=>
  intro i n l h1 h2 h3 h4 h5;obtain⟨n,rfl⟩:∃k,n=k+1:=⟨n-1,by omega⟩
  by_cases h:i<HO.length
  ·have mi:bJ ((i:aw)+1)=((i+1:aF):aw):=de (by omega) (by omega);by_cases hs:bF (ar HO i 2)=1
   ·have hr:cw (l.length+(aD (aP [Ck.i ao] 1) 0 [CV.i ao (i:aw)]).length) 8=true:=by rw[fU.nb];exact Lib.ch (by omega) (by omega)
    refine A_Post.eq (o':=l4 N K n x1 x2 x3 ((i+1:aF):aw) x5 x6 x7 x8 x9 WH WI HO WJ x14 WK WL Z1 Z2 Z3 Z4 Z5 Z6 Z7 Z8 Z9 Z_ x27 (l++aD (aP [Ck.i ao] 1) 0 [CV.i ao (i:aw)])) ?_ (ih (i+1) n _ (by omega) h (by omega) (by rw[bP,fU.nb];omega) λj hj=> ?_)
    ·simp only[l4,r4,Lib.dm,h,aN,Lib.cE,aM,au,Lib.dX,hs,hr,mi]
    ·rw[bP,fU.nb]at hj;by_cases j8:j<l.length
     ·have:ar (l++aD (aP [Ck.i ao] 1) 0 [CV.i ao (i:aw)]) j 0=ar l j 0:=by unfold ar;rw[cS,cS,dH j8];simp only[cS]
      rw[this];exact h5 j j8
     ·have:ar (l++aD (aP [Ck.i ao] 1) 0 [CV.i ao (i:aw)]) j 0=CV.i ao (i:aw):=by unfold ar;rw[cS,cS,da (by omega),show j-l.length=0 by omega];rfl
      rw[this];show 0<=(i:aw)/\(i:aw)<=30;omega
   ·refine A_Post.eq (o':=l4 N K n x1 x2 x3 ((i+1:aF):aw) x5 x6 x7 x8 x9 WH WI HO WJ x14 WK WL Z1 Z2 Z3 Z4 Z5 Z6 Z7 Z8 Z9 Z_ x27 l) ?_ (ih (i+1) n _ (by omega) h (by omega) (by omega) h5);simp only[l4,r4,Lib.dm,h,aN,Lib.cE,aM,au,ax,Lib.dX,hs,bj,mi]
  ·have:i=HO.length:=by omega
   subst this;exact fin n l h5
set_option maxHeartbeats 8000000 in
theorem body(q:aR)(a s:aw)(now:aw)(en w m sk:aR)(ag:aw)(fe cl:aR)(hits:aw)(dk cd bd:aR)(hI:I q a)(hf:fe.length<=20)(hc:∀j,j<cl.length->0<=bF (ar cl j 0)/\bF (ar cl j 0)<=30):jk (vo q a s now en w m sk ag fe cl hits dk cd bd) (Dr q en w m sk fe cl dk cd bd):=by
 unfold vo;generalize hN:Lib.cU=N;have hN1:20<N:=by rw[<-hN];exact cG (by omega)
 unfold b;refine A_Post.acK (λn=>1<=n/\n<=6) ⟨by decide,by decide⟩ hI (λkd a1 s1 I1 hk=> ?_);refine opens N _ _ _ _ _ _ _ _ _ _ _ _ _ _ _ _ _ _ _ _ _ _ _ _ _ _ _ hf (λl hl=> ?_) fe.length 0 N _ (by omega) (by omega) (by omega) (bI _) (λj hj=>cJ hj (Nat.not_lt_zero j));dsimp only
 repeat' first
  |refine A_Post.below (by assumption) (λn a s hI h0 h1=> ?_)
  |refine A_Post.once (by assumption) (λn a s hI=> ?_)
  |refine A_Post.key (by assumption) (λn a s hI h0=> ?_)
  |refine A_Post.acK (λn=>0<=n) ⟨by decide,by decide⟩ (by assumption) (λn a s hI h0=> ?_)
  |refine A_Post.alF (λt=>t.size<=60) ⟨by decide,by decide⟩ (by assumption) (λn a s hI h0=> ?_)
  |refine A_Post.ck (A_Post.idx (by assumption) (by assumption) (by assumption)) ?_
  |refine leaf (by assumption) (by first|exact hk|decide) (by first|exact idA (by assumption) (by assumption)|exact idB (by assumption) (by assumption)|exact idC hl (by assumption) (by assumption) (by assumption)|exact idC hc (by assumption) (by assumption) (by assumption)|decide) (by first|exact bI _|assumption|exact tA (by assumption)) (by first|exact Int.le_refl 0|assumption)
  |refine A_Post.br (λh=> ?_) (λh=> ?_)
end KF

namespace tq
theorem ok(l:aR)(hl:l.length<=4294967296):c l=ai/\v l=l:=by refine out l ?_;unfold vo b;rw[show bT (aP [Ck.s] 0)+l.length=l.length by simp[aP],Lib.ch (by omega) (by omega)];rfl
end tq

namespace jw
open Lib (rr rs)
theorem ok(w m:az aq)(s:az (az aw))(a:aw)(hw:w.length<=1048576)(hm:m.length<=1048576)(hf:jq.oS s):c (rs w) (rs m) (rr s) a=ai/\v (rs w) (rs m) (rr s) a=(rs w,rs m,rr s,a):=by have h1:=tq.ok (rs w) (by rw[eZ];omega);have h2:=tq.ok (rs m) (by rw[eZ];omega);have h3:=jq.ok s a hf;exact out _ _ _ _ (by unfold vo b;rw[h1.1,h1.2,h2.1,h2.2,h3.1,h3.2,au,au,au])
end jw

namespace iP
open Lib (rr rs re rf rc Px)
theorem ok(p:Px)(hp:p.Fit 1048576):c p.now (re p.en) (rs p.w) (rs p.m) (rr p.s) p.a (rf p.fe) (rc p.cl) p.hits=ai/\v p.now (re p.en) (rs p.w) (rs p.m) (rr p.s) p.a (rf p.fe) (rc p.cl) p.hits=(p.now,re p.en,rs p.w,rs p.m,rr p.s,p.a,rf p.fe,rc p.cl,p.hits):=by have he:=hp.en;have hf:=hp.fe;have hc:=hp.cl;have h1:=wV.ok (re p.en) (by rw[dc];omega);have h2:=jw.ok p.w p.m p.s p.a hp.w hp.m ⟨hp.s.1,hp.s.2.1⟩;exact out _ _ _ _ _ _ _ _ _ (by unfold vo b;rw[h1.1,h1.2,h2.1,h2.2,au,au,Lib.ch (by simp[aP,dM];omega) (by simp[aP,dM];omega),Lib.ch (by simp[aP,fc];omega) (by simp[aP,fc];omega)];rfl)
end iP

namespace pQ
open Lib (rr)
theorem eO(n a b:aw):lB.v n a b=decide (a<=n/\n<=b):=fF.eO n a b
theorem ok(s:az (az aw))(a:aw)(hf:jq.oS s):c (rr s) a=ai/\v (rr s) a=fF.ot s a:=by
 refine out _ _ ?_;unfold vo b;have hl:=hf.1;rw[gX]
 have inner:∀i (h:i<s.length) (K0 K1:aX->aR->aR->aw->aw->aR->aw->aw->aR->aw->aC aX) (kf kt:aC aX) (x:aw)
   (h0:∀j:aw,K0 ak (Lib.ri s[i]) (rr s) s.length i (Lib.ri s[i]) x j (rr s) a=kf) (h1:∀j:aw,K1 ak (Lib.ri s[i]) (rr s) s.length i (Lib.ri s[i]) x j (rr s) a=kt),x=(s[i].length:aw)->l5 Lib.cU K0 K1 Lib.cU ak (Lib.ri s[i]) (rr s) s.length (i:aw) (Lib.ri s[i]) x 0 (rr s) a=bif(s[i]).all fF.NQ then kt else kf:=λi h K0 K1 kf kt x h0 h1 hx=>by
  subst hx
  exact pk (s[i]) fF.NQ (λm (j:aF)=>l5 Lib.cU K0 K1 m ak (Lib.ri s[i]) (rr s) s.length (i:aw) (Lib.ri s[i]) s[i].length (j:aw) (rr s) a) kf kt
   (λm j hj hp=>by have hl:=hf.2 _ (bC h);unfold fF.NQ at hp;simp only[l5,r5,Lib.dm,hj,aN,Lib.cE,aM,au,Lib.dX,Lib.gW,QK hj,bF,eO,hp,a_,ax,Lib.cZ hj (by omega:s[i].length<=9223372036854775807)])
   (λm j hj hp=>by unfold fF.NQ at hp;simp only[l5,r5,Lib.dm,hj,aN,Lib.cE,aM,au,Lib.dX,Lib.gW,QK hj,bF,eO,hp,bR,h0])
   (λm=>by simp only[l5,r5,Lib.dm,bm,bj,ax,h1]) Lib.cU (cG (by have:=hf.2 _ (bC h);omega))
 have ro:∀q:az aw,fF.sG q=(q.all fF.NQ&&decide (q.length=16)):=λq=>Bool.and_comm ..
 have key:=pk s fF.sG (λm (i:aF)=>l2 Lib.cU (λ(y36:aX) (_:aR) (_ _:aw) (_:aR) (_:aw)=>ah y36) (λ(_:aX) (_:aR) (_ _:aw) (y46:aR) (y47:aw)=>bif(decide ((↑(bT y46):aw)=3))then(ah (lB.v y47 0 63))else(ah ak)) m ak (rr s) s.length (i:aw) (rr s) a) (ah ak) (ah (decide (s.length=3)&&decide (0<=a/\a<=63)))
  (λm i h hp=>by rw[ro,aL]at hp;have Kb:=cq hp.2;simp only[l2,r2,gX,Lib.dm,h,aN,Lib.cE,aM,au,Lib.dX,Ke h,jz,Lib.gW];rw[inner i h _ _ (ah ak) _ _ (λ_=>rfl) (λ_=>rfl) rfl,hp.1,au,Lib.gW,Kb,show(((16:aF):aw) !=16)=ak from rfl,ax,Lib.cZ h (by omega)])
  (λm i h hp=>by
   rw[ro]at hp;simp only[l2,r2,gX,Lib.dm,h,aN,Lib.cE,aM,au,Lib.dX,Ke h,jz,Lib.gW];rw[inner i h _ _ (ah ak) _ _ (λ_=>rfl) (λ_=>rfl) rfl];cases ha:(s[i]).all fF.NQ with
   |false=>rfl
   |true=>rw[ha,bc]at hp;have:=l8 hp;rw[au,Lib.gW,show((s[i].length:aw) !=16)=ai by simp;omega,au])
  (λm=>by simp only[l2,r2,gX,Lib.dm,bm,bj,ax,eO];rw[show decide ((s.length:aw)=3)=decide (s.length=3)by rw[cg];omega];cases decide (s.length=3)<;>rfl) Lib.cU (cG (by omega))
 refine key.trans ?_;unfold fF.ot;cases s.all fF.sG<;>cases decide (s.length=3)<;>cases decide (0<=a/\a<=63)<;>rfl
end pQ

namespace DW
theorem ok(n:aw)(h0:0<=n)(h1:n<=4294967296):c n=ai/\v n=[]:=by
 refine out n ?_;unfold vo b;have e:bJ (n-bJ (0-0))=n:=by rw[show bJ (0-0)=0 from rfl,Int.sub_zero,de (by omega) (by omega)]
 rw[e,aK (show¬n<0 by omega),ax];by_cases hn:n>0
 ·rw[aE hn,au,aE h0,aE (show n<=9223372036854775807 by omega),Lib.ch (by simp;omega) (by simp;omega)];simp[eA]
 ·rw[aK hn,ax]
end DW

namespace wU
theorem ok(p q:aR)(hp:p.length<=1048576)(hq:q.length<=1048576):c [[CV.l 9 p],[CV.l 9 q]]=ai/\v [[CV.l 9 p],[CV.l 9 q]]=p++q:=by
 refine out _ ?_;have w1:bJ (0+(p.length:aw))=(p.length:aw):=by rw[Int.zero_add];exact de (by omega) (by omega)
 have w2:bJ ((p.length:aw)+(q.length:aw))=(p.length:aw)+(q.length:aw):=de (by omega) (by omega);have hg:=DW.ok ((p.length:aw)+(q.length:aw)) (by omega) (by omega);have d1:decide ((p.length:aw)<0)=false:=aK (by omega);have d2:decide ((p.length:aw)+(q.length:aw)<0)=false:=aK (by omega);have g1:cw (0+p.length) 16=true:=Lib.ch (by omega) (by omega);have g2:cw (p.length+q.length) 16=true:=Lib.ch (by omega) (by omega);have c0:jz (ar [[CV.l 9 p],[CV.l 9 q]] 0 0)=p:=rfl;have c1:jz (ar [[CV.l 9 p],[CV.l 9 q]] 1 0)=q:=rfl;unfold vo b;obtain⟨n,hn⟩:∃n,Lib.cU=n+3:=⟨18446744073709551613,rfl⟩
 generalize Lib.cU=B at hn⊢;subst hn;have k3:∀(R:Type) (K:aR->aw->aR->aw->aw->aC R) (S:aR),S=[[CV.l 9 p],[CV.l 9 q]]->l3 (n+3) K (n+3) S 0 S 2 0=K S ((p.length:aw)+(q.length:aw)) S 2 2:=by intro R K S hS;subst hS;simp only[l3,r3,db,jT,show aW 0=0 from rfl,c0,w1,d1,show bJ (0+1)=1 from rfl,show aW 1=1 from rfl,c1,w2,d2,show bJ (1+1)=2 from rfl,ax,show decide ((0:aw)<2)=ai from rfl,show decide ((1:aw)<2)=ai from rfl,show decide ((2:aw)<2)=ak from rfl,show decide ((0:aw)<=0)=ai from rfl,show decide ((0:aw)<=1)=ai from rfl,show((0+1+1:aF):aw)=2 from rfl,aM,au]
 have k11:∀(R:Type) (K:aR->aw->aw->aR->aC R) (S:aR),S=[[CV.l 9 p],[CV.l 9 q]]->PH (n+3) K (n+3) S 2 0 []=K S 2 2 (p++q):=by intro R K S hS;subst hS;simp only[PH,Aw,db,jT,show aW 0=0 from rfl,c0,g1,show bJ (0+1)=1 from rfl,show aW 1=1 from rfl,c1,gC,g2,show bJ (1+1)=2 from rfl,ax,show decide ((0:aw)<2)=ai from rfl,show decide ((1:aw)<2)=ai from rfl,show decide ((2:aw)<2)=ak from rfl,show decide ((0:aw)<=0)=ai from rfl,show decide ((0:aw)<=1)=ai from rfl,show((0+1+1:aF):aw)=2 from rfl,aM,au]
 show l3 (n+3) _ (n+3) _ 0 _ 2 0=_;rw[k3 _ _ _ rfl,hg.1,hg.2,au];exact k11 _ _ _ rfl
end wU

namespace qH
theorem ok(w m:az aq)(s:aR)(a:aw)(hw:w.length<=1048576)(hm:m.length<=1048576):c (Lib.rs w) (Lib.rs m) s a=ai/\v (Lib.rs w) (Lib.rs m) s a=Lib.rs (w++m):=by
 have h:=wU.ok (Lib.rs w) (Lib.rs m) (by rw[eZ];exact hw) (by rw[eZ];exact hm);have e:aD (aD (aP [Ck.l 9] 2) 0 [CV.l 9 (Lib.rs w)]) 1 [CV.l 9 (Lib.rs m)]=[[CV.l 9 (Lib.rs w)],[CV.l 9 (Lib.rs m)]]:=rfl;have e2:Lib.rs w++Lib.rs m=Lib.rs (w++m):=by unfold Lib.rs;rw[di]
 exact out _ _ _ _ (by unfold vo b;rw[e,h.1,h.2,au,e2])
end qH

namespace A0
theorem ok(l:az aq)(k:aq)(hl:l.length<=4294967296):c (Lib.rs l) k=ai/\decide (v (Lib.rs l) k≥0)=fj.has l k:=by
 have h:=out (Lib.rs l) k (x:=Lib.fi (λi=>decide ((l.getD i ⟨#[]⟩)=k)) l.length 0) (by
  unfold vo b;rw[eZ];refine m7 (λi=>decide ((l.getD i ⟨#[]⟩)=k)) l.length (λm (i:aF)=>l2 Lib.cU (λ(_:aR) (_:aq) (y7 _ _:aw)=>ah y7) (λ(_:aR) (_:aq) (_ _ _:aw)=>ah (-1)) m (Lib.rs l) k 0 (l.length:aw) (i:aw)) ah (λm i hi hp=> ?_) (λm i hi hp=> ?_) (λm=> ?_) Lib.cU (cG (by omega))
  ·have hg:l.getD i ⟨#[]⟩=l[i]:=by simp[jS,hi]
   rw[hg]at hp;have mN:decide (k=l[i])=true:=by rw[<-hp,cg];exact IV
   simp only[l2,r2,eZ,Lib.dm,hi,aN,Lib.cE,aM,au,Lib.dX,WG hi,bw,Lib.fm,mN]
  ·have hg:l.getD i ⟨#[]⟩=l[i]:=by simp[jS,hi]
   rw[hg]at hp;have mN:decide (k=l[i])=false:=by rw[<-hp,cg];exact IV
   simp only[l2,r2,eZ,Lib.dm,hi,aN,Lib.cE,aM,au,Lib.dX,WG hi,bw,Lib.fm,mN,ax,Lib.cZ hi (by omega:l.length<=9223372036854775807)]
  ·simp only[l2,r2,Lib.dm,bm,bj,ax])
 refine⟨h.1, ?_⟩
 rw[h.2];exact Lib.Cr l (λx=>decide (x=k)) _ (λi hi=>by simp[jS,hi])
end A0

namespace sK
theorem ok(l:az aq)(k:aq)(hl:l.length<=4294967296):c (Lib.rs l) k=ai/\v (Lib.rs l) k=fj.has l k:=by have h:=A0.ok l k hl;exact out _ _ (by unfold vo b;rw[h.1,h.2,au])
end sK

namespace pd
open Lib (rr rs)
open fj (has without gK lM)
open jC (eR Lp nI sR yE)
theorem iS(k:aq):zv.v k=eR k:=fF.eO _ _ _
theorem ok(w m:az aq)(s:az (az aw))(a:aw)(hw:w.length<=1048576)(hm:m.length<=1048576)(hf:jq.oS s):c (rs w) (rs m) (rr s) a=ai/\v (rs w) (rs m) (rr s) a=sR w m s a:=by
 refine out _ _ _ _ ?_;have h2:=pQ.ok s a hf;have h3:=qH.ok w m (rr s) a hw hm;unfold vo b;rw[h3.1,h3.2,au,eZ];have hl:(w++m).length<=2097152:=by rw[bP];omega
 have gg:∀i,i<(w++m).length->sK.c (rs ((w++m).take i)) ((w++m).getD i ⟨#[]⟩)=ai/\sK.v (rs ((w++m).take i)) ((w++m).getD i ⟨#[]⟩)=has ((w++m).take i) ((w++m).getD i ⟨#[]⟩):=λi hi=>sK.ok _ _ (by rw[eD];omega);have hk:∀i (hi:i<(w++m).length),bw (ar (rs (w++m)) i 0)=(w++m).getD i ⟨#[]⟩:=λi hi=>by rw[WG hi,show(w++m).getD i ⟨#[]⟩=(w++m)[i]by rw[cS,eV hi];rfl];rfl
 generalize hL:w++m=L at hl gg hk
 have key:=iC (Lp L) L.length (λn (i:aF)=>l3 Lib.cU (λ(y8:aX) (_ _:aw) (_ _ _:aR) (_:aw) (_:aR)=>ah y8) (λ(_:aX) (_ _:aw) (El wA Kj:aR) (Kk:aw) (_:aR)=>bif(decide ((↑(bT El):aw)<=2))then(bif(decide ((↑(bT wA):aw)<=4))then(bif(pQ.c Kj Kk)then(ah (pQ.v Kj Kk))else(aj))else(ah ak))else(ah ak)) n ak (L.length:aw) (i:aw) (rs w) (rs m) (rr s) a (rs L)) (ah ak) (ah (decide (w.length<=2)&&(decide (m.length<=4)&&fF.ot s a)))
  (λn i hi hp=>by
   unfold Lp at hp;rw[aL,dr]at hp;have b1:g8 0 (i:aw) (L.length:aw)=true:=by simp[g8];omega
   simp only[l3,r3,eZ,Lib.dm,hi,aN,Lib.cE,aM,au,Lib.dX,hk i hi,iS,hp.1,a_,ax,b1,yE,(gg i hi).1,(gg i hi).2,hp.2,Lib.cZ hi (by omega:L.length<=9223372036854775807)])
  (λn i hi hp=>by
   have b1:g8 0 (i:aw) (L.length:aw)=true:=by simp[g8];omega
   unfold Lp at hp;cases h1:eR (L.getD i ⟨#[]⟩)with
   |false=>simp only[l3,r3,eZ,Lib.dm,hi,aN,Lib.cE,aM,au,Lib.dX,hk i hi,iS,h1,bR]
   |true=>rw[h1,bc,nk]at hp;simp only[l3,r3,eZ,Lib.dm,hi,aN,Lib.cE,aM,au,Lib.dX,hk i hi,iS,h1,a_,ax,b1,yE,(gg i hi).1,(gg i hi).2,hp])
  (λn=>by simp only[l3,r3,eZ,Lib.dm,bm,bj,ax,h2.1,h2.2,au];rw[show decide ((w.length:aw)<=2)=decide (w.length<=2)by rw[cg];omega,show decide ((m.length:aw)<=4)=decide (m.length<=4)by rw[cg];omega];cases decide (w.length<=2)<;>cases decide (m.length<=4)<;>rfl) Lib.cU (cG (by omega))
 refine key.trans ?_;unfold sR nI;rw[hL];cases (b9 L.length).all (Lp L)<;>rfl
end pd

namespace sJ
open Lib (rr rs)
open fj (has)
theorem XK(w m:az aq)(k:aq):has (w++m) k=(has w k||has m k):=by unfold has;rw[List.any_append]
theorem ok(w m:az aq)(s:aR)(a:aw)(k:aq)(hw:w.length<=1048576)(hm:m.length<=1048576):c (rs w) (rs m) s a k=ai/\v (rs w) (rs m) s a k=(has w k||has m k):=by have h1:=qH.ok w m s a hw hm;have h2:=sK.ok (w++m) k (by rw[bP];omega);exact out _ _ _ _ _ (by unfold vo b;rw[h1.1,h1.2,h2.1,h2.2,au,au,XK])
end sJ

namespace Qz
open Lib (rr rs re el oE qz qA qB En)
open fj (has)
open jC (sR)
open nU (H3 Nj vl)
theorem EX(k:aq)(s l:aw)(b:aq):wP.v k s l b=ni.v k s l b:=rfl
theorem ok(i0:aw)(en:az En)(w m:az aq)(s:az (az aw))(a:aw)(r6 r7:aR)(i8:aw)(he:en.length<=1048576)(hw:w.length<=1048576)(hm:m.length<=1048576)(hf:jq.oS s):
  c i0 (re en) (rs w) (rs m) (rr s) a r6 r7 i8=ai/\v i0 (re en) (rs w) (rs m) (rr s) a r6 r7 i8=Nj en w m s a:=by
 refine out _ _ _ _ _ _ _ _ _ ?_;have h1:=pd.ok w m s a hw hm hf;have h2:=λk=>sJ.ok w m (rr s) a k hw hm;have h3:=qH.ok w m (rr s) a hw hm;unfold vo b;rw[dc]
 have key:=iC (H3 en w m) en.length (λn (i:aF)=>l2 Lib.cU (λ(HR:aX) (_:aR) (_ _ _:aw) (_ _ _ _:aR) (_:aw) (_ _:aR) (_:aw)=>ah HR) (λ(_:aX) (_:aR) (_ _ _:aw) (QU Qo V8 y34:aR) (y35:aw) (_ _:aR) (_:aw)=>bif(pd.c Qo V8 y34 y35)then(bif(pd.v Qo V8 y34 y35)then(bif(qH.c Qo V8 y34 y35)then(ah (decide ((↑(bT (qH.v Qo V8 y34 y35)):aw)=(↑(bT QU):aw))))else(aj))else(ah ak))else(aj)) n ak (re en) (en.length:aw) (i:aw) i0 (re en) (rs w) (rs m) (rr s) a r6 r7 i8) (ah ak) (ah (sR w m s a&&decide (w.length+m.length=en.length)))
  (λn i hi hp=>by
   unfold H3 vl at hp;rw[aL,aL]at hp;obtain⟨p1,p2,p3⟩:=hp;by_cases hz:i=0
   ·subst hz;simp only[l2,r2,dc,Lib.dm,hi,aN,Lib.cE,aM,au,Lib.dX,oE hi,qz hi,qA hi,qB hi,bw,bF,EX,p1,a_,ax,aK (show¬(((0:aF):aw)>0)by omega),(h2 _).1,(h2 _).2,p3,Lib.cZ hi (by omega:en.length<=9223372036854775807)]
   ·rw[aK hz,ox]at p2;have mi:i-1<en.length:=by omega
    simp only[l2,r2,dc,Lib.dm,hi,aN,Lib.cE,aM,au,Lib.dX,oE hi,qz hi,qA hi,qB hi,bw,bF,EX,p1,a_,ax,aE (show(i:aw)>0 by omega),l_ (show 0<i by omega) (by omega),mi,oE mi,p2,(h2 _).1,(h2 _).2,p3,Lib.cZ hi (by omega:en.length<=9223372036854775807)])
  (λn i hi hp=>by
   unfold H3 vl at hp;cases p1:ni.v (el en i).k (el en i).st (el en i).li (el en i).bo with
   |false=>simp only[l2,r2,dc,Lib.dm,hi,aN,Lib.cE,aM,au,Lib.dX,oE hi,qz hi,qA hi,qB hi,bw,bF,EX,p1,bR]
   |true=>
    rw[p1,bc]at hp;by_cases hz:i=0
    ·subst hz;rw[aE rfl,AE,bc]at hp;simp only[l2,r2,dc,Lib.dm,hi,aN,Lib.cE,aM,au,Lib.dX,oE hi,qz hi,qA hi,qB hi,bw,bF,EX,p1,a_,bR,ax,aK (show¬(((0:aF):aw)>0)by omega),(h2 _).1,(h2 _).2,hp]
    ·rw[aK hz,ox]at hp;have mi:i-1<en.length:=by omega
     cases p2:b7 (aA (el en (i-1)).k) (aA (el en i).k)with
     |false=>simp only[l2,r2,dc,Lib.dm,hi,aN,Lib.cE,aM,au,Lib.dX,oE hi,qz hi,qA hi,qB hi,bw,bF,EX,p1,a_,bR,ax,aE (show(i:aw)>0 by omega),l_ (show 0<i by omega) (by omega),mi,oE mi,p2]
     |true=>rw[p2,bc]at hp;simp only[l2,r2,dc,Lib.dm,hi,aN,Lib.cE,aM,au,Lib.dX,oE hi,qz hi,qA hi,qB hi,bw,bF,EX,p1,a_,bR,ax,aE (show(i:aw)>0 by omega),l_ (show 0<i by omega) (by omega),mi,oE mi,p2,(h2 _).1,(h2 _).2,hp])
  (λn=>by simp only[l2,r2,Lib.dm,bm,bj,ax,h1.1,h1.2,h3.1,h3.2,au,eZ,dc,bP];rw[show decide (((w.length+m.length:aF):aw)=(en.length:aw))=decide (w.length+m.length=en.length)by rw[cg];omega];cases sR w m s a<;>rfl) Lib.cU (cG (by omega))
 refine key.trans ?_;unfold Nj;cases (b9 en.length).all (H3 en w m)<;>rfl
end Qz

namespace eg
def op(r:aR)(i:aF):aX:=decide (bF (ar r i 2)=1)
def g(r:aR)(i j:aF):aX:= !(op r i&&(op r j&&bZ (aA (bw (ar r i 0))) (aA (bw (ar r j 0)))))
def val(r:aR):aX:=(b9 r.length).all λi=>(b9 i).all (g r i)
end eg

namespace qI
def p(s0:aR)(gO:aq)(i:aF):aX:=Ii.v (bw (ar s0 i 0)) (bw (ar s0 i 1)) (bF (ar s0 i (1+1))) (bF (ar s0 i (1+1+1))) (bF (ar s0 i (1+1+1+1))) gO
theorem ok(s0:aR)(gO:aq)(hl:s0.length<=4294967296):c s0 gO=ai/\v s0 gO=Lib.fi (p s0 gO) s0.length 0:=by
 refine out s0 gO ?_;unfold vo b;refine m7 (p s0 gO) s0.length (λm (i:aF)=>l2 Lib.cU (λ(_:aR) (_:aq) (y7 _ _:aw)=>ah y7) (λ(_:aR) (_:aq) (_ _ _:aw)=>ah (-1)) m s0 gO 0 (s0.length:aw) (i:aw)) ah (λm i hi hp=> ?_) (λm i hi hp=> ?_) (λm=> ?_) Lib.cU (cG (by omega))
 ·unfold p at hp;simp only[l2,r2,Lib.dm,Lib.cE,Lib.dX,hi,aN,aM,au,hp]
 ·unfold p at hp;simp only[l2,r2,Lib.dm,Lib.cE,Lib.dX,hi,aN,aM,au,hp,ax,Lib.cZ hi (by omega:s0.length<=9223372036854775807)]
 ·simp only[l2,r2,Lib.dm,bm,bj,ax]
end qI

namespace KE
theorem ok(i0:aw)(r1 r2 r3 r4:aR)(i5:aw)(r6 r7:aR)(i8:aw)(key:aq)(hl:r6.length<=4294967296):c i0 r1 r2 r3 r4 i5 r6 r7 i8 key=ai/\v i0 r1 r2 r3 r4 i5 r6 r7 i8 key=Lib.fi (qI.p r6 key) r6.length 0:=by have h:=qI.ok r6 key hl;exact out _ _ _ _ _ _ _ _ _ _ (by unfold vo b;rw[h.1,h.2,au])
end KE

namespace M4
def q(r:aR)(i:aF):aX:= !(eg.op r i&&(Lib.fi (qI.p r (bw (ar r i 0))) r.length 0 !=(i:aw)))
theorem same(r:aR)(i:aF)(hi:i<r.length):q r i=(b9 i).all (eg.g r i):=by
 unfold q;cases ho:eg.op r i with
 |false=>symm;rw[lG,bR,bu];intro j _;unfold eg.g;rw[ho];rfl
 |true=>
  rw[bc];have hp:∀j,qI.p r (bw (ar r i 0)) j= !eg.g r i j:=by intro j;unfold qI.p Ii.v eg.g;rw[ho,bc,Bool.not_not,Lib.fm,Lib.fm];unfold eg.op;rw[show decide (bw (ar r j 0)=bw (ar r i 0))=decide (bw (ar r i 0)=bw (ar r j 0))from by rw[cg];exact IV];cases decide (bw (ar r i 0)=bw (ar r j 0))<;>simp
  have hpi:qI.p r (bw (ar r i 0)) i=true:=by rw[hp];unfold eg.g;rw[ho,Lib.fm];simp
  rcases Lib.pz (qI.p r (bw (ar r i 0))) r.length 0 with ⟨_,h2⟩|⟨k,h1,h2,h3,h4,h5⟩
  ·have:=h2 i (bI _) (by omega);rw[hpi]at this;cases this
  ·rw[h3];by_cases hk:k=i
   ·subst hk;rw[bne_self_eq_false,bR];symm;rw[bu];intro j hj;have:=h5 j (bI _) (by simpa using hj);rw[hp]at this;simpa using this
   ·have jD:k<i:=by
     rcases q_ k i with h|h
     ·exact h
     ·have:=h5 i (bI _) (by omega);rw[hpi]at this;cases this
    rw[show((k:aw) !=(i:aw))=ai from by simp;omega,a_];symm;rw[List.all_eq_false];refine⟨k,by simpa using jD, ?_⟩
    rw[hp]at h4;simpa using h4
theorem ok(i0:aw)(p1 p2 p3 p4:aR)(i5:aw)(p6 p7:aR)(i8:aw)(hl:p6.length<=4294967296):c i0 p1 p2 p3 p4 i5 p6 p7 i8=ai/\v i0 p1 p2 p3 p4 i5 p6 p7 i8=eg.val p6:=by
 refine out _ _ _ _ _ _ _ _ _ ?_;unfold vo b;have hw:∀i,i<p6.length->bJ ((i:aw)+1)=((i+1:aF):aw):=λi h=>Lib.cZ h (by omega);have ho:=λkey=>KE.ok i0 p1 p2 p3 p4 i5 p6 p7 i8 key hl
 have key:=iC (q p6) p6.length (λm (i:aF)=>l2 Lib.cU (λ(HR:aX) (_:aR) (_ _ _:aw) (_ _ _ _:aR) (_:aw) (_ _:aR) (_:aw)=>ah HR) (λ(_:aX) (_:aR) (_ _ _:aw) (_ _ _ _:aR) (_:aw) (_ _:aR) (_:aw)=>ah ai) m ak p6 (p6.length:aw) (i:aw) i0 p1 p2 p3 p4 i5 p6 p7 i8) (ah ak) (ah ai)
  (λm i hi hp=>by
   unfold q eg.op at hp;cases e1:decide (bF (ar p6 i (1+1))=1)with
   |false=>simp only[l2,r2,Lib.dm,hi,aN,Lib.cE,aM,au,Lib.dX,e1,ax,hw i hi]
   |true=>rw[show decide (bF (ar p6 i 2)=1)=ai from e1,bc,dr]at hp;simp only[l2,r2,Lib.dm,hi,aN,Lib.cE,aM,au,Lib.dX,e1,(ho _).1,(ho _).2,hp,ax,hw i hi])
  (λm i hi hp=>by unfold q eg.op at hp;rw[nk,aL]at hp;obtain⟨e1,e2⟩:=hp;have e1:decide (bF (ar p6 i (1+1))=1)=true:=e1;simp only[l2,r2,Lib.dm,hi,aN,Lib.cE,aM,au,Lib.dX,e1,(ho _).1,(ho _).2,e2])
  (λm=>by simp only[l2,r2,Lib.dm,bm,bj,ax]) Lib.cU (cG (by omega))
 refine key.trans ?_;rw[all_congr (λi hi=>same p6 i hi)];unfold eg.val;cases (b9 p6.length).all λi=>(b9 i).all (eg.g p6 i)<;>rfl
end M4

namespace OT
open Lib (rf el Fe Dp DB Qm z5 QM QN)
open np (nN apart lF)
theorem eO(n a b:aw):lB.v n a b=decide (a<=n/\n<=b):=fF.eO n a b
theorem one(fe:az Fe):eg.val (rf fe)=(b9 fe.length).all (apart fe):=by
 unfold eg.val;rw[dM];refine all_congr (λi hi=> ?_);unfold apart;refine all_congr (λj hj=> ?_);have j8:j<fe.length:=by omega
 unfold eg.g eg.op lF;rw[Dp hi,Dp j8,z5 hi,z5 j8];simp only[bw,bF,Lib.fm];rfl
theorem ok(i0:aw)(u1 u2 u3 u4:aR)(i5:aw)(fe:az Fe)(u7:aR)(i8:aw)(hf:fe.length<=1048576):
  c i0 u1 u2 u3 u4 i5 (rf fe) u7 i8=ai/\v i0 u1 u2 u3 u4 i5 (rf fe) u7 i8=((b9 fe.length).all (λi=>nN i0 (el fe i))&&(decide (fe.length<=20)&&(b9 fe.length).all (apart fe))):=by
 refine out _ _ _ _ _ _ _ _ _ ?_;have h1:=M4.ok i0 u1 u2 u3 u4 i5 (rf fe) u7 i8 (by rw[dM];omega);rw[one]at h1;unfold vo b;rw[dM]
 have key:=iC (λi=>nN i0 (el fe i)) fe.length (λn (i:aF)=>l2 Lib.cU (λ(HR:aX) (_:aR) (_ _ _:aw) (_ _ _ _:aR) (_:aw) (_ _:aR) (_:aw)=>ah HR) (λ(_:aX) (_:aR) (_ _ QT:aw) (QU Qo V8 y34:aR) (y35:aw) (y36 y37:aR) (y38:aw)=>bif(decide ((↑(bT y36):aw)<=20))then(bif(M4.c QT QU Qo V8 y34 y35 y36 y37 y38)then(ah (M4.v QT QU Qo V8 y34 y35 y36 y37 y38))else(aj))else(ah ak)) n ak (rf fe) (fe.length:aw) (i:aw) i0 u1 u2 u3 u4 i5 (rf fe) u7 i8) (ah ak) (ah (decide (fe.length<=20)&&(b9 fe.length).all (apart fe)))
  (λn i hi hq=>by
   unfold nN at hq;simp only[aL]at hq;obtain⟨q1,q2,q3,q4,q5⟩:=hq;have e1:decide (((el fe i).t.size:aw)>400)= !decide (((el fe i).t.size:aw)<=400):=by rw[<-decide_not,cg];omega
   simp only[l2,r2,dM,Lib.dm,hi,aN,Lib.cE,aM,au,Lib.dX,Dp hi,DB hi,Qm hi,QM hi,QN hi,bw,bF,eO,pd.iS,e1,q1,q2,q3,q4,q5,a_,ax,Lib.cZ hi (by omega:fe.length<=9223372036854775807)])
  (λn i hi hq=>by
   unfold nN at hq;have e1:decide (((el fe i).t.size:aw)>400)= !decide (((el fe i).t.size:aw)<=400):=by rw[<-decide_not,cg];omega
   simp only[l2,r2,dM,Lib.dm,hi,aN,Lib.cE,aM,au,Lib.dX,Dp hi,DB hi,Qm hi,QM hi,QN hi,bw,bF,eO,pd.iS,e1];revert hq;cases jC.eR (el fe i).k<;>cases decide (((el fe i).t.size:aw)<=400)<;>cases decide (1<=(el fe i).sta/\(el fe i).sta<=3)<;>cases decide (0<=(el fe i).li/\(el fe i).li<=999999)<;>cases decide (0<=(el fe i).st/\(el fe i).st<=i0)<;>intro hq<;>first|rfl|cases hq)
  (λn=>by simp only[l2,r2,Lib.dm,bm,bj,ax,dM,h1.1,h1.2,au];rw[show decide ((fe.length:aw)<=20)=decide (fe.length<=20)by rw[cg];omega];cases decide (fe.length<=20)<;>rfl) Lib.cU (cG (by omega))
 refine key.trans ?_;cases (b9 fe.length).all (λi=>nN i0 (el fe i))<;>rfl
end OT

namespace QA
open Lib (rf rc el Fe Cl Kh VY VZ V0 V1 V2 V3)
open jC (eR)
open pj (H2)
open OT (eO)
theorem step(N:aF)(g k0 k1:aX->aR->aw->aw->aw->aR->aR->aR->aR->aw->aR->aR->aw->aC R)(i0:aw)(q1 q2 q3 q4:aR)(i5:aw)(fe:az Fe)(cl:az Cl)(i8:aw)(i:aF)(hi:i<cl.length)(hl:cl.length<=1048576):
  r2 N g k0 k1 ak (rc cl) cl.length (i:aw) i0 q1 q2 q3 q4 i5 (rf fe) (rc cl) i8=bif H2 i0 fe.length cl i then g ak (rc cl) cl.length ((i+1:aF):aw) i0 q1 q2 q3 q4 i5 (rf fe) (rc cl) i8 else k0 ak (rc cl) cl.length (i:aw) i0 q1 q2 q3 q4 i5 (rf fe) (rc cl) i8:=by
 unfold H2;have e1:decide (((el cl i).mQ.size:aw)>400)= !decide (((el cl i).mQ.size:aw)<=400):=by rw[<-decide_not,cg];omega
 have e2:decide ((el cl i).age<0)= !decide (0<=(el cl i).age):=by rw[<-decide_not,cg];omega
 by_cases hz:i=0
 ·subst hz;simp only[r2,fc,dM,Lib.dm,hi,aN,Lib.cE,aM,au,Lib.dX,Kh hi,VY hi,VZ hi,V0 hi,V1 hi,V2 hi,V3 hi,bw,bF,eO,pd.iS,aK (show¬(((0:aF):aw)>0)by omega),ax,e1,e2,Lib.cZ hi (by omega:cl.length<=9223372036854775807),AE,bc];cases decide (1<=(el cl 0).id/\(el cl 0).id<=9)<;>cases eR (el cl 0).k<;>cases decide (1<=(el cl 0).sta/\(el cl 0).sta<=3)<;>cases decide (0<=(el cl 0).fe/\(el cl 0).fe<=(fe.length:aw))<;>cases decide (((el cl 0).mQ.size:aw)<=400)<;>cases decide (0<=(el cl 0).fr/\(el cl 0).fr<=i0)<;>cases decide (0<=(el cl 0).age)<;>rfl
 ·have mi:i-1<cl.length:=by omega
  have e3:decide ((el cl (i-1)).id≥(el cl i).id)= !decide ((el cl (i-1)).id<(el cl i).id):=by rw[<-decide_not,cg];omega
  simp only[r2,fc,dM,Lib.dm,hi,aN,Lib.cE,aM,au,Lib.dX,Kh hi,VY hi,VZ hi,V0 hi,V1 hi,V2 hi,V3 hi,bw,bF,eO,pd.iS,aE (show(i:aw)>0 by omega),l_ (show 0<i by omega) (by omega),mi,Kh mi,ax,e1,e2,e3,Lib.cZ hi (by omega:cl.length<=9223372036854775807),aK hz,ox];cases decide (1<=(el cl i).id/\(el cl i).id<=9)<;>cases decide ((el cl (i-1)).id<(el cl i).id)<;>cases eR (el cl i).k<;>cases decide (1<=(el cl i).sta/\(el cl i).sta<=3)<;>cases decide (0<=(el cl i).fe/\(el cl i).fe<=(fe.length:aw))<;>cases decide (((el cl i).mQ.size:aw)<=400)<;>cases decide (0<=(el cl i).fr/\(el cl i).fr<=i0)<;>cases decide (0<=(el cl i).age)<;>rfl
theorem ok(i0:aw)(q1 q2 q3 q4:aR)(i5:aw)(fe:az Fe)(cl:az Cl)(i8:aw)(hl:cl.length<=1048576):
  c i0 q1 q2 q3 q4 i5 (rf fe) (rc cl) i8=ai/\v i0 q1 q2 q3 q4 i5 (rf fe) (rc cl) i8=((b9 cl.length).all (H2 i0 fe.length cl)&&decide (cl.length<=6)):=by
 refine out _ _ _ _ _ _ _ _ _ ?_;unfold vo b;rw[fc]
 have key:=iC (H2 i0 fe.length cl) cl.length (λn (i:aF)=>l2 Lib.cU (λ(HR:aX) (_:aR) (_ _ _:aw) (_ _ _ _:aR) (_:aw) (_ _:aR) (_:aw)=>ah HR) (λ(_:aX) (_:aR) (_ _ _:aw) (_ _ _ _:aR) (_:aw) (_ y37:aR) (_:aw)=>ah (decide ((↑(bT y37):aw)<=6))) n ak (rc cl) (cl.length:aw) (i:aw) i0 q1 q2 q3 q4 i5 (rf fe) (rc cl) i8) (ah ak) (ah (decide (cl.length<=6)))
  (λn i hi hq=>by simp only[l2];rw[step _ _ _ _ _ _ _ _ _ _ _ _ _ i hi hl,hq];rfl)
  (λn i hi hq=>by simp only[l2];rw[step _ _ _ _ _ _ _ _ _ _ _ _ _ i hi hl,hq];rfl)
  (λn=>by simp only[l2,r2,Lib.dm,bm,bj,ax,fc];rw[show decide ((cl.length:aw)<=6)=decide (cl.length<=6)by rw[cg];omega]) Lib.cU (cG (by omega))
 refine key.trans ?_;cases (b9 cl.length).all (H2 i0 fe.length cl)<;>rfl
end QA

namespace OS
open Lib (rr rs re rf rc el En Fe Cl Px)
open nU (Nj)
open np (nN apart)
open pj (H2 jd)
theorem ok(p:Px)(hp:p.Fit 1048576):c p.now (re p.en) (rs p.w) (rs p.m) (rr p.s) p.a (rf p.fe) (rc p.cl) p.hits=ai/\v p.now (re p.en) (rs p.w) (rs p.m) (rr p.s) p.a (rf p.fe) (rc p.cl) p.hits=jd p:=by refine out _ _ _ _ _ _ _ _ _ ?_;have h1:=Qz.ok p.now p.en p.w p.m p.s p.a (rf p.fe) (rc p.cl) p.hits hp.en hp.w hp.m ⟨hp.s.1,hp.s.2.1⟩;have h2:=OT.ok p.now (re p.en) (rs p.w) (rs p.m) (rr p.s) p.a p.fe (rc p.cl) p.hits hp.fe;have h3:=QA.ok p.now (re p.en) (rs p.w) (rs p.m) (rr p.s) p.a p.fe p.cl p.hits hp.cl;unfold vo b jd;have e1:∀n a b,lB.v n a b=decide (a<=n/\n<=b):=λn a b=>fF.eO n a b;have e2:R9.v p.hits=decide (0<=p.hits/\p.hits<=1000000000):=e1 p.hits 0 1000000000;rw[e1,e2,h1.1,h1.2,h2.1,h2.2,h3.1,h3.2,GO];cases decide (1<=p.now/\p.now<=1000000000)<;>cases Nj p.en p.w p.m p.s p.a<;>cases decide (p.fe.length<=20)<;>cases decide (p.cl.length<=6)<;>cases decide (0<=p.hits/\p.hits<=1000000000)<;>cases (b9 p.fe.length).all (λi=>nN p.now (el p.fe i))<;>cases (b9 p.fe.length).all (apart p.fe)<;>cases (b9 p.cl.length).all (H2 p.now p.fe.length p.cl)<;>rfl
end OS

namespace qJ
def p(s:aR)(k:aw)(i:aF):aX:=decide (bF (ar s i 0)=k)
theorem ok(d:aR)(n:aw)(hl:d.length<=4294967296):c d n=ai/\v d n=Lib.fi (p d n) d.length 0:=by
 refine out d n ?_;unfold vo b;refine m7 (p d n) d.length (λm (i:aF)=>l2 Lib.cU (λ(_:aR) (_:aw) (y7 _ _:aw)=>ah y7) (λ(_:aR) (_:aw) (_ _ _:aw)=>ah (-1)) m d n 0 (d.length:aw) (i:aw)) ah (λm i hi hp=> ?_) (λm i hi hp=> ?_) (λm=> ?_) Lib.cU (cG (by omega))
 ·unfold p at hp;simp only[l2,r2,Lib.dm,Lib.cE,Lib.dX,hi,aN,aM,au,Ky.v,hp]
 ·unfold p at hp;simp only[l2,r2,Lib.dm,Lib.cE,Lib.dX,hi,aN,aM,au,Ky.v,hp,ax,Lib.cZ hi (by omega:d.length<=9223372036854775807)]
 ·simp only[l2,r2,Lib.dm,bm,bj,ax]
end qJ

namespace zu
open Lib (rc el Cl)
open im (lC)
theorem ok(i0:aw)(r1 r2 r3 r4:aR)(i5:aw)(r6:aR)(cl:az Cl)(i8 id:aw)(hl:cl.length<=1048576):c i0 r1 r2 r3 r4 i5 r6 (rc cl) i8 id=ai/\decide (v i0 r1 r2 r3 r4 i5 r6 (rc cl) i8 id≥0)=lC cl id:=by
 have h:=qJ.ok (rc cl) id (by rw[fc];omega);have o:=out i0 r1 r2 r3 r4 i5 r6 (rc cl) i8 id (by unfold vo b;rw[h.1,h.2,au]);refine⟨o.1, ?_⟩
 rw[o.2,fc];exact im.Cr cl (λx=>decide (x.id=id)) _ λi hi=>by unfold qJ.p;rw[Kh hi,eN hi];rfl
end zu

namespace pW
def p(s:aR)(k:aq)(i:aF):aX:=bZ (aA (bw (ar s i 0))) (aA k)
theorem ok(d:aR)(n:aq)(hl:d.length<=4294967296):c d n=ai/\v d n=Lib.fi (p d n) d.length 0:=by
 refine out d n ?_;unfold vo b;refine m7 (p d n) d.length (λm (i:aF)=>l2 Lib.cU (λ(_:aR) (_:aq) (y7 _ _:aw)=>ah y7) (λ(_:aR) (_:aq) (_ _ _:aw)=>ah (-1)) m d n 0 (d.length:aw) (i:aw)) ah (λm i hi hp=> ?_) (λm i hi hp=> ?_) (λm=> ?_) Lib.cU (cG (by omega))
 ·unfold p at hp;simp only[l2,r2,Lib.dm,Lib.cE,Lib.dX,hi,aN,aM,au,Kx.v,hp]
 ·unfold p at hp;simp only[l2,r2,Lib.dm,Lib.cE,Lib.dX,hi,aN,aM,au,Kx.v,hp,ax,Lib.cZ hi (by omega:d.length<=9223372036854775807)]
 ·simp only[l2,r2,Lib.dm,bm,bj,ax]
end pW

namespace qL
theorem ok(i:aF)(key:aq)(hi:i<3)(hk:key.size<=140737488355328):c (i:aw) key=ai/\v (i:aw) key=(gm.pl i key:aw):=by
 refine out _ _ ?_;unfold vo b;have e:(key++bytesOf (aD (aP [Ck.i bh] 1) 0 [CV.i bh (bE bh (bJ (↑(dV (jv (ca 64 (i:aw)) (ca 64 255))):aw)))]))=gm.keyed i key:=by
  unfold gm.keyed;match i,hi with
  |0,_=>rfl
  |1,_=>rfl
  |2,_=>rfl
 have hs:=gm.Dd i key;have h:=vi.ok (gm.keyed i key) (by omega);have e2:cm key+cm (bytesOf (aD (aP [Ck.i bh] 1) 0 [CV.i bh (bE bh (bJ (↑(dV (jv (ca 64 (i:aw)) (ca 64 255))):aw)))]))=key.size+1:=by rw[pR,Dc]
 rw[e2,e,aE (by omega),au,h.1,h.2,au];have hp:=gm.pl_int i key;have hl:=gm.C1 i key;have hr:=gm.LZ i key;unfold gm.sm at hp hr;rw[de (by omega) (by omega),hp]
end qL

end Go.FG
