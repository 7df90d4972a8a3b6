/- What the functions come to, in plain numbers, texts and lists; last the law itself. No condition but those that each states. -/
import Derived.Test.YtilcgpcemjeaeaaGreatPGotb
set_option linter.unusedVariables false
set_option linter.unusedSimpArgs false
set_option maxRecDepth 100000
open Array renaming toList_extract->iv,toList_append->vp,length_toList->dR
open BitVec renaming toNat->dV,xor->mf,ofInt->b_,and->jq
open Bool renaming false->ak,true->ai,or_eq_true->dM,and_eq_true->aL,or_eq_false_iff->iG,and_self->aM,not_eq_true'->dx,true_and->bh,not_false->bR,not_true->a_,and_assoc->nL,and_true->j4,not_eq_false'->mL,false_or->oi,true_or->Al,false_eq_true->dv,cond_eq_ite->cK,false_and->lE
open ByteArray renaming toList->aC,data_extract->gg,data_append->my,size_extract->yt,size_append->dJ,empty_append->lN,append_assoc->Db,empty->HD,append_empty->qt,size->cj
open Classical renaming byContradiction->Am
open Go.ByteArray renaming toList_eq->kq
open Go.IntKind renaming i64->ao,wrap->bF,u32->eC,u8->bf
open Go.Op renaming bytesLess->b7
open Int renaming neg->Kc,toNat->aY,tmod->cO,tdiv->cQ,tmod_eq_emod_of_nonneg->ig,tdiv_eq_ediv_of_nonneg->g7,pow_succ->uN,toNat_natCast->dG,natCast_zero->VT,tmod_nonneg->WJ,le_trans->BD,emod_nonneg->WH,emod_lt_of_pos->P5
open List renaming length_singleton->bA,length->bS,set->aD,length_map->bU,length_filter_le->eW,nil_append->gz,length_append->bT,map_congr_left->P7,mem_filter->dc,append_assoc->cu,pairwise_append->n5,filter_sublist->jN,singleton_append->uO,pairwise_cons->qB,mem_append->ba,mem_singleton->aZ,filter_cons_of_pos->dD,filter_cons_of_neg->cz,length_cons->db,beq->bZ,take_succ_eq_append_getElem->cE,filter_append->ij,all_eq_true->bn,getElem_mem->bB,mem_or_eq_of_mem_set->jG,take_set_of_le->wA,drop_set_of_lt->wz,drop_eq_nil_of_le->gO,append_nil->dm,take_length->dY,filter_eq_self->eE,getElem_of_mem->c8,take->gW,drop->nb,drop_zero->fu,take_append_of_le_length->o0,take_of_length_le->jc,getElem_take->nt,pairwise_map->jr,mem_map->cU,filter_map->oZ,map_map->ml,map_append->dh,filter_congr->kS,range->cw,getD->ka,pairwise_iff_getElem->dC,length_set->cB,length_drop->iz,drop_eq_getElem_cons->dE,cons_append->BH,extract_eq_take_drop->g8,drop_drop->vE,length_take->eK,drop_append_of_le_length->AU,drop_of_length_le->HZ,filter_filter->pG,takeWhile_map->Oq,dropWhile_map->Oo,find?_eq_none->WK,find?_eq_some_iff_getElem->Aq,find?_some->u_,takeWhile_cons_of_pos->qc,takeWhile_cons_of_neg->qb,foldl_append->kT,foldl_cons->Dt,length_nil->jO,drop_length->di,foldl_nil->WL,mem_of_find?_eq_some->qA,length_pos_iff->Mu,getD_eq_getElem?_getD->cY,getElem?_eq_getElem->eT,ext_getElem->lP,getElem_set_self->kG,set_getElem_self->fw,set_set->pH,nodup_iff_pairwise_ne->la,mem_cons_self->dn,mem_append_left->bN,length_tail->WM,mem_append_right->bO,any_eq_true->Fw,findIdx?_eq_none_iff->Ee,findIdx?_eq_some_iff_getElem->mP,pairwise_singleton->HF,find?_cons_of_neg->Kd,mem_range->iA,nodup_append->eL,nodup_cons->kH,mem_cons->cy,getElem_set->RI,reverse_reverse->vH,reverse_cons->yK,not_mem_nil->gA,getElem?_append_left->dH,getElem?_append_right->da
open List.Pairwise renaming filter->qv,nil->f_
open List.cons renaming inj->kj
open Nat renaming lt_irrefl->bm,le_refl->cD,zero_le->bI,sub_zero->yv,zero_add->bV,le_trans->dg,le_succ->jt,le_succ_of_le->nc,add_sub_cancel->P8,lt_or_ge->qU
open Option renaming some->ah,none->aj,map_some->je
open Option.some renaming inj->aJ
open Prod.mk renaming inj->bW
open UInt8 renaming lt_iff_toNat_lt->sN,ofNat->ay,toNat_ofNat'->MI
open _root_ renaming List->aA,UInt8->HJ,decide_eq_true_eq->bc,absurd->cJ,decide_eq_false_iff_not->fg,ByteArray->aq,Int->aw,Bool->aW,Nat->aF,decide_true->aN,cond_true->au,cond_false->ax,decide_false->bj,Option->az,decide_eq_false->aK,decide_eq_true->aE,if_pos->bz,if_neg->bH,congrArg->lM,decide_eq_decide->ca,of_decide_eq_true->cm,eq_comm->V6,of_decide_eq_false->oL
namespace Go.FG
open Lib (Gm all_congr jl o_ BN jQ fF wT eH fU kh mT B_ M1 w7 ma zy cS lW rc0 rc1 rc2 rc3 rc4 rc5 rc6 eU Jx Wf Wg eA dy dL Qp JZ gQ Wh eV pL kR CU tT oV xY E5 oe C5 xZ qQ qR tW nK dj LW Ob PW PX wd0 wd1 wd2 oM qx qy qz C8 C9 PY zQ Qr Qs)
variable {R:Type}
namespace lL
theorem oQ:∀x:aA HJ,b7 x x=ak
 |[]=>rfl
 |a::x=>by
  have h:¬a<a:=by rw[sN];omega
  simp[b7,oQ x,h]
theorem pc:∀x y z:aA HJ,b7 x y=ai->b7 y z=ai->b7 x z=ai
 |_,[],_,h,_=>by cases ‹aA HJ›<;>simp[b7]at h
 |_,_::_,[],_,h=>by simp[b7]at h
 |[],_::_,_::_,_,_=>by simp[b7]
 |a::x,b::y,c::z,h1,h2=>by
  simp only[b7,dM,aL,bc,beq_iff_eq]at h1 h2⊢;simp only[sN]at h1 h2⊢;rcases h1 with h1|⟨rfl,h1⟩
  ·rcases h2 with h2|⟨rfl,h2⟩
   ·left;omega
   ·left;exact h1
  ·rcases h2 with h2|⟨rfl,h2⟩
   ·left;exact h2
   ·right;exact⟨rfl,pc x y z h1 h2⟩
theorem R3:∀x y:aA HJ,b7 x y=ak->x≠y->b7 y x=ai
 |[],[],_,h=>cJ rfl h
 |[],_::_,h,_=>by simp[b7]at h
 |_::_,[],_,_=>by simp[b7]
 |a::x,b::y,h,hn=>by
  simp only[b7,iG,Bool.and_eq_false_iff,fg,beq_eq_false_iff_ne]at h;simp only[b7,dM,aL,bc,beq_iff_eq];obtain⟨h1,h2⟩:=h;by_cases he:a=b
  ·subst he;right;refine⟨rfl,R3 x y ?_ (λe=>hn (by rw[e]))⟩
   rcases h2 with h2|h2
   ·exact cJ rfl h2
   ·exact h2
  ·left;rw[sN]at h1⊢;have:a.toNat≠b.toNat:=λe=>he (UInt8.toNat_inj.1 e);omega
def key(y:aA CV):aA HJ:=aC (bu (y.getD 0 (.b ak)))
def lt(y z:aA CV):Prop:=b7 (key y) (key z)=ai
def cr(y:aA CV):aA CV:=[CV.s (bu (y.getD 0 (.b ak))),CV.i ao (bE (y.getD 1 (.b ak))),CV.i ao (bE (y.getD 2 (.b ak))),CV.s (bu (y.getD 3 (.b ak)))]
def nw(k:aq)(s l:aw)(b:aq):aA CV:=[CV.s k,CV.i ao s,CV.i ao l,CV.s b]
def pl(k:aq)(y:aA CV):aW:=b7 (key y) (aC k)
def pg(k:aq)(y:aA CV):aW:= !(b7 (key y) (aC k)||List.beq (key y) (aC k))
def val(r:aQ)(k:aq)(s l:aw)(b:aq):aQ:=(r.filter (pl k)).map cr++[nw k s l b]++(r.filter (pg k)).map cr
theorem ok(r:aQ)(k:aq)(s l:aw)(b0:aq)(hl:r.length<=1048576):c r k s l b0=ai/\v r k s l b0=val r k s l b0:=by
 refine out r k s l b0 ?_;unfold vo;have hw:∀i,i<r.length->bJ ((i:aw)+1)=((i+1:aF):aw):=λi h=>Lib.c6 h (by omega)
 have auk:=λ(ahW:aQ) (ha:ahW.length<=2000000)=>w7 (pg k) cr r 2000000
  (λm (i:aF) (acc:aQ)=>l9 Lib.cZ (λ(_:aQ) (_:aw) (_:aq) (_ _:aw) (_:aq) (HR:aQ)=>ah HR) m r (i:aw) k s l b0 acc) (λacc=>ah acc)
  (λm i acc h h2 hp=>by
   have mI:(!(b7 (aC (bu (ar r i 0))) (aC k)||List.beq (aC (bu (ar r i 0))) (aC k)))=true:=by rw[Lib.cG h];exact hp
   simp only[l9,r9,Lib.dq,h,aN,Lib.cF,aM,au,Lib.dZ,mI,hw i h,Lib.iX,bA,Lib.cq (n:=acc.length+1) (b:=48) (by omega) (by omega)];have e:[CV.s (bu (ar r i 0)),CV.i ao (bE (ar r i 1)),CV.i ao (bE (ar r i (1+1))),CV.s (bu (ar r i (1+1+1)))]=cr r[i]:=by rw[Lib.cG h,Lib.cG h,Lib.cG h,Lib.cG h];rfl
   rw[e])
  (λm i acc h h2 hp=>by
   have mI:(!(b7 (aC (bu (ar r i 0))) (aC k)||List.beq (aC (bu (ar r i 0))) (aC k)))=false:=by rw[Lib.cG h];exact hp
   simp only[l9,r9,Lib.dq,h,aN,Lib.cF,aM,au,Lib.dZ,mI,ax,hw i h])
  (λm acc=>by simp only[l9,r9,Lib.dq,bm,bj,ax]) Lib.cZ ahW ha (cS (by omega))
 have gJ:=w7 (pl k) cr r 0
  (λm (i:aF) (acc:aQ)=>l3 Lib.cZ (λ(y7:aQ) (_:aw) (y9:aq) (J4 wg:aw) (LZ:aq) (HA:aQ)=>bif(cC (bS HA+bS (aD (aP [Ck.s,Ck.i ao,Ck.i ao,Ck.s] 1) 0 [CV.s y9,CV.i ao J4,CV.i ao wg,CV.s LZ])) 48)then(l9 Lib.cZ (λ(_:aQ) (_:aw) (_:aq) (_ _:aw) (_:aq) (HR:aQ)=>ah HR) Lib.cZ y7 0 y9 J4 wg LZ (HA++aD (aP [Ck.s,Ck.i ao,Ck.i ao,Ck.s] 1) 0 [CV.s y9,CV.i ao J4,CV.i ao wg,CV.s LZ]))else(aj)) m r (i:aw) k s l b0 acc)
  (λacc=>bif(cC (bS acc+1) 48)then(l9 Lib.cZ (λ(_:aQ) (_:aw) (_:aq) (_ _:aw) (_:aq) (HR:aQ)=>ah HR) Lib.cZ r 0 k s l b0 (acc++[nw k s l b0]))else aj)
  (λm i acc h h2 hp=>by
   have mI:b7 (aC (bu (ar r i 0))) (aC k)=true:=by rw[Lib.cG h];exact hp
   simp only[l3,r3,Lib.dq,h,aN,Lib.cF,aM,au,Lib.dZ,mI,hw i h,Lib.iX,bA,Lib.cq (n:=acc.length+1) (b:=48) (by omega) (by omega)];have e:[CV.s (bu (ar r i 0)),CV.i ao (bE (ar r i 1)),CV.i ao (bE (ar r i (1+1))),CV.s (bu (ar r i (1+1+1)))]=cr r[i]:=by rw[Lib.cG h,Lib.cG h,Lib.cG h,Lib.cG h];rfl
   rw[e])
  (λm i acc h h2 hp=>by
   have mI:b7 (aC (bu (ar r i 0))) (aC k)=false:=by rw[Lib.cG h];exact hp
   simp only[l3,r3,Lib.dq,h,aN,Lib.cF,aM,au,Lib.dZ,mI,ax,hw i h])
  (λm acc=>by simp only[l3,r3,Lib.dq,bm,bj,ax];rfl) Lib.cZ [] (cD _) (cS (by omega))
 unfold b;refine gJ.trans ?_;have hf:((r.filter (pl k)).map cr).length<=r.length:=by rw[bU];exact eW _ _
 rw[gz,Lib.cq (by omega) (by omega),au];exact auk _ (by rw[bT,bA];omega)
def Or(r:aQ):Prop:=r.Pairwise lt/\∀y∈r,cr y=y
theorem G6{r:aQ}(h:∀y∈r,cr y=y)(q:aA CV->aW):(r.filter q).map cr=r.filter q:=by have:=P7 (l:=r.filter q) (f:=cr) (g:=λz=>z) (λy hy=>h y (dc.1 hy).1);rw[this];exact List.map_id _
theorem xE{r:aQ}(h:Or r)(k:aq)(s l:aw)(b:aq):Or (val r k s l b)/\(val r k s l b).length<=r.length+1:=by
 unfold val;rw[G6 h.2,G6 h.2];have hg:∀y,pg k y=ai->b7 (aC k) (key y)=true:=by intro y hy;unfold pg at hy;simp only[dx,iG]at hy;refine R3 _ _ hy.1 (λe=> ?_);have:=hy.2;rw[e,Lib.pb]at this;cases this
 refine⟨⟨?_, ?_⟩, ?_⟩
 ·rw[cu,n5];refine⟨h.1.sublist jN, ?_, ?_⟩
  ·rw[uO,qB];exact⟨λy hy=>hg y (dc.1 hy).2,h.1.sublist jN⟩
  ·intro y hy z hz;have h1:b7 (key y) (aC k)=true:=(dc.1 hy).2;rcases ba.1 hz with q|q
   ·rw[aZ.1 q];exact h1
   ·exact pc _ _ _ h1 (hg z (dc.1 q).2)
 ·intro y hy;rcases ba.1 hy with q|q
  ·rcases ba.1 q with q|q
   ·exact h.2 y (dc.1 q).1
   ·rw[aZ.1 q];rfl
  ·exact h.2 y (dc.1 q).1
 ·have hlen:∀r:aQ,(r.filter (pl k)).length+(r.filter (pg k)).length<=r.length:=by
   intro r;induction r with
   |nil=>exact cD _
   |cons y r ih=>
    have hx:pl k y=ai->pg k y=false:=by intro h;unfold pl at h;unfold pg;rw[h];rfl
    cases h1:pl k y with
    |true=>rw[dD h1,cz (by rw[hx h1];simp)];simp only[db];omega
    |false=>
     rw[cz (by simp[h1])];cases h2:pg k y with
     |true=>rw[dD h2];simp only[db];omega
     |false=>rw[cz (by simp[h2])];simp only[db];omega
  have:=hlen r;simp only[bT,bA];omega
end lL

namespace ng
def p(s:aQ)(k:aq)(i:aF):aW:=bZ (aC (bu (ar s i 0))) (aC k)
theorem ok(d:aQ)(n:aq)(hl:d.length<=4294967296):c d n=ai/\v d n=Lib.fi (p d n) d.length 0:=by
 refine out d n ?_;unfold vo b;refine mT (p d n) d.length (λm (i:aF)=>l2 Lib.cZ (λ(_:aQ) (_:aq) (y7 _ _:aw)=>ah y7) (λ(_:aQ) (_:aq) (_ _ _:aw)=>ah (-1)) m d n 0 (d.length:aw) (i:aw)) ah (λm i hi hp=> ?_) (λm i hi hp=> ?_) (λm=> ?_) Lib.cZ (cS (by omega))
 ·unfold p at hp;simp only[l2,r2,Lib.dq,Lib.cF,Lib.dZ,hi,aN,aM,au,AE.v,hp]
 ·unfold p at hp;simp only[l2,r2,Lib.dq,Lib.cF,Lib.dZ,hi,aN,aM,au,AE.v,hp,ax,Lib.c6 hi (by omega:d.length<=9223372036854775807)]
 ·simp only[l2,r2,Lib.dq,bm,bj,ax]
end ng

namespace o8
def cn(y:aA CV):aW:=match y with|[.s _, .i .i64 _, .i .i64 _, .s _]=>ai|_=>ak
def cr(y:aA CV):aA CV:=[CV.s (bu (y.getD 0 (.b ak))),CV.i ao (bE (y.getD 1 (.b ak))),CV.i ao (bE (y.getD 2 (.b ak))),CV.s (bu (y.getD 3 (.b ak)))]
theorem tl{y:aA CV}(h:cn y=ai):cr y=y:=by
 unfold cn at h;split at h
 ·rfl
 ·cases h
theorem mo{y:aA CV}(h:cn y=ai):y.length=4:=by rw[<-tl h];rfl
def keep(d:aq)(y:aA CV):aW:= !List.beq (aC (bu (y.getD 0 (.b ak)))) (aC d)
theorem il(d:aq){s:aQ}{i:aF}(h:i<s.length):(s.take (i+1)).filter (keep d)=(s.take i).filter (keep d)++(bif keep d s[i]then [s[i]]else []):=by rw[cE h,ij];cases hk:keep d s[i]<;>simp[hk]
theorem run(N:aF)(s0:aQ)(d:aq)(hc:s0.all cn=ai)(hn:s0.length<=9223372036854775807)(K:aq->aw->aw->aQ->az R)(kr:aQ->az R)
  (hK:∀(j:aF) x,x.length=s0.length->j<=s0.length->K d j s0.length x=kr (x.take j)) (m j i:aF) (x:aQ)
  (hi:j<i/\i<=s0.length/\x.length=s0.length/\(∀y∈x,y.length=4)/\x.take j=(s0.take i).filter (keep d)/\x.drop i=s0.drop i) (hm:s0.length-i<m):
  l5 N K m d j i x=kr (s0.filter (keep d)):=by
 have KQ:∀y∈s0,cn y=true:=bn.1 hc
 refine Lib.gV (λm (s:aF×aF×aQ)=>l5 N K m d s.1 s.2.1 s.2.2) (λs=>s0.length-s.2.1)
  (λs=>s.1<s.2.1/\s.2.1<=s0.length/\s.2.2.length=s0.length/\(∀y∈s.2.2,y.length=4)/\s.2.2.take s.1=(s0.take s.2.1).filter (keep d)/\s.2.2.drop s.2.1=s0.drop s.2.1)
  (λ_=>kr (s0.filter (keep d))) (λm s hs=> ?_) m (j,i,x) hi hm
 obtain⟨j,i,x⟩:=s;obtain⟨h1,h2,h3,h4,h5,h6⟩:=hs;simp only at h1 h2 h3 h4 h5 h6⊢;by_cases gq:i<s0.length
 ·right;have ou:i<x.length:=by omega
  have GR:j<x.length:=by omega
  have hx:x[i]=s0[i]:=by have e1:=Lib.eF ou;have e2:=Lib.eF gq;rw[h6,e2]at e1;exact(kj e1).1.symm
  have hd:x.drop (i+1)=s0.drop (i+1):=by have e1:=Lib.eF ou;have e2:=Lib.eF gq;rw[h6,e2]at e1;exact(kj e1).2.symm
  have KS:=KQ _ (bB gq);have hf:=il d gq;cases hk:keep d s0[i]with
  |true=>
   refine⟨(j+1,i+1,x.set j s0[i]), ?_,by simp only;omega,trivial, ?_⟩
   ·rw[hk,au,<-h5]at hf;refine⟨by simp only;omega,by simp only;omega,by simpa using h3, ?_, ?_, ?_⟩
    ·intro y hy;rcases jG hy with h|h
     ·exact h4 y h
     ·rw[h];exact mo KS
    ·rw[hf];rw[cE (by simpa using GR)];simp[wA]
    ·simp only;rw[wz (by omega)];exact hd
   ·have e:AE.v (bu (ar x i 0)) (bE (ar x i 1)) (bE (ar x i (1+1))) (bu (ar x i (1+1+1))) d=false:=by
     have:(!AE.v (bu (ar x i 0)) (bE (ar x i 1)) (bE (ar x i (1+1))) (bu (ar x i (1+1+1))) d)=true:=by rw[Lib.cG ou,hx];exact hk
     simpa using this
    have es:eD x j 0 [CV.s (bu (ar x i 0)),CV.i ao (bE (ar x i 1)),CV.i ao (bE (ar x i (1+1))),CV.s (bu (ar x i (1+1+1)))]=x.set j s0[i]:=by
     have hl:=h4 _ (bB GR);rw[Lib.Bn GR,Lib.cG ou,Lib.cG ou,Lib.cG ou,Lib.cG ou,hx];have:iD x[j] 0 (cr s0[i])=s0[i]:=by rw[tl KS];unfold iD;have:=mo KS;simp[hl,this,gO]
     unfold cr at this;rw[this]
    have b1:(j:aw)<(x.length:aw):=by omega
    simp only[l5,r5,Lib.dq,Lib.cF,Lib.dZ,ou,GR,aN,bh,au,e,bR,es,Lib.c6 gq hn,Lib.c6 (show j<s0.length by omega) hn]
  |false=>
   refine⟨(j,i+1,x), ?_,by simp only;omega,trivial, ?_⟩
   ·rw[hk,ax,dm,<-h5]at hf;exact⟨by simp only;omega,by simp only;omega,h3,h4,hf.symm,hd⟩
   ·have e:AE.v (bu (ar x i 0)) (bE (ar x i 1)) (bE (ar x i (1+1))) (bu (ar x i (1+1+1))) d=true:=by
     have:(!AE.v (bu (ar x i 0)) (bE (ar x i 1)) (bE (ar x i (1+1))) (bu (ar x i (1+1+1))) d)=false:=by rw[Lib.cG ou,hx];exact hk
     simpa using this
    simp only[l5,r5,Lib.dq,Lib.cF,Lib.dZ,ou,aN,bh,au,e,a_,ax,Lib.c6 gq hn]
 ·left;have:i=s0.length:=by omega
  subst this;rw[dY]at h5;have e:=hK j x h3 (by omega);rw[h5]at e;have ou:¬s0.length<x.length:=by omega
  simp only[l5,r5,Lib.dq,ou,bj,ax,e]
theorem ok(s0:aQ)(iV:aq)(hc:s0.all cn=ai)(hn:s0.length<=4294967296):c s0 iV=ai/\v s0 iV=s0.filter (keep iV):=by
 refine out s0 iV ?_;have hv:=ng.ok s0 iV hn;unfold vo b;rw[hv.1,hv.2,au];rcases Lib.pj (ng.p s0 iV) s0.length 0 with ⟨h,nT⟩|⟨k,_,Aa,hk,KU,KP⟩
 ·rw[h];have:s0.filter (keep iV)=s0:=by rw[eE];intro y hy;obtain⟨i,hi,rfl⟩:=c8 hy;have:=nT i (bI _) (by omega);unfold ng.p at this;rw[Lib.cG hi]at this;unfold keep;rw[this];rfl
  rw[this];rfl
 ·rw[hk];have DQ:k<s0.length:=by omega
  have iw:decide ((k:aw)=Kc 1)=false:=aK (by show¬(k:aw)= -1;omega);rw[iw,ax,Lib.c6 DQ (by omega)];have KQ:∀y∈s0,cn y=true:=bn.1 hc;refine run _ s0 iV hc (by omega) _ ah (λj x hx hj=> ?_) _ k (k+1) s0 ⟨by omega,by omega,rfl,λy hy=>mo (KQ y hy), ?_,rfl⟩ (cS (by omega))
  ·have b1:g9 (j:aw) (s0.length:aw) (s0.length:aw)=true:=by simp[g9];omega
   have e:gW j x++aP [Ck.s,Ck.i ao,Ck.i ao,Ck.s] (s0.length-j)++nb s0.length x=gW j x++aP [Ck.s,Ck.i ao,Ck.i ao,Ck.s] (s0.length-j):=by rw[gO (by omega),dm]
   have hl:(gW j x).length=j:=by simp;omega
   simp only[hx,Lib.dZ,b1,au,e];rw[Lib.tc (by simp[g9];omega)];unfold e8;rw[show aY 0=0 from rfl,fu,yv,o0 (by omega),jc (by omega)]
  ·rw[il iV DQ];have e1:keep iV s0[k]=false:=by unfold ng.p at KU;rw[Lib.cG DQ]at KU;unfold keep;rw[KU];rfl
   have e2:(s0.take k).filter (keep iV)=s0.take k:=by
    rw[eE];intro y hy;obtain⟨i,hi,rfl⟩:=c8 hy;have Wb:i<k:=by simp at hi;omega
    have:=KP i (bI _) Wb;unfold ng.p at this;rw[Lib.cG (by omega)]at this;rw[nt];unfold keep;rw[this];rfl
   rw[e1,e2,ax,dm]
end o8

namespace fZ
open Lib (re En)
def fm(x y:aq):aW:=b7 (aC x) (aC y)
def So(en:aA En):Prop:=en.Pairwise λx y=>fm x.k y.k=ai
def fP(en:aA En)(k:aq):aA En:=en.filter λx=> !decide (x.k=k)
def mv(en:aA En)(e:En):aA En:=en.filter (λx=>fm x.k e.k)++[e]++en.filter (λx=> !(fm x.k e.k||decide (x.k=e.k)))
theorem So.drop{en:aA En}(h:So en)(k:aq):So (fP en k):=qv _ h
theorem wS(en:aA En)(k:aq):(fP en k).length<=en.length:=eW ..
theorem drop_nil{en:aA En}(h:∀e∈en,1<=e.k.size):fP en ⟨#[]⟩=en:=by unfold fP;rw[eE];intro e he;have:=h e he;simp only[dx,fg];intro e2;rw[e2]at this;exact cJ this (by decide)
theorem CC{en:aA En}(h:So en):lL.Or (re en):=by
 constructor
 ·unfold Lib.re;rw[jr];exact h
 ·intro y hy;unfold Lib.re at hy;obtain⟨z,_,rfl⟩:=cU.1 hy;rfl
theorem tL(en:aA En)(e:En):lL.val (re en) e.k e.st e.li e.bo=re (mv en e):=by
 unfold lL.val mv Lib.re;rw[oZ,oZ,ml,ml,dh,dh];have e1:(lL.pl e.k∘En.row)=λx:En=>fm x.k e.k:=rfl;have e2:(lL.pg e.k∘En.row)=λx:En=> !(fm x.k e.k||decide (x.k=e.k)):=by funext x;show(!(b7 (aC x.k) (aC e.k)||List.beq (aC x.k) (aC e.k)))=_;rw[Lib.eM];rfl
 rw[e1,e2];rfl
theorem GD(en:aA En)(k:aq):(re en).filter (o8.keep k)=re (fP en k):=by unfold Lib.re fP;rw[oZ];congr 1;apply kS;intro x _;show(!List.beq (aC x.k) (aC k))=_;rw[Lib.eM]
theorem Sa(en:aA En):(re en).all o8.cn=true:=by rw[bn];intro y hy;unfold Lib.re at hy;obtain⟨z,_,rfl⟩:=cU.1 hy;rfl
theorem rU(en:aA En)(e:En)(h:So en):(mv en e).length<=en.length+1:=by have:=(lL.xE (CC h) e.k e.st e.li e.bo).2;rw[tL,dy,dy]at this;exact this
end fZ

namespace gK
def el(r:aQ)(i:aF):aW:=decide (1<=((bu (ar r i 0)).size:aw)/\((bu (ar r i 0)).size:aw)<=8)&&(!decide (((bu (ar r i 1)).size:aw)>20000)&&(decide (0<=bE (ar r i 2)/\bE (ar r i 2)<=((bu (ar r i 1)).size:aw))&&(i==0||Go.Op.bytesLess (aC (bu (ar r (i-1) 0))) (aC (bu (ar r i 0))))))
def val(r:aQ):aW:=decide (r.length<=30)&&(cw r.length).all (el r)
theorem mW(n a b:aw):kl.v n a b=decide (a<=n/\n<=b):=by unfold kl.v;by_cases h:a<=n<;>by_cases h2:n<=b<;>simp[h,h2]
theorem C7{i:aF}(h:0<i)(hn:i<=9223372036854775807):bJ ((i:aw)-1)=((i-1:aF):aw):=by rw[dj (by omega) (by omega)];omega
theorem ok(r:aQ)(hl:r.length<=4294967296):c r=ai/\v r=val r:=by
 refine out r ?_;unfold vo b val;by_cases h30:(r.length:aw)>30
 ·rw[aE h30,au,aK (show¬r.length<=30 by omega)];rfl
 rw[aK h30,ax,aE (show r.length<=30 by omega),bh]
 have key:=jl (el r) r.length (λm (i:aF)=>l4 Lib.cZ (λ(y3:aW) (_:aw) (_:aQ)=>ah y3) (λ(_:aW) (_:aw) (_:aQ)=>ah ai) m ak (i:aw) r) (ah ak) (ah ai)
  (λm i hi hp=>by
   unfold el at hp;simp only[aL]at hp;obtain⟨h1,h2,h3,h4⟩:=hp;have h3:decide (0<=bE (ar r i (1+1))/\bE (ar r i (1+1))<=((bu (ar r i 1)).size:aw))=true:=h3;have h2:decide (((bu (ar r i 1)).size:aw)>20000)=false:=by simpa using h2
   by_cases hz:0<i
   ·have e0:decide ((i:aw)>0)=true:=aE (by omega);have mI:i-1<r.length:=by omega
    have h5:b7 (aC (bu (ar r (i-1) 0))) (aC (bu (ar r i 0)))=true:=by
     rcases dM _ _▸h4 with q|q
     ·have:i=0:=by simpa using q
      omega
     ·exact q
    simp only[l4,r4,Lib.dq,hi,mI,aN,Lib.cF,aM,au,ax,Lib.dZ,qd.v,mW,h1,h2,h3,h5,e0,C7 hz (by omega),a_,Lib.c6 hi (by omega:r.length<=9223372036854775807)]
   ·have e0:decide ((i:aw)>0)=false:=aK (by omega);simp only[l4,r4,Lib.dq,hi,aN,Lib.cF,aM,au,ax,Lib.dZ,qd.v,mW,h1,h2,h3,e0,a_,Lib.c6 hi (by omega:r.length<=9223372036854775807)])
  (λm i hi hp=>by
   unfold el at hp;cases h1:decide (1<=((bu (ar r i 0)).size:aw)/\((bu (ar r i 0)).size:aw)<=8)with
   |false=>simp only[l4,r4,Lib.dq,hi,aN,Lib.cF,aM,au,ax,Lib.dZ,qd.v,mW,h1,bR]
   |true=>
   cases h2:decide (((bu (ar r i 1)).size:aw)>20000)with
   |true=>simp only[l4,r4,Lib.dq,hi,aN,Lib.cF,aM,au,ax,Lib.dZ,qd.v,mW,h1,h2,a_]
   |false=>
   cases h3:decide (0<=bE (ar r i (1+1))/\bE (ar r i (1+1))<=((bu (ar r i 1)).size:aw))with
   |false=>simp only[l4,r4,Lib.dq,hi,aN,Lib.cF,aM,au,ax,Lib.dZ,qd.v,mW,h1,h2,h3,a_,bR]
   |true=>
   rw[h1,h2,show decide (0<=bE (ar r i 2)/\bE (ar r i 2)<=((bu (ar r i 1)).size:aw))=ai from h3,bR,bh,bh,bh]at hp;rw[iG]at hp;obtain⟨h4,h5⟩:=hp;have hz:0<i:=by
    have:¬i=0:=by simpa using h4
    omega
   have e0:decide ((i:aw)>0)=true:=aE (by omega);have mI:i-1<r.length:=by omega
   simp only[l4,r4,Lib.dq,hi,mI,aN,Lib.cF,aM,au,ax,Lib.dZ,qd.v,mW,h1,h2,h3,h5,e0,C7 hz (by omega),a_,bR])
  (λm=>by simp only[l4,r4,Lib.dq,bm,bj,ax]) Lib.cZ (cS (by omega))
 refine key.trans ?_;cases (cw r.length).all (el r)<;>rfl
end gK

namespace ni
def p(s:aQ)(k:aq)(i:aF):aW:=bZ (aC (bu (ar s i 0))) (aC k)
theorem ok(d:aQ)(n:aq)(hl:d.length<=4294967296):c d n=ai/\v d n=Lib.fi (p d n) d.length 0:=by
 refine out d n ?_;unfold vo b;refine mT (p d n) d.length (λm (i:aF)=>l2 Lib.cZ (λ(_:aQ) (_:aq) (y7 _ _:aw)=>ah y7) (λ(_:aQ) (_:aq) (_ _ _:aw)=>ah (-1)) m d n 0 (d.length:aw) (i:aw)) ah (λm i hi hp=> ?_) (λm i hi hp=> ?_) (λm=> ?_) Lib.cZ (cS (by omega))
 ·unfold p at hp;simp only[l2,r2,Lib.dq,Lib.cF,Lib.dZ,hi,aN,aM,au,AH.v,hp]
 ·unfold p at hp;simp only[l2,r2,Lib.dq,Lib.cF,Lib.dZ,hi,aN,aM,au,AH.v,hp,ax,Lib.c6 hi (by omega:d.length<=9223372036854775807)]
 ·simp only[l2,r2,Lib.dq,bm,bj,ax]
end ni

namespace wN
def cn(y:aA CV):aW:=match y with|[.s _, .s _, .i .i64 _]=>ai|_=>ak
def cr(y:aA CV):aA CV:=[CV.s (bu (y.getD 0 (.b ak))),CV.s (bu (y.getD 1 (.b ak))),CV.i ao (bE (y.getD 2 (.b ak)))]
theorem tl{y:aA CV}(h:cn y=ai):cr y=y:=by
 unfold cn at h;split at h
 ·rfl
 ·cases h
theorem mo{y:aA CV}(h:cn y=ai):y.length=3:=by rw[<-tl h];rfl
def keep(d:aq)(y:aA CV):aW:= !List.beq (aC (bu (y.getD 0 (.b ak)))) (aC d)
theorem il(d:aq){s:aQ}{i:aF}(h:i<s.length):(s.take (i+1)).filter (keep d)=(s.take i).filter (keep d)++(bif keep d s[i]then [s[i]]else []):=by rw[cE h,ij];cases hk:keep d s[i]<;>simp[hk]
theorem run(N:aF)(s0:aQ)(d:aq)(hc:s0.all cn=ai)(hn:s0.length<=9223372036854775807)(K:aq->aw->aw->aQ->az R)(kr:aQ->az R)
  (hK:∀(j:aF) x,x.length=s0.length->j<=s0.length->K d j s0.length x=kr (x.take j)) (m j i:aF) (x:aQ)
  (hi:j<i/\i<=s0.length/\x.length=s0.length/\(∀y∈x,y.length=3)/\x.take j=(s0.take i).filter (keep d)/\x.drop i=s0.drop i) (hm:s0.length-i<m):
  l5 N K m d j i x=kr (s0.filter (keep d)):=by
 have KQ:∀y∈s0,cn y=true:=bn.1 hc
 refine Lib.gV (λm (s:aF×aF×aQ)=>l5 N K m d s.1 s.2.1 s.2.2) (λs=>s0.length-s.2.1)
  (λs=>s.1<s.2.1/\s.2.1<=s0.length/\s.2.2.length=s0.length/\(∀y∈s.2.2,y.length=3)/\s.2.2.take s.1=(s0.take s.2.1).filter (keep d)/\s.2.2.drop s.2.1=s0.drop s.2.1)
  (λ_=>kr (s0.filter (keep d))) (λm s hs=> ?_) m (j,i,x) hi hm
 obtain⟨j,i,x⟩:=s;obtain⟨h1,h2,h3,h4,h5,h6⟩:=hs;simp only at h1 h2 h3 h4 h5 h6⊢;by_cases gq:i<s0.length
 ·right;have ou:i<x.length:=by omega
  have GR:j<x.length:=by omega
  have hx:x[i]=s0[i]:=by have e1:=Lib.eF ou;have e2:=Lib.eF gq;rw[h6,e2]at e1;exact(kj e1).1.symm
  have hd:x.drop (i+1)=s0.drop (i+1):=by have e1:=Lib.eF ou;have e2:=Lib.eF gq;rw[h6,e2]at e1;exact(kj e1).2.symm
  have KS:=KQ _ (bB gq);have hf:=il d gq;cases hk:keep d s0[i]with
  |true=>
   refine⟨(j+1,i+1,x.set j s0[i]), ?_,by simp only;omega,trivial, ?_⟩
   ·rw[hk,au,<-h5]at hf;refine⟨by simp only;omega,by simp only;omega,by simpa using h3, ?_, ?_, ?_⟩
    ·intro y hy;rcases jG hy with h|h
     ·exact h4 y h
     ·rw[h];exact mo KS
    ·rw[hf];rw[cE (by simpa using GR)];simp[wA]
    ·simp only;rw[wz (by omega)];exact hd
   ·have e:AH.v (bu (ar x i 0)) (bu (ar x i 1)) (bE (ar x i (1+1))) d=false:=by
     have:(!AH.v (bu (ar x i 0)) (bu (ar x i 1)) (bE (ar x i (1+1))) d)=true:=by rw[Lib.cG ou,hx];exact hk
     simpa using this
    have es:eD x j 0 [CV.s (bu (ar x i 0)),CV.s (bu (ar x i 1)),CV.i ao (bE (ar x i (1+1)))]=x.set j s0[i]:=by
     have hl:=h4 _ (bB GR);rw[Lib.Bn GR,Lib.cG ou,Lib.cG ou,Lib.cG ou,hx];have:iD x[j] 0 (cr s0[i])=s0[i]:=by rw[tl KS];unfold iD;have:=mo KS;simp[hl,this,gO]
     unfold cr at this;rw[this]
    have b1:(j:aw)<(x.length:aw):=by omega
    simp only[l5,r5,Lib.dq,Lib.cF,Lib.dZ,ou,GR,aN,bh,au,e,bR,es,Lib.c6 gq hn,Lib.c6 (show j<s0.length by omega) hn]
  |false=>
   refine⟨(j,i+1,x), ?_,by simp only;omega,trivial, ?_⟩
   ·rw[hk,ax,dm,<-h5]at hf;exact⟨by simp only;omega,by simp only;omega,h3,h4,hf.symm,hd⟩
   ·have e:AH.v (bu (ar x i 0)) (bu (ar x i 1)) (bE (ar x i (1+1))) d=true:=by
     have:(!AH.v (bu (ar x i 0)) (bu (ar x i 1)) (bE (ar x i (1+1))) d)=false:=by rw[Lib.cG ou,hx];exact hk
     simpa using this
    simp only[l5,r5,Lib.dq,Lib.cF,Lib.dZ,ou,aN,bh,au,e,a_,ax,Lib.c6 gq hn]
 ·left;have:i=s0.length:=by omega
  subst this;rw[dY]at h5;have e:=hK j x h3 (by omega);rw[h5]at e;have ou:¬s0.length<x.length:=by omega
  simp only[l5,r5,Lib.dq,ou,bj,ax,e]
theorem ok(s0:aQ)(iV:aq)(hc:s0.all cn=ai)(hn:s0.length<=4294967296):c s0 iV=ai/\v s0 iV=s0.filter (keep iV):=by
 refine out s0 iV ?_;have hv:=ni.ok s0 iV hn;unfold vo b;rw[hv.1,hv.2,au];rcases Lib.pj (ni.p s0 iV) s0.length 0 with ⟨h,nT⟩|⟨k,_,Aa,hk,KU,KP⟩
 ·rw[h];have:s0.filter (keep iV)=s0:=by rw[eE];intro y hy;obtain⟨i,hi,rfl⟩:=c8 hy;have:=nT i (bI _) (by omega);unfold ni.p at this;rw[Lib.cG hi]at this;unfold keep;rw[this];rfl
  rw[this];rfl
 ·rw[hk];have DQ:k<s0.length:=by omega
  have iw:decide ((k:aw)=Kc 1)=false:=aK (by show¬(k:aw)= -1;omega);rw[iw,ax,Lib.c6 DQ (by omega)];have KQ:∀y∈s0,cn y=true:=bn.1 hc;refine run _ s0 iV hc (by omega) _ ah (λj x hx hj=> ?_) _ k (k+1) s0 ⟨by omega,by omega,rfl,λy hy=>mo (KQ y hy), ?_,rfl⟩ (cS (by omega))
  ·have b1:g9 (j:aw) (s0.length:aw) (s0.length:aw)=true:=by simp[g9];omega
   have e:gW j x++aP [Ck.s,Ck.s,Ck.i ao] (s0.length-j)++nb s0.length x=gW j x++aP [Ck.s,Ck.s,Ck.i ao] (s0.length-j):=by rw[gO (by omega),dm]
   have hl:(gW j x).length=j:=by simp;omega
   simp only[hx,Lib.dZ,b1,au,e];rw[Lib.tc (by simp[g9];omega)];unfold e8;rw[show aY 0=0 from rfl,fu,yv,o0 (by omega),jc (by omega)]
  ·rw[il iV DQ];have e1:keep iV s0[k]=false:=by unfold ni.p at KU;rw[Lib.cG DQ]at KU;unfold keep;rw[KU];rfl
   have e2:(s0.take k).filter (keep iV)=s0.take k:=by
    rw[eE];intro y hy;obtain⟨i,hi,rfl⟩:=c8 hy;have Wb:i<k:=by simp at hi;omega
    have:=KP i (bI _) Wb;unfold ni.p at this;rw[Lib.cG (by omega)]at this;rw[nt];unfold keep;rw[this];rfl
   rw[e1,e2,ax,dm]
end wN

namespace dI
open Lib (rd el Fi)
def VX(l:aA Fi):Prop:=l.Pairwise λx y=>fZ.fm x.n y.n=ai
def without(l:aA Fi)(n:aq):aA Fi:=l.filter λx=> !decide (x.n=n)
def put(l:aA Fi)(f:Fi):aA Fi:=l.filter (λx=>fZ.fm x.n f.n)++[f]++l.filter (λx=> !(fZ.fm x.n f.n||decide (x.n=f.n)))
def nF(f:Fi):aW:=decide (1<=(f.n.size:aw)/\(f.n.size:aw)<=8)&&(!decide ((f.t.size:aw)>20000)&&decide (0<=f.kp/\f.kp<=(f.t.size:aw)))
def sI(l:aA Fi):aW:=gK.val (rd l)
theorem irrefl(x:aq):fZ.fm x x=false:=lL.oQ _
theorem jV{l:aA Fi}:sI l=ai↔l.length<=30/\(∀f∈l,nF f=ai)/\VX l:=by
 unfold sI gK.val;rw[aL,bc,bn,eA];have e:∀i (h:i<l.length),gK.el (rd l) i=(nF l[i]&&(i==0||fZ.fm (l.getD (i-1) default).n l[i].n)):=λi h=>by
  unfold gK.el nF fZ.fm;rw[Jx h,Wf h,show ar (rd l) i 2=CV.i ao l[i].kp from Wg h,Jx (show i-1<l.length by omega)];have h5:l.getD (i-1) default=l[i-1]:=by simp[ka,show i-1<l.length by omega]
  rw[h5];simp only[bu,bE,nL];rfl
 constructor
 ·rintro ⟨h1,h2⟩;have h3:∀i (h:i<l.length),nF l[i]=ai/\(i=0\/fZ.fm (l.getD (i-1) default).n l[i].n=ai):=λi h=>by have:=h2 i (by simpa using h);rw[e i h,aL,dM]at this;exact⟨this.1,this.2.imp (λq=>by simpa using q) id⟩
  refine⟨h1,λf hf=> ?_, ?_⟩
  ·obtain⟨i,hi,rfl⟩:=c8 hf;exact(h3 i hi).1
  ·have adj:∀d i (hi:i+d+1<l.length),fZ.fm l[i].n l[i+d+1].n=true:=by
    intro d;induction d with
    |zero=>
     intro i hi;rcases(h3 (i+1) (by omega)).2 with q|q
     ·omega
     ·simpa [ka,show i<l.length by omega]using q
    |succ d ih=>
     intro i hi;have a:=ih i (by omega);rcases(h3 (i+d+1+1) (by omega)).2 with q|q
     ·omega
     ·have q:fZ.fm l[i+d+1].n l[i+d+1+1].n=true:=by simpa [ka,show i+d+1<l.length by omega]using q
      exact lL.pc _ _ _ a q
   unfold VX;rw[dC];intro i j hi hj OZ;have:=adj (j-i-1) i (by omega);simpa only[show i+(j-i-1)+1=j by omega]using this
 ·rintro ⟨h1,h2,h3⟩;refine⟨h1,λi hi=> ?_⟩
  have hi:i<l.length:=by simpa using hi
  rw[e i hi,h2 _ (bB hi),bh,dM];by_cases hz:i=0
  ·left;simpa using hz
  ·right;have:=dC.1 h3 (i-1) i (by omega) hi (by omega);simpa [ka,show i-1<l.length by omega]using this
theorem ah0(l:aA Fi):(rd l).all wN.cn=true:=by rw[bn];intro y hy;unfold Lib.rd at hy;obtain⟨z,_,rfl⟩:=cU.1 hy;rfl
theorem alM(l:aA Fi)(n:aq):(rd l).filter (wN.keep n)=rd (without l n):=by unfold Lib.rd without;rw[oZ];congr 1;apply kS;intro x _;show(!List.beq (aC x.n) (aC n))=_;rw[Lib.eM]
theorem LX(l:aA Fi)(n:aq):(without l n).length<=l.length:=eW ..
theorem ady{l:aA Fi}(h:VX l)(n:aq):VX (without l n):=qv _ h
theorem rU{l:aA Fi}(f:Fi):(put l f).length<=l.length+1:=by
 unfold put;have:∀r:aA Fi,(r.filter λx=>fZ.fm x.n f.n).length+(r.filter λx=> !(fZ.fm x.n f.n||decide (x.n=f.n))).length<=r.length:=by
  intro r;induction r with
  |nil=>exact cD _
  |cons y r ih=>
   cases h1:fZ.fm y.n f.n with
   |true=>rw[dD (by simpa using h1),cz (by simp[h1])];simp only[db];omega
   |false=>
    rw[cz (by simp[h1])];by_cases h2:y.n=f.n
    ·rw[cz (by simp[h2])];simp only[db];omega
    ·rw[dD (by simp[h1,h2])];simp only[db];omega
 have:=this l;simp only[bT,bA];omega
theorem jW{l:aA Fi}{x f:Fi}:x∈put l f↔x=f\/(x∈l/\x.n≠f.n):=by
 unfold put;simp only[ba,dc,aZ,dx,iG,fg];constructor
 ·rintro ((⟨h1,h2⟩|rfl)|⟨h1,h2⟩)
  ·refine .inr ⟨h1,λe2=> ?_⟩;rw[e2,irrefl]at h2;cases h2
  ·exact .inl rfl
  ·exact .inr ⟨h1,h2.2⟩
 ·rintro (rfl|⟨h1,h2⟩)
  ·exact .inl (.inr rfl)
  ·cases hl:fZ.fm x.n f.n with
   |true=>exact .inl (.inl ⟨h1,rfl⟩)
   |false=>exact .inr ⟨h1,rfl,h2⟩
def G9(l:aA Fi)(k:aw)(n t o:aq):az (aA Fi):=
 match l.find? λx=>decide (x.n=n)with
 |some f=>
  if k=1 then ah (put l ⟨f.n,f.t++t,f.kp⟩)
  else if k=2 then ah (put l ⟨f.n,f.t,f.t.size⟩)
  else if k=3 then(if f.kp≠f.t.size\/o=n then aj else ah (put (without l n) ⟨o,f.t,f.kp⟩))
  else ah (without l n)
 |none=>if k=1 then ah (put l ⟨n,t,0⟩)else aj
def j7(k:aw)(t o:aq):aW:=decide (1<=k/\k<=4)&&((decide (t=⟨#[]⟩)||decide (k=1))&&(decide (o=⟨#[]⟩)||decide (k=3)))
def act(l:aA Fi)(k:aw)(n t o:aq):az (aA Fi):=
 bif sI l&&j7 k t o then(match G9 l k n t o with|some d=>bif sI d then ah d else aj|none=>aj)else aj
structure Ac where
 k:aw
 n:aq
 t:aq
 o:aq
 deriving DecidableEq
instance:Inhabited Ac:=⟨⟨0,⟨#[]⟩,⟨#[]⟩,⟨#[]⟩⟩⟩
def Ac.row(e:Ac):aA CV:=[CV.i ao e.k,CV.s e.n,CV.s e.t,CV.s e.o]
def ra(l:aA Ac):aQ:=l.map Ac.row
theorem rV(l):(ra l).length=l.length:=by unfold ra;simp
theorem wa0{l:aA Ac}{i:aF}(h:i<l.length):ar (ra l) i 0=CV.i ao (el l i).k:=fU _ l i 0 h
theorem wa1{l:aA Ac}{i:aF}(h:i<l.length):ar (ra l) i 1=CV.s (el l i).n:=fU _ l i 1 h
theorem wa2{l:aA Ac}{i:aF}(h:i<l.length):ar (ra l) i (1+1)=CV.s (el l i).t:=fU _ l i 2 h
theorem wa3{l:aA Ac}{i:aF}(h:i<l.length):ar (ra l) i (1+1+1)=CV.s (el l i).o:=fU _ l i 3 h
def j8:aA Fi->aF->aA Ac->aA Fi×aF
 |l,i,[]=>(l,i)
 |l,i,a::r=>match act l a.k a.n a.t a.o with|some d=>j8 d (i+1) r|none=>(l,i)
theorem A2{l d:aA Fi}{k:aw}{n t o:aq}(h:act l k n t o=ah d):sI d=ai/\d.length<=30:=by
 unfold act at h;cases hb:sI l&&j7 k t o with
 |false=>rw[hb]at h;cases h
 |true=>
  rw[hb,au]at h;split at h
  ·rename_i e _;cases ho:sI e with
   |false=>rw[ho]at h;cases h
   |true=>rw[ho]at h;obtain rfl:=aJ h;exact⟨ho,(jV.1 ho).1⟩
  ·cases h
end dI

namespace o7
theorem size(x:aw):(v x).size=4:=by unfold v;rw[Lib.iR];simp only[cB,Lib.rN]
end o7

namespace jP
def rd(x:aw):aw:=bif decide (cO x 2=1)then(bF eC (↑(dV (mf (b_ 32 (bF eC (cQ x 2))) (b_ 32 3558460437))):aw))else(bF eC (cQ x 2))
def nI:aF->aw->aw|0,x=>x|n+1,x=>nI n (rd x)
theorem in6(N:aF)(K:aw->aq->aw->aw->az R)(a:aq)(b:aw):∀(d n i:aF) (x:aw),d+i=8->d<n->l6 N K n x a b (i:aw)=K (nI d x) a b 8:=by
 intro d;induction d with
 |zero=>
  intro n i x h1 h2;obtain⟨n,rfl⟩:∃m,n=m+1:=⟨n-1,by omega⟩
  have:i=8:=by omega
  subst this;rfl
 |succ d ih=>
  intro n i x h1 h2;obtain⟨n,rfl⟩:∃m,n=m+1:=⟨n-1,by omega⟩
  have mA:bJ ((i:aw)+1)=((i+1:aF):aw):=dj (by omega) (by omega);rw[nI,<-ih n (i+1) (rd x) (by omega) (by omega)];simp only[l6,r6,aE (show(i:aw)<8 by omega),au,mA,rd];cases decide (cO x 2=1)<;>rfl
def su(t:aq):aF->aF->aw->aw
 |0,_,s=>s
 |d+1,i,s=>su t d (i+1) (nI 8 (bF eC (↑(dV (mf (b_ 32 s) (b_ 32 (bF eC (↑(gM t i):aw))))):aw)))
theorem run(s:aw)(t:aq)(ht:t.size<=4611686018427387904):vo s t=ah (su t t.size 0 s):=by
 unfold vo b;have key:∀(d n i:aF) (s:aw),d+i=t.size->d<n->l2 Lib.cZ (λ(wg:aw) (_:aq) (_:aw)=>ah wg) n s t (i:aw)=ah (su t d i s):=by
  intro d;induction d with
  |zero=>
   intro n i s h1 h2;obtain⟨n,rfl⟩:∃m,n=m+1:=⟨n-1,by omega⟩
   simp only[l2,r2,Lib.dq,aK (show¬i<t.size by omega),ax];rfl
  |succ d ih=>
   intro n i s h1 h2;obtain⟨n,rfl⟩:∃m,n=m+1:=⟨n-1,by omega⟩
   have mA:bJ ((i:aw)+1)=((i+1:aF):aw):=dj (by omega) (by omega);simp only[l2,r2,Lib.dq,aE (show i<t.size by omega),Lib.cF,aM,au,Lib.dZ];have e:=in6 (R:=aw) Lib.cZ (λy7 y8 y9 _=>l2 Lib.cZ (λwg _ _=>ah wg) n y7 y8 (bJ (y9+1))) t (i:aw) 8 Lib.cZ 0 (bF eC (↑(dV (mf (b_ 32 s) (b_ 32 (bF eC (↑(gM t i):aw))))):aw)) rfl (by unfold Lib.cZ;omega);refine e.trans ?_;rw[mA,ih n (i+1) _ (by omega) (by omega)];rfl
 exact key t.size Lib.cZ 0 s (by omega) (cS (by omega))
theorem ok(s:aw)(t:aq)(ht:t.size<=4611686018427387904):c s t=ai/\v s t=su t t.size 0 s:=out s t (run s t ht)
end jP

namespace vM
theorem ok(t:aq)(ht:t.size<=4611686018427387904):c t=ai/\v t=jP.su t t.size 0 4294967295:=by have h:=jP.ok 4294967295 t ht;refine out t ?_;unfold vo b;rw[h.1,h.2];rfl
end vM

namespace fH
def fr(t:aq):aq:=bytesOf (Lib.vb t.size)++o7.v (jP.su t t.size 0 4294967295)++t
def val(t:aq):aq×aW:=if 1<=t.size/\t.size<=9000 then(fr t,ai)else(⟨#[]⟩,ak)
theorem eI(n a b:aw):kl.v n a b=decide (a<=n/\n<=b):=by unfold kl.v;by_cases h:a<=n<;>by_cases h2:n<=b<;>simp[h,h2]
theorem Xi{t:aq}(h:t.size<=9000):(fr t).size<=t.size+68:=by unfold fr;have:=Lib.jM (x:=(t.size:aw)) (by omega);rw[Lib.j9,Lib.j9,o7.size];omega
theorem ok(t:aq):c t=ai/\v t=val t:=by
 refine out t ?_;unfold vo b val;rw[eI];by_cases h:1<=t.size/\t.size<=9000
 ·have hs:=vM.ok t (by omega);have hc:kA.c (t.size:aw)=true:=aE (show(t.size:aw)<=9223372036854775807 by omega);have z1:(kA.v (t.size:aw)).size<=64:=Lib.jM (x:=(t.size:aw)) (by omega);rw[aE (show(1:aw)<=(t.size:aw)/\(t.size:aw)<=9000 by omega),bz h,hs.1,hs.2];simp(disch:=omega) only[a_,ax,au,hc,Lib.j9,o7.size,Lib.Sd];rfl
 ·rw[aK (show¬((1:aw)<=(t.size:aw)/\(t.size:aw)<=9000)by omega),bH h];rfl
end fH

namespace rG
theorem head{t:aq}{p:aF}{b:HJ}{r:aA HJ}(h:t.data.toList.drop p=b::r):p<t.size/\gM t p=b.toNat/\t.data.toList.drop (p+1)=r:=by
 have hl:=lM bS h;rw[iz,db]at hl;have hs:t.data.toList.length=t.size:=rfl;have hp:p<t.data.toList.length:=by omega
 have hd:=dE hp;rw[hd]at h;injection h with h1 h2;refine⟨by omega, ?_,h2⟩
 unfold gM;have mI:p<t.data.size:=hp;rw[show t.data.getD p 0=t.data[p]by unfold Array.getD;rw[dif_pos mI];rfl];rw[<-h1];rfl
theorem BV(x:aw)(r:aQ):(bytesOf ([CV.i bf x]::r)).data.toList=ay x.toNat::(bytesOf r).data.toList:=rfl
theorem UH(t:aq)(a:aF)(rest:aA HJ):∀(f j:aF) (n y:aw),0<=y->0<=n->n+y*128^j<=1000000000->y<=1000000000->(j>0->0<y)->t.data.toList.drop (a+j)=(bytesOf (Lib.vb y)).data.toList++rest->(Lib.vb y).length<=f->
  Lib.rv t a f j n=(n+y*128^j,((a+j+(Lib.vb y).length:aF):aw),ai)/\t.data.toList.drop (a+j+(Lib.vb y).length)=rest
 |0,j,n,y,h0,hn,hb,hy,hj,hd,hf=>by
  by_cases hc:y>127
  ·rw[Lib.wc hc]at hf;simp at hf
  ·rw[Lib.mY hc]at hf;simp at hf
 |f+1,j,n,y,h0,hn,hb,hy,hj,hd,hf=>by
  by_cases hc:y>127
  ·have e1:cO y 128=y%128:=ig (by omega);have e2:cQ y 128=y/128:=g7 (by omega);have e3:bJ (y%128+128)=y%128+128:=dj (by omega) (by omega);have e4:bF bf (y%128+128)=y%128+128:=by show(y%128+128)%256=_;omega
   have e5:bJ (y/128)=y/128:=dj (by omega) (by omega);have ev:Lib.vb y=[CV.i bf (y%128+128)]::Lib.vb (y/128):=by rw[Lib.wc hc,e1,e2,e3,e4,e5]
   rw[ev,BV,BH]at hd;obtain⟨q1,q2,q3⟩:=head hd;have q4:(gM t (a+j):aw)=y%128+128:=by rw[q2,MI];omega
   rw[ev,db]at hf;have hP:y*128^j=y%128*128^j+y/128*128^(j+1):=by
    have hyd:y=y%128+128*(y/128):=by omega
    rw[uN];generalize (128:aw)^j=P;conv=>lhs;rw[hyd]
    rw[Int.add_mul,Int.mul_comm P 128,<-Int.mul_assoc,Int.mul_comm (y/128) 128]
   have hpp:(0:aw)<=y%128*128^j:=Int.mul_nonneg (by omega) (Int.le_of_lt (Int.pow_pos (by omega)));obtain⟨i1,i2⟩:=UH t a rest f (j+1) (n+y%128*128^j) (y/128) (by omega) (by omega) (by omega) (by omega) (by omega) (by rw[show a+(j+1)=a+j+1 by omega];exact q3) (by omega);refine⟨?_, ?_⟩
   ·unfold Lib.rv;rw[bz q1,q4,bz (by omega),show(y%128+128)%128=y%128 by omega,i1,hP,ev,db];refine Prod.ext ?_ (Prod.ext ?_ rfl)
    ·dsimp only;omega
    ·dsimp only;omega
   ·rw[ev,db,show a+j+((Lib.vb (y/128)).length+1)=a+(j+1)+(Lib.vb (y/128)).length by omega];exact i2
  ·have e4:bF bf y=y:=by show y%256=_;omega
   have ev:Lib.vb y=[[CV.i bf y]]:=by rw[Lib.mY hc,e4]
   rw[ev,BV,BH]at hd;obtain⟨q1,q2,q3⟩:=head hd;have q4:(gM t (a+j):aw)=y:=by rw[q2,MI];omega
   refine⟨?_,by rw[ev];exact q3⟩
   unfold Lib.rv;rw[bz q1,q4,bH hc,show y%128=y by omega,bH (by omega),ev];rfl
theorem vb5{y:aw}(h:y<=1000000000):(Lib.vb y).length<=5:=by
 have e:(128:aw)^(4+1)=34359738368:=by decide
 exact Lib.Bs 4 y (by rw[e];omega)
theorem mD(t:aq)(p:aF)(y:aw)(rest:aA HJ)(h0:0<=y)(h1:y<=1000000000)(hd:t.data.toList.drop p=(bytesOf (Lib.vb y)).data.toList++rest):Lib.er t p=(y,((p+(Lib.vb y).length:aF):aw),ai)/\t.data.toList.drop (p+(Lib.vb y).length)=rest:=by
 have hl:=lM bS hd;have iw:0<(Lib.vb y).length:=by
  by_cases hc:y>127
  ·rw[Lib.wc hc];simp
  ·rw[Lib.mY hc];simp
 have hb:(bytesOf (Lib.vb y)).data.toList.length=(Lib.vb y).length:=Lib.iR _;rw[iz,bT,hb]at hl;have hs:t.data.toList.length=t.size:=rfl;obtain⟨i1,i2⟩:=UH t p rest 5 0 0 y h0 (by omega) (by simp;omega) h1 (by omega) (by simpa using hd) (vb5 h1);refine⟨?_,by simpa using i2⟩
 unfold Lib.er;rw[bz (by omega),show((p:aF):aw).toNat=p from rfl,i1];simp
theorem KB(t k:aq)(p:aF)(rest:aA HJ)(hd:t.data.toList.drop p=k.data.toList++rest):t.extract p (p+k.size)=k:=by apply Lib.s_;simp only[gg,iv,g8];rw[hd,show p+k.size-p=k.data.toList.length by show p+k.size-p=k.size;omega,List.take_left]
theorem enc(k:aq)(s l:aw)(b:aq)(h:m8.v k s l b=ai):v (jI.sL k s l b)=(k,s,l,b,ai):=by
 obtain⟨⟨k1,k2⟩,⟨s1,s2⟩,⟨l1,l2⟩,b1⟩:=m8.D0 h;generalize ht:jI.sL k s l b=t;have hT:t.data.toList=(bytesOf (Lib.vb k.size)).data.toList++(k.data.toList++((bytesOf (Lib.vb s)).data.toList++((bytesOf (Lib.vb l)).data.toList++b.data.toList))):=by rw[<-ht];unfold jI.sL;simp only[my,vp,cu]
 have hs:t.data.toList.length=t.size:=rfl;have hk:k.data.toList.length=k.size:=rfl;obtain⟨a1,a2⟩:=mD t 0 (k.size:aw) _ (by omega) (by omega) (by rw[fu];exact hT);rw[bV]at a1 a2;generalize (Lib.vb (k.size:aw)).length=n1 at a1 a2;have aum:=lM bS a2;simp only[iz,bT,hk,hs]at aum;have ek:=KB t k n1 _ a2;have a3:t.data.toList.drop (n1+k.size)=(bytesOf (Lib.vb s)).data.toList++((bytesOf (Lib.vb l)).data.toList++b.data.toList):=by rw[<-vE,a2];exact List.drop_left' (by rw[hk])
 obtain⟨b1',b2⟩:=mD t (n1+k.size) s _ (by omega) (by omega) a3;obtain⟨c1,c2⟩:=mD t (n1+k.size+(Lib.vb s).length) l _ (by omega) (by omega) b2;have hr:Lib.g6 t 0=(k,((n1+k.size:aF):aw),ai):=by unfold Lib.g6;rw[show(0:aw)=((0:aF):aw)from rfl,a1];dsimp only;rw[bz (by omega)];rw[show((n1:aF):aw).toNat=n1 from rfl,show((n1:aw)+(k.size:aw)).toNat=n1+k.size by omega,ek];rfl
 have eb:t.extract (n1+k.size+(Lib.vb s).length+(Lib.vb l).length) t.size=b:=by
  have IZ:=lM bS c2;rw[iz,hs]at IZ;have hbs:b.data.toList.length=b.size:=rfl;by_cases hz:b.size=0
  ·apply Lib.s_;simp only[gg,iv,g8];rw[c2];exact jc (by omega)
  ·apply Lib.s_;simp only[gg,iv,g8];rw[c2];exact jc (by omega)
 unfold v;rw[hr];dsimp only;rw[b1'];dsimp only;rw[c1];dsimp only;rw[show((n1+k.size+(Lib.vb s).length+(Lib.vb l).length:aF):aw).toNat=n1+k.size+(Lib.vb s).length+(Lib.vb l).length from rfl,eb,bz h]
end rG

namespace wM
theorem in6(N:aF)(K:aw->aq->aw->aw->az R)(a:aq)(b:aw):∀(d n i:aF) (x:aw),d+i=8->d<n->l6 N K n x a b (i:aw)=K (jP.nI d x) a b 8:=by
 intro d;induction d with
 |zero=>
  intro n i x h1 h2;obtain⟨n,rfl⟩:∃m,n=m+1:=⟨n-1,by omega⟩
  have:i=8:=by omega
  subst this;rfl
 |succ d ih=>
  intro n i x h1 h2;obtain⟨n,rfl⟩:∃m,n=m+1:=⟨n-1,by omega⟩
  have mA:bJ ((i:aw)+1)=((i+1:aF):aw):=dj (by omega) (by omega);rw[jP.nI,<-ih n (i+1) (jP.rd x) (by omega) (by omega)];simp only[l6,r6,aE (show(i:aw)<8 by omega),au,mA,jP.rd];cases decide (cO x 2=1)<;>rfl
theorem run(s:aw)(t:aq)(ht:t.size<=4611686018427387904):vo s t=ah (jP.su t t.size 0 s):=by
 unfold vo b;have key:∀(d n i:aF) (s:aw),d+i=t.size->d<n->l2 Lib.cZ (λ(wg:aw) (_:aq) (_:aw)=>ah wg) n s t (i:aw)=ah (jP.su t d i s):=by
  intro d;induction d with
  |zero=>
   intro n i s h1 h2;obtain⟨n,rfl⟩:∃m,n=m+1:=⟨n-1,by omega⟩
   simp only[l2,r2,Lib.dq,aK (show¬i<t.size by omega),ax];rfl
  |succ d ih=>
   intro n i s h1 h2;obtain⟨n,rfl⟩:∃m,n=m+1:=⟨n-1,by omega⟩
   have mA:bJ ((i:aw)+1)=((i+1:aF):aw):=dj (by omega) (by omega);simp only[l2,r2,Lib.dq,aE (show i<t.size by omega),Lib.cF,aM,au,Lib.dZ];have e:=in6 (R:=aw) Lib.cZ (λy7 y8 y9 _=>l2 Lib.cZ (λwg _ _=>ah wg) n y7 y8 (bJ (y9+1))) t (i:aw) 8 Lib.cZ 0 (bF eC (↑(dV (mf (b_ 32 s) (b_ 32 (bF eC (↑(gM t i):aw))))):aw)) rfl (by unfold Lib.cZ;omega);refine e.trans ?_;rw[mA,ih n (i+1) _ (by omega) (by omega)];rfl
 exact key t.size Lib.cZ 0 s (by omega) (cS (by omega))
theorem ok(s:aw)(t:aq)(ht:t.size<=4611686018427387904):c s t=ai/\v s t=jP.su t t.size 0 s:=out s t (run s t ht)
end wM

namespace uY
theorem ok(t:aq)(ht:t.size<=4611686018427387904):c t=ai/\v t=jP.su t t.size 0 4294967295:=by have h:=wM.ok 4294967295 t ht;refine out t ?_;unfold vo b;rw[h.1,h.2];rfl
end uY

namespace uV
theorem ok(t:aq)(ht:t.size<=4611686018427387904):c t=ai/\v t=o7.v (jP.su t t.size 0 4294967295):=by have h:=uY.ok t ht;refine out t ?_;unfold vo b;rw[h.1,h.2];rfl
end uV

namespace HH
theorem cut(a s s' b:aq):bZ (aC (a++s++b)) (aC (a++s'++b))=bZ (aC s) (aC s'):=by
 rw[Lib.eM,Lib.eM,ca];constructor
 ·intro h;have h2:=lM (λx:aq=>x.data.toList) h;simp only[my,vp,cu]at h2;have h3:=List.append_cancel_right (List.append_cancel_left h2);exact Lib.s_ h3
 ·intro h;rw[h]
theorem mF(n a b:aw):lz.v n a b=decide (a<=n/\n<=b):=fH.eI n a b
theorem both(t:aq)(ht:t.size<=20000):∀(d:aF) (gL:aF) (acc:aQ) (n m:aF) (z:aw),t.size-gL<=d->gL<=t.size->acc.length<=gL->d<n->d<m->
  ∃R:aQ×aw,U122.l3 Lib.cZ (λ(_:aq) (y4:aw) (y5:aQ)=>ah (y5,y4)) n t (gL:aw) acc=ah R/\l5 Lib.cZ (λ(_:aq) (y5 _:aw) (y7:aQ)=>ah (y7,y5)) (λ(_:aq) (_ J4:aw) (wg:aQ)=>ah (wg,J4)) m t z (gL:aw) acc=ah R/\R.1.length<=20000:=by
 intro d;induction d with
 |zero=>
  intro gL acc n m z h1 h2 h3 h4 h5;obtain⟨n,rfl⟩:∃n',n=n'+1:=⟨n-1,by omega⟩
  obtain⟨m,rfl⟩:∃m',m=m'+1:=⟨m-1,by omega⟩
  have jy:decide ((gL:aw)<(t.size:aw))=false:=aK (by omega);have hr:(Lib.er t (gL:aw)).2.2=false:=by
   cases h:Lib.er t (gL:aw)with
   |mk a r=>
    obtain⟨x,o⟩:=r;cases o with
    |false=>rfl
    |true=>have:=Lib.jX h;omega
  have e1:∀a b,gi.v a b=Lib.er a b:=λ_ _=>rfl;refine⟨(acc,(gL:aw)), ?_, ?_,by dsimp only;omega⟩
  ·simp only[U122.l3,U122.r3,e1,hr,aE (show(t.size:aw)<=20000 by omega),au,bR]
  ·simp only[l5,r5,jy,ax]
 |succ d ih=>
  intro gL acc n m z h1 h2 h3 h4 h5;obtain⟨n,rfl⟩:∃n',n=n'+1:=⟨n-1,by omega⟩
  obtain⟨m,rfl⟩:∃m',m=m'+1:=⟨m-1,by omega⟩
  have e1:∀a b,gi.v a b=Lib.er a b:=λ_ _=>rfl;have e2:∀a b,fM.v a b=Lib.er a b:=λ_ _=>rfl;have gf:decide ((t.size:aw)<=20000)=true:=aE (by omega);cases hr:Lib.er t (gL:aw)with
  |mk N r=>
   obtain⟨nx,o⟩:=r;cases o with
   |false=>
    refine⟨(acc,(gL:aw)), ?_, ?_,by dsimp only;omega⟩
    ·simp only[U122.l3,U122.r3,e1,hr,gf,au,bR]
    ·by_cases jy:(gL:aw)<(t.size:aw)
     ·simp only[l5,r5,e2,hr,aE jy,au,bR]
     ·simp only[l5,r5,aK jy,ax]
   |true=>
    obtain⟨q1,q2,q3,q4,q5,q6⟩:=Lib.jX hr;have jy:decide ((gL:aw)<(t.size:aw))=true:=aE (by omega);have w1:bJ (N+4)=N+4:=dj (by omega) (by omega);have w2:bJ ((t.size:aw)-nx)=(t.size:aw)-nx:=dj (by omega) (by omega);have w3:bJ ((t.size:aw)-nx-4)=(t.size:aw)-nx-4:=dj (by omega) (by omega);have w4:bJ (nx+4)=nx+4:=dj (by omega) (by omega);have w5:bJ (nx+4+N)=nx+4+N:=dj (by omega) (by omega);by_cases tv:N+4>(t.size:aw)-nx
    ·have EJ:N>(t.size:aw)-nx-4:=by omega
     refine⟨(acc,(gL:aw)), ?_, ?_,by dsimp only;omega⟩
     ·cases XD:decide (1<=N/\N<=9000)with
      |false=>simp only[U122.l3,U122.r3,e1,hr,gf,mF,XD,au,ax,a_,bR]
      |true=>simp only[U122.l3,U122.r3,e1,hr,gf,mF,XD,w1,w2,aE tv,au,ax,a_]
     ·simp only[l5,r5,e2,hr,jy,w2,w3,aE EJ,au,ax,a_]
    ·have EJ:¬N>(t.size:aw)-nx-4:=by omega
     have i1:g9 (nx+4) (nx+4+N) (t.size:aw)=true:=by simp[g9];omega
     have i2:g9 nx (nx+4) (t.size:aw)=true:=by simp[g9];omega
     have i3:g9 (gL:aw) (nx+4+N) (t.size:aw)=true:=by simp[g9];omega
     have hts:(t.extract (nx+4).toNat (nx+4+N).toNat).size=N.toNat:=by rw[yt];omega
     generalize Wc:t.extract (nx+4).toNat (nx+4+N).toNat=tx at hts;have f1:=fH.ok tx;have f2:=uV.ok tx (by omega);by_cases XD:1<=N/\N<=9000
     ·have Wa:fH.val tx=(fH.fr tx,ai):=by unfold fH.val;rw[bz (by omega)]
      have arE:((tx.size:aF):aw)=N:=by omega
      have Di:fH.fr tx=t.extract gL nx.toNat++o7.v (jP.su tx tx.size 0 4294967295)++tx:=by unfold fH.fr;rw[arE,q6];rfl
      have hwh:t.extract gL (nx+4+N).toNat=t.extract gL nx.toNat++t.extract nx.toNat (nx+4).toNat++tx:=by rw[<-Wc,Lib.wX t (by omega) (by omega),Lib.wX t (by omega) (by omega)]
      have Xo:bZ (aC (fH.fr tx)) (aC (t.extract gL (nx+4+N).toNat))=bZ (aC (o7.v (jP.su tx tx.size 0 4294967295))) (aC (t.extract nx.toNat (nx+4).toNat)):=by rw[Di,hwh];exact cut _ _ _ _
      have I8:cC (acc.length+1) 16=true:=Lib.cq (by omega) (by omega);cases hs:bZ (aC (o7.v (jP.su tx tx.size 0 4294967295))) (aC (t.extract nx.toNat (nx+4).toNat))with
      |false=>
       rw[hs]at Xo;refine⟨(acc,(gL:aw)), ?_, ?_,by dsimp only;omega⟩
       ·simp only[U122.l3,U122.r3,e1,hr,gf,mF,aE XD,w1,w2,w4,w5,aK tv,i1,i2,Wc,f2.1,f2.2,hs,au,ax,a_,bR]
       ·simp only[l5,r5,e2,hr,jy,w2,w3,w4,w5,aK EJ,i1,i3,Wc,f1.1,f1.2,Wa,dG,Xo,au,ax,a_,bR]
      |true=>
       rw[hs]at Xo;obtain⟨a2,ha2⟩:∃a2:aF,nx+4+N=(a2:aw):=⟨(nx+4+N).toNat,by omega⟩
       obtain⟨R,g1,g2,g3⟩:=ih a2 (acc++[[CV.s tx]]) n m z (by omega) (by omega) (by rw[bT,bA];omega) (by omega) (by omega);refine⟨R, ?_, ?_,g3⟩
       ·simp only[U122.l3,U122.r3,e1,hr,gf,mF,aE XD,w1,w2,w4,w5,aK tv,i1,i2,Wc,f2.1,f2.2,hs,Lib.iX,bA,I8,au,ax,a_];rw[ha2];exact g1
       ·simp only[l5,r5,e2,hr,jy,w2,w3,w4,w5,aK EJ,i1,i3,Wc,f1.1,f1.2,Wa,dG,Xo,Lib.iX,bA,I8,au,ax,a_];rw[ha2];exact g2
     ·have Wa:fH.val tx=(⟨#[]⟩,ak):=by unfold fH.val;rw[bH (by omega)]
      refine⟨(acc,(gL:aw)), ?_, ?_,by dsimp only;omega⟩
      ·simp only[U122.l3,U122.r3,e1,hr,gf,mF,aK XD,au,ax,a_,bR]
      ·simp only[l5,r5,e2,hr,jy,w2,w3,w4,w5,aK EJ,i1,Wc,f1.1,f1.2,Wa,au,ax,a_,bR]
theorem same(t:aq):∃R:aQ×aw,(c t=ai/\v t=R)/\(U122.c t=ai/\U122.v t=R)/\R.1.length<=20000:=by
 by_cases ht:t.size<=20000
 ·obtain⟨R,g1,g2,g3⟩:=both t ht t.size 0 [] Lib.cZ Lib.cZ 0 (by omega) (bI _) (cD _) (cS (by omega)) (cS (by omega));refine⟨R,out t ?_,U122.out t ?_,g3⟩
  ·unfold vo b;rw[aK (show¬(t.size:aw)>20000 by omega),ax];exact g2
  ·unfold U122.vo U122.b;exact g1
 ·refine⟨([],0),out t ?_,U122.out t ?_,bI _⟩
  ·unfold vo b;rw[aE (show(t.size:aw)>20000 by omega)];rfl
  ·unfold U122.vo U122.b;have hb:Lib.cZ=18446744073709551615+1:=rfl;have:∀n,U122.l3 Lib.cZ (λ(_:aq) (y4:aw) (y5:aQ)=>ah (y5,y4)) (n+1) t 0 (aP [Ck.s] 0)=ah ([],0):=by intro n;simp only[U122.l3,U122.r3,aK (show¬(t.size:aw)<=20000 by omega),ax];rfl
   exact this 18446744073709551615
end HH

namespace Wr
def fs:aA aq->aq
 |[]=>⟨#[]⟩|x::r=>fH.fr x++fs r
theorem toL(a b:aq):(a++b).data.toList=a.data.toList++b.data.toList:=by simp[my]
theorem GL(x:aq):(fH.fr x).data.toList=(bytesOf (Lib.vb x.size)).data.toList++((o7.v (jP.su x x.size 0 4294967295)).data.toList++x.data.toList):=by unfold fH.fr;rw[toL,toL,cu]
theorem J0(x:aq):x.data.toList.length=x.size:=dR
def Stop(z:aq):Prop:=z=⟨#[]⟩\/∃(x:aq) (w:aA HJ),x.size<=9000/\(fH.fr x).data.toList=z.data.toList++w/\w≠[]
theorem oT(n:aw):(o7.v n).size=4:=rfl
theorem vbl(n:aw):(bytesOf (Lib.vb n)).data.toList.length=(Lib.vb n).length:=by rw[J0,Lib.iR]
theorem stop{t z:aq}{p:aF}(hz:Stop z)(hp:p<=t.size)(hd:t.data.toList.drop p=z.data.toList){N nx:aw}(h:Lib.er t p=(N,nx,ai)):N+4>(t.size:aw)-nx:=by
 obtain⟨q1,q2,q3,q4,q5,q6⟩:=Lib.jX h;have hl:t.size-p=z.size:=by have:=lM bS hd;rw[iz,J0,J0]at this;exact this
 rcases hz with rfl|⟨x,w,hx,hF,hw⟩
 ·have:(⟨#[]⟩:aq).size=0:=rfl;omega
 ·-- the file's next bytes are the number's
  have e1:(t.extract p nx.toNat).data.toList=z.data.toList.take (nx.toNat-p):=by rw[<-hd];simp[gg,iv,List.extract]
  rw[dG]at q6;have K2:nx.toNat-p<=z.data.toList.length:=by rw[J0];omega
  have e2:(fH.fr x).data.toList.drop 0=(bytesOf (Lib.vb N)).data.toList++(z.data.toList.drop (nx.toNat-p)++w):=by rw[fu,hF,q6,e1,<-cu,List.take_append_drop]
  have e3:(fH.fr x).data.toList.drop 0=(bytesOf (Lib.vb x.size)).data.toList++((o7.v (jP.su x x.size 0 4294967295)).data.toList++x.data.toList):=by rw[fu,GL]
  have r1:=(rG.mD _ 0 N _ q4 q5 e2).1;have r2:=(rG.mD _ 0 (x.size:aw) _ (by omega) (by omega) e3).1;rw[r1]at r2;obtain⟨hN,hq⟩:=bW r2;have hlen:(Lib.vb N).length=nx.toNat-p:=by have:=lM bS (lM (λy:aq=>y.data.toList) q6);simp only[vbl,e1,eK]at this;omega
  have hFl:=lM bS hF;rw[GL,bT,bT,bT,vbl,J0,J0,J0,oT]at hFl;have hw1:1<=w.length:=by cases w with|nil=>exact cJ rfl hw|cons=>simp
  subst hN;omega
theorem go(t:aq)(ht:t.size<=20000)(z:aq)(hz:Stop z):∀(es:aA aq),(∀x∈es,1<=x.size/\x.size<=9000)->∀(p n:aF) (acc:aQ),p<=t.size->acc.length<=p->t.data.toList.drop p=(fs es++z).data.toList->t.size-p<n->
  U122.l3 Lib.cZ (λ(_:aq) (y4:aw) (y5:aQ)=>ah (y5,y4)) n t (p:aw) acc=ah (acc++Lib.rs es,((p+(fs es).size:aF):aw)):=by
 have e0:∀a b,gi.v a b=Lib.er a b:=λ_ _=>rfl;have gf:decide ((t.size:aw)<=20000)=true:=aE (by omega);intro es;induction es with
 |nil=>
  intro hes p n acc hp ha hd hn;obtain⟨n,rfl⟩:∃n',n=n'+1:=⟨n-1,by omega⟩
  have hd:t.data.toList.drop p=z.data.toList:=by rw[hd];unfold fs;rw[toL];rfl
  have e1:acc++Lib.rs []=acc:=dm _;have e2:((p+(fs []).size:aF):aw)=(p:aw):=rfl;rw[e1,e2];cases hr:Lib.er t (p:aw)with
  |mk N r=>
   obtain⟨nx,o⟩:=r;cases o with
   |false=>simp only[U122.l3,U122.r3,e0,hr,gf,au,bR]
   |true=>
    have hs:=stop hz hp hd hr;obtain⟨q1,q2,q3,q4,q5,q6⟩:=Lib.jX hr;have w1:bJ (N+4)=N+4:=dj (by omega) (by omega);have w2:bJ ((t.size:aw)-nx)=(t.size:aw)-nx:=dj (by omega) (by omega);cases XD:decide (1<=N/\N<=9000)with
    |false=>simp only[U122.l3,U122.r3,e0,hr,gf,HH.mF,XD,au,ax,a_,bR]
    |true=>simp only[U122.l3,U122.r3,e0,hr,gf,HH.mF,XD,w1,w2,aE hs,au,ax,a_]
 |cons x es ih=>
  intro hes p n acc hp ha hd hn;obtain⟨n,rfl⟩:∃n',n=n'+1:=⟨n-1,by omega⟩
  have hx:=hes x (by simp);have hd1:t.data.toList.drop p=(bytesOf (Lib.vb x.size)).data.toList++((o7.v (jP.su x x.size 0 4294967295)).data.toList++(x.data.toList++(fs es++z).data.toList)):=by rw[hd,show fs (x::es)=fH.fr x++fs es from rfl,toL,toL,GL,toL];simp only[cu]
  obtain⟨hr,hd2⟩:=rG.mD t p (x.size:aw) _ (by omega) (by omega) hd1;have M_:(fH.fr x).size=(Lib.vb x.size).length+4+x.size:=by rw[<-J0,GL,bT,bT,vbl,J0,J0,oT];omega
  have hlen:=lM bS hd;rw[iz,J0,J0]at hlen;have nT:(fs (x::es)++z).size=(fH.fr x).size+(fs es).size+z.size:=by rw[show fs (x::es)=fH.fr x++fs es from rfl,dJ,dJ]
  rw[nT,M_]at hlen;generalize hm:(Lib.vb (x.size:aw)).length=m at*
  have x4:t.extract (p+m) (p+m+4)=o7.v (jP.su x x.size 0 4294967295):=by have:=rG.KB t _ (p+m) _ hd2;rwa[oT]at this
  have hd3:t.data.toList.drop (p+m+4)=x.data.toList++(fs es++z).data.toList:=by rw[<-vE,hd2,AU (by rw[J0,oT];omega),HZ (by rw[J0,oT];omega),gz]
  have x5:t.extract (p+m+4) (p+m+4+x.size)=x:=rG.KB t x (p+m+4) _ hd3;have hd4:t.data.toList.drop (p+m+4+x.size)=(fs es++z).data.toList:=by rw[<-vE,hd3,AU (by rw[J0];omega),HZ (by rw[J0];omega),gz]
  have i:=ih (λy hy=>hes y (by simp[hy])) (p+m+4+x.size) n (acc++[[CV.s x]]) (by omega) (by simp;omega) hd4 (by omega);have w1:bJ ((x.size:aw)+4)=(x.size:aw)+4:=dj (by omega) (by omega);have w2:bJ ((t.size:aw)-((p+m:aF):aw))=(t.size:aw)-((p+m:aF):aw):=dj (by omega) (by omega);have w4:bJ (((p+m:aF):aw)+4)=((p+m+4:aF):aw):=by rw[dj (by omega) (by omega)];omega
  have w5:bJ (((p+m+4:aF):aw)+(x.size:aw))=((p+m+4+x.size:aF):aw):=by rw[dj (by omega) (by omega)];omega
  have b1:¬(x.size:aw)+4>(t.size:aw)-((p+m:aF):aw):=by omega
  have i1:g9 ((p+m+4:aF):aw) ((p+m+4+x.size:aF):aw) (t.size:aw)=true:=by simp[g9];omega
  have i2:g9 ((p+m:aF):aw) ((p+m+4:aF):aw) (t.size:aw)=true:=by simp[g9];omega
  have f2:=uV.ok x (by omega);have I8:cC (acc.length+1) 16=true:=Lib.cq (by omega) (by omega);simp only[U122.l3,U122.r3,e0,hr,gf,HH.mF,aE (show 1<=(x.size:aw)/\(x.size:aw)<=9000 by omega),w1,w2,w4,w5,aK b1,i1,i2,dG,x4,x5,f2.1,f2.2,Lib.pb,Lib.iX,bA,I8,au,ax,a_];rw[i];have e3:acc++[[CV.s x]]++Lib.rs es=acc++Lib.rs (x::es):=by unfold Lib.rs;simp
  have e4:p+m+4+x.size+(fs es).size=p+(fs (x::es)).size:=by
   have:(fs (x::es)).size=(fH.fr x).size+(fs es).size:=by rw[show fs (x::es)=fH.fr x++fs es from rfl,dJ]
   omega
  rw[e3,e4]
theorem ok(es:aA aq)(hes:∀x∈es,1<=x.size/\x.size<=9000)(z:aq)(hz:Stop z)(ht:(fs es++z).size<=20000):
  (U122.c (fs es++z)=ai/\U122.v (fs es++z)=(Lib.rs es,((fs es).size:aw)))/\(HH.c (fs es++z)=ai/\HH.v (fs es++z)=(Lib.rs es,((fs es).size:aw))):=by
 have h1:=U122.out (fs es++z) (x:=(Lib.rs es,((fs es).size:aw))) (by unfold U122.vo U122.b;have:=go (fs es++z) ht z hz es hes 0 Lib.cZ [] (bI _) (bI _) (by rw[fu]) (cS (by omega));rw[bV,gz]at this;exact this);obtain⟨R,s1,s2,_⟩:=HH.same (fs es++z);refine⟨h1,s1.1, ?_⟩
 rw[s1.2,<-s2.2,h1.2]
end Wr

namespace BK
theorem wi(n a b:aw):lz.v n a b=decide (a<=n/\n<=b):=fH.eI n a b
theorem ok(t:aq):c t=ai/\v t=fH.val t:=by
 refine out t ?_;unfold vo b fH.val;rw[wi];by_cases h:1<=t.size/\t.size<=9000
 ·have hs:=uV.ok t (by omega);have z1:(bytesOf (Lib.vb (t.size:aw))).size<=64:=Lib.jM (x:=(t.size:aw)) (by omega);have e2:nO.v (t.size:aw)=(bytesOf (Lib.vb t.size),ai):=by unfold nO.v;rw[bz (by omega)]
  rw[aE (show(1:aw)<=(t.size:aw)/\(t.size:aw)<=9000 by omega),bz h,hs.1,hs.2,e2];simp(disch:=omega) only[a_,ax,au,Lib.j9,o7.size,Lib.Sd];rfl
 ·rw[aK (show¬((1:aw)<=(t.size:aw)/\(t.size:aw)<=9000)by omega),bH h];rfl
end BK

namespace mR
theorem tV{k b:aq}{s l:aw}(h:m8.v k s l b=ai):(jI.sL k s l b).size<=1000:=by have hr:=m8.D0 h;have z1:(bytesOf (Lib.vb (k.size:aw))).size<=64:=Lib.jM (x:=(k.size:aw)) (by omega);have z2:(bytesOf (Lib.vb s)).size<=64:=Lib.jM (x:=s) (by omega);have z3:(bytesOf (Lib.vb l)).size<=64:=Lib.jM (x:=l) (by omega);unfold jI.sL;simp only[Lib.j9];omega
theorem Bq{k b:aq}{s l:aw}(h:m8.v k s l b=ai):1<=(jI.sL k s l b).size:=by have hr:=m8.D0 h;unfold jI.sL;simp only[Lib.j9];omega
def val(k:aq)(s l:aw)(b:aq):aq×aW:=if m8.v k s l b=ai then(fH.fr (jI.sL k s l b),ai)else(⟨#[]⟩,ak)
theorem ok(k:aq)(s l:aw)(b0:aq):c k s l b0=ai/\v k s l b0=val k s l b0:=by
 refine out k s l b0 ?_;have hf:=BK.ok (DI.v k s l b0).1;unfold vo b val;rw[hf.1,hf.2];unfold DI.v jI.v fH.val;by_cases h:m8.v k s l b0=ai
 ·have h1:=tV h;have h2:=Bq h;rw[bz h,bz h,bz (by dsimp only;omega)];rfl
 ·rw[bH h,bH h];rfl
end mR

namespace jw
def p(d:aQ)(n:aq)(i:aF):aW:=bZ (aC (bu (ar d i 0))) (aC n)
theorem ok(d:aQ)(n:aq)(hl:d.length<=4294967296):c d n=ai/\v d n=Lib.fi (p d n) d.length 0:=by
 refine out d n ?_;unfold vo b;refine mT (p d n) d.length (λm (i:aF)=>l2 Lib.cZ (λ(_:aq) (y5 _:aw) (_:aQ)=>ah y5) (λ(_:aq) (_ _:aw) (_:aQ)=>ah (-1)) m n 0 (i:aw) d) ah (λm i hi hp=> ?_) (λm i hi hp=> ?_) (λm=> ?_) Lib.cZ (cS (by omega))
 ·unfold p at hp;simp only[l2,r2,Lib.dq,Lib.cF,Lib.dZ,hi,aN,aM,au,hp]
 ·unfold p at hp;simp only[l2,r2,Lib.dq,Lib.cF,Lib.dZ,hi,aN,aM,au,hp,ax,Lib.c6 hi (by omega:d.length<=9223372036854775807)]
 ·simp only[l2,r2,Lib.dq,bm,bj,ax]
end jw

namespace vP
def val(d:aQ)(n:aq):aq×aW:=if Lib.fi (jw.p d n) d.length 0<0 then(⟨#[]⟩,ak)else(bu (ar d (Lib.fi (jw.p d n) d.length 0).toNat 1),ai)
theorem D0(d:aQ)(n:aq)(h:¬Lib.fi (jw.p d n) d.length 0<0):0<=Lib.fi (jw.p d n) d.length 0/\Lib.fi (jw.p d n) d.length 0<(d.length:aw):=by
 rcases Lib.pj (jw.p d n) d.length 0 with ⟨h1,_⟩|⟨k,h1,h2,h3,_,_⟩
 ·rw[h1]at h;omega
 ·rw[h3];omega
theorem ok(d:aQ)(n:aq)(hl:d.length<=4294967296):c d n=ai/\v d n=val d n:=by
 refine out d n ?_;have h:=jw.ok d n hl;unfold vo b val;rw[h.1,h.2,au];by_cases hn:Lib.fi (jw.p d n) d.length 0<0
 ·rw[aE hn,bz hn];rfl
 ·have hr:=D0 d n hn;rw[aK hn,bH hn,ax,aE hr.1,aE hr.2];rfl
end vP

namespace ia
theorem ok(r:aQ)(hl:r.length<=4294967296):c r=ai/\v r=gK.val r:=by
 refine out r ?_;unfold vo b gK.val;have gq:∀a b c,lz.v a b c=kl.v a b c:=λ_ _ _=>rfl
 have key:=jl (gK.el r) r.length (λm (i:aF)=>l2 Lib.cZ (λ(y5:aW) (_:aQ) (_ _:aw) (_:aQ)=>ah y5) (λ(_:aW) (_:aQ) (_ _:aw) (HQ:aQ)=>ah (decide ((HQ.length:aw)<=30))) m ak r (r.length:aw) (i:aw) r) (ah ak) (ah (decide ((r.length:aw)<=30)))
  (λm i hi hp=>by
   unfold gK.el at hp;simp only[aL]at hp;obtain⟨h1,h2,h3,h4⟩:=hp;have h3:decide (0<=bE (ar r i (1+1))/\bE (ar r i (1+1))<=((bu (ar r i 1)).size:aw))=true:=h3;have h2:decide (((bu (ar r i 1)).size:aw)>20000)=false:=by simpa using h2
   by_cases hz:0<i
   ·have e0:decide ((i:aw)>0)=true:=aE (by omega);have mI:i-1<r.length:=by omega
    have h5:b7 (aC (bu (ar r (i-1) 0))) (aC (bu (ar r i 0)))=true:=by
     rcases dM _ _▸h4 with q|q
     ·have:i=0:=by simpa using q
      omega
     ·exact q
    simp only[l2,r2,Lib.dq,hi,mI,aN,Lib.cF,aM,au,ax,Lib.dZ,gq,gK.mW,h1,h2,h3,h5,e0,gK.C7 hz (by omega),a_,Lib.c6 hi (by omega:r.length<=9223372036854775807)]
   ·have e0:decide ((i:aw)>0)=false:=aK (by omega);simp only[l2,r2,Lib.dq,hi,aN,Lib.cF,aM,au,ax,Lib.dZ,gq,gK.mW,h1,h2,h3,e0,a_,Lib.c6 hi (by omega:r.length<=9223372036854775807)])
  (λm i hi hp=>by
   unfold gK.el at hp;cases h1:decide (1<=((bu (ar r i 0)).size:aw)/\((bu (ar r i 0)).size:aw)<=8)with
   |false=>simp only[l2,r2,Lib.dq,hi,aN,Lib.cF,aM,au,ax,Lib.dZ,gq,gK.mW,h1,bR]
   |true=>
   cases h2:decide (((bu (ar r i 1)).size:aw)>20000)with
   |true=>simp only[l2,r2,Lib.dq,hi,aN,Lib.cF,aM,au,ax,Lib.dZ,gq,gK.mW,h1,h2,a_]
   |false=>
   cases h3:decide (0<=bE (ar r i (1+1))/\bE (ar r i (1+1))<=((bu (ar r i 1)).size:aw))with
   |false=>simp only[l2,r2,Lib.dq,hi,aN,Lib.cF,aM,au,ax,Lib.dZ,gq,gK.mW,h1,h2,h3,a_,bR]
   |true=>
   rw[h1,h2,show decide (0<=bE (ar r i 2)/\bE (ar r i 2)<=((bu (ar r i 1)).size:aw))=ai from h3,bR,bh,bh,bh]at hp;rw[iG]at hp;obtain⟨h4,h5⟩:=hp;have hz:0<i:=by
    have:¬i=0:=by simpa using h4
    omega
   have e0:decide ((i:aw)>0)=true:=aE (by omega);have mI:i-1<r.length:=by omega
   simp only[l2,r2,Lib.dq,hi,mI,aN,Lib.cF,aM,au,ax,Lib.dZ,gq,gK.mW,h1,h2,h3,h5,e0,gK.C7 hz (by omega),a_,bR])
  (λm=>by simp only[l2,r2,Lib.dq,bm,bj,ax]) Lib.cZ (cS (by omega))
 refine key.trans ?_;rw[show decide ((r.length:aw)<=30)=decide (r.length<=30)from by rw[ca];omega];cases (cw r.length).all (gK.el r)<;>cases decide (r.length<=30)<;>rfl
end ia

namespace sd
theorem ok(d:aQ)(n:aq)(hl:d.length<=4294967296):c d n=ai/\v d n=Lib.fi (jw.p d n) d.length 0:=by
 refine out d n ?_;unfold vo b;refine mT (jw.p d n) d.length (λm (i:aF)=>l2 Lib.cZ (λ(_:aQ) (_:aq) (y7 _ _:aw)=>ah y7) (λ(_:aQ) (_:aq) (_ _ _:aw)=>ah (-1)) m d n 0 (d.length:aw) (i:aw)) ah (λm i hi hp=> ?_) (λm i hi hp=> ?_) (λm=> ?_) Lib.cZ (cS (by omega))
 ·unfold jw.p at hp;simp only[l2,r2,Lib.dq,Lib.cF,Lib.dZ,hi,aN,aM,au,Ki.v,hp]
 ·unfold jw.p at hp;simp only[l2,r2,Lib.dq,Lib.cF,Lib.dZ,hi,aN,aM,au,Ki.v,hp,ax,Lib.c6 hi (by omega:d.length<=9223372036854775807)]
 ·simp only[l2,r2,Lib.dq,bm,bj,ax]
end sd

namespace eh
theorem ok(d:aQ)(n:aq)(hl:d.length<=4294967296):c d n=ai/\v d n=Lib.fi (jw.p d n) d.length 0:=by have h:=sd.ok d n hl;exact out d n (by unfold vo b;rw[h.1,h.2,au])
end eh

namespace s6
theorem ok(d:aQ)(h:d.length<=1000000000):c d=ai/\v d=d:=by refine out d ?_;unfold vo b;rw[Lib.rN,Lib.cq (by omega) (by omega)];rfl
end s6

namespace iU
open Lib (rd Fi)
open dI (without)
theorem ok(l:aA Fi)(n:aq)(hl:l.length<=1000000):c (rd l) n=ai/\v (rd l) n=rd (without l n):=by have h1:=s6.ok (rd l) (by rw[eA];omega);have h2:=wN.ok (rd l) n (dI.ah0 l) (by rw[eA];omega);exact out _ _ (by unfold vo b;rw[h1.1,h1.2,h2.1,h2.2,dI.alM];rfl)
end iU

namespace gH
open Lib (rd Fi)
open dI (without put VX)
def nw(n t:aq)(k:aw):aA CV:=[CV.s n,CV.s t,CV.i ao k]
def pn(n:aq)(y:aA CV):aW:=b7 (aC (bu (y.getD 0 (.b ak)))) (aC n)
theorem ok(l:aA Fi)(n t:aq)(k:aw)(hs:VX l)(hl:l.length<=1000000):c (rd l) n t k=ai/\v (rd l) n t k=rd (put l ⟨n,t,k⟩):=by
 refine out _ _ _ _ ?_;have hd:=iU.ok l n hl;unfold vo b;rw[hd.1,hd.2,au];have EK:=dI.LX l n;have e1:(without l n).filter (λx=>fZ.fm x.n n)=l.filter λx=>fZ.fm x.n n:=by
  unfold without;rw[pG];apply kS;intro y _;by_cases h:y.n=n
  ·rw[h,dI.irrefl];rfl
  ·rw[aK h];simp
 have e2:(without l n).filter (λx=> !fZ.fm x.n n)=l.filter λx=> !(fZ.fm x.n n||decide (x.n=n)):=by unfold without;rw[pG];apply kS;intro y _;cases fZ.fm y.n n<;>cases decide (y.n=n)<;>rfl
 have htw:=Lib.zN (λx:Fi=>fZ.fm x.n n) (λx=> !fZ.fm x.n n) (without l n) (λ_ _=>rfl) ((dI.ady hs n).imp λ{y z} hyz hz=>lL.pc _ _ _ hyz hz);rw[e1,e2]at htw;generalize without l n=o at EK htw
 have:=tT (pn n) (rd o) (λm (i:aF)=>l3 Lib.cZ (λ(y5:aw) (y6 y7:aq) (y8:aw) (y9:aQ)=>bif(decide (0<=y5)&&decide (y5<=(↑(bS y9):aw))&&cC (bS y9+bS (aD (aP [Ck.s,Ck.s,Ck.i ao] 1) 0 [CV.s y6,CV.s y7,CV.i ao y8])) 40)then(ah (Pu.tB y9 (aY y5) (aD (aP [Ck.s,Ck.s,Ck.i ao] 1) 0 [CV.s y6,CV.s y7,CV.i ao y8])))else(aj)) m (i:aw) n t k (rd o))
  (λa=>bif decide ((a:aw)<=((rd o).length:aw))then ah (Pu.tB (rd o) a [nw n t k])else aj)
  (λm i h hp=>by
   have mI:b7 (aC (bu (ar (rd o) i 0))) (aC n)=true:=by rw[Lib.cG h];exact hp
   simp only[l3,r3,Lib.dq,h,aN,Lib.cF,aM,au,Lib.dZ,mI,Lib.c6 h (by rw[eA];omega:(rd o).length<=9223372036854775807)])
  (λm i h hp=>by
   have mI:b7 (aC (bu (ar (rd o) i 0))) (aC n)=false:=by rw[Lib.cG h];exact hp
   simp only[l3,r3,Lib.dq,h,aN,Lib.cF,aM,bh,j4,au,ax,Lib.dZ,mI,Lib.iX,bA,Lib.cq (n:=(rd o).length+1) (b:=40) (by rw[eA];omega) (by rw[eA];omega)];rfl)
  (λm=>by simp only[l3,r3,Lib.dq,bm,bj,aN,Lib.cF,aM,bh,j4,au,ax,Lib.dZ,Lib.iX,bA,Lib.cq (n:=(rd o).length+1) (b:=40) (by rw[eA];omega) (by rw[eA];omega)];rfl) Lib.cZ (cS (by rw[eA];omega))
 refine this.trans ?_;have hle:=E5 (pn n) (rd o);rw[aE (by omega),au];unfold Pu.tB;rw[xY,wT];have e3:pn n∘Fi.row=λx:Fi=>fZ.fm x.n n:=rfl;unfold Lib.rd;rw[Oq,Oo,e3,htw.1,htw.2];unfold put;rw[dh,dh];rfl
end gH

namespace rF
open Lib (rd el Fi)
open dI (without put VX sI act G9 jV)
def res(o:az (aA Fi)):aQ×aW:=match o with|some d=>(rd d,ai)|none=>([],ak)
theorem find(l:aA Fi)(n:aq):(Lib.fi (jw.p (rd l) n) l.length 0= -1/\l.find? (λx=>decide (x.n=n))=aj)\/∃i,i<l.length/\Lib.fi (jw.p (rd l) n) l.length 0=(i:aw)/\l.find? (λx=>decide (x.n=n))=ah (el l i):=by
 have hq:∀i (hi:i<l.length),jw.p (rd l) n i=decide (l[i].n=n):=λi hi=>by unfold jw.p;rw[Jx hi];exact Lib.eM
 rcases Lib.pj (jw.p (rd l) n) l.length 0 with ⟨e,ha⟩|⟨k,_,hk,e,hp,hb⟩
 ·refine .inl ⟨e,WK.2 λx hx=> ?_⟩;obtain⟨i,hi,rfl⟩:=c8 hx;rw[<-hq i hi,ha i (by omega) (by omega)];simp
 ·have vh:k<l.length:=by omega
  refine .inr ⟨k,vh,e, ?_⟩;rw[Aq];exact⟨by rw[eH vh,<-hq k vh];exact hp,k,vh,(eH vh).symm,λj hj=>by rw[<-hq j (by omega),hb j (by omega) hj];rfl⟩
theorem Y3(d:aA Fi)(h:d.length<=1000000):ia.c (rd d)=ai/\ia.v (rd d)=sI d:=ia.ok (rd d) (by rw[eA];omega)
theorem RT(k:aw)(n t o:aq):Kj.v k n t o=dI.j7 k t o:=by
 unfold Kj.v dI.j7 lz.v;rw[Lib.eM,Lib.eM];by_cases h1:1<=k
 ·by_cases h2:k<=4
  ·rw[aE h1,aE h2,aE (⟨h1,h2⟩:1<=k/\k<=4)];cases decide (t=⟨#[]⟩)<;>cases decide (o=⟨#[]⟩)<;>cases decide (k=1)<;>cases decide (k=3)<;>rfl
  ·rw[aE h1,aK h2,aK (show¬(1<=k/\k<=4)by omega)];rfl
 ·rw[aK h1,aK (show¬(1<=k/\k<=4)by omega)];rfl
theorem ok(l:aA Fi)(k:aw)(n t o:aq)(hl:l.length<=1000)(ht:t.size<=2305843009213693952):c (rd l) k n t o=ai/\v (rd l) k n t o=res (act l k n t o):=by
 refine out _ _ _ _ _ ?_;unfold vo b;have h1:=eh.ok (rd l) n (by rw[eA];omega);have h2:=Y3 l (by omega);rw[h1.1,h1.2,h2.1,h2.2,RT,au,au,eA];unfold act;cases hk:sI l with
 |false=>rfl
 |true=>
 rw[a_,ax,bh];obtain⟨q1,q2,q3⟩:=jV.1 hk;cases ha:dI.j7 k t o with
 |false=>rfl
 |true=>
 rw[a_,ax,au];have hk4:1<=k/\k<=4:=by unfold dI.j7 at ha;rw[aL]at ha;exact cm ha.1
 have wp:=λ(m:aA Fi) (hm:VX m) (hml:m.length<=1000) (n t:aq) (k:aw)=>gH.ok m n t k hm (by omega);have wo:=iU.ok l n (by omega);have wol:=dI.LX l n;have pl:=λ(m:aA Fi) (f:Fi) (hm:m.length<=1000)=>Y3 (put m f) (dg (dI.rU f) (by omega));have fin:∀d:aA Fi,(bif !sI d then ah (([]:aQ),ak)else ah (rd d,ai))=ah (res (bif sI d then ah d else aj)):=λd=>by cases sI d<;>rfl
 unfold G9;rcases find l n with ⟨e1,e2⟩|⟨i,hi,e1,e2⟩
 ·rw[e1,e2];by_cases k1:k=1
  ·subst k1;have p:=wp l q3 hl n (⟨#[]⟩++t) 0;have d:=pl l ⟨n,⟨#[]⟩++t,0⟩ hl;have et:(⟨#[]⟩:aq)++t=t:=lN;rw[show decide ((-1:aw)<0)=ai from rfl,show decide ((-1:aw)≥0)=ak from rfl,show((1:aw) !=1)=ak from rfl,au,ax,ax,aE (show(1:aw)=1 from rfl),au,aE (show(⟨#[]⟩:aq).size+t.size<=4611686018427387904 from by rw[show(⟨#[]⟩:aq).size=0 from rfl];omega),au,p.1,p.2,au,d.1,d.2,au,fin,et];rfl
  ·rw[show decide ((-1:aw)<0)=ai from rfl,au,show(k !=1)=ai from bne_iff_ne.2 k1,au,bH k1];rfl
 ·have hf:(el l i).n=n:=by have:=u_ e2;exact cm this
  have w_:((el l i).t.size:aw)<=20000:=by have:=q2 _ (kh hi);unfold dI.nF at this;simp only[aL,bc,dx,fg]at this;omega
  rw[e1,e2,aK (show¬((i:aF):aw)<0 by omega),aE (show((i:aF):aw)≥0 by omega),ax,au];simp only[Lib.dq,hi,aN,Lib.dZ,wd0 hi,wd1 hi,wd2 hi,bu,bE,aM,bh,au];by_cases k1:k=1
  ·subst k1;have p:=wp l q3 hl (el l i).n ((el l i).t++t) (el l i).kp;have d:=pl l ⟨(el l i).n,(el l i).t++t,(el l i).kp⟩ hl;rw[aE (show(1:aw)=1 from rfl),au,aE (show(el l i).t.size+t.size<=4611686018427387904 by omega),au,p.1,p.2,au,d.1,d.2,au,fin];rfl
  rw[aK k1,ax,bH k1];by_cases k2:k=2
  ·subst k2;have p:=wp l q3 hl (el l i).n (el l i).t ((el l i).t.size:aw);have d:=pl l ⟨(el l i).n,(el l i).t,((el l i).t.size:aw)⟩ hl;rw[aE (show(2:aw)=2 from rfl),au,p.1,p.2,au,d.1,d.2,au,fin];rfl
  rw[aK k2,ax,bH k2];by_cases k3:k=3
  ·subst k3;rw[aE (show(3:aw)=3 from rfl),au,bz rfl];by_cases b1:(el l i).kp=((el l i).t.size:aw)
   ·rw[show((el l i).kp !=((el l i).t.size:aw))=ak from by simp[b1],ax,Lib.eM];by_cases b2:o=n
    ·rw[aE b2,au,bz (.inr b2)];rfl
    ·have p:=wp (without l n) (dI.ady q3 n) (by omega) o (el l i).t (el l i).kp;have d:=pl (without l n) ⟨o,(el l i).t,(el l i).kp⟩ (by omega);rw[aK b2,ax,wo.1,wo.2,au,p.1,p.2,au,d.1,d.2,au,fin,bH (by rintro (h|h);exact h b1;exact b2 h)]
   ·rw[show((el l i).kp !=((el l i).t.size:aw))=ai from bne_iff_ne.2 b1,au,bz (.inl b1)];rfl
  rw[aK k3,ax,bH k3];have d:=Y3 (without l n) (by omega);rw[wo.1,wo.2,au,d.1,d.2,au,fin]
end rF

namespace wI
theorem ok(l:aQ)(hl:l.length<=4294967296):c l=ai/\v l=l:=by refine out l ?_;unfold vo b;rw[show bS (aP [Ck.s,Ck.i ao,Ck.i ao,Ck.s] 0)+l.length=l.length by simp[aP],Lib.cq (by omega) (by omega)];rfl
end wI

namespace pJ
theorem ok(l:aQ)(k:aq)(hc:l.all o8.cn=ai)(hl:l.length<=4294967296):c l k=ai/\v l k=l.filter (o8.keep k):=by have h1:=wI.ok l hl;have h2:=o8.ok l k hc hl;exact out l k (by unfold vo b;rw[h1.1,h1.2,h2.1,h2.2,au,au])
end pJ

namespace uQ
theorem zN(p q:aA CV->aW):∀r:aQ,(∀y∈r,q y= !p y)->r.Pairwise (λy z=>p z=ai->p y=ai)->r.takeWhile p=r.filter p/\r.dropWhile p=r.filter q
 |[],_,_=>⟨rfl,rfl⟩
 |y::r,hq,h=>by
  rw[qB]at h;have hy:=hq y (by simp);cases hp:p y with
  |true=>rw[hp]at hy;obtain⟨i1,i2⟩:=zN p q r (λz hz=>hq z (by simp[hz])) h.2;rw[qc hp,dD hp,List.dropWhile_cons_of_pos hp,cz (by rw[hy];simp),i1,i2];exact⟨rfl,rfl⟩
  |false=>
   rw[hp]at hy;have hn:¬p y=true:=by rw[hp];simp
   have ha:∀z∈r,p z=false:=λz hz=>by
    cases DV:p z with
    |false=>rfl
    |true=>exact cJ (h.1 z hz DV) hn
   rw[qb hn,cz hn,List.dropWhile_cons_of_neg hn,dD (by rw[hy];rfl)];refine⟨?_, ?_⟩
   ·symm;rw[List.filter_eq_nil_iff];intro z hz;rw[ha z hz];simp
   ·congr 1;symm;rw[eE];intro z hz;rw[hq z (by simp[hz]),ha z hz];rfl
theorem aee{r:aQ}(h:∀y∈r,lL.cr y=y):r.all o8.cn=true:=by rw[bn];intro y hy;rw[<-h y hy];rfl
theorem ok(r:aQ)(k:aq)(s l:aw)(b0:aq)(hO:lL.Or r)(hl:r.length<=1048576):c r k s l b0=ai/\v r k s l b0=lL.val r k s l b0:=by
 refine out r k s l b0 ?_;have hd:=pJ.ok r k (aee hO.2) (by omega);unfold vo b;rw[hd.1,au,hd.2];have M_:(r.filter (o8.keep k)).length<=r.length:=eW _ _;have hke:∀y,o8.keep k y= !List.beq (lL.key y) (aC k):=λ_=>rfl;have htw:=zN (lL.pl k) (lL.pg k) (r.filter (o8.keep k)) (λy hy=>by
  have h2:=(dc.1 hy).2;rw[hke]at h2;have h3:bZ (lL.key y) (aC k)=false:=by simpa using h2
  unfold lL.pg lL.pl;rw[h3,Bool.or_false]) ((hO.1.sublist jN).imp (λ{y z} hyz hz=>lL.pc _ _ _ hyz hz))
 have e1:(r.filter (o8.keep k)).filter (lL.pl k)=r.filter (lL.pl k):=by
  rw[pG];apply kS;intro y _;cases h:lL.pl k y with
  |false=>rfl
  |true=>
   rw[hke,bh];cases h2:bZ (lL.key y) (aC k)with
   |false=>rfl
   |true=>exfalso;have h3:=Lib.beq_iff.1 h2;unfold lL.pl at h;rw[h3,lL.oQ]at h;cases h
 have e2:(r.filter (o8.keep k)).filter (lL.pg k)=r.filter (lL.pg k):=by rw[pG];apply kS;intro y _;rw[hke];unfold lL.pg;cases bZ (lL.key y) (aC k)<;>cases b7 (lL.key y) (aC k)<;>rfl
 generalize r.filter (o8.keep k)=o at M_ htw e1 e2
 have:=tT (lL.pl k) o (λm (i:aF)=>l3 Lib.cZ (λ(y6:aw) (y7:aq) (y8 y9:aw) (J4:aq) (wg:aQ)=>bif(decide (0<=y6)&&decide (y6<=(↑(bS wg):aw))&&cC (bS wg+bS (aD (aP [Ck.s,Ck.i ao,Ck.i ao,Ck.s] 1) 0 [CV.s y7,CV.i ao y8,CV.i ao y9,CV.s J4])) 48)then(ah (Pu.tB wg (aY y6) (aD (aP [Ck.s,Ck.i ao,Ck.i ao,Ck.s] 1) 0 [CV.s y7,CV.i ao y8,CV.i ao y9,CV.s J4])))else(aj)) m (i:aw) k s l b0 o)
  (λa=>bif decide ((a:aw)<=(o.length:aw))then ah (Pu.tB o a [lL.nw k s l b0])else aj)
  (λm i h hp=>by
   have mI:b7 (aC (bu (ar o i 0))) (aC k)=true:=by rw[Lib.cG h];exact hp
   simp only[l3,r3,Lib.dq,h,aN,Lib.cF,aM,au,Lib.dZ,mI,Lib.c6 h (by omega:o.length<=9223372036854775807)])
  (λm i h hp=>by
   have mI:b7 (aC (bu (ar o i 0))) (aC k)=false:=by rw[Lib.cG h];exact hp
   simp only[l3,r3,Lib.dq,h,aN,Lib.cF,aM,bh,j4,au,ax,Lib.dZ,mI,Lib.iX,bA,Lib.cq (n:=o.length+1) (b:=48) (by omega) (by omega)];rfl)
  (λm=>by simp only[l3,r3,Lib.dq,bm,bj,aN,Lib.cF,aM,bh,j4,au,ax,Lib.dZ,Lib.iX,bA,Lib.cq (n:=o.length+1) (b:=48) (by omega) (by omega)];rfl) Lib.cZ (cS (by omega))
 refine this.trans ?_;have hle:=E5 (lL.pl k) o;rw[aE (by omega),au];unfold Pu.tB lL.val;rw[xY,wT,htw.1,htw.2,e1,e2,lL.G6 hO.2,lL.G6 hO.2]
end uQ

namespace uP
theorem ok(d:aQ)(n:aq)(hl:d.length<=4294967296):c d n=ai/\v d n=vP.val d n:=by
 refine out d n ?_;have h:=eh.ok d n hl;unfold vo b vP.val;rw[h.1,h.2,au];by_cases hn:Lib.fi (jw.p d n) d.length 0<0
 ·rw[aE hn,bz hn];rfl
 ·have hr:=vP.D0 d n hn;rw[aK hn,bH hn,ax,aE hr.1,aE hr.2];rfl
end uP

namespace HG
def nm:aq:={data:= #[ay 107,ay 101,ay 112,ay 116]}
theorem both(rec:aQ)(hr:rec.length<=20000):∀(d i:aF) (o:aQ) (n m:aF),rec.length-i<=d->i<=rec.length->lL.Or o->o.length<=i->d<n->d<m->
  ∃L:aQ,U61.l7 Lib.cZ (λ(_ _:aw) (y6:aQ) (_:aQ)=>ah y6) n (rec.length:aw) (i:aw) o rec=ah L/\l7 Lib.cZ (λ(_:aw) (y4 _:aQ)=>ah y4) m (i:aw) o rec=ah L/\lL.Or L/\L.length<=20000:=by
 have e1:∀t,vJ.v t=rG.v t:=λ_=>rfl;intro d;induction d with
 |zero=>
  intro i o n m h1 h2 hO h3 h4 h5;obtain⟨n,rfl⟩:∃n',n=n'+1:=⟨n-1,by omega⟩
  obtain⟨m,rfl⟩:∃m',m=m'+1:=⟨m-1,by omega⟩
  have jy:decide ((i:aw)<(rec.length:aw))=false:=aK (by omega);exact⟨o,by simp only[U61.l7,U61.r7,jy,ax],by simp only[l7,r7,jy,ax],hO,by omega⟩
 |succ d ih=>
  intro i o n m h1 h2 hO h3 h4 h5;obtain⟨n,rfl⟩:∃n',n=n'+1:=⟨n-1,by omega⟩
  obtain⟨m,rfl⟩:∃m',m=m'+1:=⟨m-1,by omega⟩
  by_cases hi:i<rec.length
  ·have hw:bJ ((i:aw)+1)=((i+1:aF):aw):=dj (by omega) (by omega);cases cf:(rG.v (bu (ar rec i 0))).2.2.2.2 with
   |false=>
    obtain⟨L,g1,g2,g3,g4⟩:=ih (i+1) o n m (by omega) hi hO (by omega) (by omega) (by omega);refine⟨L, ?_, ?_,g3,g4⟩
    ·simp only[U61.l7,U61.r7,Lib.dq,hi,aN,Lib.cF,aM,au,Lib.dZ,e1,cf,ax,hw];exact g1
    ·simp only[l7,r7,Lib.dq,hi,aN,Lib.cF,aM,au,Lib.dZ,cf,ax,hw];exact g2
   |true=>
    have p1:=lL.ok o (rG.v (bu (ar rec i 0))).1 (rG.v (bu (ar rec i 0))).2.1 (rG.v (bu (ar rec i 0))).2.2.1 (rG.v (bu (ar rec i 0))).2.2.2.1 (by omega);have p2:=uQ.ok o (rG.v (bu (ar rec i 0))).1 (rG.v (bu (ar rec i 0))).2.1 (rG.v (bu (ar rec i 0))).2.2.1 (rG.v (bu (ar rec i 0))).2.2.2.1 hO (by omega);have p3:=lL.xE hO (rG.v (bu (ar rec i 0))).1 (rG.v (bu (ar rec i 0))).2.1 (rG.v (bu (ar rec i 0))).2.2.1 (rG.v (bu (ar rec i 0))).2.2.2.1;obtain⟨L,g1,g2,g3,g4⟩:=ih (i+1) _ n m (by omega) hi p3.1 (by omega) (by omega) (by omega);refine⟨L, ?_, ?_,g3,g4⟩
    ·simp only[U61.l7,U61.r7,Lib.dq,hi,aN,Lib.cF,aM,au,Lib.dZ,e1,cf,p2.1,p2.2,hw];exact g1
    ·simp only[l7,r7,Lib.dq,hi,aN,Lib.cF,aM,au,Lib.dZ,cf,p1.1,p1.2,hw];exact g2
  ·have jy:decide ((i:aw)<(rec.length:aw))=false:=aK (by omega);exact⟨o,by simp only[U61.l7,U61.r7,jy,ax],by simp only[l7,r7,jy,ax],hO,by omega⟩
theorem same(d:aQ)(hd:d.length<=1048576):∃L:aQ,(c d=ai/\v d=L)/\(U61.c d=ai/\U61.v d=L)/\(∀y∈L,y.length=4)/\L.length<=20000:=by
 have k1:=gK.ok d (by omega);have k2:=ia.ok d (by omega);cases hv:gK.val d with
 |false=>
  refine⟨[],out d ?_,U61.out d ?_,λy hy=>(by cases hy),bI _⟩
  ·unfold vo b;rw[k1.1,k1.2,hv];rfl
  ·unfold U61.vo U61.b;rw[k2.1,k2.2,hv];rfl
 |true=>
  have k3:=vP.ok d nm (by omega);have k4:=uP.ok d nm (by omega);obtain⟨R,u1,u2,u3⟩:=HH.same (vP.val d nm).1;obtain⟨L,g1,g2,g3,g4⟩:=both R.1 u3 R.1.length 0 [] Lib.cZ Lib.cZ (by omega) (bI _) ⟨f_,λy hy=>(by cases hy)⟩ (bI _) (cS (by omega)) (cS (by omega));refine⟨L,out d ?_,U61.out d ?_,λy hy=>(by rw[<-g3.2 y hy];rfl),g4⟩
  ·unfold nm at k3 u1;unfold vo b;rw[k1.1,k1.2,hv,au,a_,ax,k3.1,au,k3.2,u1.1,au,u1.2];exact g2
  ·unfold nm at k4 u2;unfold U61.vo U61.b;rw[k2.1,k2.2,hv,au,a_,ax,k4.1,au,k4.2,u2.1,au,u2.2];exact g1
end HG

namespace uU
def kept:aq:={data:= #[ay 107,ay 101,ay 112,ay 116]}
def j8(f:aq):aQ:=[[CV.i ao 1,CV.s kept,CV.s f,CV.s {data:= #[]}],[CV.i ao 2,CV.s kept,CV.s {data:= #[]},CV.s {data:= #[]}]]
def val(k:aq)(s l:aw)(b:aq):aQ×aW:=if m8.v k s l b=ai then(j8 (fH.fr (jI.sL k s l b)),ai)else([],ak)
theorem ok(k:aq)(s l:aw)(b0:aq):c k s l b0=ai/\v k s l b0=val k s l b0:=by
 refine out k s l b0 ?_;have hf:=mR.ok k s l b0;unfold vo b val;rw[hf.1,hf.2];unfold mR.val;by_cases h:m8.v k s l b0=ai
 ·rw[bz h,bz h];rfl
 ·rw[bH h,bH h];rfl
end uU

namespace iF
open Lib (rd re rs el Fi En)
open dI (sI jV act j8 G9 put without ra Ac nF)
open fZ (So mv fm)
open Wr (fs Stop)
abbrev qV:aq:={data:= #[ay 107,ay 101,ay 112,ay 116]}
def sL(e:En):aq:=jI.sL e.k e.st e.li e.bo
def EA(e:En):aW:=m8.v e.k e.st e.li e.bo
def HN(e:En):aq:=fH.fr (sL e)
def tx(es:aA En):aq:=fs (es.map sL)
def kp(es:aA En):aA En:=es.foldl mv []
theorem G0(es:aA En)(e:En):kp (es++[e])=mv (kp es) e:=by unfold kp;rw[kT];rfl
theorem aer(a b:aA aq):fs (a++b)=fs a++fs b:=by
 induction a with
 |nil=>exact lN.symm
 |cons x a ih=>rw[BH];show fH.fr x++fs (a++b)=fH.fr x++fs a++fs b;rw[ih,Db]
theorem ZB(es:aA En)(e:En):tx (es++[e])=tx es++HN e:=by unfold tx;rw[dh,aer];show fs (es.map sL)++(fH.fr (sL e)++⟨#[]⟩)=_;rw[show(⟨#[]⟩:aq)=HD from rfl,qt];rfl
theorem ZC{e:En}(h:EA e=ai):1<=(sL e).size/\(sL e).size<=1000:=⟨mR.Bq h,mR.tV h⟩
theorem wb{en:aA En}(h:So en)(e:En):So (mv en e):=by have:=(lL.xE (fZ.CC h) e.k e.st e.li e.bo).1.1;rw[fZ.tL]at this;unfold Lib.re at this;rw[jr]at this;exact this
theorem Zt(es:aA En):∀o,So o->So (es.foldl mv o):=by
 induction es with
 |nil=>intro o h;exact h
 |cons e es ih=>intro o h;exact ih _ (wb h e)
theorem aje(es:aA En):So (kp es):=Zt es [] f_
theorem jW{en:aA En}{x e:En}:x∈mv en e↔x=e\/(x∈en/\x.k≠e.k):=by
 unfold mv;simp only[ba,dc,aZ,dx,iG,fg];constructor
 ·rintro ((⟨h1,h2⟩|rfl)|⟨h1,h2⟩)
  ·refine .inr ⟨h1,λe2=> ?_⟩;rw[e2]at h2;unfold fm at h2;rw[lL.oQ]at h2;cases h2
  ·exact .inl rfl
  ·exact .inr ⟨h1,h2.2⟩
 ·rintro (rfl|⟨h1,h2⟩)
  ·exact .inl (.inr rfl)
  ·cases hl:fm x.k e.k with
   |true=>exact .inl (.inl ⟨h1,rfl⟩)
   |false=>exact .inr ⟨h1,rfl,h2⟩
theorem K8{es:aA En}{x:En}(h:x∈kp es):x∈es:=by
 have:∀(es o:aA En),x∈es.foldl mv o->x∈o\/x∈es:=by
  intro es;induction es with
  |nil=>intro o h;exact .inl h
  |cons e es ih=>
   intro o h;rcases ih _ h with h|h
   ·rcases jW.1 h with rfl|h
    ·exact .inr (by simp)
    ·exact .inl h.1
   ·exact .inr (by simp[h])
 rcases this es [] h with h|h
 ·cases h
 ·exact h
theorem K7(es:aA En):(kp es).length<=es.length:=by
 have:∀(es o:aA En),So o->(es.foldl mv o).length<=o.length+es.length:=by
  intro es;induction es with
  |nil=>intro o h;exact cD _
  |cons e es ih=>intro o h;have:=ih _ (wb h e);have:=fZ.rU o e h;simp only[Dt,db];omega
 have:=this es [] f_;rw[jO,bV]at this;exact this
theorem fileAt(d:aA Fi)(n:aq):vP.val (rd d) n=match d.find? (λx=>decide (x.n=n))with|some f=>(f.t,ai)|none=>(⟨#[]⟩,ak):=by
 unfold vP.val;rw[eA];rcases rF.find d n with ⟨e1,e2⟩|⟨i,hi,e1,e2⟩
 ·rw[e1,e2];rfl
 ·rw[e1,e2,bH (by omega),dG,wd1 hi];rfl
theorem au2(es:aA En)(he:∀e∈es,EA e=ai)(hl:es.length<=20000):∀(d i n:aF) (o:aA En),es.length-i<=d->i<=es.length->So o->o.length<=i->d<n->
  U61.l7 Lib.cZ (λ(_ _:aw) (y6:aQ) (_:aQ)=>ah y6) n (es.length:aw) (i:aw) (re o) (rs (es.map sL))=ah (re ((es.drop i).foldl mv o)):=by
 have e1:∀t,vJ.v t=rG.v t:=λ_=>rfl;intro d;induction d with
 |zero=>
  intro i n o h1 h2 hO h3 h5;obtain⟨n,rfl⟩:∃n',n=n'+1:=⟨n-1,by omega⟩
  have:i=es.length:=by omega
  subst this;simp only[U61.l7,U61.r7,Lib.dq,bm,bj,ax,di,WL]
 |succ d ih=>
  intro i n o h1 h2 hO h3 h5;obtain⟨n,rfl⟩:∃n',n=n'+1:=⟨n-1,by omega⟩
  by_cases hi:i<es.length
  ·have vg:i<(es.map sL).length:=by simpa using hi
   have hk:=he _ (bB hi);have hr:rG.v (sL es[i])=(es[i].k,es[i].st,es[i].li,es[i].bo,ai):=rG.enc _ _ _ _ hk;have hp:=uQ.ok (re o) es[i].k es[i].st es[i].li es[i].bo (fZ.CC hO) (by rw[dy];omega);rw[fZ.tL o es[i]]at hp;have hg:(es.map sL)[i]=sL es[i]:=by simp
   simp only[U61.l7,U61.r7,Lib.dq,hi,eV,bU,aN,Lib.cF,aM,au,Lib.dZ,Wh vg,hg,bu,e1,hr,hp.1,hp.2,Lib.c6 hi (by omega:es.length<=9223372036854775807)];rw[dE hi,Dt];exact ih (i+1) n _ (by omega) hi (wb hO _) (by have:=fZ.rU o es[i] hO;omega) (by omega)
  ·have:i=es.length:=by omega
   subst this;simp only[U61.l7,U61.r7,Lib.dq,bm,bj,ax,di,WL]
theorem fk(d:aA Fi)(es:aA En)(z:aq)(hd:sI d=ai)(hf:(vP.val (rd d) qV).1=tx es++z)(he:∀e∈es,EA e=ai)(hz:Stop z):
  (U61.c (rd d)=ai/\U61.v (rd d)=re (kp es))/\(HG.c (rd d)=ai/\HG.v (rd d)=re (kp es)):=by
 obtain⟨q1,q2,q3⟩:=jV.1 hd;have hs:(tx es++z).size<=20000:=by
  rw[<-hf,fileAt];cases h:d.find? (λx=>decide (x.n=qV))with
  |none=>exact bI _
  |some f=>have:=q2 f (qA h);unfold nF at this;simp only[aL,bc,dx,fg]at this;show f.t.size<=20000;omega
 have hl:es.length<=20000:=by
  have:∀es:aA En,es.length<=(tx es).size:=by
   intro es;induction es with
   |nil=>exact cD _
   |cons e es ih=>
    have:(tx (e::es)).size=(HN e).size+(tx es).size:=dJ;have h2:4<=(HN e).size:=by unfold HN fH.fr;rw[dJ,dJ,Wr.oT];omega
    rw[this,db];omega
  have h2:=this es;rw[dJ]at hs;omega
 have u:=Wr.ok (es.map sL) (λx hx=>by obtain⟨e,h,rfl⟩:=cU.1 hx;have:=ZC (he e h);omega) z hz hs;have k2:=rF.Y3 d (by omega);have k4:=uP.ok (rd d) qV (by rw[eA];omega);have h1:=U61.out (rd d) (x:=re (kp es)) (by unfold U61.vo U61.b;rw[k2.1,k2.2,hd,au,a_,ax,k4.1,au,k4.2,hf];have hu:=u.1;rw[show fs (es.map sL)=tx es from rfl]at hu;rw[hu.1,au,hu.2];dsimp only;rw[eV,bU];have:=au2 es he hl es.length 0 Lib.cZ [] (by omega) (bI _) f_ (bI _) (cS (by omega));rw[fu]at this;exact this);obtain⟨L,s1,s2,_⟩:=HG.same (rd d) (by rw[eA];omega);refine⟨h1,s1.1, ?_⟩
 rw[s1.2,<-s2.2,h1.2]
def base:az aq->aA Fi
 |none=>[]|some t=>[⟨qV,t,t.size⟩]
def bt:az aq->aq|none=>⟨#[]⟩|some t=>t
def si(f:aq):aA Ac:=[⟨1,qV,f,⟨#[]⟩⟩,⟨2,qV,⟨#[]⟩,⟨#[]⟩⟩]
theorem ok1(f:Fi):sI [f]=nF f:=by
 cases h:nF f with
 |true=>exact jV.2 ⟨by simp,λg hg=>by rw[aZ.1 hg];exact h,by unfold dI.VX;simp⟩
 |false=>
  cases h2:sI [f]with
  |false=>rfl
  |true=>have:=(jV.1 h2).2.1 f (by simp);rw[h]at this;cases this
theorem aeq(t:aq)(k:aw)(h1:t.size<=20000)(h2:0<=k/\k<=(t.size:aw)):nF ⟨qV,t,k⟩=true:=by unfold nF;have:((qV.size:aF):aw)=4:=rfl;rw[this,aE (by omega),aE h2,aK (by dsimp only;omega)];rfl
theorem uj{o:az aq}(h:(bt o).size<=20000):sI (base o)=true:=by
 cases o with
 |none=>exact jV.2 ⟨bI _,⟨λf hf=>(by cases hf),f_⟩⟩
 |some t=>exact(ok1 _).trans (aeq t _ h ⟨by omega,by omega⟩)
theorem xJ{g f:Fi}(h:g.n=f.n):put [g] f=[f]:=by unfold put;rw[cz (by rw[h,dI.irrefl];simp),cz (by simp[h])];rfl
theorem adY{o:az aq}{f:aq}(h:(bt o).size+f.size<=20000):act (base o) 1 qV f ⟨#[]⟩=ah [⟨qV,bt o++f,(bt o).size⟩]:=by
 unfold act;rw[uj (by omega),show dI.j7 1 f ⟨#[]⟩=ai from by unfold dI.j7;simp,aM,au];have hs:(bt o++f).size<=20000:=by rw[dJ];omega
 have hn:G9 (base o) 1 qV f ⟨#[]⟩=ah [⟨qV,bt o++f,(bt o).size⟩]:=by
  cases o with
  |none=>unfold G9;show(if(1:aw)=1 then ah (put [] ⟨qV,f,0⟩)else aj)=_;rw[bz rfl];show ah [(⟨qV,f,0⟩:Fi)]=ah [⟨qV,(⟨#[]⟩:aq)++f,((⟨#[]⟩:aq).size:aw)⟩];rw[show(⟨#[]⟩:aq)++f=f from lN];rfl
  |some t=>unfold G9;rw[show(base (ah t)).find? (λx=>decide (x.n=qV))=ah ⟨qV,t,t.size⟩from by unfold base;simp];dsimp only;rw[bz rfl];exact lM ah (xJ rfl)
 rw[hn];dsimp only;rw[ok1,aeq _ _ hs ⟨by omega,by rw[dJ];omega⟩];rfl
theorem XR{t:aq}{k:aw}(h:t.size<=20000)(hk:0<=k/\k<=(t.size:aw)):act [⟨qV,t,k⟩] 2 qV ⟨#[]⟩ ⟨#[]⟩=ah (base (ah t)):=by
 unfold act;rw[ok1,aeq _ _ h hk,show dI.j7 2 ⟨#[]⟩ ⟨#[]⟩=ai from by unfold dI.j7;simp,aM,au];have hn:G9 [⟨qV,t,k⟩] 2 qV ⟨#[]⟩ ⟨#[]⟩=ah (base (ah t)):=by unfold G9;rw[show([⟨qV,t,k⟩]:aA Fi).find? (λx=>decide (x.n=qV))=ah ⟨qV,t,k⟩from by simp];dsimp only;rw[bH (by omega),bz rfl];exact lM ah (xJ rfl)
 rw[hn];dsimp only;rw[uj (o:=ah t) h];rfl
theorem Td{o:az aq}{f:aq}(h:(bt o).size+f.size<=20000):j8 (base o) 0 (si f)=(base (ah (bt o++f)),2):=by have hs:(bt o++f).size=(bt o).size+f.size:=dJ;unfold si j8;dsimp only;rw[adY h];dsimp only;unfold j8;dsimp only;rw[XR (by omega) ⟨by omega,by omega⟩];rfl
theorem Oz(o:az aq):(vP.val (rd (base o)) qV).1=bt o:=by
 rw[fileAt];cases o with
 |none=>rfl
 |some t=>rw[show(base (ah t)).find? (λx=>decide (x.n=qV))=ah ⟨qV,t,t.size⟩from by unfold base;simp];rfl
def kd(es:aA En):aA Fi:=base (match es with|[]=>aj|_=>ah (tx es))
theorem auj(es:aA En):∃o,kd es=base o/\bt o=tx es:=by
 cases es with
 |nil=>exact⟨aj,rfl,rfl⟩
 |cons e es=>exact⟨ah (tx (e::es)),rfl,rfl⟩
end iF

namespace fc
def has(l:aA aq)(k:aq):aW:=l.any λx=>decide (x=k)
def without(l:aA aq)(k:aq):aA aq:=l.filter λx=> !decide (x=k)
theorem gE{l:aA aq}{k:aq}:has l k=ai↔k∈l:=by unfold has;simp
theorem lK{l:aA aq}{k:aq}:has l k=ak↔k∉l:=by rw[<-gE];cases has l k<;>simp
theorem we{l:aA aq}{k:aq}(h:has l k=ak):without l k=l:=by unfold without;rw[eE];intro x hx;have:=lK.1 h;simp;intro e;subst e;exact this hx
theorem ir{l:aA aq}{k:aq}:(without l k).length<=l.length:=eW ..
theorem pB{l:aA aq}{k:aq}(h:has l k=ai):(without l k).length<l.length:=by unfold without;refine List.length_filter_lt_length_iff_exists.2 ⟨k,gE.1 h,by simp⟩
theorem ok(l:aA aq)(k:aq)(hl:l.length<=4294967296):c (Lib.rs l) k=ai/\v (Lib.rs l) k=has l k:=by
 refine out _ _ ?_;unfold vo b
 have:=BN l (λx=>decide (x=k)) (λm (i:aF)=>l2 Lib.cZ (λ(_:aQ) (_:aq) (y6:aW) (_:aw)=>ah y6) (λ(_:aQ) (_:aq) (_:aW) (_:aw)=>ah ak) m (Lib.rs l) k ak (i:aw)) (ah ai) (ah ak)
  (λm i h hp=>by simp only[l2,r2,eV,Lib.dq,h,aN,Lib.cF,aM,au,Lib.dZ,Wh h,bu,Lib.eM,hp])
  (λm i h hp=>by simp only[l2,r2,eV,Lib.dq,h,aN,Lib.cF,aM,au,Lib.dZ,Wh h,bu,Lib.eM,hp,ax,Lib.c6 h (by omega:l.length<=9223372036854775807)])
  (λm=>by simp only[l2,r2,eV,Lib.dq,bm,bj,ax]) Lib.cZ (cS (by omega))
 refine this.trans ?_;unfold has;cases l.any λx=>decide (x=k)<;>rfl
end fc

namespace vO
theorem ok(l:aQ)(hl:l.length<=4294967296):c l=ai/\v l=l:=by refine out l ?_;unfold vo b;rw[show bS (aP [Ck.i ao] 0)+l.length=l.length by simp[aP],Lib.cq (by omega) (by omega)];rfl
end vO

namespace jk
open Lib (rr)
def oH(s:aA (aA aw)):Prop:=s.length<=1048576/\∀q∈s,q.length<=1048576
theorem run(N:aF)(K0:aQ->aw->aw->aw->aw->az R)(K1:aQ->aw->aw->aw->aw->aQ->az R)(s:aA (aA aw))(z a:aw)(hf:oH s)(m:aF)(hm:s.length+1<m)(kr:aQ->az R)
  (h0:s=[]->K0 (rr s) 0 0 z a=kr []) (h1:K1 (rr s) s.length s.length z a (rr s)=kr (rr s)):l3 N K0 K1 m (rr s) (s.length:aw) 0 z a=kr (rr s):=by
 obtain⟨m,rfl⟩:∃m',m=m'+1:=⟨m-1,by omega⟩
 have hci:∀i (h:i<s.length),vO.c (Lib.ri s[i])=ai/\vO.v (Lib.ri s[i])=Lib.ri s[i]:=λi h=>vO.ok _ (by rw[Lib.gP];have:=hf.2 _ (bB h);omega);by_cases hs:s=[]
 ·subst hs;simp only[l3,r3,jO,VT,Int.lt_irrefl,bj,ax];exact h0 rfl
 ·have hp:0<s.length:=Mu.2 hs;have key:=ma (R:=R) s.length (λm i (x:aQ)=>sG N K0 K1 m (rr s) (s.length:aw) (i:aw) z a x) (λi=>rr (s.take i)) (kr (rr s)) (λm i h=>by
   have hl:=hf.1;simp only[sG,zG,Lib.dq,h,aN,au,Lib.cF,bh,gQ,Lib.dZ,JZ h,jv,(hci i h).1,(hci i h).2,pL,bA];rw[Lib.cq (by rw[eK];omega) (by rw[eK];omega),au,Lib.c6 h (by omega)];have:=oV (λq=>[CV.l 3 (Lib.ri q)]) s i h;unfold rr;rw[<-this]) (λm=>by
   simp only[sG,zG,Lib.dq,bm,bj,ax,dY];exact h1) m 1 hp (by omega)
  simp only[l3,r3,aE (show(0:aw)<(s.length:aw)by omega),au,aM,gQ,show decide ((0:aw)<=0)=ai from rfl];have e:=hci 0 hp;have e0:=JZ (l:=s) hp;simp only[show aY 0=0 from rfl,e0,jv,e.1,e.2,au,pL,gz];rw[show bJ (0+1)=((1:aF):aw)from rfl];refine Eq.trans ?_ key;have:=oV (λq=>[CV.l 3 (Lib.ri q)]) s 0 hp;unfold rr;rw[show(0+1)=1 from rfl]at this;rw[<-this];rfl
theorem ok(s:aA (aA aw))(a:aw)(hf:oH s):c (rr s) a=ai/\v (rr s) a=(rr s,a):=by refine out _ _ ?_;unfold vo b;rw[gQ];exact run Lib.cZ (λ_ _ _ _ y=>ah ([],y)) (λ_ _ _ _ wh J5=>ah (J5,wh)) s 0 a hf Lib.cZ (cS (by have:=hf.1;omega)) (λx=>ah (x,a)) (λ_=>rfl) rfl
end jk

namespace fD
open Lib (rr)
def Nq(n:aw):aW:=decide (0<=n/\n<=15)
def sq(q:aA aw):aW:=decide (q.length=16)&&q.all Nq
def od(s:aA (aA aw))(a:aw):aW:=decide (s.length=3)&&(decide (0<=a/\a<=63)&&s.all sq)
theorem eI(n a b:aw):kl.v n a b=decide (a<=n/\n<=b):=by
 unfold kl.v;by_cases h1:a<=n
 ·rw[aE (show n≥a from h1),au];by_cases h2:n<=b<;>simp[h1,h2]
 ·rw[aK (show¬n≥a from h1),ax];simp[h1]
theorem ok(s:aA (aA aw))(a:aw)(hf:jk.oH s):c (rr s) a=ai/\v (rr s) a=od s a:=by
 refine out _ _ ?_;unfold vo b od;rw[gQ];by_cases h3:¬s.length=3
 ·rw[show((s.length:aw) !=3)=ai by simp;omega,aK h3];rfl
 have h3:s.length=3:=Decidable.not_not.1 h3;rw[show((s.length:aw) !=3)=ak by simp;omega,aE h3,ax,eI];cases h4:decide (0<=a/\a<=63)with
 |false=>rfl
 |true=>
  rw[a_,ax,bh,bh];have inner:∀i (h:i<s.length) (K0 K1:aW->aw->aw->aQ->aw->az aW) (kf kt:az aW) (h0:∀j:aw,K0 ak i j (rr s) a=kf) (h1:∀j:aw,K1 ak i j (rr s) a=kt),l9 Lib.cZ K0 K1 Lib.cZ ak (i:aw) 0 (rr s) a=bif(s[i]).all Nq then kt else kf:=λi h K0 K1 kf kt h0 h1=>
   o_ (s[i]) Nq (λm (j:aF)=>l9 Lib.cZ K0 K1 m ak (i:aw) (j:aw) (rr s) a) kf kt
    (λm j hj hp=>by have hl:=hf.2 _ (bB h);unfold Nq at hp;simp only[l9,r9,gQ,Lib.dq,h,aN,Lib.cF,aM,au,Lib.dZ,JZ h,jv,Lib.gP,hj,Qp hj,bE,eI,hp,a_,ax,Lib.c6 hj (by omega:s[i].length<=9223372036854775807)])
    (λm j hj hp=>by unfold Nq at hp;simp only[l9,r9,gQ,Lib.dq,h,aN,Lib.cF,aM,au,Lib.dZ,JZ h,jv,Lib.gP,hj,Qp hj,bE,eI,hp,bR,h0])
    (λm=>by simp only[l9,r9,gQ,Lib.dq,h,aN,Lib.cF,aM,au,Lib.dZ,JZ h,jv,Lib.gP,bm,bj,ax,h1]) Lib.cZ (cS (by have:=hf.2 _ (bB h);omega))
  have key:=o_ s sq (λm (i:aF)=>l4 Lib.cZ (λ(D7:aW) (_:aw) (_:aQ) (_:aw)=>ah D7) (λ(_:aW) (_:aw) (_:aQ) (_:aw)=>ah ai) m ak (i:aw) (rr s) a) (ah ak) (ah ai)
   (λm i h hp=>by unfold sq at hp;rw[aL]at hp;have hl:=cm hp.1;simp only[l4,r4,gQ,Lib.dq,h,aN,Lib.cF,aM,au,Lib.dZ,JZ h,jv,Lib.gP,hl,show(((16:aF):aw) !=16)=ak from rfl,ax];rw[inner i h _ _ _ _ (λ_=>rfl) (λ_=>rfl),hp.2,au,Lib.c6 h (by omega)])
   (λm i h hp=>by
    unfold sq at hp;by_cases hl:s[i].length=16
    ·rw[aE hl,bh]at hp;simp only[l4,r4,gQ,Lib.dq,h,aN,Lib.cF,aM,au,Lib.dZ,JZ h,jv,Lib.gP,hl,show(((16:aF):aw) !=16)=ak from rfl,ax];rw[inner i h _ _ _ _ (λ_=>rfl) (λ_=>rfl),hp,ax]
    ·simp only[l4,r4,gQ,Lib.dq,h,aN,Lib.cF,aM,au,Lib.dZ,JZ h,jv,Lib.gP,show((s[i].length:aw) !=16)=ai by simp;omega])
   (λm=>by simp only[l4,r4,gQ,Lib.dq,bm,bj,ax]) Lib.cZ (cS (by omega))
  refine key.trans ?_;cases s.all sq<;>rfl
end fD

namespace jx
open Lib (rr rs)
open fc (has without gE lK)
def eO(k:aq):aW:=decide (1<=(k.size:aw)/\(k.size:aw)<=30)
def K5(l:aA aq)(i:aF):aW:=eO (l.getD i ⟨#[]⟩)&& !has (l.take i) (l.getD i ⟨#[]⟩)
def nA(l:aA aq):aW:=(cw l.length).all (K5 l)
def sJ(w m:aA aq)(s:aA (aA aw))(a:aw):aW:=nA (w++m)&&(decide (w.length<=2)&&(decide (m.length<=4)&&fD.od s a))
theorem iP(k:aq):sV.v k=eO k:=fD.eI _ _ _
theorem x_(l:aA aq)(i:aF):e8 (Lib.rs l) (aY 0) i=Lib.rs (l.take i):=by unfold e8 Lib.rs;rw[show aY 0=0 from rfl,fu,yv,List.map_take]
theorem ok(w m:aA aq)(s:aA (aA aw))(a:aw)(hw:w.length<=1048576)(hm:m.length<=1048576)(hf:jk.oH s):c (rs w) (rs m) (rr s) a=ai/\v (rs w) (rs m) (rr s) a=sJ w m s a:=by
 refine out _ _ _ _ ?_;have h2:=fD.ok s a hf;unfold vo b;have r1:cC (bS (aP [Ck.s] 0)+bS (rs w)) 16=true:=Lib.cq (by simp[aP,eV];omega) (by simp[aP,eV];omega);have r2:cC (bS (aP [Ck.s] 0++rs w)+bS (rs m)) 16=true:=Lib.cq (by simp[aP,eV];omega) (by simp[aP,eV];omega);have e:aP [Ck.s] 0++rs w++rs m=rs (w++m):=by rw[show aP [Ck.s] 0++rs w=rs w from rfl];unfold Lib.rs;rw[dh]
 rw[r1,r2,au,au,e];have hl:(w++m).length<=2097152:=by rw[bT];omega
 have gq:∀i,i<(w++m).length->fc.c (rs ((w++m).take i)) ((w++m).getD i ⟨#[]⟩)=ai/\fc.v (rs ((w++m).take i)) ((w++m).getD i ⟨#[]⟩)=has ((w++m).take i) ((w++m).getD i ⟨#[]⟩):=λi hi=>fc.ok _ _ (by rw[eK];omega);have hk:∀i (hi:i<(w++m).length),bu (ar (rs (w++m)) i 0)=(w++m).getD i ⟨#[]⟩:=λi hi=>by rw[Wh hi,show(w++m).getD i ⟨#[]⟩=(w++m)[i]by rw[cY,eT hi];rfl];rfl
 generalize hL:w++m=L at hl gq hk
 have key:=jl (K5 L) L.length (λn (i:aF)=>l3 Lib.cZ (λ(y7:aW) (_:aw) (_ _ _:aQ) (_:aw) (_:aQ)=>ah y7) (λ(_:aW) (_:aw) (Qt Dl Fc:aQ) (D7:aw) (_:aQ)=>bif(decide ((↑(bS Qt):aw)<=2))then(bif(decide ((↑(bS Dl):aw)<=4))then(bif(fD.c Fc D7)then(ah (fD.v Fc D7))else(aj))else(ah ak))else(ah ak)) n ak (i:aw) (rs w) (rs m) (rr s) a (rs L)) (ah ak) (ah (decide (w.length<=2)&&(decide (m.length<=4)&&fD.od s a)))
  (λn i hi hp=>by
   unfold K5 at hp;rw[aL,dx]at hp;have b1:g9 0 (i:aw) (L.length:aw)=true:=by simp[g9];omega
   simp only[l3,r3,eV,Lib.dq,hi,aN,Lib.cF,aM,au,Lib.dZ,hk i hi,iP,hp.1,a_,ax,b1,x_,(gq i hi).1,(gq i hi).2,hp.2,Lib.c6 hi (by omega:L.length<=9223372036854775807)])
  (λn i hi hp=>by
   have b1:g9 0 (i:aw) (L.length:aw)=true:=by simp[g9];omega
   unfold K5 at hp;cases h1:eO (L.getD i ⟨#[]⟩)with
   |false=>simp only[l3,r3,eV,Lib.dq,hi,aN,Lib.cF,aM,au,Lib.dZ,hk i hi,iP,h1,bR]
   |true=>rw[h1,bh,mL]at hp;simp only[l3,r3,eV,Lib.dq,hi,aN,Lib.cF,aM,au,Lib.dZ,hk i hi,iP,h1,a_,ax,b1,x_,(gq i hi).1,(gq i hi).2,hp])
  (λn=>by simp only[l3,r3,eV,Lib.dq,bm,bj,ax,h2.1,h2.2,au];rw[show decide ((w.length:aw)<=2)=decide (w.length<=2)by rw[ca];omega,show decide ((m.length:aw)<=4)=decide (m.length<=4)by rw[ca];omega];cases decide (w.length<=2)<;>cases decide (m.length<=4)<;>rfl) Lib.cZ (cS (by omega))
 refine key.trans ?_;unfold sJ nA;rw[hL];cases (cw L.length).all (K5 L)<;>rfl
end jx

namespace sW
open Lib (rr rs)
open fc (has)
theorem ok(w m:aA aq)(s:aQ)(a:aw)(k:aq)(hw:w.length<=1048576)(hm:m.length<=1048576):c (rs w) (rs m) s a k=ai/\v (rs w) (rs m) s a k=(has w k||has m k):=by have h1:=fc.ok w k (by omega);have h2:=fc.ok m k (by omega);exact out _ _ _ _ _ (by unfold vo b;rw[h1.1,h1.2,h2.1,h2.2,au,au];cases has w k<;>rfl)
end sW

namespace nN
open Lib (rr rs re el oM qx qy qz En)
open fc (has)
open jx (sJ)
def u5(e:En):aW:=m8.v e.k e.st e.li e.bo
def HL(en:aA En)(w m:aA aq)(i:aF):aW:=
 u5 (el en i)&&((decide (i=0)||Go.Op.bytesLess (aC (el en (i-1)).k) (aC (el en i).k))&&(has w (el en i).k||has m (el en i).k))
def MV(en:aA En)(w m:aA aq)(s:aA (aA aw))(a:aw):aW:=(cw en.length).all (HL en w m)&&(sJ w m s a&&decide (w.length+m.length=en.length))
theorem ok(i0:aw)(en:aA En)(w m:aA aq)(s:aA (aA aw))(a:aw)(r6 r7:aQ)(i8:aw)(he:en.length<=1048576)(hw:w.length<=1048576)(hm:m.length<=1048576)(hf:jk.oH s):
  c i0 (re en) (rs w) (rs m) (rr s) a r6 r7 i8=ai/\v i0 (re en) (rs w) (rs m) (rr s) a r6 r7 i8=MV en w m s a:=by
 refine out _ _ _ _ _ _ _ _ _ ?_;have h1:=jx.ok w m s a hw hm hf;have h2:=λk=>sW.ok w m (rr s) a k hw hm;unfold vo b
 have key:=jl (HL en w m) en.length (λn (i:aF)=>l2 Lib.cZ (λ(wg:aW) (_ _:aw) (_ _ _ _:aQ) (_:aw) (_ _:aQ) (_:aw)=>ah wg) (λ(_:aW) (_ _:aw) (Qu Qv HR Qw:aQ) (Qx:aw) (_ _:aQ) (_:aw)=>bif(jx.c Qv HR Qw Qx)then(bif(jx.v Qv HR Qw Qx)then(ah (decide ((↑(bS Qu):aw)=bJ ((↑(bS Qv):aw)+(↑(bS HR):aw)))))else(ah ak))else(aj)) n ak (i:aw) i0 (re en) (rs w) (rs m) (rr s) a r6 r7 i8) (ah ak) (ah (sJ w m s a&&decide (w.length+m.length=en.length)))
  (λn i hi hp=>by
   unfold HL u5 at hp;rw[aL,aL]at hp;obtain⟨p1,p2,p3⟩:=hp;by_cases hz:i=0
   ·subst hz;simp only[l2,r2,dy,Lib.dq,hi,aN,Lib.cF,aM,au,Lib.dZ,oM hi,qx hi,qy hi,qz hi,bu,bE,p1,a_,ax,aK (show¬(((0:aF):aw)>0)by omega),(h2 _).1,(h2 _).2,p3,Lib.c6 hi (by omega:en.length<=9223372036854775807)]
   ·rw[aK hz,oi]at p2;have mA:i-1<en.length:=by omega
    simp only[l2,r2,dy,Lib.dq,hi,aN,Lib.cF,aM,au,Lib.dZ,oM hi,qx hi,qy hi,qz hi,bu,bE,p1,a_,ax,aE (show(i:aw)>0 by omega),lW (show 0<i by omega) (by omega),mA,oM mA,p2,(h2 _).1,(h2 _).2,p3,Lib.c6 hi (by omega:en.length<=9223372036854775807)])
  (λn i hi hp=>by
   unfold HL u5 at hp;cases p1:m8.v (el en i).k (el en i).st (el en i).li (el en i).bo with
   |false=>simp only[l2,r2,dy,Lib.dq,hi,aN,Lib.cF,aM,au,Lib.dZ,oM hi,qx hi,qy hi,qz hi,bu,bE,p1,bR]
   |true=>
    rw[p1,bh]at hp;by_cases hz:i=0
    ·subst hz;rw[aE rfl,Al,bh]at hp;simp only[l2,r2,dy,Lib.dq,hi,aN,Lib.cF,aM,au,Lib.dZ,oM hi,qx hi,qy hi,qz hi,bu,bE,p1,a_,bR,ax,aK (show¬(((0:aF):aw)>0)by omega),(h2 _).1,(h2 _).2,hp]
    ·rw[aK hz,oi]at hp;have mA:i-1<en.length:=by omega
     cases p2:b7 (aC (el en (i-1)).k) (aC (el en i).k)with
     |false=>simp only[l2,r2,dy,Lib.dq,hi,aN,Lib.cF,aM,au,Lib.dZ,oM hi,qx hi,qy hi,qz hi,bu,bE,p1,a_,bR,ax,aE (show(i:aw)>0 by omega),lW (show 0<i by omega) (by omega),mA,oM mA,p2]
     |true=>rw[p2,bh]at hp;simp only[l2,r2,dy,Lib.dq,hi,aN,Lib.cF,aM,au,Lib.dZ,oM hi,qx hi,qy hi,qz hi,bu,bE,p1,a_,bR,ax,aE (show(i:aw)>0 by omega),lW (show 0<i by omega) (by omega),mA,oM mA,p2,(h2 _).1,(h2 _).2,hp])
  (λn=>by simp only[l2,r2,dy,Lib.dq,bm,bj,ax,h1.1,h1.2,au,eV];rw[dj (x:=(w.length:aw)+(m.length:aw)) (by omega) (by omega),show decide ((en.length:aw)=(w.length:aw)+(m.length:aw))=decide (w.length+m.length=en.length)by rw[ca];omega];cases sJ w m s a<;>rfl) Lib.cZ (cS (by omega))
 refine key.trans ?_;unfold MV;cases (cw en.length).all (HL en w m)<;>rfl
end nN

namespace m9
open Lib (rf el C8 C9 PY zQ Qr Qs Fe)
open jx (eO)
def nF(now:aw)(f:Fe):aW:=eO f.k&&(decide ((f.t.size:aw)<=400)&&(decide (1<=f.sta/\f.sta<=3)&&(decide (0<=f.li/\f.li<=999999)&&decide (0<=f.st/\f.st<=now))))
def lD(f g:Fe):aW:=decide (f.sta=1)&&(decide (g.sta=1)&&decide (f.k=g.k))
def apart(fe:aA Fe)(i:aF):aW:=(cw i).all λj=> !lD (el fe i) (el fe j)
theorem eI(n a b:aw):kl.v n a b=decide (a<=n/\n<=b):=fD.eI n a b
theorem ok(i0:aw)(r1 r2 r3 r4:aQ)(i5:aw)(fe:aA Fe)(r7:aQ)(i8:aw)(i:aF)(hi:i<fe.length)(hf:fe.length<=1048576):
  c i0 r1 r2 r3 r4 i5 (rf fe) r7 i8 (i:aw)=ai/\v i0 r1 r2 r3 r4 i5 (rf fe) r7 i8 (i:aw)=(nF i0 (el fe i)&&apart fe i):=by
 refine out _ _ _ _ _ _ _ _ _ _ ?_;unfold vo b
 have key:=jl (λj=> !lD (el fe i) (el fe j)) i (λn (j:aF)=>l5 Lib.cZ (λ(_:aw) (Fc:aW) (_ _:aw) (_ _ _ _:aQ) (_:aw) (_ _:aQ) (_:aw) (_ _:aq) (_ _ _:aw)=>ah Fc) (λ(_:aw) (_:aW) (_ _:aw) (_ _ _ _:aQ) (_:aw) (_ _:aQ) (_:aw) (_ _:aq) (_ _ _:aw)=>ah ai) n (i:aw) ak (j:aw) i0 r1 r2 r3 r4 i5 (rf fe) r7 i8 (el fe i).k (el fe i).t (el fe i).sta (el fe i).li (el fe i).st) (ah ak) (ah ai)
  (λn j hj hp=>by
   have jY:j<fe.length:=by omega
   rw[dx]at hp;unfold lD at hp;have e:decide ((el fe j).k=(el fe i).k)=decide ((el fe i).k=(el fe j).k):=by rw[ca];exact V6
   simp only[l5,r5,Lib.dq,hj,aN,Lib.cF,aM,au,Lib.dZ,dL,jY,C8 jY,zQ jY,bu,bE,Lib.eM,e,Lib.c6 hj (by omega:i<=9223372036854775807)];revert hp;cases decide ((el fe i).k=(el fe j).k)<;>cases decide ((el fe j).sta=1)<;>cases decide ((el fe i).sta=1)<;>intro hp<;>first|rfl|cases hp)
  (λn j hj hp=>by
   have jY:j<fe.length:=by omega
   rw[mL]at hp;unfold lD at hp;rw[aL,aL]at hp;have e:decide ((el fe j).k=(el fe i).k)=decide ((el fe i).k=(el fe j).k):=by rw[ca];exact V6
   simp only[l5,r5,Lib.dq,hj,aN,Lib.cF,aM,au,Lib.dZ,dL,jY,C8 jY,zQ jY,bu,bE,Lib.eM,e,hp.1,hp.2.1,hp.2.2])
  (λn=>by simp only[l5,r5,Lib.dq,bm,bj,ax]) Lib.cZ (cS (by omega))
 simp only[dL,Lib.dq,hi,aN,Lib.cF,aM,au,Lib.dZ,C8 hi,C9 hi,PY hi,Qr hi,Qs hi,bu,bE,eI,jx.iP];rw[show l5 Lib.cZ _ _ Lib.cZ (i:aw) ak 0 i0 r1 r2 r3 r4 i5 (rf fe) r7 i8 (el fe i).k (el fe i).t (el fe i).sta (el fe i).li (el fe i).st=_ from key];unfold nF apart;rw[show decide (((el fe i).t.size:aw)>400)= !decide (((el fe i).t.size:aw)<=400)by rw[<-decide_not,ca];omega];cases eO (el fe i).k<;>cases decide (((el fe i).t.size:aw)<=400)<;>cases decide (1<=(el fe i).sta/\(el fe i).sta<=3)<;>cases decide (0<=(el fe i).li/\(el fe i).li<=999999)<;>cases decide (0<=(el fe i).st/\(el fe i).st<=i0)<;>cases (cw i).all (λj=> !lD (el fe i) (el fe j))<;>rfl
end m9

namespace qi
open Lib (rr rs re rf rc el En Fe Cl Px LW Wi Ob Wj PW PX Wk)
open jx (eO)
open nN (MV)
open m9 (nF apart eI)
def HK(now:aw)(nf:aF)(cl:aA Cl)(i:aF):aW:=
 decide (1<=(el cl i).id/\(el cl i).id<=9)&&((decide (i=0)||decide ((el cl (i-1)).id<(el cl i).id))&&(eO (el cl i).k&&(decide (1<=(el cl i).sta/\(el cl i).sta<=3)&&(decide (0<=(el cl i).fe/\(el cl i).fe<=(nf:aw))&&(decide (((el cl i).km.size:aw)<=400)&&(decide (0<=(el cl i).fr/\(el cl i).fr<=now)&&decide (0<=(el cl i).age)))))))
def jd(p:Px):aW:=
 decide (1<=p.now/\p.now<=1000000000)&&(MV p.en p.w p.m p.s p.a&&(decide (p.fe.length<=20)&&(decide (p.cl.length<=6)&&(decide (0<=p.hits/\p.hits<=1000000000)&&((cw p.fe.length).all (λi=>nF p.now (el p.fe i)&&apart p.fe i)&&(cw p.cl.length).all (HK p.now p.fe.length p.cl))))))
theorem step(N:aF)(g k0 k1:aW->aw->aw->aQ->aQ->aQ->aQ->aw->aQ->aQ->aw->az R)(i0:aw)(q1 q2 q3 q4:aQ)(i5:aw)(fe:aA Fe)(cl:aA Cl)(i8:aw)(i:aF)(hi:i<cl.length)(hl:cl.length<=1048576):
  r9 N g k0 k1 ak (i:aw) i0 q1 q2 q3 q4 i5 (rf fe) (rc cl) i8=bif HK i0 fe.length cl i then g ak ((i+1:aF):aw) i0 q1 q2 q3 q4 i5 (rf fe) (rc cl) i8 else k0 ak (i:aw) i0 q1 q2 q3 q4 i5 (rf fe) (rc cl) i8:=by
 unfold HK;have e1:decide (((el cl i).km.size:aw)>400)= !decide (((el cl i).km.size:aw)<=400):=by rw[<-decide_not,ca];omega
 have e2:decide ((el cl i).age<0)= !decide (0<=(el cl i).age):=by rw[<-decide_not,ca];omega
 by_cases hz:i=0
 ·subst hz;simp only[r9,eU,dL,Lib.dq,hi,aN,Lib.cF,aM,au,Lib.dZ,LW hi,Wi hi,Ob hi,Wj hi,PW hi,PX hi,Wk hi,bu,bE,eI,jx.iP,aK (show¬(((0:aF):aw)>0)by omega),ax,e1,e2,Lib.c6 hi (by omega:cl.length<=9223372036854775807),Al,bh];cases decide (1<=(el cl 0).id/\(el cl 0).id<=9)<;>cases eO (el cl 0).k<;>cases decide (1<=(el cl 0).sta/\(el cl 0).sta<=3)<;>cases decide (0<=(el cl 0).fe/\(el cl 0).fe<=(fe.length:aw))<;>cases decide (((el cl 0).km.size:aw)<=400)<;>cases decide (0<=(el cl 0).fr/\(el cl 0).fr<=i0)<;>cases decide (0<=(el cl 0).age)<;>rfl
 ·have mA:i-1<cl.length:=by omega
  have e3:decide ((el cl (i-1)).id≥(el cl i).id)= !decide ((el cl (i-1)).id<(el cl i).id):=by rw[<-decide_not,ca];omega
  simp only[r9,eU,dL,Lib.dq,hi,aN,Lib.cF,aM,au,Lib.dZ,LW hi,Wi hi,Ob hi,Wj hi,PW hi,PX hi,Wk hi,bu,bE,eI,jx.iP,aE (show(i:aw)>0 by omega),lW (show 0<i by omega) (by omega),mA,LW mA,ax,e1,e2,e3,Lib.c6 hi (by omega:cl.length<=9223372036854775807),aK hz,oi];cases decide (1<=(el cl i).id/\(el cl i).id<=9)<;>cases decide ((el cl (i-1)).id<(el cl i).id)<;>cases eO (el cl i).k<;>cases decide (1<=(el cl i).sta/\(el cl i).sta<=3)<;>cases decide (0<=(el cl i).fe/\(el cl i).fe<=(fe.length:aw))<;>cases decide (((el cl i).km.size:aw)<=400)<;>cases decide (0<=(el cl i).fr/\(el cl i).fr<=i0)<;>cases decide (0<=(el cl i).age)<;>rfl
theorem ok(p:Px)(hp:p.Fit 1048576):c p.now (re p.en) (rs p.w) (rs p.m) (rr p.s) p.a (rf p.fe) (rc p.cl) p.hits=ai/\v p.now (re p.en) (rs p.w) (rs p.m) (rr p.s) p.a (rf p.fe) (rc p.cl) p.hits=jd p:=by
 refine out _ _ _ _ _ _ _ _ _ ?_;have h1:=nN.ok p.now p.en p.w p.m p.s p.a (rf p.fe) (rc p.cl) p.hits hp.en hp.w hp.m ⟨hp.s.1,hp.s.2.1⟩;have JW:=hp.fe;have oU:=hp.cl;unfold vo b;have h2:=λi hi=>m9.ok p.now (re p.en) (rs p.w) (rs p.m) (rr p.s) p.a p.fe (rc p.cl) p.hits i hi JW
 have kc:=λ(n:aF) (hn:p.cl.length<n)=>jl (HK p.now p.fe.length p.cl) p.cl.length (λn (i:aF)=>l9 Lib.cZ (λ(VK:aW) (_ _:aw) (_ _ _ _:aQ) (_:aw) (_ _:aQ) (_:aw)=>ah VK) (λ(_:aW) (_ _:aw) (_ _ _ _:aQ) (_:aw) (_ _:aQ) (_:aw)=>ah ai) n ak (i:aw) p.now (re p.en) (rs p.w) (rs p.m) (rr p.s) p.a (rf p.fe) (rc p.cl) p.hits) (ah ak) (ah ai)
  (λn i hi hq=>by simp only[l9];rw[step _ _ _ _ _ _ _ _ _ _ _ _ _ i hi oU,hq];rfl)
  (λn i hi hq=>by simp only[l9];rw[step _ _ _ _ _ _ _ _ _ _ _ _ _ i hi oU,hq];rfl)
  (λn=>by simp only[l9,r9,eU,Lib.dq,bm,bj,ax]) n hn
 have kf:=jl (λi=>nF p.now (el p.fe i)&&apart p.fe i) p.fe.length (λn (i:aF)=>l4 Lib.cZ (λ(wg:aW) (_ _:aw) (_ _ _ _:aQ) (_:aw) (_ _:aQ) (_:aw)=>ah wg) (λ(J6:aW) (_ Wp:aw) (Qu Qv HR Qw:aQ) (Qx:aw) (Qy Qz:aQ) (P0:aw)=>l9 Lib.cZ (λ(VK:aW) (_ _:aw) (_ _ _ _:aQ) (_:aw) (_ _:aQ) (_:aw)=>ah VK) (λ(_:aW) (_ _:aw) (_ _ _ _:aQ) (_:aw) (_ _:aQ) (_:aw)=>ah ai) Lib.cZ J6 0 Wp Qu Qv HR Qw Qx Qy Qz P0) n ak (i:aw) p.now (re p.en) (rs p.w) (rs p.m) (rr p.s) p.a (rf p.fe) (rc p.cl) p.hits) (ah ak) (ah ((cw p.cl.length).all (HK p.now p.fe.length p.cl)))
  (λn i hi hq=>by simp only[l4,r4,dL,Lib.dq,hi,aN,au,(h2 i hi).1,(h2 i hi).2,hq,a_,ax,Lib.c6 hi (by omega:p.fe.length<=9223372036854775807)])
  (λn i hi hq=>by simp only[l4,r4,dL,Lib.dq,hi,aN,au,(h2 i hi).1,(h2 i hi).2,hq,bR])
  (λn=>by simp only[l4,r4,dL,Lib.dq,bm,bj,ax];refine(kc Lib.cZ (cS (by omega))).trans ?_;cases (cw p.cl.length).all (HK p.now p.fe.length p.cl)<;>rfl) Lib.cZ (cS (by omega))
 rw[eI,eI,h1.1,h1.2,au,dL,eU];rw[show l4 Lib.cZ _ _ Lib.cZ ak 0 p.now (re p.en) (rs p.w) (rs p.m) (rr p.s) p.a (rf p.fe) (rc p.cl) p.hits=_ from kf];unfold jd;rw[show decide ((p.fe.length:aw)>20)= !decide (p.fe.length<=20)by rw[<-decide_not,ca];omega,show decide ((p.cl.length:aw)>6)= !decide (p.cl.length<=6)by rw[<-decide_not,ca];omega];cases decide (1<=p.now/\p.now<=1000000000)<;>cases MV p.en p.w p.m p.s p.a<;>cases decide (p.fe.length<=20)<;>cases decide (p.cl.length<=6)<;>cases decide (0<=p.hits/\p.hits<=1000000000)<;>cases (cw p.fe.length).all (λi=>nF p.now (el p.fe i)&&apart p.fe i)<;>cases (cw p.cl.length).all (HK p.now p.fe.length p.cl)<;>rfl
end qi

namespace uJ
open Lib (Px Cl Fe En el)
def ec(f:aF)(st:aw)(t:aq)(c:Cl):Cl:=bif decide (c.fe=(f:aw)+1)&&decide (c.sta=1)then{c with sta:=st,km:=t}else c
def nR(cl:aA Cl)(f:aF)(st:aw)(t:aq):aA Cl:=cl.map (ec f st t)
theorem lr{α:Type}(l:aA α)(g:α->α):l.mapIdx (λ_ c=>g c)=l.map g:=by apply lP<;>simp
end uJ

namespace gn
open Lib (Px Cl Fe En el)
open qi (jd)
open uJ (nR)
def sP(p:Px)(f:aw):aW:=jd p&&(decide (0<=f/\f<=(p.fe.length:aw)-1)&&decide ((el p.fe f.toNat).sta=1))
def told(p:Px)(f:aF)(g:Fe)(st:aw):Px:={p with fe:=p.fe.set f g,cl:=nR p.cl f st g.t}
theorem iQ{p:Px}{f:aw}(h:sP p f=ai):∃n:aF,f=(n:aw)/\n<p.fe.length/\jd p=ai/\(el p.fe n).sta=1:=by unfold sP at h;simp only[aL,bc]at h;obtain⟨h1,h2,h3⟩:=h;exact⟨f.toNat,by omega,by omega,h1,h3⟩
theorem nV{p:Px}{n f:aF}{g:Fe}{st:aw}(h:p.Fit n):(told p f g st).Fit n:=by
 refine⟨h.en,h.w,h.m,h.s, ?_, ?_⟩
 ·show(p.fe.set f g).length<=n;rw[cB];exact h.fe
 ·show(nR p.cl f st g.t).length<=n;unfold uJ.nR;rw[bU];exact h.cl
def BU(p:Px)(f:aw):Px×aW:=bif sP p f then(told p f.toNat {el p.fe f.toNat with sta:=3} 3,ai)else(p,ak)
def CL(p:Px)(f:aw)(t:aq):Px×aW:=
 bif sP p f&&(decide (1<=t.size/\t.size<=40)&&decide ((el p.fe f.toNat).t.size+t.size<=400))then(told p f.toNat {el p.fe f.toNat with t:=(el p.fe f.toNat).t++t} 1,ai)else(p,ak)
theorem iN{l:aA Fe}{n:aF}{g:Fe}(h:n<l.length):el (l.set n g) n=g:=by rw[eH (by rw[cB];exact h),kG]
theorem xU(l:aA Fe)(n j:aF)(ys:aA CV)(g:Fe)(h:n<l.length)(hs:iD (Fe.row (el l n)) j ys=Fe.row g):eD (Lib.rf l) n j ys=Lib.rf (l.set n g):=by rw[eH h]at hs;exact kR Fe.row l n j ys g h hs
theorem aar{p:Px}(h:jd p=ai)(i:aF)(hi:i<p.fe.length):m9.nF p.now (el p.fe i)=true:=by unfold qi.jd at h;simp only[aL,bc]at h;obtain⟨_,_,_,_,_,h6,_⟩:=h;rw[bn]at h6;have:=h6 i (by simpa using hi);rw[aL]at this;exact this.1
end gn

namespace gj
theorem alN(x:aw):0<=bF eC x/\bF eC x<4294967296:=by have e:bF eC x=x%4294967296:=rfl;rw[e];omega
theorem afM(x:aw):0<=jP.rd x/\jP.rd x<4294967296:=by unfold jP.rd;cases decide (cO x 2=1)<;>exact alN _
theorem NF:∀(n:aF) (x:aw),0<=x/\x<4294967296->0<=jP.nI n x/\jP.nI n x<4294967296
 |0,_,h=>h
 |n+1,x,_=>NF n _ (afM x)
theorem Vu(t:aq):∀(d i:aF) (s:aw),0<=s/\s<4294967296->0<=jP.su t d i s/\jP.su t d i s<4294967296
 |0,_,_,h=>h
 |d+1,i,s,h=>Vu t d (i+1) _ (NF 8 _ (alN _))
def keyed(i:aF)(key:aq):aq:=key++bytesOf [[CV.i bf (i:aw)]]
def sm(i:aF)(key:aq):aw:=jP.su (keyed i key) (keyed i key).size 0 4294967295
def pl(i:aF)(key:aq):aF:=(cO (sm i key) 16).toNat
theorem LI(i:aF)(key:aq):0<=sm i key/\sm i key<4294967296:=Vu _ _ _ _ (by omega)
theorem pl_int(i:aF)(key:aq):cO (sm i key) 16=(pl i key:aw):=by have:=LI i key;have h:0<=cO (sm i key) 16:=WJ _ this.1;unfold pl;omega
theorem CJ(i:aF)(key:aq):pl i key<16:=by have:=LI i key;have h:=Int.tmod_lt_of_pos (sm i key) (show(0:aw)<16 by omega);have h2:0<=cO (sm i key) 16:=WJ _ this.1;unfold pl;omega
theorem CW(i:aF)(key:aq):(keyed i key).size=key.size+1:=by unfold keyed;rw[dJ,CU]
theorem ok(i:aF)(key:aq)(hi:i<3)(hk:key.size<=140737488355328):c (i:aw) key=ai/\v (i:aw) key=(pl i key:aw):=by
 refine out _ _ ?_;unfold vo b;have e:(key++bytesOf (aD (aP [Ck.i bf] 1) 0 [CV.i bf (bF bf (i:aw))]))=keyed i key:=by
  unfold keyed;match i,hi with
  |0,_=>rfl
  |1,_=>rfl
  |2,_=>rfl
 have hs:=CW i key;have h:=vM.ok (keyed i key) (by omega);have e2:cj key+cj (bytesOf (aD (aP [Ck.i bf] 1) 0 [CV.i bf (bF bf (i:aw))]))=key.size+1:=by rw[pL,CU]
 rw[e2,e,aE (by omega),au,h.1,h.2,au];have hp:=pl_int i key;have hl:=CJ i key;unfold sm at hp;rw[hp,dj (by omega) (by omega)]
end gj

namespace n6
open Lib (rr)
theorem run(N:aF)(K0:aw->aQ->aw->aw->aw->az R)(K1:aw->aQ->aw->aw->aw->aQ->az R)(s:aA (aA aw))(z y a:aw)(hf:jk.oH s)(m:aF)(hm:s.length+1<m)(kr:aQ->az R)
  (h0:s=[]->K0 0 (rr s) z y a=kr []) (h1:K1 s.length (rr s) z y a (rr s)=kr (rr s)):l3 N K0 K1 m 0 (rr s) z y a=kr (rr s):=by
 obtain⟨m,rfl⟩:∃m',m=m'+1:=⟨m-1,by omega⟩
 have hz:∀q:aQ,aP [Ck.i ao] 0++q=q:=λq=>rfl;have hci:∀i (h:i<s.length),cC (bS (aP [Ck.i ao] 0)+bS (Lib.ri s[i])) 8=true:=λi h=>by have:=hf.2 _ (bB h);exact Lib.cq (by rw[Lib.gP];simp[aP];omega) (by rw[Lib.gP];simp[aP];omega)
 by_cases hs:s=[]
 ·subst hs;simp only[l3,r3,gQ,jO,VT,Int.lt_irrefl,bj,ax];exact h0 rfl
 ·have hp:0<s.length:=Mu.2 hs;have key:=ma (R:=R) s.length (λm i (x:aQ)=>sG N K0 K1 m (i:aw) (rr s) z y a x) (λi=>rr (s.take i)) (kr (rr s)) (λm i h=>by
   have hl:=hf.1;simp only[sG,zG,gQ,Lib.dq,h,aN,au,Lib.cF,bh,Lib.dZ,JZ h,jv,hci i h,hz,pL,bA];rw[Lib.cq (by rw[eK];omega) (by rw[eK];omega),au,Lib.c6 h (by omega)];have:=oV (λq=>[CV.l 3 (Lib.ri q)]) s i h;unfold rr;rw[<-this]) (λm=>by
   simp only[sG,zG,gQ,Lib.dq,bm,bj,ax,dY];exact h1) m 1 hp (by omega)
  have e:=hci 0 hp;have e0:=JZ (l:=s) hp;simp only[l3,r3,aE (show(0:aw)<(s.length:aw)by omega),au,aM,gQ,show decide ((0:aw)<=0)=ai from rfl,show aY 0=0 from rfl,e0,jv,e,hz,au,pL,gz];rw[show bJ (0+1)=((1:aF):aw)from rfl];refine Eq.trans ?_ key;have:=oV (λq=>[CV.l 3 (Lib.ri q)]) s 0 hp;unfold rr;rw[show(0+1)=1 from rfl]at this;rw[<-this];rfl
theorem ok(s:aA (aA aw))(a:aw)(hf:jk.oH s):c (rr s) a=ai/\v (rr s) a=(rr s,a):=by refine out _ _ ?_;unfold vo b;exact run Lib.cZ (λ_ _ _ _ y=>ah ([],y)) (λ_ _ _ _ wh J5=>ah (J5,wh)) s a 0 a hf Lib.cZ (cS (by have:=hf.1;omega)) (λx=>ah (x,a)) (λ_=>rfl) rfl
end n6

namespace du
open Lib (rr ri)
def bq(p:aF)(q:aA aw):aA aw:=q.set p (bif decide (q.getD p 0<15)then q.getD p 0+1 else q.getD p 0)
def DK(s:aA (aA aw))(key:aq):aA (aA aw):=s.mapIdx λi q=>bq (gj.pl i key) q
def half(s:aA (aA aw)):aA (aA aw):=s.map λq=>q.map λn=>cQ n 2
def val(s:aA (aA aw))(a:aw)(key:aq):aA (aA aw)×aw:=
 bif fD.od s a then(bif decide (a+1=64)then(half (DK s key),0)else(DK s key,a+1))else(s,a)
def fR(q:aA aw):aA CV:=[CV.l 3 (ri q)]
theorem PR(q:aA aw)(p:aF)(x:aw)(h:p<q.length):eD (ri q) p 0 [CV.i ao x]=ri (q.set p x):=kR (λn=>[CV.i ao n]) q p 0 _ x h rfl
theorem PS(L:aA (aA aw))(i:aF)(q:aA aw)(h:i<L.length):eD (L.map fR) i 0 [CV.l 3 (ri q)]=(L.set i q).map fR:=kR fR L i 0 _ q h rfl
theorem B1(L:aA (aA aw))(i:aF)(h:i<L.length):ar (L.map fR) i 0=CV.l 3 (ri L[i]):=fF fR L i 0 h
theorem uB{s:aA (aA aw)}{a:aw}(h:fD.od s a=ai):s.length=3/\(0<=a/\a<=63)/\∀q∈s,q.length=16/\∀n∈q,0<=n/\n<=15:=by
 unfold fD.od at h;rw[aL,aL]at h;refine⟨cm h.1,cm h.2.1,λq hq=> ?_⟩
 have:=bn.1 h.2.2 q hq;unfold fD.sq at this;rw[aL]at this;refine⟨cm this.1,λn hn=> ?_⟩
 have:=bn.1 this.2 n hn;unfold fD.Nq at this;exact cm this
theorem oI{q:aA aw}{p:aF}(h:p<q.length):q.getD p 0=q[p]:=by simp[ka,h]
theorem afQ(K:aq->aw->aw->aw->aQ->az R)(s:aA (aA aw))(key:aq)(y a:aw)(hs:s.length=3)(hq:∀q∈s,q.length=16/\∀n∈q,0<=n/\n<=15)(hk:key.size<=140737488355328):
  l5 Lib.cZ K Lib.cZ key 0 y a (rr s)=K key 3 y a (rr (DK s key)):=by
 refine(nK fR s (λi q=>bq (gj.pl i key) q) (λm (i:aF) x=>l5 Lib.cZ K m key (i:aw) y a x) (λx=>K key 3 y a x) (λm i L h h2 hL vU=> ?_) (λm L hL=> ?_) Lib.cZ (cS (by omega)))
 ·have hp:=gj.ok i key (by omega) hk;have sO:=gj.CJ i key;obtain⟨JV,hn⟩:=hq _ (bB h);have e0:ar (L.map fR) i 0=CV.l 3 (ri s[i]):=by rw[B1 L i h2,vU]
  have hb:gj.pl i key<s[i].length:=by omega
  have hx:=hn _ (bB hb);simp only[l5,r5,bU,Lib.dq,h2,aN,au,hp.1,hp.2,Lib.cF,aM,Lib.dZ,e0,jv,Lib.gP,JV,sO,Qp hb,bE];unfold bq;rw[oI hb];cases hd:decide (s[i][gj.pl i key]<15)with
  |true=>have:=cm hd;rw[au,au,dj (x:=s[i][gj.pl i key]+1) (by omega) (by omega),PR _ _ _ hb,PS _ _ _ h2,Lib.c6 h2 (by omega)]
  |false=>rw[ax,ax,Lib.c6 h2 (by omega),fw,<-vU,fw]
 ·simp only[l5,r5,bU,Lib.dq,hL,bm,bj,ax,hs];rfl
theorem td{s:aA (aA aw)}{key:aq}(hs:s.length=3)(hq:∀q∈s,q.length=16/\∀n∈q,0<=n/\n<=15):(DK s key).length=3/\∀q∈DK s key,q.length=16/\∀n∈q,0<=n/\n<=15:=by
 unfold DK;refine⟨by simp[hs],λq hm=> ?_⟩
 obtain⟨i,hi,rfl⟩:=List.mem_mapIdx.1 hm;obtain⟨JV,hn⟩:=hq _ (bB hi);unfold bq;have hb:gj.pl i key<s[i].length:=by have:=gj.CJ i key;omega
 refine⟨by rw[cB];exact JV,λn h=> ?_⟩
 rcases jG h with h|h
 ·exact hn n h
 ·rw[oI hb]at h;have hx:=hn _ (bB hb);rw[h];cases hd:decide (s[i][gj.pl i key]<15)with
  |true=>have:=cm hd;rw[au];omega
  |false=>rw[ax];exact hx
theorem ak8(K:aw->aw->aw->aw->aQ->az R)(L:aA (aA aw))(i:aF)(h:i<L.length)(y a:aw)(hl:L.length<=1048576)(hq:L[i].length=16)(hn:∀n∈L[i],0<=n/\n<=15):
  l17 Lib.cZ K Lib.cZ (i:aw) 0 y a (L.map fR)=K i 16 y a ((L.set i (L[i].map λn=>cQ n 2)).map fR):=by
 have hmi:L[i].mapIdx (λ_ n=>cQ n 2)=L[i].map λn=>cQ n 2:=by apply lP<;>simp
 have key:=ma (L[i].length) (λm (k:aF) x=>l17 Lib.cZ K m (i:aw) (k:aw) y a x) (λk=>(L.set i (oe L[i] (λ_ n=>cQ n 2) k)).map fR) (K i 16 y a ((L.set i (L[i].map λn=>cQ n 2)).map fR)) (λm k hk=> ?_) (λm=> ?_) Lib.cZ 0 (bI _) (cS (by omega))
 ·rw[C5,fw]at key;exact key
 ·have hu:=qR L[i] (λ_ n=>cQ n 2) k (by omega);generalize hU:oe L[i] (λ_ n=>cQ n 2) k=U at hu;have hku:k<U.length:=by omega
  have gd:U[k]=L[i][k]:=by subst hU;exact xZ _ _ _ hk _
  have aeS:U.set k (cQ L[i][k] 2)=oe L[i] (λ_ n=>cQ n 2) (k+1):=by subst hU;exact tW L[i] (λ_ n=>cQ n 2) k hk
  have h2:i<(L.set i U).length:=by simpa using h
  have e0:ar ((L.set i U).map fR) i 0=CV.l 3 (ri U):=by rw[B1 _ _ h2,kG]
  have hx:=hn _ (bB hk);have ht:0<=cQ L[i][k] 2:=Int.tdiv_nonneg hx.1 (by omega);have GW:cQ L[i][k] 2<=15:=BD (Int.tdiv_le_self _ hx.1) hx.2;simp only[l17,r17,bU,cB,Lib.dq,h,hku,aN,au,Lib.cF,aM,Lib.dZ,e0,jv,Lib.gP,Qp hku,bE,gd];rw[dj (x:=cQ L[i][k] 2) (by omega) (by omega),PR _ _ _ hku,PS _ _ _ h2,aeS,pH,Lib.c6 hk (by omega)]
 ·have e0:ar ((L.set i (oe L[i] (λ_ n=>cQ n 2) L[i].length)).map fR) i 0=CV.l 3 (ri (L[i].map λn=>cQ n 2)):=by rw[B1 _ _ (by simpa using h),kG,qQ,hmi]
  simp only[l17,r17,bU,cB,Lib.dq,h,aN,au,Lib.cF,aM,Lib.dZ,e0,jv,Lib.gP,bm,bj,ax];rw[qQ,hmi,hq];rfl
theorem ak6(K:aw->aw->aw->aQ->az R)(s:aA (aA aw))(y a:aw)(hs:s.length=3)(hq:∀q∈s,q.length=16/\∀n∈q,0<=n/\n<=15):
  l14 Lib.cZ K Lib.cZ 0 y a (rr s)=K 3 y a (rr (half s)):=by
 have hmi:s.mapIdx (λ_ q=>q.map λn=>cQ n 2)=half s:=by unfold half;apply lP<;>simp
 rw[<-hmi];refine(nK fR s (λ_ q=>q.map λn=>cQ n 2) (λm (i:aF) x=>l14 Lib.cZ K m (i:aw) y a x) (λx=>K 3 y a x) (λm i L h h2 hL vU=> ?_) (λm L hL=> ?_) Lib.cZ (cS (by omega)))
 ·obtain⟨JV,hn⟩:=hq _ (bB h);simp only[l14,r14,bU,Lib.dq,h2,aN,au];rw[ak8 _ L i h2 y a (by omega) (by rw[vU];exact JV) (by rw[vU];exact hn),Lib.c6 h2 (by omega),vU]
 ·simp only[l14,r14,bU,Lib.dq,hL,bm,bj,ax,hs];rfl
theorem ok(s:aA (aA aw))(a:aw)(key:aq)(hf:jk.oH s)(hk:key.size<=140737488355328):c (rr s) a key=ai/\v (rr s) a key=(rr (val s a key).1,(val s a key).2):=by
 refine out _ _ _ ?_;have h1:=n6.ok s a hf;have h2:=fD.ok s a hf;unfold vo b val;rw[h1.1,h1.2,h2.1,h2.2,au,au];cases cf:fD.od s a with
 |false=>rfl
 |true=>
  obtain⟨hs,ha,hq⟩:=uB cf;obtain⟨b1,b2⟩:=td (key:=key) hs hq;rw[a_,ax,au,afQ _ s key _ _ hs hq hk,dj (x:=a+1) (by omega) (by omega)];cases hd:decide (a+1=64)with
  |false=>rfl
  |true=>rw[au,au,ak6 _ _ _ _ b1 b2]
end du

namespace mG
open Lib (rr ri)
def gs(key:aq):aF->aA (aA aw)->aw->aw
 |_,[],x=>x
 |i,q::r,x=>gs key (i+1) r (bif decide (q.getD (gj.pl i key) 0<x)then q.getD (gj.pl i key) 0 else x)
def val(s:aA (aA aw))(a:aw)(key:aq):aw:=bif fD.od s a then gs key 0 s 15 else 0
theorem GP(key:aq)(s:aA (aA aw))(i:aF)(h:i<s.length)(x:aw):gs key i (s.drop i) x=gs key (i+1) (s.drop (i+1)) (bif decide (s[i].getD (gj.pl i key) 0<x)then s[i].getD (gj.pl i key) 0 else x):=by rw[dE h];rfl
theorem ok(s:aA (aA aw))(a:aw)(key:aq)(hf:jk.oH s)(hk:key.size<=140737488355328):c (rr s) a key=ai/\v (rr s) a key=val s a key:=by
 refine out _ _ _ ?_;have h2:=fD.ok s a hf;unfold vo b val;rw[h2.1,h2.2,au];cases cf:fD.od s a with
 |false=>rfl
 |true=>
  obtain⟨hs,ha,hq⟩:=du.uB cf;rw[a_,ax,au];have:=Lib.gV (λm (t:aF×aw)=>l5 Lib.cZ (λ(_:aq) (y6 _:aw) (_:aQ) (_:aw)=>ah y6) m key t.2 (t.1:aw) (rr s) a) (λt=>s.length-t.1) (λt=>t.1<=s.length) (λt=>ah (gs key t.1 (s.drop t.1) t.2)) (λm t ht=>by
   obtain⟨i,x⟩:=t;dsimp only at ht⊢;by_cases h:i<s.length
   ·right;have hp:=gj.ok i key (by omega) hk;have sO:=gj.CJ i key;obtain⟨JV,hn⟩:=hq _ (bB h);have hb:gj.pl i key<s[i].length:=by omega
    refine⟨(i+1,bif decide (s[i].getD (gj.pl i key) 0<x)then s[i].getD (gj.pl i key) 0 else x),by dsimp only;omega,by dsimp only;omega,by rw[<-GP key s i h x], ?_⟩
    simp only[l5,r5,gQ,Lib.dq,h,aN,au,hp.1,hp.2,Lib.cF,aM,Lib.dZ,JZ h,jv,Lib.gP,JV,sO,Qp hb,bE,Lib.c6 h (by omega:s.length<=9223372036854775807)];rw[du.oI hb];cases decide (s[i][gj.pl i key]<x)<;>rfl
   ·left;have:i=s.length:=by omega
    subst this;simp only[l5,r5,gQ,Lib.dq,bm,bj,ax,di,gs]) Lib.cZ (0,15) (bI _) (cS (by dsimp only;omega))
  simpa using this
end mG

namespace fY
open Lib (rr rs)
theorem ok(w m:aA aq)(s:aA (aA aw))(a:aw)(hw:w.length<=1048576)(hm:m.length<=1048576)(hf:jk.oH s):c (rs w) (rs m) (rr s) a=ai/\v (rs w) (rs m) (rr s) a=(rs w,rs m,rr s,a):=by have h3:=n6.ok s a hf;have r1:cC (bS (aP [Ck.s] 0)+bS (rs w)) 16=true:=Lib.cq (by simp[aP,eV];omega) (by simp[aP,eV];omega);have r2:cC (bS (aP [Ck.s] 0)+bS (rs m)) 16=true:=Lib.cq (by simp[aP,eV];omega) (by simp[aP,eV];omega);exact out _ _ _ _ (by unfold vo b;rw[r1,r2,h3.1,h3.2,au,au,au];rfl)
end fY

namespace o9
theorem ok(l:aA aq)(k:aq)(hl:l.length<=1048576):c (Lib.rs l) k=ai/\v (Lib.rs l) k=Lib.rs (fc.without l k):=by
 refine out _ _ ?_;unfold vo b;have key:=ma l.length (λm (i:aF) (x:aQ)=>l3 Lib.cZ (λ(_:aQ) (_:aq) (_:aw) (y7:aQ)=>ah y7) m (Lib.rs l) k (i:aw) x) (λi=>Lib.rs (fc.without (l.take i) k)) (ah (Lib.rs (fc.without l k))) (λm i h=>by
  have hlen:=fc.ir (l:=l.take i) (k:=k);rw[eK]at hlen;simp only[l3,r3,eV,Lib.dq,h,aN,Lib.cF,aM,au,Lib.dZ,Wh h,bu,Lib.eM,pL,bA,Lib.c6 h (by omega:l.length<=9223372036854775807)];rw[Lib.cq (by omega) (by omega),au];have e:fc.without (l.take (i+1)) k=fc.without (l.take i) k++(bif !decide (l[i]=k)then [l[i]]else []):=by unfold fc.without;rw[cE h,ij];cases hd:decide (l[i]=k)<;>simp[hd]
  rw[e];cases hd:decide (l[i]=k)with
  |true=>rw[a_,ax,ax,dm]
  |false=>rw[bR,au,au];unfold Lib.rs;rw[dh];rfl) (λm=>by
  simp only[l3,r3,eV,Lib.dq,bm,bj,ax,dY]) Lib.cZ 0 (bI _) (cS (by omega))
 exact key
end o9

namespace eZ
open Lib (rr rs)
open fc (has without gE lK we ir pB)
open jx (eO K5 nA sJ iP)
def val(w m:aA aq)(s:aA (aA aw))(a:aw)(key:aq):aA aq×aA aq×aA (aA aw)×aw×aq:=
 bif sJ w m s a&&eO key then
  bif has w key then(without w key++[key],m,(du.val s a key).1,(du.val s a key).2,⟨#[]⟩)
  else bif has m key then(w,without m key++[key],(du.val s a key).1,(du.val s a key).2,⟨#[]⟩)
  else bif decide ((w++[key]).length<=2)then(w++[key],m,(du.val s a key).1,(du.val s a key).2,⟨#[]⟩)
  else bif decide (m.length<4)then((w++[key]).tail,m++[(w++[key]).getD 0 ⟨#[]⟩],(du.val s a key).1,(du.val s a key).2,⟨#[]⟩)
  else bif decide (mG.val (du.val s a key).1 (du.val s a key).2 ((w++[key]).getD 0 ⟨#[]⟩)>mG.val (du.val s a key).1 (du.val s a key).2 (m.getD 0 ⟨#[]⟩))then
   ((w++[key]).tail,m.tail++[(w++[key]).getD 0 ⟨#[]⟩],(du.val s a key).1,(du.val s a key).2,m.getD 0 ⟨#[]⟩)
  else((w++[key]).tail,m,(du.val s a key).1,(du.val s a key).2,(w++[key]).getD 0 ⟨#[]⟩)
 else(w,m,s,a,⟨#[]⟩)
theorem CX(l:aA aq)(k:aq):rs l++[[CV.s k]]=rs (l++[k]):=by unfold Lib.rs;rw[dh];rfl
theorem zer(l:aA aq):aP [Ck.s] 0++rs l=rs l:=rfl
theorem SA(l:aA aq):bu (ar (rs l) (aY 0) 0)=l.getD 0 ⟨#[]⟩:=by cases l<;>rfl
theorem Vw(l:aA aq):e8 (rs l) (aY 1) (aY (l.length:aw))=rs l.tail:=by unfold e8 Lib.rs;rw[show aY 1=1 from rfl,Lib.dZ,List.drop_one,<-List.map_tail,jc (by simp)]
theorem nB{l:aA aq}(h:nA l=ai){k:aq}(hk:k∈l):eO k=true:=by
 unfold nA at h;rw[bn]at h;obtain⟨i,hi,rfl⟩:=c8 hk;have:=h i (by simpa using hi);unfold K5 at this;rw[aL]at this;have e:l.getD i ⟨#[]⟩=l[i]:=by simp[ka,hi]
 rw[e]at this;exact this.1
theorem v5{l:aA aq}:nA l=ai↔(∀k∈l,eO k=ai)/\l.Nodup:=by
 constructor
 ·intro h;refine⟨λk hk=>nB h hk, ?_⟩
  rw[la,dC];intro i j hi hj OZ he;unfold nA at h;rw[bn]at h;have h2:=h j (by simpa using hj);unfold K5 at h2;have e:l.getD j ⟨#[]⟩=l[j]:=by simp[ka,hj]
  rw[e,aL,dx,lK]at h2;refine h2.2 ?_;rw[<-he];have:(l.take j)[i]'(by rw[eK];omega)=l[i]:=nt ..;rw[<-this];exact bB _
 ·intro h;unfold nA;rw[bn];intro j hj;have hj:j<l.length:=by simpa using hj
  unfold K5;have e:l.getD j ⟨#[]⟩=l[j]:=by simp[ka,hj]
  rw[e,aL,dx,lK];refine⟨h.1 _ (bB hj),λhm=> ?_⟩
  obtain⟨i,hi,he⟩:=c8 hm;rw[eK]at hi;rw[nt]at he;have h2:=h.2;rw[la,dC]at h2;exact h2 i j (by omega) hj (by omega) he
theorem kK{k:aq}(h:eO k=ai):1<=k.size/\k.size<=30:=by unfold eO at h;have:=cm h;omega
theorem LF{s:aA (aA aw)}{a:aw}{key:aq}(h:jk.oH s):jk.oH (du.val s a key).1:=by
 unfold du.val;cases cf:fD.od s a with
 |false=>exact h
 |true=>
  obtain⟨hs,_,hq⟩:=du.uB cf;obtain⟨b1,b2⟩:=du.td (key:=key) hs hq;rw[au];cases decide (a+1=64)with
  |false=>exact⟨by rw[ax];dsimp only;omega,λq h=>by have:=(b2 q h).1;omega⟩
  |true=>
   rw[au];dsimp only;unfold du.half;refine⟨by rw[bU];omega,λq h=> ?_⟩
   obtain⟨q',hq',rfl⟩:=cU.1 h;rw[bU];have:=(b2 q' hq').1;omega
theorem tq{l:aA aq}(h:0<l.length):l.getD 0 ⟨#[]⟩∈l:=by
 cases l with
 |nil=>simp at h
 |cons x r=>exact dn ..
theorem CG{w m:aA aq}{s:aA (aA aw)}{a:aw}(h:sJ w m s a=ai):nA (w++m)=ai/\w.length<=2/\m.length<=4/\fD.od s a=true:=by unfold sJ at h;simp only[aL,bc]at h;exact⟨h.1,h.2.1,h.2.2.1,h.2.2.2⟩
theorem ok(w m:aA aq)(s:aA (aA aw))(a:aw)(key:aq)(hw:w.length<=1048576)(hm:m.length<=1048576)(hf:jk.oH s)(hk:key.size<=140737488355328):
  c (rs w) (rs m) (rr s) a key=ai/\v (rs w) (rs m) (rr s) a key=(rs (val w m s a key).1,rs (val w m s a key).2.1,rr (val w m s a key).2.2.1,(val w m s a key).2.2.2.1,(val w m s a key).2.2.2.2):=by
 refine out _ _ _ _ _ ?_;have h1:=fY.ok w m s a hw hm hf;have h2:=jx.ok w m s a hw hm hf;have h3:=du.ok s a key hf hk;have h4:=fc.ok w key (by omega);have h5:=fc.ok m key (by omega);have h6:=o9.ok w key hw;have h7:=o9.ok m key hm;have sf:=LF (a:=a) (key:=key) hf;unfold vo b;simp only[Lib.lt,h1.1,h1.2,h2.1,h2.2,au];unfold val;cases hp:sJ w m s a with
 |false=>rfl
 |true=>
  obtain⟨p1,p2,p3,p4⟩:=CG hp;rw[iP,bh];cases Aa:eO key with
  |false=>rfl
  |true=>
   have AO:=kK Aa;have l6:=ir (l:=w) (k:=key);have l7:=ir (l:=m) (k:=key);simp only[a_,ax,au,h3.1,h3.2,h4.1,h4.2,h5.1,h5.2,h6.1,h6.2,h7.1,h7.2,CX,zer,eV,pL,bA];rw[Lib.cq (n:=(without w key).length+1) (by omega) (by omega),Lib.cq (n:=(without m key).length+1) (by omega) (by omega),Lib.cq (n:=w.length+1) (by omega) (by omega)];simp only[au];cases hA:has w key with
   |true=>rfl
   |false=>
    cases hB:has m key with
    |true=>rfl
    |false=>
     simp only[ax];rw[show decide (((w++[key]).length:aw)<=2)=decide ((w++[key]).length<=2)by rw[ca];omega];cases hC:decide ((w++[key]).length<=2)with
     |true=>rfl
     |false=>
      have hlw:(w++[key]).length=3:=by have:=oL hC;rw[bT,bA]at this⊢;omega
      have hfm:(w++[key]).getD 0 ⟨#[]⟩∈w++[key]:=tq (by omega);have KT:((w++[key]).getD 0 ⟨#[]⟩).size<=30:=by
       rcases ba.1 hfm with h|h
       ·exact(kK (nB p1 (bN _ h))).2
       ·rw[aZ]at h;rw[h];exact AO.2
      have g1:=mG.ok (du.val s a key).1 (du.val s a key).2 ((w++[key]).getD 0 ⟨#[]⟩) sf (by omega);have i1:g9 1 ((w++[key]).length:aw) ((w++[key]).length:aw)=true:=by rw[hlw];rfl
      have ht:(w++[key]).tail.length=2:=by rw[WM];omega
      have rz:cC (bS (aP [Ck.s] 0)+(w++[key]).tail.length) 16=true:=Lib.cq (by rw[ht];decide) (by rw[ht];decide);simp only[ax,aE (show(0:aw)<((w++[key]).length:aw)by omega),i1,au,SA,Vw,rz,zer,CX,eV,Lib.cq (n:=m.length+1) (b:=16) (by omega) (by omega),g1.1,g1.2];rw[show decide ((m.length:aw)<4)=decide (m.length<4)by rw[ca];omega];cases hD:decide (m.length<4)with
      |true=>rfl
      |false=>
       have hm4:m.length=4:=by have:=oL hD;omega
       have hmm:m.getD 0 ⟨#[]⟩∈m:=tq (by omega);have hms:=(kK (nB p1 (bO _ hmm))).2;have g2:=mG.ok (du.val s a key).1 (du.val s a key).2 (m.getD 0 ⟨#[]⟩) sf (by omega);have i2:g9 1 (m.length:aw) (m.length:aw)=true:=by simp[g9];omega
       have GW:m.tail.length=3:=by rw[WM];omega
       have rz2:cC (bS (aP [Ck.s] 0)+m.tail.length) 16=true:=Lib.cq (by rw[GW];decide) (by rw[GW];decide);simp only[ax,aE (show(0:aw)<(m.length:aw)by omega),i2,au,rz2,CX,Lib.cq (n:=m.tail.length+1) (b:=16) (by omega) (by omega),g2.1,g2.2];cases decide (mG.val (du.val s a key).1 (du.val s a key).2 ((w++[key]).getD 0 ⟨#[]⟩)>mG.val (du.val s a key).1 (du.val s a key).2 (m.getD 0 ⟨#[]⟩))<;>rfl
def lens(s:aA (aA aw)):aA aF:=s.map bS
theorem EP(s:aA (aA aw))(key:aq):lens (du.DK s key)=lens s:=by
 unfold lens du.DK;apply lP
 ·simp
 ·intro i h1 h2;simp[du.bq]
theorem Pj(s:aA (aA aw)):lens (du.half s)=lens s:=by unfold lens du.half;rw[ml];apply P7;intro q _;simp
theorem XT(s:aA (aA aw))(a:aw)(key:aq):lens (du.val s a key).1=lens s:=by
 unfold du.val;cases fD.od s a with
 |false=>rfl
 |true=>
  cases decide (a+1=64)with
  |false=>exact EP s key
  |true=>exact(Pj _).trans (EP s key)
theorem LR(w m:aA aq)(s:aA (aA aw))(a:aw)(key:aq):(val w m s a key).1.length<=w.length+1/\(val w m s a key).2.1.length<=m.length+1/\lens (val w m s a key).2.2.1=lens s:=by
 have hw:=ir (l:=w) (k:=key);have hm:=ir (l:=m) (k:=key);have hs:=XT s a key;unfold val;cases sJ w m s a&&eO key with
 |false=>exact⟨by rw[ax];exact jt _,by rw[ax];exact jt _,rfl⟩
 |true=>
  rw[au];cases has w key with
  |true=>refine⟨?_, ?_,hs⟩<;>(simp only[au];simp;try omega)
  |false=>
   cases has m key with
   |true=>refine⟨?_, ?_,hs⟩<;>(simp only[au,ax];simp;try omega)
   |false=>
    cases decide ((w++[key]).length<=2)with
    |true=>refine⟨?_, ?_,hs⟩<;>(simp only[au,ax];simp;try omega)
    |false=>
     cases decide (m.length<4)with
     |true=>refine⟨?_, ?_,hs⟩<;>(simp only[au,ax];simp;try omega)
     |false=>
      cases decide (mG.val (du.val s a key).1 (du.val s a key).2 ((w++[key]).getD 0 ⟨#[]⟩)>mG.val (du.val s a key).1 (du.val s a key).2 (m.getD 0 ⟨#[]⟩))with
      |true=>refine⟨?_, ?_,hs⟩<;>(simp only[au,ax];simp;try omega)
      |false=>refine⟨?_, ?_,hs⟩<;>(simp only[au,ax];simp;try omega)
end eZ

namespace kU
open Lib (rr rs re rf rc Px En el)
open fc (has)
open fZ (fm So fP mv wS drop_nil CC tL GD Sa rU)
def xX(p:Px)(e:En):Px:=
 {p with
  w:=(eZ.val p.w p.m p.s p.a e.k).1
  m:=(eZ.val p.w p.m p.s p.a e.k).2.1
  s:=(eZ.val p.w p.m p.s p.a e.k).2.2.1
  a:=(eZ.val p.w p.m p.s p.a e.k).2.2.2.1
  en:=bif has (eZ.val p.w p.m p.s p.a e.k).1 e.k||has (eZ.val p.w p.m p.s p.a e.k).2.1 e.k then mv (fP p.en (eZ.val p.w p.m p.s p.a e.k).2.2.2.2) e else fP p.en (eZ.val p.w p.m p.s p.a e.k).2.2.2.2}
theorem ala{en:aA En}{w m:aA aq}(h:(cw en.length).all (nN.HL en w m)=ai):So en/\∀e∈en,1<=e.k.size:=by
 rw[bn]at h;have h1:∀i (hi:i<en.length),nN.HL en w m i=true:=λi hi=>h i (by simpa using hi);constructor
 ·have adj:∀d i (hi:i+d+1<en.length),fm (el en i).k (el en (i+d+1)).k=true:=by
   intro d;induction d with
   |zero=>
    intro i hi;have:=h1 (i+1) (by omega);unfold nN.HL at this;rw[aL,aL,dM]at this;rcases this.2.1 with h|h
    ·have:=cm h;omega
    ·exact h
   |succ d ih=>
    intro i hi;have a:=ih i (by omega);have:=h1 (i+d+1+1) (by omega);unfold nN.HL at this;rw[aL,aL,dM]at this;rcases this.2.1 with h|h
    ·have:=cm h;omega
    ·exact lL.pc _ _ _ a h
  unfold So;rw[dC];intro i j hi hj OZ;have:=adj (j-i-1) i (by omega);rw[show i+(j-i-1)+1=j by omega,eH hi,eH hj]at this;exact this
 ·intro e he;obtain⟨i,hi,rfl⟩:=c8 he;have:=h1 i hi;unfold nN.HL nN.u5 at this;rw[aL,eH hi]at this;exact(m8.D0 this.1).1.1
theorem Hg{p:Px}(h:qi.jd p=ai):So p.en/\(∀e∈p.en,1<=e.k.size)/\p.en.length<=6/\p.w.length<=2/\p.m.length<=4/\p.fe.length<=20/\p.cl.length<=6/\(1<=p.now/\p.now<=1000000000)/\(0<=p.hits/\p.hits<=1000000000)/\jx.sJ p.w p.m p.s p.a=ai/\(∀i,i<p.fe.length->m9.nF p.now (el p.fe i)=ai):=by
 unfold qi.jd at h;simp only[aL,bc]at h;obtain⟨h1,h2,h3,h4,h5,h6,h7⟩:=h;unfold nN.MV at h2;simp only[aL,bc]at h2;obtain⟨g1,g2,g3⟩:=h2;obtain⟨s1,s2⟩:=ala g1;obtain⟨_,q2,q3,_⟩:=eZ.CG g2;refine⟨s1,s2,by omega,q2,q3,h3,h4,h1,h5,g2,λi hi=> ?_⟩
 rw[bn]at h6;have:=h6 i (by simpa using hi);rw[aL]at this;exact this.1
theorem ki{p:Px}(h:qi.jd p=ai):p.Fit 48:=by
 obtain⟨_,_,a1,a2,a3,a4,a5,_,_,hp,_⟩:=Hg h;obtain⟨_,_,_,hs⟩:=eZ.CG hp;unfold fD.od at hs;simp only[aL,bc,bn]at hs;obtain⟨s1,_,s3⟩:=hs;have s4:∀q∈p.s,q.length=16:=λq hq=>by have:=s3 q hq;unfold fD.sq at this;rw[aL,bc]at this;exact this.1
 refine⟨by omega,by omega,by omega,⟨by omega,λq hq=>by rw[s4 q hq];omega, ?_⟩,by omega,by omega⟩
 have:p.s.map bS=List.replicate 3 16:=by
  rw[List.eq_replicate_iff];refine⟨by rw[bU,s1],λx hx=> ?_⟩
  obtain⟨q,hq,rfl⟩:=cU.1 hx;exact s4 q hq
 rw[this];decide
end kU

namespace sQ
open Lib (Px Cl Fe En el)
open gn (sP told)
def kB(f:Fe):En:=⟨f.k,f.st,f.li,f.t⟩
def cls(p:Px)(f:aw)(life:aw):Px×aW:=
 bif sP p f&&decide (0<=life/\life<=999999)then
  (bif decide (life>0)then kU.xX (told p f.toNat {el p.fe f.toNat with sta:=2,li:=life,st:=p.now} 2) (kB {el p.fe f.toNat with sta:=2,li:=life,st:=p.now})
   else told p f.toNat {el p.fe f.toNat with sta:=2,li:=life,st:=p.now} 2,ai)
 else(p,ak)
theorem Is{p:Px}{f life:aw}:(cls p f life).1.now=p.now/\(cls p f life).1.hits=p.hits:=by
 unfold cls;cases sP p f&&decide (0<=life/\life<=999999)with
 |false=>exact⟨rfl,rfl⟩
 |true=>cases decide (life>0)<;>exact⟨rfl,rfl⟩
end sQ

namespace ic
open Lib (Px Cl Fe En el rc rf re)
open fc (has without)
open jx (eO)
open qi (jd)
open fZ (So fP)
def qm(e:En)(now:aw):aW:=Gl.v e.k e.st e.li e.bo now
def jn(l:aA Cl)(c:Cl):aA Cl:=l.filter (λx=>decide (x.id<c.id))++[c]++l.filter (λx=>decide (x.id>c.id))
def lA(l:aA Cl)(id:aw):aW:=l.any λx=>decide (x.id=id)
def HM(l:aA En)(key:aq):az En:=l.find? λe=>decide (e.k=key)
def EX(key:aq)(f:Fe):aW:=decide (f.k=key)&&decide (f.sta=1)
def NB(l:aA Fe)(key:aq):az aF:=l.findIdx? (EX key)
def rP(key:aq):Fe:=⟨key,⟨#[]⟩,1,0,0⟩
def put(p:Px)(id:aw)(key:aq)(h:aW)(fe:aA Fe)(i:aF):Px:=
 {p with en:=bif h then fP p.en key else p.en,w:=bif h then without p.w key else p.w,m:=bif h then without p.m key else p.m,s:=(du.val p.s p.a key).1,a:=(du.val p.s p.a key).2,fe:=fe,cl:=jn p.cl ⟨id,key,(i:aw)+1,0,1,(el fe i).t,0⟩}
def sH(p:Px)(id:aw)(key:aq)(h:aW):Px×aw:=
 match NB p.fe key with
 |some i=>(put p id key h p.fe i,0)
 |none=>bif decide (p.fe.length<20)then(put p id key h (p.fe++[rP key]) p.fe.length,0)else(p,2)
def hit(p:Px)(id:aw)(key:aq)(e:En):Px:=
 {p with w:=(eZ.val p.w p.m p.s p.a key).1,m:=(eZ.val p.w p.m p.s p.a key).2.1,s:=(eZ.val p.w p.m p.s p.a key).2.2.1,a:=(eZ.val p.w p.m p.s p.a key).2.2.2.1,cl:=jn p.cl ⟨id,key,0,e.st,2,e.bo,p.now-e.st⟩,hits:=bif decide (p.hits<1000000000)then p.hits+1 else p.hits}
def ask(p:Px)(id:aw)(key:aq):Px×aw:=
 bif jd p&&(decide (1<=id/\id<=9)&&(eO key&&(!lA p.cl id&&decide (p.cl.length<6))))then
  match HM p.en key with
  |some e=>bif qm e p.now then(hit p id key e,0)else sH p id key ai
  |none=>sH p id key ak
 else(p,1)
theorem B9{α:Type}(l:aA α)(q:α->aW)(p:aF->aW)(h:∀i (hi:i<l.length),p i=q l[i]):decide (Lib.fi p l.length 0≥0)=l.any q:=by
 rcases Lib.pj p l.length 0 with ⟨e,ha⟩|⟨k,_,hk,e,hp,_⟩
 ·rw[e,aK (by omega)];symm;rw[List.any_eq_false];intro x hx;obtain⟨i,hi,rfl⟩:=c8 hx;rw[<-h i hi,ha i (by omega) (by omega)];simp
 ·rw[e,aE (by omega)];symm;rw[Fw];exact⟨_,bB (by omega:k<l.length),by rw[<-h k (by omega)];exact hp⟩
theorem Bd{α:Type}[Inhabited α](l:aA α)(q:α->aW)(p:aF->aW)(h:∀i (hi:i<l.length),p i=q l[i]):
  (Lib.fi p l.length 0= -1/\l.find? q=aj/\l.findIdx? q=aj)\/∃i,i<l.length/\Lib.fi p l.length 0=(i:aw)/\l.find? q=ah (el l i)/\l.findIdx? q=ah i:=by
 rcases Lib.pj p l.length 0 with ⟨e,ha⟩|⟨k,_,hk,e,hp,hb⟩
 ·have hn:∀x∈l,q x=false:=λx hx=>by obtain⟨i,hi,rfl⟩:=c8 hx;rw[<-h i hi,ha i (by omega) (by omega)]
  refine .inl ⟨e,WK.2 λx hx=>by rw[hn x hx];simp,Ee.2 hn⟩
 ·have vh:k<l.length:=by omega
  have f:l.findIdx? q=ah k:=mP.2 ⟨vh,by rw[<-h k vh];exact hp,λj hj=>by rw[<-h j (by omega),hb j (by omega) hj];simp⟩;refine .inr ⟨k,vh,e, ?_,f⟩;rw[Aq];exact⟨by rw[eH vh,<-h k vh];exact hp,k,vh,(eH vh).symm,λj hj=>by rw[<-h j (by omega),hb j (by omega) hj];rfl⟩
def lid(id:aw)(y:aA CV):aW:=decide (bE (y.getD 0 (.b ak))<id)
theorem S_{l:aA Cl}{c:Cl}(cs:l.Pairwise λa b=>a.id<b.id)(hn:lA l c.id=ak):
  (rc l).take ((rc l).takeWhile (lid c.id)).length++[Cl.row c]++(rc l).drop ((rc l).takeWhile (lid c.id)).length=rc (jn l c):=by
 rw[xY,wT];have iw:∀y∈l,y.id≠c.id:=λy hy e=>by unfold lA at hn;rw[List.any_eq_false]at hn;exact hn y hy (aE e)
 obtain⟨t1,t2⟩:=Lib.zN (λx:Cl=>decide (x.id<c.id)) (λx=>decide (x.id>c.id)) l (λy hy=>by
  have:=iw y hy;by_cases h:y.id<c.id
  ·rw[aE h,aK (by omega)];rfl
  ·rw[aK h,aE (by omega)];rfl) (cs.imp λ{a b} hab h=>aE (by have:=cm h;omega))
 unfold Lib.rc;rw[Oq,Oo];have e:lid c.id∘Cl.row=λx:Cl=>decide (x.id<c.id):=rfl;rw[e,t1,t2];unfold jn;rw[dh,dh];rfl
end ic

namespace wE
open Lib (rd el Fi)
open dI (sI jV)
def kN(left:aQ)(i:aF)(f:Fi):aw:=bif decide (i<left.length)then im ai f.kp (im ak (bE (ar left i 0)) (f.t.size:aw))else f.kp
def OE(left:aQ)(i:aF)(f:Fi):Fi:=⟨f.n,f.t.extract 0 (kN left i f).toNat,kN left i f⟩
def K_(d:aA Fi)(left:aQ):az (aA Fi):=bif sI d then ah (d.mapIdx (OE left))else aj
theorem K4(left:aQ)(i:aF){f:Fi}(h:0<=f.kp/\f.kp<=(f.t.size:aw)):f.kp<=kN left i f/\kN left i f<=(f.t.size:aw):=by
 unfold kN im;cases decide (i<left.length)with
 |false=>rw[ax];omega
 |true=>simp only[au,ax];split<;>split<;>omega
theorem ok(d:aA Fi)(left:aQ)(hd:d.length<=1000):c (rd d) left=ai/\v (rd d) left=rF.res (K_ d left):=by
 refine out _ _ ?_;unfold vo b K_;have h1:=rF.Y3 d (by omega);have h2:=s6.ok (rd d) (by rw[eA];omega);rw[h1.1,h1.2,au];cases hk:sI d with
 |false=>rfl
 |true=>
 rw[a_,ax,h2.1,h2.2,au,au,eA];obtain⟨q1,q2,q3⟩:=jV.1 hk;have rn:∀f∈d,0<=f.kp/\f.kp<=(f.t.size:aw):=λf hf=>by have:=q2 f hf;unfold dI.nF at this;simp only[aL,bc,dx,fg]at this;exact this.2.2
 refine nK Fi.row d (OE left) (λm (i:aF) (x:aQ)=>l5 Lib.cZ (λ(_ _:aQ) (_ _:aw) (y9:aQ)=>ah (y9,ai)) m left (rd d) (d.length:aw) (i:aw) x) (λx=>ah (x,ai)) (λm i L h h2 hl he=> ?_) (λm L hl=> ?_) Lib.cZ (cS (by omega))
 ·have hr:=K4 left i (rn _ (bB h));have h0:=(rn _ (bB h)).1;have hLl:(L.map Fi.row).length=L.length:=bU ..;have hs:∀n:aw,n=kN left i d[i]->eD (L.map Fi.row) i 0 [CV.s d[i].n,CV.s (d[i].t.extract (aY 0) n.toNat),CV.i ao n]=(L.set i (OE left i d[i])).map Fi.row:=λn hn=>by subst hn;exact kR Fi.row L i 0 _ (OE left i d[i]) h2 (by rw[he];rfl)
  have ci:∀k n,bE (CV.i k n)=n:=λ_ _=>rfl;have cs:∀x,bu (CV.s x)=x:=λ_=>rfl;by_cases hi:i<left.length
  ·have e:kN left i d[i]=im ai d[i].kp (im ak (bE (ar left i 0)) (d[i].t.size:aw)):=by unfold kN;rw[aE hi];rfl
   have ib:g9 0 (im ai d[i].kp (im ak (bE (ar left i 0)) (d[i].t.size:aw))) (d[i].t.size:aw)=true:=by rw[<-e];simp[g9];omega
   simp only[l5,r5,Lib.dq,h,hi,h2,hLl,eA,aN,Lib.cF,aM,au,Lib.dZ,Jx h,Wf h,Wg h,cs,ci,ib,hs _ e.symm,Lib.c6 h (by omega:d.length<=9223372036854775807)]
  ·have e:kN left i d[i]=d[i].kp:=by unfold kN;rw[aK hi];rfl
   have ib:g9 0 d[i].kp (d[i].t.size:aw)=true:=by have:=rn _ (bB h);simp[g9];omega
   simp only[l5,r5,Lib.dq,h,hi,h2,hLl,eA,aN,bj,Lib.cF,aM,au,ax,Lib.dZ,Jx h,Wf h,Wg h,cs,ci,ib,hs _ e.symm,Lib.c6 h (by omega:d.length<=9223372036854775807)]
 ·simp only[l5,r5,Lib.dq,bm,bj,ax]
end wE

namespace jJ
def eo(l:aQ)(i:aF):aW:=m8.v (bu (ar l i 0)) (bE (ar l i 1)) (bE (ar l i 2)) (bu (ar l i 3))
def tx(l:aQ)(i:aF):aq:=jI.sL (bu (ar l i 0)) (bE (ar l i 1)) (bE (ar l i 2)) (bu (ar l i 3))
def fs(l:aQ):aF->aF->aq->az aq
 |0,_,acc=>ah acc
 |d+1,i,acc=>if eo l i=ai then fs l d (i+1) (acc++fH.fr (tx l i))else aj
theorem GN(l:aQ)(d i:aF)(acc:aq):fs l (d+1) i acc=if eo l i=ai then fs l d (i+1) (acc++fH.fr (tx l i))else none:=rfl
def fin(o:az aq)(kf:az R)(kt:aq->az R):az R:=match o with|some x=>kt x|none=>kf
theorem MP(l:aQ)(hl:l.length<=1048576)(F:aF->aF->aq->az R)(kf:az R)(kt:aq->az R)
  (hT:∀m i acc,i<l.length->acc.size<=2000*i->(fH.fr (tx l i)).size<=2000->eo l i=ai->F (m+1) i acc=F m (i+1) (acc++fH.fr (tx l i)))
  (hF:∀m i acc,i<l.length->eo l i=ak->F (m+1) i acc=kf) (hE:∀m acc,F (m+1) l.length acc=kt acc):F Lib.cZ 0 ⟨#[]⟩=fin (fs l l.length 0 ⟨#[]⟩) kf kt:=by
 have:=Lib.gV (λn (z:aF×aq)=>F n z.1 z.2) (λz=>l.length-z.1) (λz=>z.1<=l.length/\z.2.size<=2000*z.1) (λz=>fin (fs l (l.length-z.1) z.1 z.2) kf kt) (λm z hz=>by
  obtain⟨i,acc⟩:=z;obtain⟨h1,h2⟩:=hz;dsimp only at h1 h2⊢;by_cases h:i<l.length
  ·have e:l.length-i=(l.length-(i+1))+1:=by omega
   cases ho:eo l i with
   |true=>
    right;have hs:=mR.tV ho;have hf:(fH.fr (tx l i)).size<=2000:=by have:=fH.Xi (t:=tx l i) (by unfold tx;omega);unfold tx at this⊢;omega
    exact⟨(i+1,acc++fH.fr (tx l i)),⟨h,by dsimp only;rw[Lib.j9];omega⟩,by dsimp only;omega,by dsimp only;rw[e,GN,bz ho],hT m i acc h h2 hf ho⟩
   |false=>left;rw[hF m i acc h ho,e,GN,bH (by simp[ho])];rfl
  ·left;have:i=l.length:=by omega
   subst this;rw[hE,Nat.sub_self];rfl) Lib.cZ (0,⟨#[]⟩) ⟨bI _,bI _⟩ (cS (by dsimp only;omega))
 simpa using this
def nm:aq:={data:= #[ay 110,ay 101,ay 119]}
def j8(has:aW)(x:aq):aQ:=(if has=ai then [[CV.i ao 4,CV.s nm,CV.s {data:= #[]},CV.s {data:= #[]}]]else [])++[[CV.i ao 1,CV.s nm,CV.s x,CV.s {data:= #[]}],[CV.i ao 2,CV.s nm,CV.s {data:= #[]},CV.s {data:= #[]}],[CV.i ao 3,CV.s nm,CV.s {data:= #[]},CV.s {data:= #[ay 107,ay 101,ay 112,ay 116]}]]
def val(d l:aQ):aQ×aW:=bif gK.val d then(match fs l l.length 0 ⟨#[]⟩with|some x=>(j8 (vP.val d nm).2 x,ai)|none=>([],ak))else([],ak)
theorem ok(d l:aQ)(hd:d.length<=1048576)(hl:l.length<=1048576):c d l=ai/\v d l=val d l:=by
 refine out d l ?_;have k1:=gK.ok d (by omega);have k2:=vP.ok d {data:= #[ay 110,ay 101,ay 119]} (by omega);have e2:vP.val d {data:= #[ay 110,ay 101,ay 119]}=vP.val d nm:=rfl;unfold vo b val;rw[k1.1,k1.2,au];cases gK.val d with
 |false=>rfl
 |true=>
  rw[a_,ax,au,k2.1,au,k2.2,e2];have tr:∀(K0:aQ->aW->aq->aw->aQ->aQ->az (aQ×aW)) (K1:aQ->aW->aq->aw->aQ->az (aQ×aW)) (base:aQ) (kt:aq->az (aQ×aW)) (h0:∀x i,K0 l ak x i [] base=ah ([],ak)) (h1:∀x i,K1 l ak x i base=kt x),l9 Lib.cZ K0 K1 Lib.cZ l ak ⟨#[]⟩ 0 base=fin (fs l l.length 0 ⟨#[]⟩) (ah ([],ak)) kt:=by
   intro K0 K1 base kt h0 h1;refine MP l hl (λm i acc=>l9 Lib.cZ K0 K1 m l ak acc (i:aw) base) _ kt (λm i acc hi ha hf ho=> ?_) (λm i acc hi ho=> ?_) (λm acc=> ?_)
   ·have mA:bJ ((i:aw)+1)=((i+1:aF):aw):=dj (by omega) (by omega);have t1:jI.v (bu (ar l i 0)) (bE (ar l i 1)) (bE (ar l i (1+1))) (bu (ar l i (1+1+1)))=(tx l i,ai):=by unfold jI.v;exact bz ho
    have f1:=fH.ok (tx l i);have f2:fH.val (tx l i)=(fH.fr (tx l i),ai):=by unfold fH.val;have q1:=mR.Bq ho;have q2:=mR.tV ho;rw[bz ⟨q1,dg q2 (by omega)⟩]
    simp only[l9,r9,Lib.dq,Lib.cF,Lib.dZ,hi,aN,aM,au,ax,t1,f1.1,f1.2,f2,a_,aE (show acc.size+(fH.fr (tx l i)).size<=4611686018427387904 by omega),mA]
   ·have t1:jI.v (bu (ar l i 0)) (bE (ar l i 1)) (bE (ar l i (1+1))) (bu (ar l i (1+1+1)))=(⟨#[]⟩,ak):=by unfold jI.v;rw[bH (by intro h;have h':eo l i=true:=h;rw[ho]at h';cases h')]
    have f1:=fH.ok ⟨#[]⟩;simp only[l9,r9,Lib.dq,Lib.cF,Lib.dZ,hi,aN,aM,au,t1,f1.1,bR];exact h0 acc i
   ·simp only[l9,r9,Lib.dq,bm,bj,ax];exact h1 acc _
  cases hh:(vP.val d nm).2 with
  |true=>rw[au];refine(tr _ _ _ (λx=>ah (j8 ai x,ai)) (λ_ _=>rfl) (λ_ _=>rfl)).trans ?_;cases fs l l.length 0 ⟨#[]⟩<;>rfl
  |false=>rw[ax];refine(tr _ _ _ (λx=>ah (j8 ak x,ai)) (λ_ _=>rfl) (λ_ _=>rfl)).trans ?_;cases fs l l.length 0 ⟨#[]⟩<;>rfl
end jJ

namespace pN
open Lib (re rd el En Fi)
open iF (kd kp EA tx HN base bt qV auj)
open dI (j8 act sI nF put without G9 ra Ac)
open fZ (So mv fm)
open wE (K_ OE kN K4)
abbrev qW:aq:={data:= #[ay 110,ay 101,ay 119]}
def s9(x:aq):aA Ac:=[⟨1,qW,x,⟨#[]⟩⟩,⟨2,qW,⟨#[]⟩,⟨#[]⟩⟩,⟨3,qW,⟨#[]⟩,qV⟩]
theorem Sh(T:aq):T.extract 0 T.size=T:=Lib.GF T
theorem Pm{d:aA Fi}(h:sI d=ai)(hk:∀f∈d,f.kp=(f.t.size:aw))(left:aQ):K_ d left=ah d:=by
 unfold K_;rw[h,au];congr 1;apply lP (by simp);intro i h1 h2;rw[List.getElem_mapIdx];have hf:=hk _ (bB h2);have hr:=K4 left i (f:=d[i]) ⟨by omega,by omega⟩;have e:kN left i d[i]=(d[i].t.size:aw):=by omega
 unfold OE;rw[e,dG,Sh];cases hd:d[i];rw[hd]at hf;dsimp only at hf⊢;rw[hf]
theorem OA(o:az aq):∀f∈base o,f.kp=(f.t.size:aw):=λf hf=>by
 cases o with
 |none=>cases hf
 |some t=>rw[aZ.1 hf]
theorem less:fm qV qW=true:=by unfold fm;rw[kq,kq];rfl
theorem aqV(t:aq)(k:aw)(h1:t.size<=20000)(h2:0<=k/\k<=(t.size:aw)):nF ⟨qW,t,k⟩=true:=by unfold nF;have:((qW.size:aF):aw)=3:=rfl;rw[this,aE (by omega),aE h2,aK (by dsimp only;omega)];rfl
theorem Hw{o:az aq}{x:aq}{k:aw}(h:(bt o).size<=20000)(hx:x.size<=20000)(hk:0<=k/\k<=(x.size:aw)):sI (base o++[⟨qW,x,k⟩])=true:=by
 refine dI.jV.2 ⟨?_,λf hf=> ?_, ?_⟩
 ·cases o<;>simp[base]
 ·rcases ba.1 hf with hf|hf
  ·exact(dI.jV.1 (iF.uj h)).2.1 f hf
  ·rw[aZ.1 hf];exact aqV x k hx hk
 ·cases o with
  |none=>exact HF ..
  |some t=>exact qB.2 ⟨λy hy=>by rw[aZ.1 hy];exact less,HF ..⟩
theorem nKN:qV≠qW:=by decide
theorem Sl(o:az aq)(x:aq)(k:aw):(base o++[(⟨qW,x,k⟩:Fi)]).find? (λy=>decide (y.n=qW))=ah ⟨qW,x,k⟩:=by
 cases o with
 |none=>rfl
 |some t=>rw[show base (ah t)++[(⟨qW,x,k⟩:Fi)]=[⟨qV,t,t.size⟩,⟨qW,x,k⟩]from rfl,Kd (by simp[nKN]),List.find?_cons_of_pos (by simp)]
theorem ajn(o:az aq):(base o).find? (λy=>decide (y.n=qW))=none:=by
 cases o with
 |none=>rfl
 |some t=>rw[show base (ah t)=[⟨qV,t,t.size⟩]from rfl,Kd (by simp[nKN]),List.find?_nil]
theorem ak0(o:az aq)(x:aq)(k:aw):put (base o) ⟨qW,x,k⟩=base o++[⟨qW,x,k⟩]:=by
 cases o with
 |none=>rfl
 |some t=>unfold put;rw[show base (ah t)=[⟨qV,t,t.size⟩]from rfl,dD (by simpa using less),cz (by simp[less])];rfl
theorem afJ(o:az aq)(x y:aq)(k m:aw):put (base o++[⟨qW,y,m⟩]) ⟨qW,x,k⟩=base o++[⟨qW,x,k⟩]:=by
 cases o with
 |none=>exact iF.xJ rfl
 |some t=>unfold put;rw[show base (ah t)++[(⟨qW,y,m⟩:Fi)]=[⟨qV,t,t.size⟩,⟨qW,y,m⟩]from rfl,dD (by simpa using less),cz (by rw[dI.irrefl];simp),cz (by simp[less]),cz (by simp)];rfl
theorem mov(o:az aq)(x:aq)(k:aw):put (without (base o++[⟨qW,x,k⟩]) qW) ⟨qV,x,k⟩=[⟨qV,x,k⟩]:=by
 have:without (base o++[⟨qW,x,k⟩]) qW=base o:=by
  unfold without;rw[ij,cz (by simp),List.filter_nil,dm,eE];intro f hf;cases o with
  |none=>cases hf
  |some t=>rw[aZ.1 hf];simp[nKN]
 rw[this];cases o with
 |none=>rfl
 |some t=>exact iF.xJ rfl
theorem a1{o:az aq}{x:aq}(h:(bt o).size<=20000)(hx:x.size<=20000):act (base o) 1 qW x ⟨#[]⟩=ah (base o++[⟨qW,x,0⟩]):=by
 unfold act;rw[iF.uj h,show dI.j7 1 x ⟨#[]⟩=ai from by unfold dI.j7;simp,aM,au];have hn:G9 (base o) 1 qW x ⟨#[]⟩=ah (base o++[⟨qW,x,0⟩]):=by unfold G9;rw[ajn];dsimp only;rw[bz rfl,ak0]
 rw[hn];dsimp only;rw[Hw h hx ⟨by omega,by omega⟩];rfl
theorem a2{o:az aq}{x:aq}(h:(bt o).size<=20000)(hx:x.size<=20000):act (base o++[⟨qW,x,0⟩]) 2 qW ⟨#[]⟩ ⟨#[]⟩=ah (base o++[⟨qW,x,x.size⟩]):=by
 unfold act;rw[Hw h hx ⟨by omega,by omega⟩,show dI.j7 2 ⟨#[]⟩ ⟨#[]⟩=ai from by unfold dI.j7;simp,aM,au];have hn:G9 (base o++[⟨qW,x,0⟩]) 2 qW ⟨#[]⟩ ⟨#[]⟩=ah (base o++[⟨qW,x,x.size⟩]):=by unfold G9;rw[Sl];dsimp only;rw[bH (by omega),bz rfl,afJ]
 rw[hn];dsimp only;rw[Hw h hx ⟨by omega,by omega⟩];rfl
theorem a3{o:az aq}{x:aq}(h:(bt o).size<=20000)(hx:x.size<=20000):act (base o++[⟨qW,x,x.size⟩]) 3 qW ⟨#[]⟩ qV=ah (base (ah x)):=by
 unfold act;rw[Hw h hx ⟨by omega,by omega⟩,show dI.j7 3 ⟨#[]⟩ qV=ai from by unfold dI.j7;simp,aM,au];have hn:G9 (base o++[⟨qW,x,x.size⟩]) 3 qW ⟨#[]⟩ qV=ah (base (ah x)):=by unfold G9;rw[Sl];dsimp only;rw[bH (by omega),bH (by omega),bz rfl,bH (by rintro (h|h);exact h rfl;exact nKN h),mov];rfl
 rw[hn];dsimp only;rw[iF.uj (o:=ah x) hx];rfl
theorem aqN{o:az aq}{x:aq}(h:(bt o).size<=20000)(hx:x.size<=20000):j8 (base o) 0 (s9 x)=(base (ah x),3):=by unfold s9 j8;dsimp only;rw[a1 h hx];dsimp only;unfold j8;dsimp only;rw[a2 h hx];dsimp only;unfold j8;dsimp only;rw[a3 h hx];rfl
theorem aes(l:aA En)(OY:∀x∈l,EA x=ai):∀(d i:aF) (acc:aq),d+i=l.length->jJ.fs (re l) d i acc=ah (acc++tx (l.drop i)):=by
 intro d;induction d with
 |zero=>
  intro i acc h;have:i=l.length:=by omega
  subst this;rw[di];exact lM ah (qt).symm
 |succ d ih=>
  intro i acc h;have hi:i<l.length:=by omega
  have h0:jJ.eo (re l) i=true:=by unfold jJ.eo;rw[oM hi,qx hi,show ar (re l) i 2=CV.i ao (el l i).li from qy hi,show ar (re l) i 3=CV.s (el l i).bo from qz hi];exact OY _ (kh hi)
  have h1:jJ.tx (re l) i=iF.sL l[i]:=by unfold jJ.tx;rw[oM hi,qx hi,show ar (re l) i 2=CV.i ao (el l i).li from qy hi,show ar (re l) i 3=CV.s (el l i).bo from qz hi,eH hi];rfl
  rw[jJ.GN,bz h0,h1,ih (i+1) _ (by omega),dE hi,Db];rfl
end pN

namespace kD
open Lib (En Fi Px Cl Fe el re rd rf rc rs rr)
open fZ (So mv)
open dI (sI j8 Ac ra)
open iF (sL EA HN tx kp base bt si)
open pN (s9)
open wE (K_)
def dk(o:az (aA En)):aA Fi:=base (o.map tx)
def es(o:az (aA En)):aA En:=o.getD []
theorem Ij(o:az (aA En)):bt (o.map tx)=tx (es o):=by cases o<;>rfl
theorem GC(o:az (aA En)):(dk o).length<=1:=by cases o<;>simp[dk,base]
theorem Ix{o:az (aA En)}(h:(tx (es o)).size<=20000):sI (dk o)=true:=iF.uj (by rw[Ij];exact h)
theorem W5{o:az (aA En)}(h:(tx (es o)).size<=20000)(left:aQ):K_ (dk o) left=ah (dk o):=pN.Pm (Ix h) (pN.OA _) left
theorem aap{o:az (aA En)}(h:(tx (es o)).size<=20000)(he:∀e∈es o,EA e=ai):(U61.c (rd (dk o))=ai/\U61.v (rd (dk o))=re (kp (es o)))/\(HG.c (rd (dk o))=ai/\HG.v (rd (dk o))=re (kp (es o))):=by refine iF.fk (dk o) (es o) ⟨#[]⟩ (Ix h) ?_ he (.inl rfl);unfold dk;rw[iF.Oz,Ij];exact(qt).symm
theorem MT{o:az (aA En)}{e:En}(h:(tx (es o)).size+(HN e).size<=20000):j8 (dk o) 0 (si (HN e))=(dk (ah (es o++[e])),2):=by unfold dk;rw[iF.Td (by rw[Ij];exact h),Ij,je,iF.ZB]
theorem MS{o:az (aA En)}{l:aA En}(h:(tx (es o)).size<=20000)(hl:(tx l).size<=20000):j8 (dk o) 0 (s9 (tx l))=(dk (ah l),3):=pN.aqN (by rw[Ij];exact h) hl
theorem aao{o:az (aA En)}{l:aA En}(hs:(tx (es o)).size<=20000)(OY:∀x∈l,EA x=ai):jJ.val (rd (dk o)) (re l)=(ra (s9 (tx l)),ai):=by
 unfold jJ.val;rw[show gK.val (rd (dk o))=ai from Ix hs,au,dy,pN.aes l OY l.length 0 ⟨#[]⟩ (by omega),fu];have zr:(vP.val (rd (dk o)) jJ.nm).2=false:=by unfold dk;rw[iF.fileAt,show jJ.nm=pN.qW from rfl,pN.ajn]
 dsimp only;rw[zr,show(⟨#[]⟩:aq)++tx l=tx l from lN];rfl
end kD

namespace fS
open Lib (rr rs re rf rc Px En el)
open fZ (So fP mv fm)
open kU (xX)
def JR:aA aw:=[0,0,0,0,0,0,0,0,0,0,0,0,0,0,0,0]
def p0(now:aw):Px:=⟨now,[],[],[],[JR,JR,JR],0,[],[],0⟩
def qm(e:En)(now:aw):aW:=Gl.v e.k e.st e.li e.bo now
def one(now:aw)(p:Px)(e:En):Px:=bif qm e now then xX p e else p
def qp(now:aw)(l:aA En):Px:=l.foldl (one now) (p0 now)
structure Inv (now:aw) (i:aF) (p:Px):Prop where
 so:So p.en
 ks:∀e∈p.en,1<=e.k.size
 en:p.en.length<=i
 w:p.w.length<=i
 m:p.m.length<=i
 s:eZ.lens p.s=[16,16,16]
 fe:p.fe=[]
 cl:p.cl=[]
 now:p.now=now
 hits:p.hits=0
theorem ar3(now:aw):Inv now 0 (p0 now):=⟨f_,λe h=>(nomatch h),cD _,cD _,cD _,rfl,rfl,rfl,rfl,rfl⟩
theorem Ti{s:aA (aA aw)}(h:eZ.lens s=[16,16,16]):s.length=3/\(∀q∈s,q.length=16)/\(s.map bS).sum=48:=by
 refine⟨?_,λq hq=> ?_, ?_⟩
 ·have:=lM bS h;unfold eZ.lens at this;simpa using this
 ·have:q.length∈eZ.lens s:=cU.2 ⟨q,hq,rfl⟩;rw[h]at this;simpa using this
 ·rw[show s.map bS=[16,16,16]from h];rfl
theorem Inv.fit{now:aw}{i:aF}{p:Px}(h:Inv now i p){n:aF}(hn:i<=n)(h48:48<=n):p.Fit n:=by
 obtain⟨a,b,c⟩:=Ti h.s;have hq:∀q∈p.s,q.length<=n:=λq hq=>by have:=b q hq;omega
 exact⟨dg h.en hn,dg h.w hn,dg h.m hn,⟨by omega,hq,by omega⟩,by rw[h.fe];exact bI _,by rw[h.cl];exact bI _⟩
theorem Inv.up{now:aw}{i:aF}{p:Px}(h:Inv now i p):Inv now (i+1) p:=⟨h.so,h.ks,nc h.en,nc h.w,nc h.m,h.s,h.fe,h.cl,h.now,h.hits⟩
theorem wb{en:aA En}(h:So en)(e:En):So (mv en e):=by have:=(lL.xE (fZ.CC h) e.k e.st e.li e.bo).1.1;rw[fZ.tL]at this;unfold Lib.re at this;rw[jr]at this;exact this
theorem Inv.store{now:aw}{i:aF}{p:Px}(h:Inv now i p)(e:En)(he:1<=e.k.size):Inv now (i+1) (xX p e):=by
 obtain⟨b1,b2,b3⟩:=eZ.LR p.w p.m p.s p.a e.k;have hw:=h.w;have hm:=h.m;have hn:=h.en;refine⟨?_, ?_, ?_,dg b1 (by omega),dg b2 (by omega),b3.trans h.s,h.fe,h.cl,h.now,h.hits⟩
 ·show So (bif _ then mv (fP p.en _) e else fP p.en _);cases fc.has (eZ.val p.w p.m p.s p.a e.k).1 e.k||fc.has (eZ.val p.w p.m p.s p.a e.k).2.1 e.k with
  |true=>exact wb (h.so.drop _) e
  |false=>exact h.so.drop _
 ·show∀x∈(bif _ then mv (fP p.en _) e else fP p.en _),1<=x.k.size;have hd:∀x∈fP p.en (eZ.val p.w p.m p.s p.a e.k).2.2.2.2,1<=x.k.size:=λx hx=>h.ks x (dc.1 hx).1;cases fc.has (eZ.val p.w p.m p.s p.a e.k).1 e.k||fc.has (eZ.val p.w p.m p.s p.a e.k).2.1 e.k with
  |true=>
   intro x hx;rw[au]at hx;unfold mv at hx;rcases ba.1 hx with hx|hx
   ·rcases ba.1 hx with hx|hx
    ·exact hd x (dc.1 hx).1
    ·rw[aZ]at hx;rw[hx];exact he
   ·exact hd x (dc.1 hx).1
  |false=>exact hd
 ·show(bif _ then mv (fP p.en _) e else fP p.en _).length<=i+1;have d:=fZ.wS p.en (eZ.val p.w p.m p.s p.a e.k).2.2.2.2;have q:=fZ.rU (fP p.en (eZ.val p.w p.m p.s p.a e.k).2.2.2.2) e (h.so.drop _);cases fc.has (eZ.val p.w p.m p.s p.a e.k).1 e.k||fc.has (eZ.val p.w p.m p.s p.a e.k).2.1 e.k with
  |true=>rw[au];omega
  |false=>rw[ax];omega
theorem zp{e:En}{now:aw}(h:qm e now=ai):m8.v e.k e.st e.li e.bo=true:=by
 unfold qm Gl.v at h;cases hq:m8.v e.k e.st e.li e.bo with
 |true=>rfl
 |false=>rw[show wC.v e.k e.st e.li e.bo=ak from hq]at h;cases h
theorem tC(now:aw)(l:aA En):∀i,i<=l.length->Inv now i (qp now (l.take i)):=by
 intro i;induction i with
 |zero=>intro _;exact ar3 now
 |succ i ih=>
  intro hi;have h:=ih (by omega);have e:qp now (l.take (i+1))=one now (qp now (l.take i)) l[i]:=by unfold qp;rw[cE (by omega),kT];rfl
  rw[e];unfold one;cases hf:qm l[i] now with
  |true=>exact h.store _ (m8.D0 (zp hf)).1.1
  |false=>exact h.up
theorem xO(now:aw)(l:aA En)(i:aF)(h:i<l.length):qp now (l.take (i+1))=one now (qp now (l.take i)) (el l i):=by unfold qp;rw[cE h,kT,eH h];rfl
end fS

namespace fN
open Lib (rr rs re rf rc Px)
theorem ok(p:Px)(hp:p.Fit 1048576):c p.now (re p.en) (rs p.w) (rs p.m) (rr p.s) p.a (rf p.fe) (rc p.cl) p.hits=ai/\v p.now (re p.en) (rs p.w) (rs p.m) (rr p.s) p.a (rf p.fe) (rc p.cl) p.hits=(p.now,re p.en,rs p.w,rs p.m,rr p.s,p.a,rf p.fe,rc p.cl,p.hits):=by have he:=hp.en;have hf:=hp.fe;have hc:=hp.cl;have h2:=fY.ok p.w p.m p.s p.a hp.w hp.m ⟨hp.s.1,hp.s.2.1⟩;exact out _ _ _ _ _ _ _ _ _ (by unfold vo b;rw[h2.1,h2.2,au,Lib.cq (b:=48) (by simp[aP,dy];omega) (by simp[aP,dy];omega),Lib.cq (b:=56) (by simp[aP,dL];omega) (by simp[aP,dL];omega),Lib.cq (b:=72) (by simp[aP,eU];omega) (by simp[aP,eU];omega)];rfl)
end fN

namespace qF
open Lib (rr rs re rf rc Px)
def later(now n:aw):aw:=bif decide (now>1000000000-n%1000)then 1000000000 else bJ (now+n%1000)
def val(p:Px)(n:aw):Px:={p with now:=later p.now n}
theorem tm(n:aw):(0<=cO n 1000->cO n 1000=n%1000)/\(cO n 1000<0->cO n 1000+1000=n%1000):=by
 rw[Int.tmod_eq_emod];by_cases h:0<=n\/(1000:aw)∣n
 ·rw[bz h];constructor<;>omega
 ·rw[bH h];have hd:¬(1000:aw)∣n:=λx=>h (.inr x);have:n%1000≠0:=λe=>hd (Int.dvd_of_emod_eq_zero e);constructor<;>simp<;>omega
theorem ok(p:Px)(n:aw)(hp:p.Fit 1048576):c p.now (re p.en) (rs p.w) (rs p.m) (rr p.s) p.a (rf p.fe) (rc p.cl) p.hits n=ai/\v p.now (re p.en) (rs p.w) (rs p.m) (rr p.s) p.a (rf p.fe) (rc p.cl) p.hits n=((val p n).now,re p.en,rs p.w,rs p.m,rr p.s,p.a,rf p.fe,rc p.cl,p.hits):=by
 have h:=fN.ok p hp;refine out _ _ _ _ _ _ _ _ _ _ ?_;have t:=tm n;unfold vo b val later;simp only[Lib.lt,h.1,h.2,au];by_cases hn:cO n 1000<0
 ·have e:=t.2 hn;rw[aE hn,au,e,dj (x:=n%1000) (by omega) (by omega),dj (x:=1000000000-n%1000) (by omega) (by omega)];cases decide (p.now>1000000000-n%1000)<;>rfl
 ·have e:=t.1 (by omega);rw[aK hn,ax,e,dj (x:=1000000000-n%1000) (by omega) (by omega)];cases decide (p.now>1000000000-n%1000)<;>rfl
end qF

namespace sZ
open Lib (rr rs re rf rc Px Cl el LW Wi Ob Wj PW PX Wk)
def val(p:Px)(id:aw):Px:={p with cl:=p.cl.filter λc=> !decide (c.id=id)}
theorem ok(p:Px)(id:aw)(hp:p.Fit 1048576):c p.now (re p.en) (rs p.w) (rs p.m) (rr p.s) p.a (rf p.fe) (rc p.cl) p.hits id=ai/\v p.now (re p.en) (rs p.w) (rs p.m) (rr p.s) p.a (rf p.fe) (rc p.cl) p.hits id=(p.now,re p.en,rs p.w,rs p.m,rr p.s,p.a,rf p.fe,rc (val p id).cl,p.hits):=by
 have h:=fN.ok p hp;have hc:=hp.cl;refine out _ _ _ _ _ _ _ _ _ _ ?_;unfold vo b;simp only[Lib.lt,h.1,h.2,au];have key:=ma p.cl.length (λn (i:aF) (x:aQ)=>l4 Lib.cZ (λ(_ _ _:aw) (_ _ _ _:aQ) (_:aw) (_ _:aQ) (_ _ _ _ y37 y38 y39:aw) (y40 y41 y42 y43 VK y45:aQ)=>ah (y37,y40,y41,y42,y43,y38,VK,y45,y39)) n id (i:aw) p.now (re p.en) (rs p.w) (rs p.m) (rr p.s) p.a (rf p.fe) (rc p.cl) p.hits 0 0 0 p.now p.a p.hits (re p.en) (rs p.w) (rs p.m) (rr p.s) (rf p.fe) x) (λi=>rc ((p.cl.take i).filter λc=> !decide (c.id=id))) (ah (p.now,re p.en,rs p.w,rs p.m,rr p.s,p.a,rf p.fe,rc (val p id).cl,p.hits)) (λn i hi=>by
  have hlen:((p.cl.take i).filter λc=> !decide (c.id=id)).length<=i:=by refine dg (eW ..) ?_;rw[eK];omega
  have e:(p.cl.take (i+1)).filter (λc=> !decide (c.id=id))=(p.cl.take i).filter (λc=> !decide (c.id=id))++(bif !decide ((el p.cl i).id=id)then [el p.cl i]else []):=by rw[cE hi,ij,eH hi];cases hd:decide (p.cl[i].id=id)<;>simp[hd]
  rw[e];simp only[l4,r4,eU,Lib.dq,hi,aN,Lib.cF,aM,au,Lib.dZ,LW hi,Wi hi,Ob hi,Wj hi,PW hi,PX hi,Wk hi,bu,bE,pL,bA,Lib.c6 hi (by omega:p.cl.length<=9223372036854775807)];rw[Lib.cq (by omega) (by omega),au,show((el p.cl i).id !=id)= !decide ((el p.cl i).id=id)from rfl];cases decide ((el p.cl i).id=id)with
  |true=>rw[a_,ax,ax,dm]
  |false=>rw[bR,au,au];unfold Lib.rc;rw[dh];rfl) (λn=>by
  simp only[l4,r4,eU,Lib.dq,bm,bj,ax,dY];rfl) Lib.cZ 0 (bI _) (cS (by omega))
 exact key
end sZ

namespace gF
open Lib (En Fi Px Cl Fe el)
open iF (kp EA)
open sQ (cls kB)
open gn (BU CL)
open ic (lA)
open kD (dk es)
structure Wo where
 p:Px
 o:az (aA En)
 cd:aA aw
 bd:aA En
structure Ev where
 k:aw
 id:aw
 t:aq
 n:aw
 l:aQ
def flag(b:aW):aw:=bif b then 0 else 1
def kC(w:Wo):aA En:=(kp (es w.o)).filter λe=>fS.qm e w.p.now
def closed(w:Wo)(id life:aw):Wo×aw:=
 let q:=cls w.p id life
 (bif q.2&&decide (life>0)then{w with p:=q.1,o:=ah (es w.o++[kB (el q.1.fe id.toNat)]),bd:=w.bd++[kB (el q.1.fe id.toNat)]}else{w with p:=q.1},flag q.2)
def zn(w:Wo):Wo:={w with p:=fS.qp w.p.now (kC w),o:=ah (kC w)}
def act(w:Wo)(e:Ev):Wo×aw:=
 bif decide (e.k=1)then({w with p:=(ic.ask w.p e.id e.t).1},(ic.ask w.p e.id e.t).2)
 else bif decide (e.k=2)then({w with p:=(CL w.p e.id e.t).1},flag (CL w.p e.id e.t).2)
 else bif decide (e.k=3)then closed w e.id (e.n%1000000)
 else bif decide (e.k=4)then({w with p:=(BU w.p e.id).1},flag (BU w.p e.id).2)
 else bif decide (e.k=5)then({w with p:=qF.val w.p e.n},0)
 else bif decide (e.k=6)then({w with p:=sZ.val w.p e.id},flag (lA w.p.cl e.id))
 else(zn w,0)
def step(w:Wo)(e:Ev):Wo:={(act w e).1 with cd:=w.cd++[(act w e).2]}
def iO(e:Ev):aW:=decide (1<=e.k/\e.k<=7)&&(decide (0<=e.id/\e.id<=30)&&(decide (e.t.size<=60)&&(decide (0<=e.n)&&decide (e.l.length<=4))))
end gF

namespace uI
open Lib (Px Cl Fe En el)
open fc (has gE)
open jx (eO sJ)
open nN (u5 HL MV)
open m9 (nF lD apart)
open qi (HK jd)
open fZ (So fm)
def Il(now:aw)(nf:aF)(c:Cl):aW:=
 decide (1<=c.id/\c.id<=9)&&(eO c.k&&(decide (1<=c.sta/\c.sta<=3)&&(decide (0<=c.fe/\c.fe<=(nf:aw))&&(decide ((c.km.size:aw)<=400)&&(decide (0<=c.fr/\c.fr<=now)&&decide (0<=c.age))))))
structure ik (p:Px):Prop where
 now:1<=p.now/\p.now<=1000000000
 en:∀e∈p.en,u5 e=ai
 so:So p.en
 ek:∀e∈p.en,e.k∈p.w\/e.k∈p.m
 pol:sJ p.w p.m p.s p.a=ai
 len:p.w.length+p.m.length=p.en.length
 fl:p.fe.length<=20
 fe:∀f∈p.fe,nF p.now f=ai
 ap:p.fe.Pairwise λf g=>lD g f=ak
 cll:p.cl.length<=6
 cl:∀c∈p.cl,Il p.now p.fe.length c=ai
 cs:p.cl.Pairwise λc d=>c.id<d.id
 hits:0<=p.hits/\p.hits<=1000000000
theorem Uo{α:Type}(R:α->α->Prop)(tr:∀x y z,R x y->R y z->R x z)(l:aA α)(h:∀i (hi:i+1<l.length),R (l[i]) (l[i+1])):l.Pairwise R:=by
 rw[dC];have adj:∀d i (hi:i+d+1<l.length),R (l[i]) (l[i+d+1]):=by
  intro d;induction d with
  |zero=>intro i hi;exact h i hi
  |succ d ih=>intro i hi;exact tr _ _ _ (ih i (by omega)) (h (i+d+1) (by omega))
 intro i j hi hj OZ;have:=adj (j-i-1) i (by omega);simp only[show i+(j-i-1)+1=j by omega]at this;exact this
theorem K9(x y z:aq)(a:fm x y=ai)(b:fm y z=ai):fm x z=true:=lL.pc _ _ _ a b
theorem akS{p:Px}(h:jd p=ai):ik p:=by
 obtain⟨h1,h2,h3,h4,h5,h6,h7⟩:_/\_/\_/\_/\_/\_/\_:=by unfold jd at h;simpa only[aL,bc,bn,iA]using h
 obtain⟨g1,g2,g3⟩:_/\_/\_:=by unfold MV at h2;simpa only[aL,bc,bn,iA]using h2
 have e1:∀i (hi:i<p.en.length),u5 p.en[i]=ai/\(0<i->fm (el p.en (i-1)).k p.en[i].k=ai)/\(p.en[i].k∈p.w\/p.en[i].k∈p.m):=λi hi=>by have:=g1 i hi;unfold HL at this;simp only[aL,dM,bc,eH hi,gE]at this;exact⟨this.1,λh0=>this.2.1.resolve_left (by omega),this.2.2⟩
 have c1:∀i (hi:i<p.cl.length),Il p.now p.fe.length p.cl[i]=ai/\(0<i->(el p.cl (i-1)).id<p.cl[i].id):=λi hi=>by have:=h7 i hi;unfold HK at this;unfold Il;simp only[aL,dM,bc,eH hi]at this⊢;exact⟨⟨this.1,this.2.2⟩,λh0=>this.2.1.resolve_left (by omega)⟩
 have f1:∀i (hi:i<p.fe.length),nF p.now p.fe[i]=ai/\∀j (hj:j<i),lD p.fe[i] (p.fe[j]'(by omega))=false:=λi hi=>by
  have:=h6 i hi;unfold apart at this;simp only[bn,iA,eH hi]at this;refine⟨this.1,λj hj=> ?_⟩
  have h:=this.2 j hj;rw[eH (show j<p.fe.length by omega)]at h;simpa using h
 refine⟨h1,λe he=> ?_, ?_,λe he=> ?_,g2,g3,h3,λf hf=> ?_, ?_,h4,λc hc=> ?_, ?_,h5⟩
 ·obtain⟨i,hi,rfl⟩:=c8 he;exact(e1 i hi).1
 ·refine Uo (λx y:En=>fm x.k y.k=ai) (λx y z a b=>K9 _ _ _ a b) p.en λi hi=> ?_;have:=(e1 (i+1) hi).2.1 (by omega);rw[P8,eH (show i<p.en.length by omega)]at this;exact this
 ·obtain⟨i,hi,rfl⟩:=c8 he;exact(e1 i hi).2.2
 ·obtain⟨i,hi,rfl⟩:=c8 hf;exact(f1 i hi).1
 ·rw[dC];intro i j hi hj OZ;exact(f1 j hj).2 i OZ
 ·obtain⟨i,hi,rfl⟩:=c8 hc;exact(c1 i hi).1
 ·refine Uo (λc d:Cl=>c.id<d.id) (λx y z a b=>Int.lt_trans a b) p.cl λi hi=> ?_;have:=(c1 (i+1) hi).2 (by omega);rw[P8,eH (show i<p.cl.length by omega)]at this;exact this
theorem ajp{p:Px}(h:ik p):jd p=true:=by
 unfold jd MV;simp only[aL,bc,bn,iA];refine⟨h.now,⟨λi hi=> ?_,h.pol,h.len⟩,h.fl,h.cll,h.hits,λi hi=>⟨?_, ?_⟩,λi hi=> ?_⟩
 ·unfold HL;simp only[aL,dM,bc,eH hi,gE];refine⟨h.en _ (bB hi), ?_,h.ek _ (bB hi)⟩
  by_cases h0:i=0
  ·exact .inl h0
  ·right;rw[eH (show i-1<p.en.length by omega)];exact dC.1 h.so (i-1) i (by omega) hi (by omega)
 ·rw[eH hi];exact h.fe _ (bB hi)
 ·unfold apart;simp only[bn,iA];intro j hj;rw[eH hi,eH (show j<p.fe.length by omega),dC.1 h.ap j i (by omega) hi hj];rfl
 ·have hc:=h.cl _ (bB hi);unfold Il at hc;unfold HK;simp only[aL,dM,bc,eH hi]at hc⊢;refine⟨hc.1, ?_,hc.2⟩
  by_cases h0:i=0
  ·exact .inl h0
  ·right;rw[eH (show i-1<p.cl.length by omega)];exact dC.1 h.cs (i-1) i (by omega) hi (by omega)
theorem pw{p:Px}:jd p=ai↔ik p:=⟨akS,ajp⟩
end uI

namespace HS
open fc (has without gE lK)
open jx (eO nA sJ)
open fD (od Nq sq)
theorem jB{w m:aA aq}{s:aA (aA aw)}{a:aw}:sJ w m s a=ai↔((∀k∈w++m,eO k=ai)/\(w++m).Nodup)/\w.length<=2/\m.length<=4/\od s a=true:=by unfold sJ;rw[aL,aL,aL,bc,bc,eZ.v5]
theorem Hn{s:aA (aA aw)}{a:aw}:od s a=ai↔s.length=3/\(0<=a/\a<=63)/\∀q∈s,q.length=16/\∀n∈q,0<=n/\n<=15:=by unfold od sq Nq;simp only[aL,bc,bn]
theorem LG{s:aA (aA aw)}{a:aw}(key:aq)(h:od s a=ai):od (du.val s a key).1 (du.val s a key).2=true:=by
 unfold du.val;rw[h,au];obtain⟨h1,h2,h3⟩:=Hn.1 h;obtain⟨b1,b2⟩:=du.td (key:=key) h1 h3;by_cases ha:a+1=64
 ·rw[aE ha,au,Hn];unfold du.half;refine⟨by rw[bU];exact b1,by omega,λq hq=> ?_⟩
  obtain⟨r,hr,rfl⟩:=cU.1 hq;refine⟨by rw[bU];exact(b2 r hr).1,λn hn=> ?_⟩
  obtain⟨k,hk,rfl⟩:=cU.1 hn;have:=(b2 r hr).2 k hk;rw[g7 this.1];omega
 ·rw[aK ha,ax,Hn];exact⟨b1,by omega,b2⟩
theorem G8{k:aq}(h:eO k=ai):k≠⟨#[]⟩:=by intro e;rw[e]at h;exact cJ h (by decide)
theorem tU{w m:aA aq}{s:aA (aA aw)}{a:aw}{key:aq}(h:sJ w m s a=ai)(hk:eO key=ai):
  sJ (eZ.val w m s a key).1 (eZ.val w m s a key).2.1 (eZ.val w m s a key).2.2.1 (eZ.val w m s a key).2.2.2.1=ai
  /\∀x,x∈(eZ.val w m s a key).1\/x∈(eZ.val w m s a key).2.1↔(x∈w\/x∈m\/x=key)/\x≠(eZ.val w m s a key).2.2.2.2:=by
 obtain⟨⟨k1,nd⟩,l1,l2,hs⟩:=jB.1 h;have Nc:=LG key hs;have kn:=G8 hk;have wn:∀x,x∈w\/x∈m->x≠⟨#[]⟩:=λx hx=>G8 (k1 x (ba.2 hx));unfold eZ.val;rw[h,hk,aM,au];generalize du.val s a key=V at Nc;obtain⟨S,A⟩:=V;dsimp only at Nc⊢;rw[eL]at nd;obtain⟨n1,n2,n3⟩:=nd;have hwo:∀l:aA aq,l.Nodup->(without l key).Nodup/\(∀x,x∈without l key↔x∈l/\x≠key):=λl hl=>by unfold without;exact⟨hl.sublist jN,λx=>by simp⟩
 cases h1:has w key with
 |true=>
  have hm:=gE.1 h1;obtain⟨o1,o2⟩:=hwo w n1;have o3:=fc.pB h1;dsimp only[au];refine⟨jB.2 ⟨⟨λk hx=> ?_, ?_⟩,by simp;omega,l2,Nc⟩,λx=> ?_⟩
  ·simp only[ba,aZ,o2]at hx;rcases hx with (hx|rfl)|hx
   ·exact k1 _ (ba.2 (.inl hx.1))
   ·exact hk
   ·exact k1 _ (ba.2 (.inr hx))
  ·simp only[eL,ba,aZ,o2];grind
  ·simp only[ba,aZ,o2];grind
 |false=>
  rw[ax];have hw:=lK.1 h1;cases h2:has m key with
  |true=>
   have hm:=gE.1 h2;obtain⟨o1,o2⟩:=hwo m n2;have o3:=fc.pB h2;dsimp only[au];refine⟨jB.2 ⟨⟨λk hx=> ?_, ?_⟩,l1,by simp;omega,Nc⟩,λx=> ?_⟩
   ·simp only[ba,aZ,o2]at hx;rcases hx with hx|hx|rfl
    ·exact k1 _ (ba.2 (.inl hx))
    ·exact k1 _ (ba.2 (.inr hx.1))
    ·exact hk
   ·simp only[eL,ba,aZ,o2];grind
   ·simp only[ba,aZ,o2];grind
  |false=>
   rw[ax];have hmn:=lK.1 h2;have nT:∀x,x∈w++[key]\/x∈m↔x∈w\/x∈m\/x=key:=λx=>by simp only[ba,aZ];grind
   have SC:∀x,x∈w++[key]\/x∈m->eO x=true:=λx hx=>by
    rcases(nT x).1 hx with hx|hx|rfl
    ·exact k1 _ (ba.2 (.inl hx))
    ·exact k1 _ (ba.2 (.inr hx))
    ·exact hk
   have I5:(w++[key]).Nodup/\∀x∈w++[key],x∉m:=by simp only[eL,ba,aZ];grind
   have hlen:(w++[key]).length=w.length+1:=by simp
   generalize w++[key]=W at nT SC I5 hlen;obtain⟨d1,d2⟩:=I5;by_cases h3:W.length<=2
   ·rw[aE h3,au];refine⟨jB.2 ⟨⟨λk hx=>SC k (ba.1 hx), ?_⟩,h3,l2,Nc⟩,λx=> ?_⟩
    ·simp only[eL];grind
    ·dsimp only;rw[nT];grind
   ·rw[aK h3,ax];cases W with
    |nil=>simp at hlen
    |cons x0 t=>
     rw[kH]at d1;rw[db]at hlen;have hg:(x0::t).getD 0 ⟨#[]⟩=x0:=rfl;have ht:(x0::t).tail=t:=rfl;rw[hg,ht];by_cases h4:m.length<4
     ·rw[aE h4,au];refine⟨jB.2 ⟨⟨λk hx=>SC k ?_, ?_⟩,by dsimp only;omega,by simp;omega,Nc⟩,λx=> ?_⟩
      ·simp only[ba,aZ,cy]at hx⊢;grind
      ·simp only[eL,ba,aZ,cy]at d2⊢;grind
      ·dsimp only;rw[<-nT];simp only[ba,aZ,cy];grind
     ·rw[aK h4,ax];cases m with
      |nil=>simp at h4
      |cons y0 u=>
       rw[kH]at n2;rw[db]at l2 h4;have hg2:(y0::u).getD 0 ⟨#[]⟩=y0:=rfl;have GW:(y0::u).tail=u:=rfl;rw[hg2,GW];cases decide (mG.val S A x0>mG.val S A y0)with
       |true=>
        rw[au];refine⟨jB.2 ⟨⟨λk hx=>SC k ?_, ?_⟩,by dsimp only;omega,by simp;omega,Nc⟩,λx=> ?_⟩
        ·simp only[ba,aZ,cy]at hx⊢;grind
        ·simp only[eL,ba,aZ,cy]at d2⊢;grind
        ·dsimp only;rw[<-nT];simp only[ba,aZ,cy]at d2⊢;grind
       |false=>
        rw[ax];refine⟨jB.2 ⟨⟨λk hx=>SC k ?_, ?_⟩,by dsimp only;omega,by simp;omega,Nc⟩,λx=> ?_⟩
        ·simp only[ba,cy]at hx⊢;grind
        ·simp only[eL,kH,cy]at d2⊢;grind
        ·dsimp only;rw[<-nT];simp only[cy]at d2⊢;grind
end HS

namespace Bt
open Lib (Px Cl Fe En el)
open fc (has without gE lK)
open jx (eO sJ)
open nN (u5)
open m9 (nF lD)
open qi (jd)
open fZ (So fm fP mv)
open kU (xX)
open uI (ik Il pw)
open HS (jB tU)
open gn (sP told BU CL iQ)
theorem aal{p:Px}(h:ik p){n:aw}(h1:p.now<=n)(h2:n<=1000000000):ik {p with now:=n}:=by
 have:=h.now;refine⟨⟨by dsimp only;omega,h2⟩,h.en,h.so,h.ek,h.pol,h.len,h.fl,λf hf=> ?_,h.ap,h.cll,λc hc=> ?_,h.cs,h.hits⟩
 ·have:=h.fe f hf;unfold nF at this⊢;simp only[aL,bc]at this⊢;exact⟨this.1,this.2.1,this.2.2.1,this.2.2.2.1,this.2.2.2.2.1,BD this.2.2.2.2.2 h1⟩
 ·have:=h.cl c hc;unfold Il at this⊢;simp only[aL,bc]at this⊢;exact⟨this.1,this.2.1,this.2.2.1,this.2.2.2.1,this.2.2.2.2.1,⟨this.2.2.2.2.2.1.1,BD this.2.2.2.2.2.1.2 h1⟩,this.2.2.2.2.2.2⟩
theorem Bp{p:Px}{n:aF}{g:Fe}{st:aw}(h:ik p)(hn:n<p.fe.length)(hk:g.k=(el p.fe n).k)(hg:nF p.now g=ai)(hs:g.sta=1->(el p.fe n).sta=1)(h1:1<=st/\st<=3):ik (told p n g st):=by
 rw[eH hn]at hk hs;refine⟨h.now,h.en,h.so,h.ek,h.pol,h.len, ?_,λf hf=> ?_, ?_, ?_,λc hc=> ?_, ?_,h.hits⟩
 ·show(p.fe.set n g).length<=20;rw[cB];exact h.fl
 ·rcases jG hf with q|rfl
  ·exact h.fe f q
  ·exact hg
 ·show(p.fe.set n g).Pairwise _;rw[dC];intro i j hi hj OZ;rw[cB]at hi hj;have:=dC.1 h.ap i j hi hj OZ;rw[RI,RI];unfold lD at this⊢;by_cases e1:n=i
  ·by_cases e2:n=j
   ·omega
   ·subst e1;simp only[if_true,e2,if_false];rw[hk];by_cases e3:g.sta=1
    ·rw[hs e3]at this;rw[e3];exact this
    ·rw[aK e3];simp
  ·by_cases e2:n=j
   ·subst e2;simp only[e1,if_true,if_false];rw[hk];by_cases e3:g.sta=1
    ·rw[hs e3]at this;rw[e3];exact this
    ·rw[aK e3];simp
   ·simp only[e1,e2,if_false];exact this
 ·show(uJ.nR p.cl n st g.t).length<=6;unfold uJ.nR;rw[bU];exact h.cll
 ·have IP:c∈uJ.nR p.cl n st g.t:=hc;unfold uJ.nR at IP;obtain⟨d,hd,rfl⟩:=cU.1 IP;have h2:=h.cl d hd;show Il p.now (p.fe.set n g).length _=ai;rw[cB];unfold uJ.ec;cases decide (d.fe=(n:aw)+1)&&decide (d.sta=1)with
  |false=>exact h2
  |true=>rw[au];unfold Il at h2⊢;unfold nF at hg;simp only[aL,bc]at h2 hg⊢;exact⟨h2.1,h2.2.1,h1,h2.2.2.2.1,hg.2.1,h2.2.2.2.2.2⟩
 ·show(uJ.nR p.cl n st g.t).Pairwise _;unfold uJ.nR;rw[jr];refine h.cs.imp λ{a b} hab=> ?_;have e:∀d:Cl,(uJ.ec n st g.t d).id=d.id:=λd=>by unfold uJ.ec;cases decide (d.fe=(n:aw)+1)&&decide (d.sta=1)<;>rfl
  rw[e,e];exact hab
theorem ID{p:Px}(h:ik p){n:aF}(hn:n<p.fe.length):eO (el p.fe n).k=ai/\((el p.fe n).t.size:aw)<=400/\(1<=(el p.fe n).sta/\(el p.fe n).sta<=3)/\(0<=(el p.fe n).li/\(el p.fe n).li<=999999)/\0<=(el p.fe n).st/\(el p.fe n).st<=p.now:=by have:=h.fe _ (kh hn);unfold nF at this;simpa only[aL,bc]using this
theorem R4{p:Px}(f:aw)(h:ik p):ik (BU p f).1:=by
 unfold BU;cases ho:sP p f with
 |false=>exact h
 |true=>obtain⟨n,rfl,hn,_,h1⟩:=iQ ho;obtain⟨g1,g2,g3,g4,g5⟩:=ID h hn;refine Bp h hn rfl ?_ (λe=>cJ e (by dsimp only;omega)) (by omega);unfold nF;simp only[aL,bc];exact⟨g1,g2,by omega,g4,g5⟩
theorem Un{p:Px}(f:aw)(t:aq)(h:ik p):ik (CL p f t).1:=by
 unfold CL;cases ho:sP p f&&(decide (1<=t.size/\t.size<=40)&&decide ((el p.fe f.toNat).t.size+t.size<=400))with
 |false=>exact h
 |true=>
  simp only[aL,bc]at ho;obtain⟨n,rfl,hn,_,h1⟩:=iQ ho.1;obtain⟨g1,g2,g3,g4,g5⟩:=ID h hn;rw[dG]at ho;refine Bp h hn rfl ?_ (λ_=>h1) (by omega);unfold nF;simp only[aL,bc];refine⟨g1, ?_,g3,g4,g5⟩
  show((((el p.fe n).t++t).size:aF):aw)<=400;rw[dJ];omega
def Ot(en:aA En)(w m:aA aq):Prop:=∀k,k∈w\/k∈m↔∃e∈en,e.k=k
theorem CY{en:aA En}(h:So en):(en.map λe=>e.k).Nodup:=by rw[la,jr];refine h.imp λ{a b} hab e=> ?_;rw[e]at hab;unfold fm at hab;rw[lL.oQ]at hab;cases hab
theorem Bm{p:Px}(h:ik p):Ot p.en p.w p.m:=by
 obtain⟨⟨_,nd⟩,_⟩:=jB.1 h.pol;have ne:=CY h.so;have sub:(p.en.map λe=>e.k)⊆p.w++p.m:=λx hx=>by obtain⟨e,he,rfl⟩:=cU.1 hx;exact ba.2 (h.ek e he)
 intro k;constructor
 ·intro hk;have hk:k∈p.w++p.m:=ba.2 hk;refine Am λhn=> ?_;have nn:(k::p.en.map λe=>e.k).Nodup:=kH.2 ⟨λhx=>hn (by obtain⟨e,he,q⟩:=cU.1 hx;exact⟨e,he,q⟩),ne⟩;have:=nn.length_le_of_subset (l₂:=p.w++p.m) (λx hx=>by
   rcases cy.1 hx with rfl|hx
   ·exact hk
   ·exact sub hx)
  have hl:=h.len;simp only[db,bU,bT]at this;omega
 ·rintro ⟨e,he,rfl⟩;exact h.ek e he
theorem of_same{en:aA En}{w m:aA aq}{s:aA (aA aw)}{a:aw}(h:Ot en w m)(so:So en)(hp:sJ w m s a=ai):(∀e∈en,e.k∈w\/e.k∈m)/\w.length+m.length=en.length:=by
 obtain⟨⟨_,nd⟩,_⟩:=jB.1 hp;refine⟨λe he=>(h _).2 ⟨e,he,rfl⟩, ?_⟩
 have:=((List.perm_ext_iff_of_nodup nd (CY so)).2 λx=>by rw[ba,h x,cU]).length_eq;rw[bT,bU]at this;exact this
theorem jm{en:aA En}{k:aq}{e:En}:e∈fP en k↔e∈en/\e.k≠k:=by unfold fP;simp
theorem jW{en:aA En}{x e:En}:x∈mv en e↔x=e\/(x∈en/\x.k≠e.k):=by
 unfold mv;simp only[ba,dc,aZ,dx,iG,fg];constructor
 ·rintro ((⟨h1,h2⟩|rfl)|⟨h1,h2⟩)
  ·refine .inr ⟨h1,λe2=> ?_⟩;rw[e2]at h2;unfold fm at h2;rw[lL.oQ]at h2;cases h2
  ·exact .inl rfl
  ·exact .inr ⟨h1,h2.2⟩
 ·rintro (rfl|⟨h1,h2⟩)
  ·exact .inl (.inr rfl)
  ·cases hl:fm x.k e.k with
   |true=>exact .inl (.inl ⟨h1,rfl⟩)
   |false=>exact .inr ⟨h1,rfl,h2⟩
theorem wb{en:aA En}(h:So en)(e:En):So (mv en e):=by have:=(lL.xE (fZ.CC h) e.k e.st e.li e.bo).1.1;rw[fZ.tL]at this;unfold Lib.re at this;rw[jr]at this;exact this
theorem LO{p:Px}{e:En}(h:ik p)(he:u5 e=ai):ik (xX p e):=by
 have hk:eO e.k=true:=by have:=(m8.D0 he).1;unfold eO;exact aE (by omega)
 obtain⟨t1,t2⟩:=tU h.pol hk;have sm:=Bm h;unfold xX;generalize eZ.val p.w p.m p.s p.a e.k=V at t1 t2;obtain⟨W,M,S,A,G⟩:=V;dsimp only at t1 t2⊢;have key:∀en',So en'->(∀x∈en',u5 x=ai)->Ot en' W M->ik ⟨p.now,en',W,M,S,A,p.fe,p.cl,p.hits⟩:=λen' o1 o2 o3=>by obtain⟨q1,q2⟩:=of_same o3 o1 t1;exact⟨h.now,o2,o1,q1,t1,q2,h.fl,h.fe,h.ap,h.cll,h.cl,h.cs,h.hits⟩
 have d1:So (fP p.en G):=h.so.drop G;have d2:∀x∈fP p.en G,u5 x=true:=λx hx=>h.en x (jm.1 hx).1;cases hh:has W e.k||has M e.k with
 |true=>
  rw[au];have gq:e.k∈W\/e.k∈M:=by rwa[dM,gE,gE]at hh
  refine key _ (wb d1 e) (λx hx=> ?_) λk=> ?_
  ·rcases jW.1 hx with rfl|q
   ·exact he
   ·exact d2 x q.1
  ·rw[t2 k];have hg:=((t2 e.k).1 gq).2;constructor
   ·rintro ⟨q,hn⟩;by_cases e1:k=e.k
    ·exact⟨e,jW.2 (.inl rfl),e1.symm⟩
    ·have q2:k∈p.w\/k∈p.m:=q.elim .inl λq=>q.elim .inr λq=>cJ q e1;obtain⟨x,hx,rfl⟩:=(sm k).1 q2;exact⟨x,jW.2 (.inr ⟨jm.2 ⟨hx,hn⟩,e1⟩),rfl⟩
   ·rintro ⟨x,hx,rfl⟩;rcases jW.1 hx with rfl|q
    ·exact⟨.inr (.inr rfl),hg⟩
    ·obtain⟨q1,q2⟩:=jm.1 q.1;exact⟨((sm x.k).2 ⟨x,q1,rfl⟩).elim .inl λz=> .inr (.inl z),q2⟩
 |false=>
  rw[ax];have gq:¬(e.k∈W\/e.k∈M):=by rw[<-gE,<-gE,<-dM,hh];simp
  have hg:e.k=G:=Am λhn=>gq ((t2 e.k).2 ⟨.inr (.inr rfl),hn⟩);refine key _ d1 d2 λk=> ?_;rw[t2 k];constructor
  ·rintro ⟨q,hn⟩;have q2:k∈p.w\/k∈p.m:=q.elim .inl λq=>q.elim .inr λq=>cJ (q.trans hg) hn;obtain⟨x,hx,rfl⟩:=(sm k).1 q2;exact⟨x,jm.2 ⟨hx,hn⟩,rfl⟩
  ·rintro ⟨x,hx,rfl⟩;obtain⟨q1,q2⟩:=jm.1 hx;exact⟨((sm x.k).2 ⟨x,q1,rfl⟩).elim .inl λz=> .inr (.inl z),q2⟩
end Bt

namespace Dg
theorem eq(k:aq)(s l:aw)(b:aq)(n:aw):Gl.v k s l b n=Dg.v k s l b n:=by
 have e:wC.v k s l b=m8.v k s l b:=rfl;unfold Gl.v Dg.v;rw[e];cases h:m8.v k s l b with
 |false=>rfl
 |true=>
  have hs:(0<=s/\s<=1000000000)/\1<=l/\l<=999999:=by unfold m8.v at h;cases h1:sV.v k<;>rw[h1]at h<;>simp only[au,ax,dv]at h;cases h2:kl.v s 0 1000000000<;>rw[h2]at h<;>simp only[au,ax,dv]at h;cases h3:kl.v l 1 999999<;>rw[h3]at h<;>simp only[au,ax,dv]at h;simp[kl.v]at h2 h3;omega
  simp only[au,RR.v,lz.v,kl.v,cK,bc];by_cases h1:0<=n/\n<=1000000000
  ·rw[iE (x:=n-s) (by omega) (by omega),iE (x:=s+l) (by omega) (by omega),iE (x:=s+l-1) (by omega) (by omega)];by_cases h2:s<=n<;>by_cases h3:n-s<l<;>simp[h1,h2,h3]<;>omega
  ·by_cases h2:s<=n<;>by_cases h3:0<=n<;>by_cases h4:n<=1000000000<;>simp[h2,h3,h4]<;>omega
end Dg

namespace Ff
open Lib (Px Cl Fe En el)
open fc (has without gE lK)
open jx (eO sJ)
open nN (u5)
open m9 (nF lD)
open qi (jd)
open fZ (So fm fP mv)
open uI (ik Il pw)
open HS (jB tU LG G8)
open Bt (Ot Bm of_same jm)
open ic (hit sH put HM NB EX lA jn rP qm)
theorem ZA(l:aA Cl)(n:aw):(l.filter λx=>decide (x.id<n)).length+(l.filter λx=>decide (x.id>n)).length<=l.length:=by
 induction l with
 |nil=>exact cD _
 |cons y l ih=>
  simp only[List.filter_cons];by_cases h1:y.id<n
  ·rw[aE h1,aK (show¬y.id>n by omega)];simp only[if_true,dv,if_false,db];omega
  ·rw[aK h1];by_cases h2:y.id>n
   ·rw[aE h2];simp only[if_true,dv,if_false,db];omega
   ·rw[aK h2];simp only[dv,if_false,db];omega
theorem abo{l:aA Cl}{c:Cl}(cs:l.Pairwise λa b=>a.id<b.id):(jn l c).length<=l.length+1/\((jn l c).Pairwise λa b=>a.id<b.id)/\∀x∈jn l c,x=c\/x∈l:=by
 unfold jn;refine⟨?_, ?_,λx hx=> ?_⟩
 ·have:=ZA l c.id;simp only[bT,db,jO];omega
 ·rw[cu,n5];refine⟨cs.filter _, ?_,λa ha b hb=> ?_⟩
  ·rw[uO,qB];exact⟨λb hb=>cm (dc.1 hb).2,cs.filter _⟩
  ·have ha:=cm (dc.1 ha).2;rcases ba.1 hb with hb|hb
   ·rw[aZ]at hb;rw[hb];exact ha
   ·have hb:=cm (dc.1 hb).2;omega
 ·rcases ba.1 hx with hx|hx
  ·rcases ba.1 hx with hx|hx
   ·exact .inr (dc.1 hx).1
   ·exact .inl (aZ.1 hx)
  ·exact .inr (dc.1 hx).1
theorem Zz{w m:aA aq}{s:aA (aA aw)}{a:aw}{key:aq}(h:key∈w\/key∈m):(eZ.val w m s a key).2.2.2.2=⟨#[]⟩:=by
 unfold eZ.val;cases sJ w m s a&&eO key with
 |false=>rfl
 |true=>
  rw[au];cases h1:has w key with
  |true=>rfl
  |false=>have h2:has m key=true:=gE.2 (h.resolve_left (lK.1 h1));rw[h2];rfl
theorem JN{w m:aA aq}{s:aA (aA aw)}{a:aw}{key:aq}(h:sJ w m s a=ai)(hk:eO key=ai):(has (eZ.val w m s a key).1 key||has (eZ.val w m s a key).2.1 key)=true:=by
 obtain⟨⟨k1,nd⟩,l1,l2,hs⟩:=jB.1 h;rw[dM,gE,gE];refine((tU h hk).2 key).2 ⟨.inr (.inr rfl), ?_⟩;have kn:=G8 hk;unfold eZ.val;rw[h,hk,aM,au];cases h1:has w key with
 |true=>exact kn
 |false=>
  rw[ax];have hw:=lK.1 h1;cases h2:has m key with
  |true=>exact kn
  |false=>
   rw[ax];have hm:=lK.1 h2;by_cases h3:(w++[key]).length<=2
   ·rw[aE h3];exact kn
   ·rw[aK h3,ax];have iw:(w++[key]).getD 0 ⟨#[]⟩≠key:=by
     cases w with
     |nil=>simp at h3
     |cons x w=>intro e;exact hw (by rw[<-e];simp)
    by_cases h4:m.length<4
    ·rw[aE h4];exact kn
    ·rw[aK h4,ax];cases decide (mG.val (du.val s a key).1 (du.val s a key).2 ((w++[key]).getD 0 ⟨#[]⟩)>mG.val (du.val s a key).1 (du.val s a key).2 (m.getD 0 ⟨#[]⟩))with
     |true=>
      intro e;cases m with
      |nil=>simp at h4
      |cons x m=>exact hm (by rw[e];simp)
     |false=>exact λe=>iw e.symm
theorem aeG{p:Px}{id:aw}{key:aq}{e:En}(h:ik p)(IV:1<=id/\id<=9)(hk:eO key=ai)(hl:p.cl.length<6)(he:e∈p.en)(hek:e.k=key)(KX:e.st<=p.now):ik (hit p id key e):=by
 have gq:key∈p.w\/key∈p.m:=by rw[<-hek];exact h.ek e he
 obtain⟨t1,t2⟩:=tU h.pol hk;have tg:=Zz (s:=p.s) (a:=p.a) gq;have sm:=Bm h;have hr:=m8.D0 (h.en e he);obtain⟨j1,j2,j3⟩:=abo (c:=⟨id,key,0,e.st,2,e.bo,p.now-e.st⟩) h.cs;unfold hit;generalize eZ.val p.w p.m p.s p.a key=V at t1 t2 tg;obtain⟨W,M,S,A,G⟩:=V;dsimp only at t1 t2 tg⊢;subst tg;have sm2:Ot p.en W M:=λk=>by
  rw[t2 k];refine Iff.trans ?_ (sm k);constructor
  ·rintro ⟨q|q|rfl,_⟩
   ·exact .inl q
   ·exact .inr q
   ·exact gq
  ·intro q;refine⟨q.elim .inl λq=> .inr (.inl q), ?_⟩
   obtain⟨x,hx,rfl⟩:=(sm k).1 q;have:=(m8.D0 (h.en x hx)).1;intro e;rw[e]at this;exact cJ this.1 (by decide)
 obtain⟨q1,q2⟩:=of_same sm2 h.so t1;refine⟨h.now,h.en,h.so,q1,t1,q2,h.fl,h.fe,h.ap,by dsimp only;omega,λc hc=> ?_,j2, ?_⟩
 ·rcases j3 c hc with rfl|hc
  ·unfold Il;simp only[aL,bc];exact⟨IV,hk,by omega,⟨by omega,by omega⟩,by omega,⟨by omega,KX⟩,by omega⟩
  ·exact h.cl c hc
 ·have:=h.hits;dsimp only;by_cases hh:p.hits<1000000000
  ·rw[aE hh,au];omega
  ·rw[aK hh,ax];exact this
theorem Hy{l:aA aq}{k x:aq}:x∈without l k↔x∈l/\x≠k:=by unfold without;simp
theorem Hf{p:Px}{id:aw}{key:aq}{h:aW}{fe:aA Fe}{i:aF}(ho:ik p)(IV:1<=id/\id<=9)(hk:eO key=ai)(hl:p.cl.length<6)(hn:p.fe.length<=fe.length)(Qh:fe.length<=20)(hf:∀f∈fe,nF p.now f=ai)(hap:fe.Pairwise λf g=>lD g f=ak)(hi:i<fe.length)(hp:h=ak->True):ik (put p id key h fe i):=by
 obtain⟨⟨k1,nd⟩,l1,l2,hs⟩:=jB.1 ho.pol;have Nc:=LG key hs;have sm:=Bm ho;obtain⟨j1,j2,j3⟩:=abo (c:=⟨id,key,(i:aw)+1,0,1,(el fe i).t,0⟩) ho.cs;have hfi:=hf _ (kh hi);have oU:∀c∈jn p.cl ⟨id,key,(i:aw)+1,0,1,(el fe i).t,0⟩,Il p.now fe.length c=true:=λc hc=>by
  rcases j3 c hc with rfl|hc
  ·unfold nF at hfi;unfold Il;simp only[aL,bc]at hfi⊢;have:=ho.now;exact⟨IV,hk,by omega,⟨by omega,by omega⟩,hfi.2.1,⟨by omega,by omega⟩,by omega⟩
  ·have:=ho.cl c hc;unfold Il at this⊢;simp only[aL,bc]at this⊢;exact⟨this.1,this.2.1,this.2.2.1,⟨this.2.2.2.1.1,by omega⟩,this.2.2.2.2⟩
 unfold put;cases h with
 |false=>have Xw:sJ p.w p.m (du.val p.s p.a key).1 (du.val p.s p.a key).2=true:=jB.2 ⟨⟨k1,nd⟩,l1,l2,Nc⟩;exact⟨ho.now,ho.en,ho.so,ho.ek,Xw,ho.len,Qh,hf,hap,by dsimp only;omega,oU,j2,ho.hits⟩
 |true=>
  have Xw:sJ (without p.w key) (without p.m key) (du.val p.s p.a key).1 (du.val p.s p.a key).2=true:=by
   refine jB.2 ⟨⟨λk hx=> ?_, ?_⟩,dg fc.ir l1,dg fc.ir l2,Nc⟩
   ·rcases ba.1 hx with q|q
    ·exact k1 k (ba.2 (.inl (Hy.1 q).1))
    ·exact k1 k (ba.2 (.inr (Hy.1 q).1))
   ·have:without p.w key++without p.m key=(p.w++p.m).filter λx=> !decide (x=key):=by unfold without;rw[ij]
    rw[this];exact nd.sublist jN
  have sm2:Ot (fP p.en key) (without p.w key) (without p.m key):=λk=>by
   rw[Hy,Hy];constructor
   ·intro q;have iw:k≠key:=q.elim (·.2) (·.2);obtain⟨x,hx,rfl⟩:=(sm k).1 (q.elim (λq=> .inl q.1) (λq=> .inr q.1));exact⟨x,jm.2 ⟨hx,iw⟩,rfl⟩
   ·rintro ⟨x,hx,rfl⟩;obtain⟨hx,iw⟩:=jm.1 hx;exact((sm x.k).2 ⟨x,hx,rfl⟩).elim (λq=> .inl ⟨q,iw⟩) (λq=> .inr ⟨q,iw⟩)
  have so:=ho.so.drop key;obtain⟨q1,q2⟩:=of_same sm2 so Xw;exact⟨ho.now,λe he=>ho.en e (jm.1 he).1,so,q1,Xw,q2,Qh,hf,hap,by dsimp only;omega,oU,j2,ho.hits⟩
theorem Np{p:Px}{id:aw}{key:aq}{h:aW}(ho:ik p)(IV:1<=id/\id<=9)(hk:eO key=ai)(hl:p.cl.length<6):ik (sH p id key h).1:=by
 unfold sH;cases Xt:NB p.fe key with
 |some i=>have hi:i<p.fe.length:=(mP.1 Xt).1;exact Hf ho IV hk hl (cD _) ho.fl ho.fe ho.ap hi (λ_=>trivial)
 |none=>
  dsimp only;by_cases Qh:p.fe.length<20
  ·rw[aE Qh,au];have zr:∀f∈p.fe,EX key f=false:=λf hf=>by have:=Ee.1 Xt f hf;simpa using this
   have aiC:=ho.now;refine Hf ho IV hk hl (by simp) (by simp;omega) (λf hf=> ?_) ?_ (by simp) (λ_=>trivial)
   ·rcases ba.1 hf with q|q
    ·exact ho.fe f q
    ·rw[aZ]at q;subst q;unfold nF rP;simp only[aL,bc];exact⟨hk,by show((0:aF):aw)<=400;omega,by omega,by omega,by omega,by omega⟩
   ·rw[n5];refine⟨ho.ap,by simp,λa ha b hb=> ?_⟩
    rw[aZ]at hb;subst hb;have:=zr a ha;unfold EX at this;unfold lD rP;dsimp only;revert this;rw[show decide (key=a.k)=decide (a.k=key)from by rw[ca];exact V6];cases decide (a.k=key)<;>cases decide (a.sta=1)<;>simp
  ·rw[aK Qh];exact ho
theorem ad6{p:Px}(id:aw)(key:aq)(h:ik p):ik (ic.ask p id key).1:=by
 unfold ic.ask;cases hg:jd p&&(decide (1<=id/\id<=9)&&(eO key&&(!lA p.cl id&&decide (p.cl.length<6))))with
 |false=>exact h
 |true=>
  simp only[aL,bc]at hg;obtain⟨_,IV,hk,_,hl⟩:=hg;rw[au];cases he:HM p.en key with
  |none=>exact Np h IV hk hl
  |some e=>
   dsimp only;cases hf:qm e p.now with
   |false=>exact Np h IV hk hl
   |true=>
    unfold HM at he;have h1:=qA he;have h2:=u_ he;refine aeG h IV hk hl h1 (cm h2) ?_;unfold qm at hf;rw[Dg.eq]at hf;unfold Dg.v at hf;rw[show m8.v e.k e.st e.li e.bo=ai from h.en e h1,au,show kl.v p.now e.st 1000000000=decide (e.st<=p.now/\p.now<=1000000000)from fD.eI _ _ _]at hf;cases hd:decide (e.st<=p.now/\p.now<=1000000000)with
    |true=>exact(cm hd).1
    |false=>rw[hd]at hf;cases hf
end Ff

namespace Fg
open Lib (Px Cl Fe En el)
open uI (ik Il pw)
open Bt (aal)
theorem zx{now n:aw}(h:1<=now/\now<=1000000000):now<=qF.later now n/\qF.later now n<=1000000000:=by
 unfold qF.later;have:=WH n (show(1000:aw)≠0 by omega);have:=P5 n (show(0:aw)<1000 by omega);by_cases hc:now>1000000000-n%1000
 ·rw[aE hc,au];omega
 ·rw[aK hc,ax,dj (by omega) (by omega)];omega
theorem Y_{p:Px}(n:aw)(h:ik p):ik (qF.val p n):=aal h (zx h.now).1 (zx h.now).2
theorem Th{p:Px}(id:aw)(h:ik p):ik (sZ.val p id):=
 ⟨h.now,h.en,h.so,h.ek,h.pol,h.len,h.fl,h.fe,h.ap,dg (eW _ _) h.cll,λc hc=>h.cl c (dc.1 hc).1,h.cs.sublist jN,h.hits⟩
end Fg

namespace ie
open Lib (Px Cl Fe En el)
open fc (has gE)
open jx (eO sJ)
open nN (u5)
open m9 (nF lD)
open qi (jd)
open uI (ik Il pw)
open gn (sP told BU CL iQ)
open sQ (cls kB)
open kU (xX)
open iF (EA HN tx kp sL)
open kD (dk es)
open gF (Wo Ev closed zn kC iO flag)
open Bt (Bp ID R4 Un LO)
def on(l:aA Fe):aF:=l.countP λf=>decide (f.sta=1)
theorem vb5{x:aw}(h:x<=1000000000):(bytesOf (Lib.vb x)).size<=5:=by
 rw[Lib.iR]
 exact Lib.Bs 4 x (by have:(128:aw)^5=34359738368:=by decide
                      omega)
theorem KK{e:En}(h:EA e=ai):(HN e).size<=460:=by
 have hr:=m8.D0 h;have z1:=vb5 (x:=(e.k.size:aw)) (by omega);have z2:=vb5 (x:=e.st) (by omega);have z3:=vb5 (x:=e.li) (by omega);have ht:(sL e).size<=445:=by unfold sL jI.sL;simp only[Lib.j9];omega
 have z4:=vb5 (x:=((sL e).size:aw)) (by omega);unfold HN fH.fr;rw[Lib.j9,Lib.j9,o7.size];omega
theorem Vy(l:aA En)(h:∀e∈l,EA e=ai):(tx l).size<=460*l.length:=by
 induction l with
 |nil=>exact cD _
 |cons e l ih=>have h1:=KK (h e (by simp));have h2:=ih λx hx=>h x (by simp[hx]);have:(tx (e::l)).size=(HN e).size+(tx l).size:=dJ;rw[this,db];omega
structure s8 (i:aF) (w:Wo):Prop where
 px:ik w.p
 eo:∀e∈es w.o,EA e=ai
 ct:2*(es w.o).length+on w.p.fe<=i
 cd:w.cd.length=i
 bd:w.bd.length<=i
 bo:∀e∈w.bd,EA e=ai
theorem s8.len{i:aF}{w:Wo}(h:s8 i w)(hi:i<=71):(es w.o).length<=35:=by have:=h.ct;omega
theorem s8.tx{i:aF}{w:Wo}(h:s8 i w)(hi:i<=71):(tx (es w.o)).size<=16100:=by have:=Vy _ h.eo;have:=h.len hi;omega
theorem Lk{l:aA Fe}{n:aF}{g:Fe}(hn:n<l.length):on (l.set n g)+(if(el l n).sta=1 then 1 else 0)=on l+(if g.sta=1 then 1 else 0):=by
 unfold on;rw[List.countP_set hn,eH hn];have hle:l[n].sta=1->1<=l.countP λf=>decide (f.sta=1):=λh=>List.countP_pos_iff.2 ⟨_,bB hn,aE h⟩;generalize l.countP (λf=>decide (f.sta=1))=m at hle;by_cases h1:l[n].sta=1
 ·have:=hle h1;by_cases h2:g.sta=1
  ·rw[bz h1,bz h2,bz (aE h1),bz (aE h2)];omega
  ·rw[bz h1,bH h2,bz (aE h1),bH (by rw[aK h2];simp)];omega
 ·by_cases h2:g.sta=1
  ·rw[bH h1,bz h2,bH (by rw[aK h1];simp),bz (aE h2)];omega
  ·rw[bH h1,bH h2,bH (by rw[aK h1];simp),bH (by rw[aK h2];simp)];omega
theorem UD{now:aw}(hn:1<=now/\now<=1000000000)(l:aA En):ik (fS.qp now l):=by
 have key:∀(l:aA En) (p:Px),ik p->ik (l.foldl (fS.one now) p):=by
  intro l;induction l with
  |nil=>intro p h;exact h
  |cons e l ih=>
   intro p h;rw[Dt];refine ih _ ?_;unfold fS.one;cases hf:fS.qm e now with
   |true=>exact LO h (fS.zp hf)
   |false=>exact h
 refine key l _ ⟨hn,λe h=>(by cases h),f_,λe h=>(by cases h), ?_,rfl,bI _,λf h=>(by cases h),f_,bI _,λc h=>(by cases h),f_,by show(0:aw)<=0/\(0:aw)<=1000000000;omega⟩;refine HS.jB.2 ⟨⟨λk h=>(by cases h),List.nodup_nil⟩,bI _,bI _,HS.Hn.2 ⟨rfl,by show(0:aw)<=0/\(0:aw)<=63;omega,λq hq=> ?_⟩⟩;have:q=fS.JR:=by change q∈[fS.JR,fS.JR,fS.JR]at hq;simp at hq;exact hq
 subst this;refine⟨rfl,λn hn=> ?_⟩
 unfold fS.JR at hn;simp at hn;omega
theorem Kw{p:Px}{f life:aw}(h:ik p)(hl:0<=life/\life<=999999):
  ik (cls p f life).1/\(((cls p f life).2=ak/\(cls p f life).1=p)\/((cls p f life).2=ai/\∃n:aF,f=(n:aw)/\n<p.fe.length/\(cls p f life).1.fe=p.fe.set n {el p.fe n with sta:=2,li:=life,st:=p.now}/\(el p.fe n).sta=1/\
   (life>0->EA (kB {el p.fe n with sta:=2,li:=life,st:=p.now})=ai/\(has (cls p f life).1.w (el p.fe n).k||has (cls p f life).1.m (el p.fe n).k)=ai))):=by
 unfold cls;cases ho:sP p f&&decide (0<=life/\life<=999999)with
 |false=>exact⟨h, .inl ⟨rfl,rfl⟩⟩
 |true=>
  rw[aL]at ho;obtain⟨n,rfl,hn,_,h1⟩:=iQ ho.1;obtain⟨g1,g2,g3,g4,g5⟩:=ID h hn;have aiC:=h.now;rw[au,dG];have ht:ik (told p n {el p.fe n with sta:=2,li:=life,st:=p.now} 2):=by refine Bp h hn rfl ?_ (λe=>cJ e (by dsimp only;omega)) (by omega);unfold nF;simp only[aL,bc];exact⟨g1,g2,by omega,hl,by omega,by omega⟩
  have he:life>0->EA (kB {el p.fe n with sta:=2,li:=life,st:=p.now})=true:=λO3=>by unfold EA kB m8.v;dsimp only;rw[jx.iP,g1,au,show kl.v p.now 0 1000000000=decide (0<=p.now/\p.now<=1000000000)from fD.eI _ _ _,aE (show 0<=p.now/\p.now<=1000000000 by omega),au,show kl.v life 1 999999=decide (1<=life/\life<=999999)from fD.eI _ _ _,aE (show 1<=life/\life<=999999 by omega),au];exact aE g2
  by_cases O3:life>0
  ·rw[aE O3,au];have gq:=Ff.JN (key:=(el p.fe n).k) ht.pol g1;exact⟨LO ht (he O3), .inr ⟨rfl,n,rfl,hn,rfl,h1,λ_=>⟨he O3,gq⟩⟩⟩
  ·rw[aK O3,ax];exact⟨ht, .inr ⟨rfl,n,rfl,hn,rfl,h1,λh=>cJ h O3⟩⟩
theorem ad7(p:Px)(id:aw)(key:aq):on (ic.ask p id key).1.fe<=on p.fe+1:=by
 have hm:∀h,on (ic.sH p id key h).1.fe<=on p.fe+1:=λh=>by
  unfold ic.sH;cases ic.NB p.fe key with
  |some i=>exact jt _
  |none=>
   dsimp only;cases decide (p.fe.length<20)with
   |true=>show on (p.fe++[ic.rP key])<=_;unfold on;rw[List.countP_append];exact cD _
   |false=>exact jt _
 unfold ic.ask;cases jd p&&(decide (1<=id/\id<=9)&&(eO key&&(!ic.lA p.cl id&&decide (p.cl.length<6))))with
 |false=>exact jt _
 |true=>
  rw[au];cases ic.HM p.en key with
  |none=>exact hm _
  |some e=>
   dsimp only;cases ic.qm e p.now with
   |false=>exact hm _
   |true=>exact jt _
theorem Cd(w:Wo):(kC w).length<=(es w.o).length:=dg (eW ..) (iF.K7 _)
theorem GM{w:Wo}(h:∀e∈es w.o,EA e=ai):∀e∈kC w,EA e=true:=λe he=>h e (iF.K8 (dc.1 he).1)
theorem Bo{i:aF}{w:Wo}{e:Ev}(h:s8 i w)(he:iO e=ai):s8 (i+1) (gF.step w e):=by
 unfold iO at he;simp only[aL,bc]at he;obtain⟨hk,IV,ht,hn,hl⟩:=he;have hct:=h.ct;have hbd:=h.bd;have cdl:∀n:aw,(w.cd++[n]).length=i+1:=λn=>by rw[bT,h.cd];rfl
 have px':∀(p:Px) (n:aw),ik p->on p.fe<=on w.p.fe+1->s8 (i+1) {{w with p:=p}with cd:=w.cd++[n]}:=λp n hp ho=>⟨hp,h.eo,by dsimp only;omega,cdl n,nc h.bd,h.bo⟩
 unfold gF.step gF.act;by_cases k1:e.k=1
 ·rw[aE k1,au];exact px' _ _ (Ff.ad6 _ _ h.px) (ad7 ..)
 rw[aK k1,ax];by_cases k2:e.k=2
 ·rw[aE k2,au];refine px' _ _ (Un _ _ h.px) ?_;unfold CL;cases ho:sP w.p e.id&&(decide (1<=e.t.size/\e.t.size<=40)&&decide ((el w.p.fe e.id.toNat).t.size+e.t.size<=400))with
  |false=>exact jt _
  |true=>
   rw[aL]at ho;obtain⟨n,en,hn,_,h1⟩:=iQ ho.1;rw[en,dG];have q:∀g:Fe,g.sta=(el w.p.fe n).sta->on (w.p.fe.set n g)<=on w.p.fe+1:=λg hg=>by have:=Lk (g:=g) hn;rw[hg]at this;omega
   exact q _ rfl
 rw[aK k2,ax];by_cases k3:e.k=3
 ·rw[aE k3,au];have hlr:0<=e.n%1000000/\e.n%1000000<=999999:=by omega
  obtain⟨q1,q2⟩:=Kw (f:=e.id) h.px hlr;unfold closed;dsimp only;rcases q2 with ⟨r1,r2⟩|⟨r1,n,rn,hn,rf,rs,rl⟩
  ·rw[r1,lE,ax];exact px' _ _ q1 (by rw[r2];exact jt _)
  ·have:=Lk (g:={el w.p.fe n with sta:=2,li:=e.n%1000000,st:=w.p.now}) hn;rw[bz rs,bH (show¬(2:aw)=1 by omega)]at this;have ho:on (cls w.p e.id (e.n%1000000)).1.fe+1=on w.p.fe:=by rw[rf];exact this
   rw[r1,bh];by_cases O3:e.n%1000000>0
   ·rw[aE O3,au];obtain⟨s1,s2⟩:=rl O3;have hx:EA (kB (el (cls w.p e.id (e.n%1000000)).1.fe e.id.toNat))=true:=by rw[rn,dG,<-rn,rf,gn.iN hn];exact s1
    refine⟨q1,λy hy=> ?_, ?_,cdl _, ?_,λy hy=> ?_⟩
    ·rcases ba.1 hy with hy|hy
     ·exact h.eo y hy
     ·rw[aZ]at hy;rw[hy];exact hx
    ·show 2*(es w.o++[_]).length+on (cls w.p e.id (e.n%1000000)).1.fe<=i+1;rw[bT,bA];omega
    ·show(w.bd++[_]).length<=i+1;rw[bT,bA];omega
    ·rcases ba.1 hy with hy|hy
     ·exact h.bo y hy
     ·rw[aZ]at hy;rw[hy];exact hx
   ·rw[aK O3,ax];exact px' _ _ q1 (by omega)
 rw[aK k3,ax];by_cases k4:e.k=4
 ·rw[aE k4,au];refine px' _ _ (R4 _ h.px) ?_;unfold BU;cases ho:sP w.p e.id with
  |false=>exact jt _
  |true=>
   obtain⟨n,en,hn,_,h1⟩:=iQ ho;rw[en,dG];have q:∀g:Fe,g.sta=3->on (w.p.fe.set n g)<=on w.p.fe+1:=λg hg=>by have:=Lk (g:=g) hn;rw[bz h1,bH (show¬g.sta=1 by omega)]at this;omega
   exact q _ rfl
 rw[aK k4,ax];by_cases k5:e.k=5
 ·rw[aE k5,au];exact px' _ _ (Fg.Y_ _ h.px) (jt _)
 rw[aK k5,ax];by_cases k6:e.k=6
 ·rw[aE k6,au];exact px' _ _ (Fg.Th _ h.px) (jt _)
 rw[aK k6,ax];have M_:=Cd w;have hinv:=fS.tC w.p.now (kC w) (kC w).length (cD _);rw[dY]at hinv;refine⟨UD h.px.now _,GM h.eo, ?_,cdl _,nc h.bd,h.bo⟩
 show 2*(kC w).length+on (fS.qp w.p.now (kC w)).fe<=i+1;rw[hinv.fe];show 2*(kC w).length+0<=i+1;omega
end ie

namespace fT
open Lib (rr rs re rf rc rd Px En el oM qx qy qz)
open gF (Wo Ev)
open kD (dk es)
def ri(l:aA aw):aQ:=l.map λn=>[CV.i ao n]
theorem gP(l:aA aw):(ri l).length=l.length:=by unfold ri;simp
def vQ(w:Wo):aw×aQ×aQ×aQ×aQ×aw×aQ×aQ×aw×aQ×aQ×aQ:=(w.p.now,re w.p.en,rs w.p.w,rs w.p.m,rr w.p.s,w.p.a,rf w.p.fe,rc w.p.cl,w.p.hits,rd (dk w.o),ri w.cd,re w.bd)
theorem tP(l:aA En)(e:En):re l++aD (aP [Ck.s,Ck.i ao,Ck.i ao,Ck.s] 1) 0 [CV.s e.k,CV.i ao e.st,CV.i ao e.li,CV.s e.bo]=re (l++[e]):=by unfold Lib.re;rw[dh];rfl
theorem ab9(l:aA aw)(n:aw):ri l++aD (aP [Ck.i ao] 1) 0 [CV.i ao n]=ri (l++[n]):=by unfold ri;rw[dh];rfl
theorem ave(l:aA En):aP [Ck.s,Ck.i ao,Ck.i ao,Ck.s] 0++re l=re l:=rfl
theorem avf(l:aA aw):aP [Ck.i ao] 0++ri l=ri l:=rfl
theorem nH(ks:aA Ck)(y:aA CV):(aD (aP ks 1) 0 y).length=1:=rfl
theorem ki{p:Px}(h:uI.ik p):p.Fit 1048576:=(kU.ki (uI.pw.2 h)).le (by omega)
theorem lt_eq{α β:Type}(x:α)(f:α->β):Lib.lt x f=f x:=by have h:∀y,y=Lib.lt x f->y=f x:=λy hy=>hy.trans (Eq.refl _);exact h _ (Eq.refl _)
end fT

namespace p8
open Lib (rr rs re rf rc rd Px En el)
open gF (Wo Ev iO)
open kD (dk es)
open ie (s8)
open fT (ri vQ)
instance:Inhabited Ev:=⟨⟨0,0,⟨#[]⟩,0,[]⟩⟩
def Evr(e:Ev):aA CV:=[CV.i ao e.k,CV.i ao e.id,CV.s e.t,CV.i ao e.n,CV.l 3 e.l]
def rv(l:aA Ev):aQ:=l.map Evr
theorem tO(l):(rv l).length=l.length:=by unfold rv;simp
theorem wv0{l:aA Ev}{i:aF}(h:i<l.length):ar (rv l) i 0=CV.i ao (el l i).k:=fU _ l i 0 h
theorem wv1{l:aA Ev}{i:aF}(h:i<l.length):ar (rv l) i 1=CV.i ao (el l i).id:=fU _ l i 1 h
theorem wv2{l:aA Ev}{i:aF}(h:i<l.length):ar (rv l) i (1+1)=CV.s (el l i).t:=fU _ l i 2 h
theorem wv3{l:aA Ev}{i:aF}(h:i<l.length):ar (rv l) i (1+1+1)=CV.i ao (el l i).n:=fU _ l i 3 h
theorem wv4{l:aA Ev}{i:aF}(h:i<l.length):ar (rv l) i (1+1+1+1)=CV.l 3 (el l i).l:=fU _ l i 4 h
theorem Nz(e:Ev):U31.v e.k e.id e.t e.n e.l=iO e:=by unfold U31.v iO;rw[show lz.v e.k 1 7=decide (1<=e.k/\e.k<=7)from fD.eI _ _ _,show lz.v e.id 0 30=decide (0<=e.id/\e.id<=30)from fD.eI _ _ _,show decide (((e.t.size:aF):aw)<=60)=decide (e.t.size<=60)from by rw[ca];omega,show decide (e.n≥0)=decide (0<=e.n)from rfl,show decide (((e.l.length:aF):aw)<=4)=decide (e.l.length<=4)from by rw[ca];omega];cases decide (1<=e.k/\e.k<=7)<;>cases decide (0<=e.id/\e.id<=30)<;>cases decide (e.t.size<=60)<;>cases decide (0<=e.n)<;>rfl
def w0:Wo:=⟨fS.p0 1,aj,[],[]⟩
def run(l:aA Ev):Wo:=l.foldl gF.step w0
theorem CT(l:aA Ev)(i:aF)(h:i<l.length):run (l.take (i+1))=gF.step (run (l.take i)) (el l i):=by unfold run;rw[cE h,kT,eH h];rfl
theorem alL:s8 0 w0:=by refine⟨ie.UD (now:=1) (by omega) [],λe h=>(by cases h),cD _,rfl,cD _,λe h=>(by cases h)⟩
theorem Ly{l:aA Ev}(h:∀e∈l,iO e=ai):∀i,i<=l.length->s8 i (run (l.take i)):=by
 intro i;induction i with
 |zero=>intro _;exact alL
 |succ i ih=>intro hi;rw[CT l i hi];exact ie.Bo (ih (by omega)) (h _ (kh hi))
theorem LA{l:aA Ev}(h:∀e∈l,iO e=ai):s8 l.length (run l):=by have:=Ly h l.length (cD _);rwa[dY]at this
def W13(w:Wo)(b:aW):aw×aQ×aQ×aQ×aQ×aw×aQ×aQ×aw×aQ×aQ×aQ×aW:=(w.p.now,re w.p.en,rs w.p.w,rs w.p.m,rr w.p.s,w.p.a,rf w.p.fe,rc w.p.cl,w.p.hits,rd (dk w.o),ri w.cd,re w.bd,b)
def IL(l:aA Ev):aW:=decide (l.length<=70)&&(cw l.length).all λi=>iO (el l i)
def life(l:aA Ev):aw×aQ×aQ×aQ×aQ×aw×aQ×aQ×aw×aQ×aQ×aQ×aW:=bif IL l then W13 (run l) ai else(0,[],[],[],[],0,[],[],0,[],[],[],ak)
theorem Cf{l:aA Ev}:IL l=ai↔l.length<=70/\∀e∈l,iO e=true:=by unfold IL;rw[aL,bc,bn];refine and_congr Iff.rfl ⟨λh e he=> ?_,λh i hi=>h _ (kh (iA.1 hi))⟩;obtain⟨i,hi,rfl⟩:=c8 he;have:=h i (iA.2 hi);rwa[eH hi]at this
end p8

namespace dr
def I(q:aQ)(a:aw):Prop:=0<=a/\a<=(q.length:aw)/\q.length<=1048576
theorem D0(x:BitVec 64):0<=bJ ((dV (jq x (b_ 64 255)):aF):aw)/\bJ ((dV (jq x (b_ 64 255)):aF):aw)<=255:=by
 have h:dV (jq x (b_ 64 255))<=255:=by have e:dV (jq x (b_ 64 255))=x.toNat&&&255:=BitVec.toNat_and x (b_ 64 255);rw[e];exact Nat.and_le_right
 rw[dj (by omega) (by omega)];omega
theorem ok(q:aQ)(a s:aw)(hI:I q a):∃n a' s',c q a s=ai/\v q a s=(n,q,a',s')/\I q a'/\0<=n/\n<=255:=by
 obtain⟨h0,h1,h2⟩:=hI;by_cases h:a<(q.length:aw)
 ·have hw:bJ (a+1)=a+1:=dj (by omega) (by omega);have hvo:∃n s',vo q a s=ah (n,q,a+1,s')/\0<=n/\n<=255:=by unfold vo b;rw[aE h,aE h0,au,aM,au,hw];exact⟨_,_,rfl,D0 _⟩
  obtain⟨n,s',hv,hr⟩:=hvo;obtain⟨e1,e2⟩:=out q a s hv;exact⟨n,a+1,s',e1,e2,⟨by omega,by omega,h2⟩,hr⟩
 ·have hvo:∃n s',vo q a s=ah (n,q,a,s')/\0<=n/\n<=255:=by unfold vo b;rw[aK h,ax];exact⟨_,_,rfl,D0 _⟩
  obtain⟨n,s',hv,hr⟩:=hvo;obtain⟨e1,e2⟩:=out q a s hv;exact⟨n,a,s',e1,e2,⟨h0,h1,h2⟩,hr⟩
end dr

namespace nX
theorem ok(q:aQ)(a s k:aw)(hI:dr.I q a):∃n a' s',c q a s k=ai/\v q a s k=(n,q,a',s')/\dr.I q a'/\0<=n/\(0<k->n<k):=by
 by_cases hk:k<=0
 ·obtain⟨e1,e2⟩:=out q a s k (x:=(0,q,a,s)) (by unfold vo b;rw[aE hk,au]);exact⟨0,a,s,e1,e2,hI,by omega,λh=>by omega⟩
 ·have hm:∀x:aw,0<=x->0<=cO x k/\cO x k<k:=λx hx=>by rw[ig hx];exact⟨WH _ (by omega),P5 _ (by omega)⟩
  have hk0:¬k=0:=by omega
  obtain⟨n1,a1,s1,c1,v1,I1,g1,u1⟩:=dr.ok q a s hI;by_cases h2:k<=256
  ·obtain⟨e1,e2⟩:=out q a s k (x:=(cO n1 k,q,a1,s1)) (by unfold vo b;simp only[hk,h2,hk0,c1,v1,aN,bj,au,ax,bR]);exact⟨_,a1,s1,e1,e2,I1,(hm n1 g1).1,λ_=>(hm n1 g1).2⟩
  ·obtain⟨n2,a2,s2,c2,v2,I2,g2,u2⟩:=dr.ok q a1 s1 I1;obtain⟨n3,a3,s3,c3,v3,I3,g3,u3⟩:=dr.ok q a2 s2 I2;obtain⟨n4,a4,s4,c4,v4,I4,g4,u4⟩:=dr.ok q a3 s3 I3;have w1:bJ (n1*16777216)=n1*16777216:=dj (by omega) (by omega);have w2:bJ (n2*65536)=n2*65536:=dj (by omega) (by omega);have w3:bJ (n3*256)=n3*256:=dj (by omega) (by omega);have w4:bJ (n1*16777216+n2*65536)=n1*16777216+n2*65536:=dj (by omega) (by omega);have w5:bJ (n1*16777216+n2*65536+n3*256)=n1*16777216+n2*65536+n3*256:=dj (by omega) (by omega);have w6:bJ (n1*16777216+n2*65536+n3*256+n4)=n1*16777216+n2*65536+n3*256+n4:=dj (by omega) (by omega);obtain⟨e1,e2⟩:=out q a s k (x:=(cO (n1*16777216+n2*65536+n3*256+n4) k,q,a4,s4)) (by unfold vo b;simp only[hk,h2,hk0,c1,v1,c2,v2,c3,v3,c4,v4,w1,w2,w3,w4,w5,w6,aN,bj,au,ax,bR]);have:=hm (n1*16777216+n2*65536+n3*256+n4) (by omega);exact⟨_,a4,s4,e1,e2,I4,this.1,λ_=>this.2⟩
end nX

namespace HI
theorem ok(q:aQ)(a s k:aw)(hI:dr.I q a):∃x a' s',c q a s k=ai/\v q a s k=(x,q,a',s')/\dr.I q a':=by obtain⟨n1,a1,s1,c1,v1,I1,g1,u1⟩:=nX.ok q a s k hI;obtain⟨e1,e2⟩:=out q a s k (x:=(decide (n1=0),q,a1,s1)) (by unfold vo b;simp only[c1,v1,au]);exact⟨_,a1,s1,e1,e2,I1⟩
end HI

namespace zW
theorem ok(q:aQ)(a s:aw)(l:aQ)(hI:dr.I q a)(hl:0<l.length):∃i a' s',c q a s l=ai/\v q a s l=(bE (ar l i 0),q,a',s',l)/\dr.I q a'/\i<l.length:=by obtain⟨n1,a1,s1,c1,v1,I1,g1,u1⟩:=nX.ok q a s (l.length:aw) hI;have hu:=u1 (by omega);obtain⟨e1,e2⟩:=out q a s l (x:=(bE (ar l n1.toNat 0),q,a1,s1,l)) (by unfold vo b;simp only[c1,v1,g1,hu,aN,aM,au]);exact⟨n1.toNat,a1,s1,e1,e2,I1,by omega⟩
end zW

namespace pI
theorem ok(q:aQ)(a s:aw)(l:aQ)(hI:dr.I q a)(hl:0<l.length):∃i a' s',c q a s l=ai/\v q a s l=(bu (ar l i 0),q,a',s',l)/\dr.I q a'/\i<l.length:=by obtain⟨n1,a1,s1,c1,v1,I1,g1,u1⟩:=nX.ok q a s (l.length:aw) hI;have hu:=u1 (by omega);obtain⟨e1,e2⟩:=out q a s l (x:=(bu (ar l n1.toNat 0),q,a1,s1,l)) (by unfold vo b;simp only[c1,v1,g1,hu,aN,aM,au]);exact⟨n1.toNat,a1,s1,e1,e2,I1,by omega⟩
end pI

namespace uR
theorem ok(q:aQ)(a s:aw)(hI:dr.I q a):∃k a' s',c q a s=ai/\v q a s=(k,q,a',s')/\dr.I q a'/\k.size=2:=by
 obtain⟨i,a1,s1,c1,v1,I1,g1⟩:=pI.ok q a s (aD (aD (aD (aD (aD (aD (aD (aD (aP [Ck.s] 8) 0 [CV.s {data:= #[ay 47,ay 97]}]) 1 [CV.s {data:= #[ay 47,ay 98]}]) 2 [CV.s {data:= #[ay 47,ay 99]}]) 3 [CV.s {data:= #[ay 47,ay 100]}]) 4 [CV.s {data:= #[ay 47,ay 101]}]) 5 [CV.s {data:= #[ay 47,ay 102]}]) 6 [CV.s {data:= #[ay 47,ay 103]}]) 7 [CV.s {data:= #[ay 47,ay 104]}]) hI (by simp[aP]);obtain⟨e1,e2⟩:=out q a s (x:=(_,q,a1,s1)) (by unfold vo b;simp only[c1,v1,au];rfl);refine⟨_,a1,s1,e1,e2,I1, ?_⟩
 have g2:i<8:=by simpa [aP]using g1
 match i,g2 with
 |0,_=>rfl
 |1,_=>rfl
 |2,_=>rfl
 |3,_=>rfl
 |4,_=>rfl
 |5,_=>rfl
 |6,_=>rfl
 |7,_=>rfl
end uR

namespace A_Post
open dr (I)
def jH{α:Type}(o:az α)(P:α->Prop):Prop:=∃x,o=ah x/\P x
theorem ret{α:Type}{x:α}{P:α->Prop}(h:P x):jH (ah x) P:=⟨x,rfl,h⟩
theorem br{α:Type}{b:aW}{A B:az α}{P:α->Prop}(h1:b=ai->jH A P)(h2:b=ak->jH B P):jH (bif b then A else B) P:=by
 cases b
 ·exact h2 rfl
 ·exact h1 rfl
theorem ck{α:Type}{b:aW}{A B:az α}{P:α->Prop}(h:b=ai)(h1:jH A P):jH (bif b then A else B) P:=by subst h;exact h1
theorem cn{α:Type}{b:aW}{A B:az α}{P:α->Prop}(h:b=ak)(h1:jH B P):jH (bif b then A else B) P:=by subst h;exact h1
theorem eq{α:Type}{o o':az α}{P:α->Prop}(e:o=o')(h:jH o' P):jH o P:=by rw[e];exact h
theorem call{α β:Type}{b:aW}{w u:β}{X:β->az α}{P:α->Prop}(h:b=ai)(e:w=u)(hx:jH (X u) P):jH (bif b then Lib.lt w X else aj) P:=by subst h;rw[au,fT.lt_eq,e];exact hx
theorem below{α:Type}{q:aQ}{a s k:aw}{X:aw×aQ×aw×aw->az α}{P:α->Prop}(hI:I q a)(hx:∀n a' s',I q a'->0<=n->(0<k->n<k)->jH (X (n,q,a',s')) P):jH (bif nX.c q a s k then Lib.lt (nX.v q a s k) X else aj) P:=by obtain⟨n,a',s',h1,h2,h3,h4,h5⟩:=nX.ok q a s k hI;exact call h1 h2 (hx n a' s' h3 h4 h5)
theorem once{α:Type}{q:aQ}{a s k:aw}{X:aW×aQ×aw×aw->az α}{P:α->Prop}(hI:I q a)(hx:∀n a' s',I q a'->jH (X (n,q,a',s')) P):jH (bif HI.c q a s k then Lib.lt (HI.v q a s k) X else aj) P:=by obtain⟨n,a',s',h1,h2,h3⟩:=HI.ok q a s k hI;exact call h1 h2 (hx n a' s' h3)
theorem ab5{α:Type}{q:aQ}{a s:aw}{l:aQ}{X:aw×aQ×aw×aw×aQ->az α}{P:α->Prop}(R:aw->Prop)(hR:0<l.length/\∀i,i<l.length->R (bE (ar l i 0)))(hI:I q a)(hx:∀n a' s',I q a'->R n->jH (X (n,q,a',s',l)) P):jH (bif zW.c q a s l then Lib.lt (zW.v q a s l) X else aj) P:=by obtain⟨n,a',s',h1,h2,h3,h4⟩:=zW.ok q a s l hI hR.1;exact call h1 h2 (hx _ a' s' h3 (hR.2 n h4))
theorem akX{α:Type}{q:aQ}{a s:aw}{l:aQ}{X:aq×aQ×aw×aw×aQ->az α}{P:α->Prop}(R:aq->Prop)(hR:0<l.length/\∀i,i<l.length->R (bu (ar l i 0)))(hI:I q a)(hx:∀n a' s',I q a'->R n->jH (X (n,q,a',s',l)) P):jH (bif pI.c q a s l then Lib.lt (pI.v q a s l) X else aj) P:=by obtain⟨n,a',s',h1,h2,h3,h4⟩:=pI.ok q a s l hI hR.1;exact call h1 h2 (hx _ a' s' h3 (hR.2 n h4))
theorem key{α:Type}{q:aQ}{a s:aw}{X:aq×aQ×aw×aw->az α}{P:α->Prop}(hI:I q a)(hx:∀n a' s',I q a'->n.size=2->jH (X (n,q,a',s')) P):jH (bif uR.c q a s then Lib.lt (uR.v q a s) X else aj) P:=by obtain⟨n,a',s',h1,h2,h3,h4⟩:=uR.ok q a s hI;exact call h1 h2 (hx n a' s' h3 h4)
theorem idx{n:aw}{m:aF}(h0:0<=n)(h1:0<(m:aw)->n<(m:aw))(hm:decide ((m:aw)>0)=ai):(decide (0<=n)&&decide (n<(m:aw)))=true:=by have:=h1 (cm hm);rw[aE h0,aE this,aM]
end A_Post

namespace HU
open Lib (Px Cl Fe En el)
open iF (kp G0 K8)
open fZ (mv fP)
open Bt (jm jW)
open sQ (cls kB)
open gn (BU CL sP told iN)
open uJ (nR ec)
open ic (hit sH put HM NB EX lA jn rP)
open fS (qm qp one p0)
open kU (xX)
open gF (Wo Ev closed zn kC iO flag)
open kD (es)
open uI (ik)
open ie (s8)
theorem w9{e:En}{now:aw}(hn:1<=now/\now<=1000000000):qm e now=ai↔m8.v e.k e.st e.li e.bo=ai/\e.st<=now/\now-e.st<e.li:=by
 unfold qm;rw[Dg.eq];unfold Dg.v;rw[show kl.v now e.st 1000000000=decide (e.st<=now/\now<=1000000000)from fD.eI _ _ _];cases h:m8.v e.k e.st e.li e.bo with
 |false=>simp
 |true=>
  have hr:=m8.D0 h;rw[au,dj (x:=now-e.st) (by omega) (by omega)];by_cases h2:e.st<=now
  ·rw[aE (⟨h2,hn.2⟩:e.st<=now/\now<=1000000000),au];simp[h2]
  ·rw[aK (λq:e.st<=now/\now<=1000000000=>h2 q.1),ax];simp[h2]
theorem ae8:∀(l:aA En),(l.Pairwise λa b=>a.k≠b.k)->∀x∈l,x∈kp l:=by
 intro l;rw[<-vH l];generalize l.reverse=r;induction r with
 |nil=>intro _ x hx;cases hx
 |cons e r ih=>
  intro h x hx;rw[yK]at h hx⊢;rw[G0];rw[n5]at h;obtain⟨h1,_,h3⟩:=h;rcases ba.1 hx with hx|hx
  ·exact jW.2 (.inr ⟨ih h1 x hx,h3 x hx e dn⟩)
  ·rw[aZ.1 hx];exact jW.2 (.inl rfl)
theorem OR(w:Wo):(kC w).Pairwise λa b=>a.k≠b.k:=by have h:=Bt.CY (iF.aje (es w.o));rw[la,jr]at h;exact qv _ h
def Gp(fe:aA Fe)(bd:aA En)(c:Cl):Prop:=
 (c.fe=0/\c.sta=2/\∃e∈bd,e.k=c.k/\e.st=c.fr/\e.bo=c.km/\e.li>c.age)\/
 ∃n:aF,c.fe=(n:aw)+1/\n<fe.length/\(el fe n).k=c.k/\c.km=(el fe n).t/\(el fe n).sta=c.sta/\(1<=c.sta/\c.sta<=3)
structure wk (w:Wo):Prop where
 st:∀e∈w.p.en,e.st<=w.p.now
 bd:∀e∈w.p.en,e∈w.bd
 ob:∀e∈es w.o,e∈w.bd
 fr:∀e∈w.p.en,qm e w.p.now=ai->e∈kp (es w.o)
 cl:∀c∈w.p.cl,Gp w.p.fe w.bd c
theorem Gp.bd{fe:aA Fe}{b b':aA En}{c:Cl}(h:Gp fe b c)(hb:∀e∈b,e∈b'):Gp fe b' c:=by
 rcases h with ⟨h1,h2,e,he,h3⟩|h
 ·exact .inl ⟨h1,h2,e,hb e he,h3⟩
 ·exact .inr h
theorem Gp.app{fe:aA Fe}{b:aA En}{c:Cl}(h:Gp fe b c)(g:Fe):Gp (fe++[g]) b c:=by
 rcases h with h|⟨n,h1,h2,h3,h4,h5,h6⟩
 ·exact .inl h
 ·have e:el (fe++[g]) n=el fe n:=by rw[eH (by rw[bT];omega),eH h2,List.getElem_append_left h2]
  exact .inr ⟨n,h1,by rw[bT];omega,by rw[e];exact h3,by rw[e];exact h4,by rw[e];exact h5,h6⟩
theorem zS{p:Px}{b:aA En}{n:aF}{g:Fe}{st:aw}(hn:n<p.fe.length)(ho:(el p.fe n).sta=1)(hk:g.k=(el p.fe n).k)(hg:g.sta=st)(h1:1<=st/\st<=3)(h:∀c∈p.cl,Gp p.fe b c):∀c∈(told p n g st).cl,Gp (told p n g st).fe b c:=by
 intro c hc;obtain⟨x,hx,rfl⟩:=cU.1 (show c∈p.cl.map (ec n st g.t)from hc);have Qn:=h x hx;show Gp (p.fe.set n g) b (ec n st g.t x);rcases Qn with h0|⟨m,m1,m2,m3,m4,m5,m6⟩
 ·have e:ec n st g.t x=x:=by unfold ec;rw[aK (show¬x.fe=(n:aw)+1 by have:=h0.1;omega)];rfl
  rw[e];exact .inl h0
 ·by_cases hm:m=n
  ·subst hm;have e:ec m st g.t x={x with sta:=st,km:=g.t}:=by unfold ec;rw[aE m1,aE (show x.sta=1 by rw[<-m5];exact ho)];rfl
   rw[e];refine .inr ⟨m,m1,by rw[cB];exact m2, ?_, ?_, ?_,h1⟩
   ·rw[iN m2,hk];exact m3
   ·rw[iN m2]
   ·rw[iN m2];exact hg
  ·have e:ec n st g.t x=x:=by unfold ec;rw[aK (show¬x.fe=(n:aw)+1 by omega)];rfl
   have e2:el (p.fe.set n g) m=el p.fe m:=by rw[eH (by rw[cB];exact m2),eH m2,List.getElem_set_ne (by omega)]
   rw[e];exact .inr ⟨m,m1,by rw[cB];exact m2,by rw[e2];exact m3,by rw[e2];exact m4,by rw[e2];exact m5,m6⟩
theorem Zy{p:Px}{e x:En}(h:x∈(xX p e).en):x=e\/x∈p.en:=by
 unfold xX at h;dsimp only at h;cases hb:fc.has (eZ.val p.w p.m p.s p.a e.k).1 e.k||fc.has (eZ.val p.w p.m p.s p.a e.k).2.1 e.k with
 |true=>
  rw[hb,au]at h;rcases jW.1 h with h|h
  ·exact .inl h
  ·exact .inr (jm.1 h.1).1
 |false=>rw[hb,ax]at h;exact .inr (jm.1 h).1
theorem Vs{p:Px}{e x:En}(hp:jx.sJ p.w p.m p.s p.a=ai)(hk:jx.eO e.k=ai)(h:x∈(xX p e).en):x=e\/(x∈p.en/\x.k≠e.k):=by
 have hb:=Ff.JN (key:=e.k) hp hk;unfold xX at h;dsimp only at h;rw[hb,au]at h;rcases jW.1 h with h|h
 ·exact .inl h
 ·exact .inr ⟨(jm.1 h.1).1,h.2⟩
theorem Ta{l:aA Cl}{c x:Cl}(h:x∈jn l c):x=c\/x∈l:=by
 unfold jn at h;rcases ba.1 h with h|h
 ·rcases ba.1 h with h|h
  ·exact .inr (dc.1 h).1
  ·exact .inl (aZ.1 h)
 ·exact .inr (dc.1 h).1
theorem zF{w:Wo}{p:Px}(h:wk w)(hn:p.now=w.p.now)(he:∀x∈p.en,x∈w.p.en)(hc:∀c∈p.cl,Gp p.fe w.bd c):wk {w with p:=p}:=
 ⟨λx hx=>by show x.st<=p.now;rw[hn];exact h.st x (he x hx),λx hx=>h.bd x (he x hx),h.ob,λx hx hf=>h.fr x (he x hx) (by rw[<-hn];exact hf),hc⟩
theorem ND{w:Wo}{id:aw}{key:aq}{b:aW}{fe:aA Fe}{i:aF}(h:wk w)(JW:∀c,Gp w.p.fe w.bd c->Gp fe w.bd c)(hi:i<fe.length)(hk:(el fe i).k=key)(hs:(el fe i).sta=1):wk {w with p:=put w.p id key b fe i}:=by
 refine zF h rfl (λx hx=> ?_) (λc hc=> ?_)
 ·unfold put at hx;cases b with
  |true=>exact(jm.1 hx).1
  |false=>exact hx
 ·rcases Ta hc with rfl|hc
  ·exact .inr ⟨i,rfl,hi,hk,rfl,hs,by dsimp only;omega⟩
  ·exact JW c (h.cl c hc)
theorem Jk{w:Wo}{id:aw}{key:aq}{b:aW}(h:wk w):wk {w with p:=(sH w.p id key b).1}:=by
 unfold sH;cases Xt:NB w.p.fe key with
 |some i=>obtain⟨hi,hq,_⟩:=mP.1 Xt;unfold EX at hq;rw[aL,bc,bc]at hq;exact ND h (λ_ q=>q) hi (by rw[eH hi];exact hq.1) (by rw[eH hi];exact hq.2)
 |none=>
  dsimp only;by_cases Qh:w.p.fe.length<20
  ·rw[aE Qh,au];have e:el (w.p.fe++[rP key]) w.p.fe.length=rP key:=by rw[eH (by rw[bT];show w.p.fe.length<w.p.fe.length+1;omega),List.getElem_append_right (cD _)];simp
   exact ND h (λc q=>q.app _) (by rw[bT];show w.p.fe.length<w.p.fe.length+1;omega) (by rw[e];rfl) (by rw[e];rfl)
  ·rw[aK Qh];exact h
theorem WY{w:Wo}(id:aw)(key:aq)(ho:ik w.p)(h:wk w):wk {w with p:=(ic.ask w.p id key).1}:=by
 unfold ic.ask;cases hg:qi.jd w.p&&(decide (1<=id/\id<=9)&&(jx.eO key&&(!lA w.p.cl id&&decide (w.p.cl.length<6))))with
 |false=>exact h
 |true=>
  rw[au];cases he:HM w.p.en key with
  |none=>exact Jk h
  |some e=>
   dsimp only;cases hf:ic.qm e w.p.now with
   |false=>exact Jk h
   |true=>
    unfold HM at he;have h1:=qA he;have h2:e.k=key:=by have:=u_ he;exact cm this
    obtain⟨f1,f2,f3⟩:=(w9 ho.now).1 (show qm e w.p.now=ai from hf);refine zF h rfl (λx hx=>hx) (λc hc=> ?_);rcases Ta hc with rfl|hc
    ·exact .inl ⟨rfl,rfl,e,h.bd e h1,h2,rfl,rfl,by dsimp only;omega⟩
    ·exact h.cl c hc
theorem Za{w:Wo}(f:aw)(t:aq)(h:wk w):wk {w with p:=(CL w.p f t).1}:=by
 unfold CL;cases ho:sP w.p f&&(decide (1<=t.size/\t.size<=40)&&decide ((el w.p.fe f.toNat).t.size+t.size<=400))with
 |false=>exact h
 |true=>rw[aL]at ho;obtain⟨n,rfl,hn,_,h1⟩:=gn.iQ ho.1;rw[au,dG];exact zF h rfl (λx hx=>hx) (zS hn h1 rfl h1 (by omega) h.cl)
theorem W1{w:Wo}(f:aw)(h:wk w):wk {w with p:=(BU w.p f).1}:=by
 unfold BU;cases ho:sP w.p f with
 |false=>exact h
 |true=>obtain⟨n,rfl,hn,_,h1⟩:=gn.iQ ho;rw[au,dG];exact zF h rfl (λx hx=>hx) (zS hn h1 rfl rfl (by omega) h.cl)
theorem Kv{w:Wo}(f life:aw)(ho:ik w.p)(hl:0<=life/\life<=999999)(h:wk w):wk (closed w f life).1:=by
 unfold closed;dsimp only;unfold cls;cases Xt:sP w.p f&&decide (0<=life/\life<=999999)with
 |false=>exact h
 |true=>
  rw[aL]at Xt;obtain⟨n,rfl,hn,_,h1⟩:=gn.iQ Xt.1;obtain⟨g1,g2,g3,g4,g5⟩:=Bt.ID ho hn;rw[au,dG];have ht:∀c∈(told w.p n {el w.p.fe n with sta:=2,li:=life,st:=w.p.now} 2).cl,Gp (told w.p n {el w.p.fe n with sta:=2,li:=life,st:=w.p.now} 2).fe w.bd c:=zS hn h1 rfl rfl (by omega) h.cl;by_cases O3:life>0
  ·rw[aE O3,au];dsimp only[bh,au];have ee:el (xX (told w.p n {el w.p.fe n with sta:=2,li:=life,st:=w.p.now} 2) (kB {el w.p.fe n with sta:=2,li:=life,st:=w.p.now})).fe n={el w.p.fe n with sta:=2,li:=life,st:=w.p.now}:=iN hn;rw[ee];generalize hE:kB {el w.p.fe n with sta:=2,li:=life,st:=w.p.now}=E;have hEk:E.k=(el w.p.fe n).k:=by rw[<-hE];rfl
   have hEs:E.st=w.p.now:=by rw[<-hE];rfl
   have mem:∀x∈(xX (told w.p n {el w.p.fe n with sta:=2,li:=life,st:=w.p.now} 2) E).en,x=E\/(x∈w.p.en/\x.k≠E.k):=λx hx=>Vs (p:=told w.p n {el w.p.fe n with sta:=2,li:=life,st:=w.p.now} 2) ho.pol (by rw[hEk];exact g1) hx;refine⟨λx hx=> ?_,λx hx=> ?_,λx hx=> ?_,λx hx hf=> ?_,λc hc=>(ht c hc).bd λx hx=>bN _ hx⟩
   ·rcases mem x hx with rfl|hx
    ·exact Int.le_of_eq hEs
    ·exact h.st x hx.1
   ·rcases mem x hx with rfl|hx
    ·exact bO _ dn
    ·exact bN _ (h.bd x hx.1)
   ·rcases ba.1 (show x∈es w.o++[E]from hx)with hx|hx
    ·exact bN _ (h.ob x hx)
    ·exact bO _ hx
   ·show x∈kp (es w.o++[E]);rw[G0];rcases mem x hx with rfl|hx
    ·exact jW.2 (.inl rfl)
    ·exact jW.2 (.inr ⟨h.fr x hx.1 hf,hx.2⟩)
  ·rw[aK O3,ax];exact zF h rfl (λx hx=>hx) ht
theorem Uk{w:Wo}(n:aw)(ho:ik w.p)(h:wk w):wk {w with p:=qF.val w.p n}:=by
 obtain⟨l1,l2⟩:=Fg.zx (n:=n) ho.now;have aiC:=ho.now;refine⟨λx hx=>BD (h.st x hx) l1,h.bd,h.ob,λx hx hf=>h.fr x hx ?_,h.cl⟩
 obtain⟨f1,f2,f3⟩:=(w9 (now:=qF.later w.p.now n) ⟨by omega,l2⟩).1 hf;have:=h.st x hx;exact(w9 ho.now).2 ⟨f1,this,by omega⟩
theorem Ph{w:Wo}(id:aw)(h:wk w):wk {w with p:=sZ.val w.p id}:=
 zF h rfl (λx hx=>hx) (λc hc=>h.cl c (dc.1 hc).1)
theorem Hk{now:aw}:∀(l:aA En),∀x∈(qp now l).en,x∈l/\qm x now=true:=by
 intro l;rw[<-vH l];generalize l.reverse=r;induction r with
 |nil=>intro x hx;cases hx
 |cons e r ih=>
  intro x hx;rw[yK]at hx⊢;have e1:qp now (r.reverse++[e])=one now (qp now r.reverse) e:=by unfold qp;rw[kT];rfl
  rw[e1]at hx;unfold one at hx;cases hf:qm e now with
  |false=>rw[hf,ax]at hx;exact⟨bN _ (ih x hx).1,(ih x hx).2⟩
  |true=>
   rw[hf,au]at hx;rcases Zy hx with rfl|hx
   ·exact⟨bO _ dn,hf⟩
   ·exact⟨bN _ (ih x hx).1,(ih x hx).2⟩
theorem Sj{w:Wo}(ho:ik w.p)(h:wk w):wk (zn w):=by
 have V:=fS.tC w.p.now (kC w) (kC w).length (cD _);rw[dY]at V;have hm:∀x∈kC w,x∈es w.o:=λx hx=>K8 (dc.1 hx).1;refine⟨λx hx=> ?_,λx hx=>h.ob x (hm x (Hk _ x hx).1),λx hx=>h.ob x (hm x hx),λx hx _=>ae8 _ (OR w) x (Hk _ x hx).1,λc hc=> ?_⟩
 ·show x.st<=(qp w.p.now (kC w)).now;rw[V.now];exact((w9 ho.now).1 (Hk _ x hx).2).2.1
 ·have:c∈(qp w.p.now (kC w)).cl:=hc;rw[V.cl]at this;cases this
theorem aeb{w:Wo}{l:aA aw}(h:wk w):wk {w with cd:=l}:=⟨h.st,h.bd,h.ob,h.fr,h.cl⟩
theorem Vr{i:aF}{w:Wo}{e:Ev}(hW:s8 i w)(h:wk w):wk (gF.step w e):=by
 unfold gF.step;refine aeb ?_;unfold gF.act;cases decide (e.k=1)
 ·cases decide (e.k=2)
  ·cases decide (e.k=3)
   ·cases decide (e.k=4)
    ·cases decide (e.k=5)
     ·cases decide (e.k=6)
      ·exact Sj hW.px h
      ·exact Ph _ h
     ·exact Uk _ hW.px h
    ·exact W1 _ h
   ·exact Kv _ _ hW.px (by omega) h
  ·exact Za _ _ h
 ·exact WY _ _ hW.px h
theorem Zn:∀{l:aA Ev},(∀e∈l,iO e=ai)->wk (p8.run l):=by
 intro l;rw[<-vH l];generalize l.reverse=r;induction r with
 |nil=>intro _;show wk p8.w0;exact⟨λx h=>cJ h gA,λx h=>cJ h gA,λx h=>cJ h gA,λx h=>cJ h gA,λx h=>cJ h gA⟩
 |cons e r ih=>
  intro h;rw[yK]at h⊢;have e1:p8.run (r.reverse++[e])=gF.step (p8.run r.reverse) e:=by unfold p8.run;rw[kT];rfl
  have h2:∀x∈r.reverse,iO x=true:=λx hx=>h x (bN _ hx);rw[e1];exact Vr (p8.LA h2) (ih h2)
end HU

namespace VY
theorem ok(a t:aq)(h:a.size<=t.size)(h2:t.extract 0 a.size=a):c a t=ai/\v a t=true:=by refine out a t ?_;unfold vo b;rw[aE (show(a.size:aw)<=(t.size:aw)by omega),au,show g9 0 (a.size:aw) (t.size:aw)=ai by simp[g9];omega,au];rw[show aY 0=0 from rfl,dG,h2,Lib.pb]
end VY

namespace Qd
theorem ok(q:aQ)(hl:q.length<=1048576):∃h,c q=ai/\v q=(q,0,h):=by
 have key:=zy (λn (s:aF×aw)=>l3 Lib.cZ (λ(y3:aQ) (y4 _:aw)=>ah (y3,(0:aw),y4)) n q s.2 (s.1:aw)) (λs=>q.length-s.1) (λs=>s.1<=q.length) (λr=>∃h,r=(q,0,h)) (λn s hs=>by
  obtain⟨i,h⟩:=s;dsimp only at hs⊢;by_cases hi:i<q.length
  ·by_cases h4:(i:aw)<4000
   ·right;have mA:bJ ((i:aw)+1)=((i+1:aF):aw):=dj (by omega) (by omega)
    have e:∃h',l3 Lib.cZ (λ(y3:aQ) (y4 _:aw)=>ah (y3,(0:aw),y4)) (n+1) q h (i:aw)=l3 Lib.cZ (λ(y3:aQ) (y4 _:aw)=>ah (y3,(0:aw),y4)) n q h' ((i+1:aF):aw):=
     ⟨_,by simp only[l3,r3,Lib.dq,hi,h4,aN,Lib.cF,aM,au,Lib.dZ,mA];rfl⟩
    obtain⟨h',e⟩:=e;exact⟨(i+1,h'),hi,by dsimp only;omega,e⟩
   ·left;exact⟨_,by simp only[l3,r3,Lib.dq,hi,h4,aN,bj,au,ax];rfl,_,rfl⟩
  ·left;exact⟨_,by simp only[l3,r3,Lib.dq,hi,bj,ax];rfl,_,rfl⟩) Lib.cZ (0,bJ (34901+(q.length:aw))) (bI _) (cS (by omega))
 obtain⟨b',hb,h,rfl⟩:=key;obtain⟨e1,e2⟩:=out q (x:=(q,0,h)) hb;exact⟨h,e1,e2⟩
end Qd

namespace Km
open dr (I)
open A_Post (jH)
open gF (Ev iO)
def Dr(q e w m s fe cl dk cd bd:aQ)(x:aw×aw×aq×aw×aQ×aQ×aw×aw×aQ×aQ×aQ×aQ×aQ×aQ×aQ×aQ×aQ):Prop:=
 ∃k id t n a' s',x=(k,id,t,n,[],q,a',s',e,w,m,s,fe,cl,dk,cd,bd)/\I q a'/\iO ⟨k,id,t,n,[]⟩=ai/\k<=6
theorem leaf{q e w m s fe cl dk cd bd:aQ}{k id:aw}{t:aq}{n a' s':aw}(hI:I q a')(hk:1<=k/\k<=6)(IV:0<=id/\id<=30)(ht:t.size<=60)(hn:0<=n):jH (ah (k,id,t,n,([]:aQ),q,a',s',e,w,m,s,fe,cl,dk,cd,bd)) (Dr q e w m s fe cl dk cd bd):=by
 refine⟨_,rfl,k,id,t,n,a',s',rfl,hI, ?_,hk.2⟩
 unfold iO;rw[aE (show 1<=k/\k<=7 by omega),aE IV,aE ht,aE hn];rfl
theorem idA{n:aw}(h0:0<=n)(h1:(0:aw)<3->n<3):0<=n/\n<=30:=by omega
theorem idB{n:aw}(h0:0<=n)(h1:(0:aw)<9->n<9):0<=bJ (1+n)/\bJ (1+n)<=30:=by rw[dj (x:=1+n) (by omega) (by omega)];omega
theorem idC{l:aQ}{n:aw}(hl:∀j,j<l.length->0<=bE (ar l j 0)/\bE (ar l j 0)<=30)(h0:0<=n)(h1:0<(l.length:aw)->n<(l.length:aw))(hp:decide ((l.length:aw)>0)=ai):0<=bE (ar l n.toNat 0)/\bE (ar l n.toNat 0)<=30:=by have:=h1 (cm hp);exact hl _ (by omega)
theorem tA{t:aq}(h:t.size=2):t.size<=60:=by omega
theorem opens{P:R->Prop}(N:aF)(K:aw->aw->aw->aw->aQ->aw->aw->aQ->aQ->aQ->aQ->aQ->aQ->aQ->aQ->aQ->aw->aw->aw->aw->aw->aq->aw->aw->aw->aq->aw->aQ->az R)(x1 x2 x3:aw)(x5:aQ)(x6 x7:aw)(x8 x9 VD VE Fb VF x14 x15 VG:aQ)(Wl Wm x19 x20 x21:aw)(x22:aq)(x23 x24 x25:aw)(x26:aq)(x27:aw)(hf:Fb.length<=20)
  (hK:∀l:aQ,(∀j,j<l.length->0<=bE (ar l j 0)/\bE (ar l j 0)<=30)->jH (K x1 x2 x3 (Fb.length:aw) x5 x6 x7 x8 x9 VD VE Fb VF x14 x15 VG Wl Wm x19 x20 x21 x22 x23 x24 x25 x26 x27 l) P):
  ∀(d i n:aF) (l:aQ),Fb.length-i<=d->i<=Fb.length->d<n->l.length<=i->(∀j,j<l.length->0<=bE (ar l j 0)/\bE (ar l j 0)<=30)->
   jH (l4 N K n x1 x2 x3 (i:aw) x5 x6 x7 x8 x9 VD VE Fb VF x14 x15 VG Wl Wm x19 x20 x21 x22 x23 x24 x25 x26 x27 l) P:=by
 have fin:∀(n:aF) (l:aQ),(∀j,j<l.length->0<=bE (ar l j 0)/\bE (ar l j 0)<=30)->jH (l4 N K (n+1) x1 x2 x3 (Fb.length:aw) x5 x6 x7 x8 x9 VD VE Fb VF x14 x15 VG Wl Wm x19 x20 x21 x22 x23 x24 x25 x26 x27 l) P:=λn l hl=>by refine A_Post.eq ?_ (hK l hl);simp only[l4,r4,Lib.dq,bm,bj,ax]
 intro d;induction d with
 |zero=>
  intro i n l h1 h2 h3 h4 h5;obtain⟨n,rfl⟩:∃k,n=k+1:=⟨n-1,by omega⟩
  have:i=Fb.length:=by omega
  subst this;exact fin n l h5
 |succ d ih=>
  intro i n l h1 h2 h3 h4 h5;obtain⟨n,rfl⟩:∃k,n=k+1:=⟨n-1,by omega⟩
  by_cases h:i<Fb.length
  ·have mA:bJ ((i:aw)+1)=((i+1:aF):aw):=dj (by omega) (by omega);by_cases hs:bE (ar Fb i 2)=1
   ·have hr:cC (l.length+(aD (aP [Ck.i ao] 1) 0 [CV.i ao (i:aw)]).length) 8=true:=by rw[fT.nH];exact Lib.cq (by omega) (by omega)
    refine A_Post.eq (o':=l4 N K n x1 x2 x3 ((i+1:aF):aw) x5 x6 x7 x8 x9 VD VE Fb VF x14 x15 VG Wl Wm x19 x20 x21 x22 x23 x24 x25 x26 x27 (l++aD (aP [Ck.i ao] 1) 0 [CV.i ao (i:aw)])) ?_ (ih (i+1) n _ (by omega) h (by omega) (by rw[bT,fT.nH];omega) λj hj=> ?_)
    ·simp only[l4,r4,Lib.dq,h,aN,Lib.cF,aM,au,Lib.dZ,hs,hr,mA]
    ·rw[bT,fT.nH]at hj;by_cases jY:j<l.length
     ·have:ar (l++aD (aP [Ck.i ao] 1) 0 [CV.i ao (i:aw)]) j 0=ar l j 0:=by unfold ar;rw[cY,cY,dH jY];simp only[cY]
      rw[this];exact h5 j jY
     ·have:ar (l++aD (aP [Ck.i ao] 1) 0 [CV.i ao (i:aw)]) j 0=CV.i ao (i:aw):=by unfold ar;rw[cY,cY,da (by omega),show j-l.length=0 by omega];rfl
      rw[this];show 0<=(i:aw)/\(i:aw)<=30;omega
   ·refine A_Post.eq (o':=l4 N K n x1 x2 x3 ((i+1:aF):aw) x5 x6 x7 x8 x9 VD VE Fb VF x14 x15 VG Wl Wm x19 x20 x21 x22 x23 x24 x25 x26 x27 l) ?_ (ih (i+1) n _ (by omega) h (by omega) (by omega) h5);simp only[l4,r4,Lib.dq,h,aN,Lib.cF,aM,au,ax,Lib.dZ,hs,bj,mA]
  ·have:i=Fb.length:=by omega
   subst this;exact fin n l h5
set_option maxHeartbeats 8000000 in
theorem body(q:aQ)(a s:aw)(now:aw)(en w m sk:aQ)(ag:aw)(fe cl:aQ)(hits:aw)(dk cd bd:aQ)(hI:I q a)(hf:fe.length<=20)(hc:∀j,j<cl.length->0<=bE (ar cl j 0)/\bE (ar cl j 0)<=30):jH (vo q a s now en w m sk ag fe cl hits dk cd bd) (Dr q en w m sk fe cl dk cd bd):=by
 unfold vo;generalize hN:Lib.cZ=N;have hN1:20<N:=by rw[<-hN];exact cS (by omega)
 unfold b;refine A_Post.ab5 (λn=>1<=n/\n<=6) ⟨by decide,by decide⟩ hI (λkd a1 s1 I1 hk=> ?_);refine opens N _ _ _ _ _ _ _ _ _ _ _ _ _ _ _ _ _ _ _ _ _ _ _ _ _ _ _ hf (λl hl=> ?_) fe.length 0 N _ (by omega) (by omega) (by omega) (bI _) (λj hj=>cJ hj (Nat.not_lt_zero j));dsimp only
 repeat' first
  |refine A_Post.below (by assumption) (λn a s hI h0 h1=> ?_)
  |refine A_Post.once (by assumption) (λn a s hI=> ?_)
  |refine A_Post.key (by assumption) (λn a s hI h0=> ?_)
  |refine A_Post.ab5 (λn=>0<=n) ⟨by decide,by decide⟩ (by assumption) (λn a s hI h0=> ?_)
  |refine A_Post.akX (λt=>t.size<=60) ⟨by decide,by decide⟩ (by assumption) (λn a s hI h0=> ?_)
  |refine A_Post.ck (A_Post.idx (by assumption) (by assumption) (by assumption)) ?_
  |refine leaf (by assumption) (by first|exact hk|decide) (by first|exact idA (by assumption) (by assumption)|exact idB (by assumption) (by assumption)|exact idC hl (by assumption) (by assumption) (by assumption)|exact idC hc (by assumption) (by assumption) (by assumption)|decide) (by first|exact bI _|assumption|exact tA (by assumption)) (by first|exact Int.le_refl 0|assumption)
  |refine A_Post.br (λh=> ?_) (λh=> ?_)
end Km

namespace s7
theorem ok(l:aQ)(hl:l.length<=4294967296):c l=ai/\v l=l:=by refine out l ?_;unfold vo b;rw[show bS (aP [Ck.s] 0)+l.length=l.length by simp[aP],Lib.cq (by omega) (by omega)];rfl
end s7

namespace js
open Lib (rr rs)
theorem ok(w m:aA aq)(s:aA (aA aw))(a:aw)(hw:w.length<=1048576)(hm:m.length<=1048576)(hf:jk.oH s):c (rs w) (rs m) (rr s) a=ai/\v (rs w) (rs m) (rr s) a=(rs w,rs m,rr s,a):=by have h1:=s7.ok (rs w) (by rw[eV];omega);have h2:=s7.ok (rs m) (by rw[eV];omega);have h3:=jk.ok s a hf;exact out _ _ _ _ (by unfold vo b;rw[h1.1,h1.2,h2.1,h2.2,h3.1,h3.2,au,au,au])
end js

namespace iL
open Lib (rr rs re rf rc Px)
theorem ok(p:Px)(hp:p.Fit 1048576):c p.now (re p.en) (rs p.w) (rs p.m) (rr p.s) p.a (rf p.fe) (rc p.cl) p.hits=ai/\v p.now (re p.en) (rs p.w) (rs p.m) (rr p.s) p.a (rf p.fe) (rc p.cl) p.hits=(p.now,re p.en,rs p.w,rs p.m,rr p.s,p.a,rf p.fe,rc p.cl,p.hits):=by have he:=hp.en;have hf:=hp.fe;have hc:=hp.cl;have h1:=wI.ok (re p.en) (by rw[dy];omega);have h2:=js.ok p.w p.m p.s p.a hp.w hp.m ⟨hp.s.1,hp.s.2.1⟩;exact out _ _ _ _ _ _ _ _ _ (by unfold vo b;rw[h1.1,h1.2,h2.1,h2.2,au,au,Lib.cq (by simp[aP,dL];omega) (by simp[aP,dL];omega),Lib.cq (by simp[aP,eU];omega) (by simp[aP,eU];omega)];rfl)
end iL

namespace pK
open Lib (rr)
theorem eI(n a b:aw):lz.v n a b=decide (a<=n/\n<=b):=fD.eI n a b
theorem ok(s:aA (aA aw))(a:aw)(hf:jk.oH s):c (rr s) a=ai/\v (rr s) a=fD.od s a:=by
 refine out _ _ ?_;unfold vo b;have hl:=hf.1;rw[gQ]
 have inner:∀i (h:i<s.length) (K0 K1:aW->aQ->aQ->aw->aw->aQ->aw->aw->aQ->aw->az aW) (kf kt:az aW) (x:aw)
   (h0:∀j:aw,K0 ak (Lib.ri s[i]) (rr s) s.length i (Lib.ri s[i]) x j (rr s) a=kf) (h1:∀j:aw,K1 ak (Lib.ri s[i]) (rr s) s.length i (Lib.ri s[i]) x j (rr s) a=kt),x=(s[i].length:aw)->l5 Lib.cZ K0 K1 Lib.cZ ak (Lib.ri s[i]) (rr s) s.length (i:aw) (Lib.ri s[i]) x 0 (rr s) a=bif(s[i]).all fD.Nq then kt else kf:=λi h K0 K1 kf kt x h0 h1 hx=>by
  subst hx
  exact o_ (s[i]) fD.Nq (λm (j:aF)=>l5 Lib.cZ K0 K1 m ak (Lib.ri s[i]) (rr s) s.length (i:aw) (Lib.ri s[i]) s[i].length (j:aw) (rr s) a) kf kt
   (λm j hj hp=>by have hl:=hf.2 _ (bB h);unfold fD.Nq at hp;simp only[l5,r5,Lib.dq,hj,aN,Lib.cF,aM,au,Lib.dZ,Lib.gP,Qp hj,bE,eI,hp,a_,ax,Lib.c6 hj (by omega:s[i].length<=9223372036854775807)])
   (λm j hj hp=>by unfold fD.Nq at hp;simp only[l5,r5,Lib.dq,hj,aN,Lib.cF,aM,au,Lib.dZ,Lib.gP,Qp hj,bE,eI,hp,bR,h0])
   (λm=>by simp only[l5,r5,Lib.dq,bm,bj,ax,h1]) Lib.cZ (cS (by have:=hf.2 _ (bB h);omega))
 have ro:∀q:aA aw,fD.sq q=(q.all fD.Nq&&decide (q.length=16)):=λq=>Bool.and_comm ..
 have key:=o_ s fD.sq (λm (i:aF)=>l2 Lib.cZ (λ(y36:aW) (_:aQ) (_ _:aw) (_:aQ) (_:aw)=>ah y36) (λ(_:aW) (_:aQ) (_ _:aw) (y46:aQ) (y47:aw)=>bif(decide ((↑(bS y46):aw)=3))then(ah (lz.v y47 0 63))else(ah ak)) m ak (rr s) s.length (i:aw) (rr s) a) (ah ak) (ah (decide (s.length=3)&&decide (0<=a/\a<=63)))
  (λm i h hp=>by rw[ro,aL]at hp;have JV:=cm hp.2;simp only[l2,r2,gQ,Lib.dq,h,aN,Lib.cF,aM,au,Lib.dZ,JZ h,jv,Lib.gP];rw[inner i h _ _ (ah ak) _ _ (λ_=>rfl) (λ_=>rfl) rfl,hp.1,au,Lib.gP,JV,show(((16:aF):aw) !=16)=ak from rfl,ax,Lib.c6 h (by omega)])
  (λm i h hp=>by
   rw[ro]at hp;simp only[l2,r2,gQ,Lib.dq,h,aN,Lib.cF,aM,au,Lib.dZ,JZ h,jv,Lib.gP];rw[inner i h _ _ (ah ak) _ _ (λ_=>rfl) (λ_=>rfl) rfl];cases ha:(s[i]).all fD.Nq with
   |false=>rfl
   |true=>rw[ha,bh]at hp;have:=oL hp;rw[au,Lib.gP,show((s[i].length:aw) !=16)=ai by simp;omega,au])
  (λm=>by simp only[l2,r2,gQ,Lib.dq,bm,bj,ax,eI];rw[show decide ((s.length:aw)=3)=decide (s.length=3)by rw[ca];omega];cases decide (s.length=3)<;>rfl) Lib.cZ (cS (by omega))
 refine key.trans ?_;unfold fD.od;cases s.all fD.sq<;>cases decide (s.length=3)<;>cases decide (0<=a/\a<=63)<;>rfl
end pK

namespace DH
theorem ok(n:aw)(h0:0<=n)(h1:n<=4294967296):c n=ai/\v n=[]:=by
 refine out n ?_;unfold vo b;have e:bJ (n-bJ (0-0))=n:=by rw[show bJ (0-0)=0 from rfl,Int.sub_zero,dj (by omega) (by omega)]
 rw[e,aK (show¬n<0 by omega),ax];by_cases hn:n>0
 ·rw[aE hn,au,aE h0,aE (show n<=9223372036854775807 by omega),Lib.cq (by simp;omega) (by simp;omega)];simp[e8]
 ·rw[aK hn,ax]
end DH

namespace wH
theorem ok(p q:aQ)(hp:p.length<=1048576)(hq:q.length<=1048576):c [[CV.l 9 p],[CV.l 9 q]]=ai/\v [[CV.l 9 p],[CV.l 9 q]]=p++q:=by
 refine out _ ?_;have w1:bJ (0+(p.length:aw))=(p.length:aw):=by rw[Int.zero_add];exact dj (by omega) (by omega)
 have w2:bJ ((p.length:aw)+(q.length:aw))=(p.length:aw)+(q.length:aw):=dj (by omega) (by omega);have hg:=DH.ok ((p.length:aw)+(q.length:aw)) (by omega) (by omega);have d1:decide ((p.length:aw)<0)=false:=aK (by omega);have d2:decide ((p.length:aw)+(q.length:aw)<0)=false:=aK (by omega);have g1:cC (0+p.length) 16=true:=Lib.cq (by omega) (by omega);have g2:cC (p.length+q.length) 16=true:=Lib.cq (by omega) (by omega);have c0:jv (ar [[CV.l 9 p],[CV.l 9 q]] 0 0)=p:=rfl;have c1:jv (ar [[CV.l 9 p],[CV.l 9 q]] 1 0)=q:=rfl;unfold vo b;obtain⟨n,hn⟩:∃n,Lib.cZ=n+3:=⟨18446744073709551613,rfl⟩
 generalize Lib.cZ=B at hn⊢;subst hn;have k3:∀(R:Type) (K:aQ->aw->aQ->aw->aw->az R) (S:aQ),S=[[CV.l 9 p],[CV.l 9 q]]->l3 (n+3) K (n+3) S 0 S 2 0=K S ((p.length:aw)+(q.length:aw)) S 2 2:=by intro R K S hS;subst hS;simp only[l3,r3,db,jO,show aY 0=0 from rfl,c0,w1,d1,show bJ (0+1)=1 from rfl,show aY 1=1 from rfl,c1,w2,d2,show bJ (1+1)=2 from rfl,ax,show decide ((0:aw)<2)=ai from rfl,show decide ((1:aw)<2)=ai from rfl,show decide ((2:aw)<2)=ak from rfl,show decide ((0:aw)<=0)=ai from rfl,show decide ((0:aw)<=1)=ai from rfl,show((0+1+1:aF):aw)=2 from rfl,aM,au]
 have k11:∀(R:Type) (K:aQ->aw->aw->aQ->az R) (S:aQ),S=[[CV.l 9 p],[CV.l 9 q]]->Pc (n+3) K (n+3) S 2 0 []=K S 2 2 (p++q):=by intro R K S hS;subst hS;simp only[Pc,Ag,db,jO,show aY 0=0 from rfl,c0,g1,show bJ (0+1)=1 from rfl,show aY 1=1 from rfl,c1,gz,g2,show bJ (1+1)=2 from rfl,ax,show decide ((0:aw)<2)=ai from rfl,show decide ((1:aw)<2)=ai from rfl,show decide ((2:aw)<2)=ak from rfl,show decide ((0:aw)<=0)=ai from rfl,show decide ((0:aw)<=1)=ai from rfl,show((0+1+1:aF):aw)=2 from rfl,aM,au]
 show l3 (n+3) _ (n+3) _ 0 _ 2 0=_;rw[k3 _ _ _ rfl,hg.1,hg.2,au];exact k11 _ _ _ rfl
end wH

namespace qC
theorem ok(w m:aA aq)(s:aQ)(a:aw)(hw:w.length<=1048576)(hm:m.length<=1048576):c (Lib.rs w) (Lib.rs m) s a=ai/\v (Lib.rs w) (Lib.rs m) s a=Lib.rs (w++m):=by
 have h:=wH.ok (Lib.rs w) (Lib.rs m) (by rw[eV];exact hw) (by rw[eV];exact hm);have e:aD (aD (aP [Ck.l 9] 2) 0 [CV.l 9 (Lib.rs w)]) 1 [CV.l 9 (Lib.rs m)]=[[CV.l 9 (Lib.rs w)],[CV.l 9 (Lib.rs m)]]:=rfl;have e2:Lib.rs w++Lib.rs m=Lib.rs (w++m):=by unfold Lib.rs;rw[dh]
 exact out _ _ _ _ (by unfold vo b;rw[e,h.1,h.2,au,e2])
end qC

namespace AF
theorem ok(l:aA aq)(k:aq)(hl:l.length<=4294967296):c (Lib.rs l) k=ai/\decide (v (Lib.rs l) k≥0)=fc.has l k:=by
 have h:=out (Lib.rs l) k (x:=Lib.fi (λi=>decide ((l.getD i ⟨#[]⟩)=k)) l.length 0) (by
  unfold vo b;rw[eV];refine mT (λi=>decide ((l.getD i ⟨#[]⟩)=k)) l.length (λm (i:aF)=>l2 Lib.cZ (λ(_:aQ) (_:aq) (y7 _ _:aw)=>ah y7) (λ(_:aQ) (_:aq) (_ _ _:aw)=>ah (-1)) m (Lib.rs l) k 0 (l.length:aw) (i:aw)) ah (λm i hi hp=> ?_) (λm i hi hp=> ?_) (λm=> ?_) Lib.cZ (cS (by omega))
  ·have hg:l.getD i ⟨#[]⟩=l[i]:=by simp[ka,hi]
   rw[hg]at hp;have mI:decide (k=l[i])=true:=by rw[<-hp,ca];exact V6
   simp only[l2,r2,eV,Lib.dq,hi,aN,Lib.cF,aM,au,Lib.dZ,Wh hi,bu,Lib.eM,mI]
  ·have hg:l.getD i ⟨#[]⟩=l[i]:=by simp[ka,hi]
   rw[hg]at hp;have mI:decide (k=l[i])=false:=by rw[<-hp,ca];exact V6
   simp only[l2,r2,eV,Lib.dq,hi,aN,Lib.cF,aM,au,Lib.dZ,Wh hi,bu,Lib.eM,mI,ax,Lib.c6 hi (by omega:l.length<=9223372036854775807)]
  ·simp only[l2,r2,Lib.dq,bm,bj,ax])
 refine⟨h.1, ?_⟩
 rw[h.2];exact Lib.B9 l (λx=>decide (x=k)) _ (λi hi=>by simp[ka,hi])
end AF

namespace sC
theorem ok(l:aA aq)(k:aq)(hl:l.length<=4294967296):c (Lib.rs l) k=ai/\v (Lib.rs l) k=fc.has l k:=by have h:=AF.ok l k hl;exact out _ _ (by unfold vo b;rw[h.1,h.2,au])
end sC

namespace o6
open Lib (rr rs)
open fc (has without gE lK)
open jx (eO K5 nA sJ x_)
theorem iP(k:aq):zi.v k=eO k:=fD.eI _ _ _
theorem ok(w m:aA aq)(s:aA (aA aw))(a:aw)(hw:w.length<=1048576)(hm:m.length<=1048576)(hf:jk.oH s):c (rs w) (rs m) (rr s) a=ai/\v (rs w) (rs m) (rr s) a=sJ w m s a:=by
 refine out _ _ _ _ ?_;have h2:=pK.ok s a hf;have h3:=qC.ok w m (rr s) a hw hm;unfold vo b;rw[h3.1,h3.2,au,eV];have hl:(w++m).length<=2097152:=by rw[bT];omega
 have gq:∀i,i<(w++m).length->sC.c (rs ((w++m).take i)) ((w++m).getD i ⟨#[]⟩)=ai/\sC.v (rs ((w++m).take i)) ((w++m).getD i ⟨#[]⟩)=has ((w++m).take i) ((w++m).getD i ⟨#[]⟩):=λi hi=>sC.ok _ _ (by rw[eK];omega);have hk:∀i (hi:i<(w++m).length),bu (ar (rs (w++m)) i 0)=(w++m).getD i ⟨#[]⟩:=λi hi=>by rw[Wh hi,show(w++m).getD i ⟨#[]⟩=(w++m)[i]by rw[cY,eT hi];rfl];rfl
 generalize hL:w++m=L at hl gq hk
 have key:=jl (K5 L) L.length (λn (i:aF)=>l3 Lib.cZ (λ(y8:aW) (_ _:aw) (_ _ _:aQ) (_:aw) (_:aQ)=>ah y8) (λ(_:aW) (_ _:aw) (D7 wh J5:aQ) (J6:aw) (_:aQ)=>bif(decide ((↑(bS D7):aw)<=2))then(bif(decide ((↑(bS wh):aw)<=4))then(bif(pK.c J5 J6)then(ah (pK.v J5 J6))else(aj))else(ah ak))else(ah ak)) n ak (L.length:aw) (i:aw) (rs w) (rs m) (rr s) a (rs L)) (ah ak) (ah (decide (w.length<=2)&&(decide (m.length<=4)&&fD.od s a)))
  (λn i hi hp=>by
   unfold K5 at hp;rw[aL,dx]at hp;have b1:g9 0 (i:aw) (L.length:aw)=true:=by simp[g9];omega
   simp only[l3,r3,eV,Lib.dq,hi,aN,Lib.cF,aM,au,Lib.dZ,hk i hi,iP,hp.1,a_,ax,b1,x_,(gq i hi).1,(gq i hi).2,hp.2,Lib.c6 hi (by omega:L.length<=9223372036854775807)])
  (λn i hi hp=>by
   have b1:g9 0 (i:aw) (L.length:aw)=true:=by simp[g9];omega
   unfold K5 at hp;cases h1:eO (L.getD i ⟨#[]⟩)with
   |false=>simp only[l3,r3,eV,Lib.dq,hi,aN,Lib.cF,aM,au,Lib.dZ,hk i hi,iP,h1,bR]
   |true=>rw[h1,bh,mL]at hp;simp only[l3,r3,eV,Lib.dq,hi,aN,Lib.cF,aM,au,Lib.dZ,hk i hi,iP,h1,a_,ax,b1,x_,(gq i hi).1,(gq i hi).2,hp])
  (λn=>by simp only[l3,r3,eV,Lib.dq,bm,bj,ax,h2.1,h2.2,au];rw[show decide ((w.length:aw)<=2)=decide (w.length<=2)by rw[ca];omega,show decide ((m.length:aw)<=4)=decide (m.length<=4)by rw[ca];omega];cases decide (w.length<=2)<;>cases decide (m.length<=4)<;>rfl) Lib.cZ (cS (by omega))
 refine key.trans ?_;unfold sJ nA;rw[hL];cases (cw L.length).all (K5 L)<;>rfl
end o6

namespace sB
open Lib (rr rs)
open fc (has)
theorem Xm(w m:aA aq)(k:aq):has (w++m) k=(has w k||has m k):=by unfold has;rw[List.any_append]
theorem ok(w m:aA aq)(s:aQ)(a:aw)(k:aq)(hw:w.length<=1048576)(hm:m.length<=1048576):c (rs w) (rs m) s a k=ai/\v (rs w) (rs m) s a k=(has w k||has m k):=by have h1:=qC.ok w m s a hw hm;have h2:=sC.ok (w++m) k (by rw[bT];omega);exact out _ _ _ _ _ (by unfold vo b;rw[h1.1,h1.2,h2.1,h2.2,au,au,Xm])
end sB

namespace Qe
open Lib (rr rs re el oM qx qy qz En)
open fc (has)
open jx (sJ)
open nN (HL MV u5)
theorem Ez(k:aq)(s l:aw)(b:aq):wC.v k s l b=m8.v k s l b:=rfl
theorem ok(i0:aw)(en:aA En)(w m:aA aq)(s:aA (aA aw))(a:aw)(r6 r7:aQ)(i8:aw)(he:en.length<=1048576)(hw:w.length<=1048576)(hm:m.length<=1048576)(hf:jk.oH s):
  c i0 (re en) (rs w) (rs m) (rr s) a r6 r7 i8=ai/\v i0 (re en) (rs w) (rs m) (rr s) a r6 r7 i8=MV en w m s a:=by
 refine out _ _ _ _ _ _ _ _ _ ?_;have h1:=o6.ok w m s a hw hm hf;have h2:=λk=>sB.ok w m (rr s) a k hw hm;have h3:=qC.ok w m (rr s) a hw hm;unfold vo b;rw[dy]
 have key:=jl (HL en w m) en.length (λn (i:aF)=>l2 Lib.cZ (λ(HA:aW) (_:aQ) (_ _ _:aw) (_ _ _ _:aQ) (_:aw) (_ _:aQ) (_:aw)=>ah HA) (λ(_:aW) (_:aQ) (_ _ _:aw) (Qz P0 VJ y34:aQ) (y35:aw) (_ _:aQ) (_:aw)=>bif(o6.c P0 VJ y34 y35)then(bif(o6.v P0 VJ y34 y35)then(bif(qC.c P0 VJ y34 y35)then(ah (decide ((↑(bS (qC.v P0 VJ y34 y35)):aw)=(↑(bS Qz):aw))))else(aj))else(ah ak))else(aj)) n ak (re en) (en.length:aw) (i:aw) i0 (re en) (rs w) (rs m) (rr s) a r6 r7 i8) (ah ak) (ah (sJ w m s a&&decide (w.length+m.length=en.length)))
  (λn i hi hp=>by
   unfold HL u5 at hp;rw[aL,aL]at hp;obtain⟨p1,p2,p3⟩:=hp;by_cases hz:i=0
   ·subst hz;simp only[l2,r2,dy,Lib.dq,hi,aN,Lib.cF,aM,au,Lib.dZ,oM hi,qx hi,qy hi,qz hi,bu,bE,Ez,p1,a_,ax,aK (show¬(((0:aF):aw)>0)by omega),(h2 _).1,(h2 _).2,p3,Lib.c6 hi (by omega:en.length<=9223372036854775807)]
   ·rw[aK hz,oi]at p2;have mA:i-1<en.length:=by omega
    simp only[l2,r2,dy,Lib.dq,hi,aN,Lib.cF,aM,au,Lib.dZ,oM hi,qx hi,qy hi,qz hi,bu,bE,Ez,p1,a_,ax,aE (show(i:aw)>0 by omega),lW (show 0<i by omega) (by omega),mA,oM mA,p2,(h2 _).1,(h2 _).2,p3,Lib.c6 hi (by omega:en.length<=9223372036854775807)])
  (λn i hi hp=>by
   unfold HL u5 at hp;cases p1:m8.v (el en i).k (el en i).st (el en i).li (el en i).bo with
   |false=>simp only[l2,r2,dy,Lib.dq,hi,aN,Lib.cF,aM,au,Lib.dZ,oM hi,qx hi,qy hi,qz hi,bu,bE,Ez,p1,bR]
   |true=>
    rw[p1,bh]at hp;by_cases hz:i=0
    ·subst hz;rw[aE rfl,Al,bh]at hp;simp only[l2,r2,dy,Lib.dq,hi,aN,Lib.cF,aM,au,Lib.dZ,oM hi,qx hi,qy hi,qz hi,bu,bE,Ez,p1,a_,bR,ax,aK (show¬(((0:aF):aw)>0)by omega),(h2 _).1,(h2 _).2,hp]
    ·rw[aK hz,oi]at hp;have mA:i-1<en.length:=by omega
     cases p2:b7 (aC (el en (i-1)).k) (aC (el en i).k)with
     |false=>simp only[l2,r2,dy,Lib.dq,hi,aN,Lib.cF,aM,au,Lib.dZ,oM hi,qx hi,qy hi,qz hi,bu,bE,Ez,p1,a_,bR,ax,aE (show(i:aw)>0 by omega),lW (show 0<i by omega) (by omega),mA,oM mA,p2]
     |true=>rw[p2,bh]at hp;simp only[l2,r2,dy,Lib.dq,hi,aN,Lib.cF,aM,au,Lib.dZ,oM hi,qx hi,qy hi,qz hi,bu,bE,Ez,p1,a_,bR,ax,aE (show(i:aw)>0 by omega),lW (show 0<i by omega) (by omega),mA,oM mA,p2,(h2 _).1,(h2 _).2,hp])
  (λn=>by simp only[l2,r2,Lib.dq,bm,bj,ax,h1.1,h1.2,h3.1,h3.2,au,eV,dy,bT];rw[show decide (((w.length+m.length:aF):aw)=(en.length:aw))=decide (w.length+m.length=en.length)by rw[ca];omega];cases sJ w m s a<;>rfl) Lib.cZ (cS (by omega))
 refine key.trans ?_;unfold MV;cases (cw en.length).all (HL en w m)<;>rfl
end Qe

namespace eS
def op(r:aQ)(i:aF):aW:=decide (bE (ar r i 2)=1)
def g(r:aQ)(i j:aF):aW:= !(op r i&&(op r j&&bZ (aC (bu (ar r i 0))) (aC (bu (ar r j 0)))))
def val(r:aQ):aW:=(cw r.length).all λi=>(cw i).all (g r i)
end eS

namespace qD
def p(s0:aQ)(gJ:aq)(i:aF):aW:=H4.v (bu (ar s0 i 0)) (bu (ar s0 i 1)) (bE (ar s0 i (1+1))) (bE (ar s0 i (1+1+1))) (bE (ar s0 i (1+1+1+1))) gJ
theorem ok(s0:aQ)(gJ:aq)(hl:s0.length<=4294967296):c s0 gJ=ai/\v s0 gJ=Lib.fi (p s0 gJ) s0.length 0:=by
 refine out s0 gJ ?_;unfold vo b;refine mT (p s0 gJ) s0.length (λm (i:aF)=>l2 Lib.cZ (λ(_:aQ) (_:aq) (y7 _ _:aw)=>ah y7) (λ(_:aQ) (_:aq) (_ _ _:aw)=>ah (-1)) m s0 gJ 0 (s0.length:aw) (i:aw)) ah (λm i hi hp=> ?_) (λm i hi hp=> ?_) (λm=> ?_) Lib.cZ (cS (by omega))
 ·unfold p at hp;simp only[l2,r2,Lib.dq,Lib.cF,Lib.dZ,hi,aN,aM,au,hp]
 ·unfold p at hp;simp only[l2,r2,Lib.dq,Lib.cF,Lib.dZ,hi,aN,aM,au,hp,ax,Lib.c6 hi (by omega:s0.length<=9223372036854775807)]
 ·simp only[l2,r2,Lib.dq,bm,bj,ax]
end qD

namespace Kl
theorem ok(i0:aw)(r1 r2 r3 r4:aQ)(i5:aw)(r6 r7:aQ)(i8:aw)(key:aq)(hl:r6.length<=4294967296):c i0 r1 r2 r3 r4 i5 r6 r7 i8 key=ai/\v i0 r1 r2 r3 r4 i5 r6 r7 i8 key=Lib.fi (qD.p r6 key) r6.length 0:=by have h:=qD.ok r6 key hl;exact out _ _ _ _ _ _ _ _ _ _ (by unfold vo b;rw[h.1,h.2,au])
end Kl

namespace H6
def q(r:aQ)(i:aF):aW:= !(eS.op r i&&(Lib.fi (qD.p r (bu (ar r i 0))) r.length 0 !=(i:aw)))
theorem same(r:aQ)(i:aF)(hi:i<r.length):q r i=(cw i).all (eS.g r i):=by
 unfold q;cases ho:eS.op r i with
 |false=>symm;rw[lE,bR,bn];intro j _;unfold eS.g;rw[ho];rfl
 |true=>
  rw[bh];have hp:∀j,qD.p r (bu (ar r i 0)) j= !eS.g r i j:=by intro j;unfold qD.p H4.v eS.g;rw[ho,bh,Bool.not_not,Lib.eM,Lib.eM];unfold eS.op;rw[show decide (bu (ar r j 0)=bu (ar r i 0))=decide (bu (ar r i 0)=bu (ar r j 0))from by rw[ca];exact V6];cases decide (bu (ar r i 0)=bu (ar r j 0))<;>simp
  have hpi:qD.p r (bu (ar r i 0)) i=true:=by rw[hp];unfold eS.g;rw[ho,Lib.eM];simp
  rcases Lib.pj (qD.p r (bu (ar r i 0))) r.length 0 with ⟨_,h2⟩|⟨k,h1,h2,h3,h4,h5⟩
  ·have:=h2 i (bI _) (by omega);rw[hpi]at this;cases this
  ·rw[h3];by_cases hk:k=i
   ·subst hk;rw[bne_self_eq_false,bR];symm;rw[bn];intro j hj;have:=h5 j (bI _) (by simpa using hj);rw[hp]at this;simpa using this
   ·have jy:k<i:=by
     rcases qU k i with h|h
     ·exact h
     ·have:=h5 i (bI _) (by omega);rw[hpi]at this;cases this
    rw[show((k:aw) !=(i:aw))=ai from by simp;omega,a_];symm;rw[List.all_eq_false];refine⟨k,by simpa using jy, ?_⟩
    rw[hp]at h4;simpa using h4
theorem ok(i0:aw)(p1 p2 p3 p4:aQ)(i5:aw)(p6 p7:aQ)(i8:aw)(hl:p6.length<=4294967296):c i0 p1 p2 p3 p4 i5 p6 p7 i8=ai/\v i0 p1 p2 p3 p4 i5 p6 p7 i8=eS.val p6:=by
 refine out _ _ _ _ _ _ _ _ _ ?_;unfold vo b;have hw:∀i,i<p6.length->bJ ((i:aw)+1)=((i+1:aF):aw):=λi h=>Lib.c6 h (by omega);have ho:=λkey=>Kl.ok i0 p1 p2 p3 p4 i5 p6 p7 i8 key hl
 have key:=jl (q p6) p6.length (λm (i:aF)=>l2 Lib.cZ (λ(HA:aW) (_:aQ) (_ _ _:aw) (_ _ _ _:aQ) (_:aw) (_ _:aQ) (_:aw)=>ah HA) (λ(_:aW) (_:aQ) (_ _ _:aw) (_ _ _ _:aQ) (_:aw) (_ _:aQ) (_:aw)=>ah ai) m ak p6 (p6.length:aw) (i:aw) i0 p1 p2 p3 p4 i5 p6 p7 i8) (ah ak) (ah ai)
  (λm i hi hp=>by
   unfold q eS.op at hp;cases e1:decide (bE (ar p6 i (1+1))=1)with
   |false=>simp only[l2,r2,Lib.dq,hi,aN,Lib.cF,aM,au,Lib.dZ,e1,ax,hw i hi]
   |true=>rw[show decide (bE (ar p6 i 2)=1)=ai from e1,bh,dx]at hp;simp only[l2,r2,Lib.dq,hi,aN,Lib.cF,aM,au,Lib.dZ,e1,(ho _).1,(ho _).2,hp,ax,hw i hi])
  (λm i hi hp=>by unfold q eS.op at hp;rw[mL,aL]at hp;obtain⟨e1,e2⟩:=hp;have e1:decide (bE (ar p6 i (1+1))=1)=true:=e1;simp only[l2,r2,Lib.dq,hi,aN,Lib.cF,aM,au,Lib.dZ,e1,(ho _).1,(ho _).2,e2])
  (λm=>by simp only[l2,r2,Lib.dq,bm,bj,ax]) Lib.cZ (cS (by omega))
 refine key.trans ?_;rw[all_congr (λi hi=>same p6 i hi)];unfold eS.val;cases (cw p6.length).all λi=>(cw i).all (eS.g p6 i)<;>rfl
end H6

namespace Ow
open Lib (rf el Fe C8 C9 PY zQ Qr Qs)
open m9 (nF apart lD)
theorem eI(n a b:aw):lz.v n a b=decide (a<=n/\n<=b):=fD.eI n a b
theorem one(fe:aA Fe):eS.val (rf fe)=(cw fe.length).all (apart fe):=by
 unfold eS.val;rw[dL];refine all_congr (λi hi=> ?_);unfold apart;refine all_congr (λj hj=> ?_);have jY:j<fe.length:=by omega
 unfold eS.g eS.op lD;rw[C8 hi,C8 jY,zQ hi,zQ jY];simp only[bu,bE,Lib.eM];rfl
theorem ok(i0:aw)(u1 u2 u3 u4:aQ)(i5:aw)(fe:aA Fe)(u7:aQ)(i8:aw)(hf:fe.length<=1048576):
  c i0 u1 u2 u3 u4 i5 (rf fe) u7 i8=ai/\v i0 u1 u2 u3 u4 i5 (rf fe) u7 i8=((cw fe.length).all (λi=>nF i0 (el fe i))&&(decide (fe.length<=20)&&(cw fe.length).all (apart fe))):=by
 refine out _ _ _ _ _ _ _ _ _ ?_;have h1:=H6.ok i0 u1 u2 u3 u4 i5 (rf fe) u7 i8 (by rw[dL];omega);rw[one]at h1;unfold vo b;rw[dL]
 have key:=jl (λi=>nF i0 (el fe i)) fe.length (λn (i:aF)=>l2 Lib.cZ (λ(HA:aW) (_:aQ) (_ _ _:aw) (_ _ _ _:aQ) (_:aw) (_ _:aQ) (_:aw)=>ah HA) (λ(_:aW) (_:aQ) (_ _ Qy:aw) (Qz P0 VJ y34:aQ) (y35:aw) (y36 y37:aQ) (y38:aw)=>bif(decide ((↑(bS y36):aw)<=20))then(bif(H6.c Qy Qz P0 VJ y34 y35 y36 y37 y38)then(ah (H6.v Qy Qz P0 VJ y34 y35 y36 y37 y38))else(aj))else(ah ak)) n ak (rf fe) (fe.length:aw) (i:aw) i0 u1 u2 u3 u4 i5 (rf fe) u7 i8) (ah ak) (ah (decide (fe.length<=20)&&(cw fe.length).all (apart fe)))
  (λn i hi hq=>by
   unfold nF at hq;simp only[aL]at hq;obtain⟨q1,q2,q3,q4,q5⟩:=hq;have e1:decide (((el fe i).t.size:aw)>400)= !decide (((el fe i).t.size:aw)<=400):=by rw[<-decide_not,ca];omega
   simp only[l2,r2,dL,Lib.dq,hi,aN,Lib.cF,aM,au,Lib.dZ,C8 hi,C9 hi,PY hi,Qr hi,Qs hi,bu,bE,eI,o6.iP,e1,q1,q2,q3,q4,q5,a_,ax,Lib.c6 hi (by omega:fe.length<=9223372036854775807)])
  (λn i hi hq=>by
   unfold nF at hq;have e1:decide (((el fe i).t.size:aw)>400)= !decide (((el fe i).t.size:aw)<=400):=by rw[<-decide_not,ca];omega
   simp only[l2,r2,dL,Lib.dq,hi,aN,Lib.cF,aM,au,Lib.dZ,C8 hi,C9 hi,PY hi,Qr hi,Qs hi,bu,bE,eI,o6.iP,e1];revert hq;cases jx.eO (el fe i).k<;>cases decide (((el fe i).t.size:aw)<=400)<;>cases decide (1<=(el fe i).sta/\(el fe i).sta<=3)<;>cases decide (0<=(el fe i).li/\(el fe i).li<=999999)<;>cases decide (0<=(el fe i).st/\(el fe i).st<=i0)<;>intro hq<;>first|rfl|cases hq)
  (λn=>by simp only[l2,r2,Lib.dq,bm,bj,ax,dL,h1.1,h1.2,au];rw[show decide ((fe.length:aw)<=20)=decide (fe.length<=20)by rw[ca];omega];cases decide (fe.length<=20)<;>rfl) Lib.cZ (cS (by omega))
 refine key.trans ?_;cases (cw fe.length).all (λi=>nF i0 (el fe i))<;>rfl
end Ow

namespace Qf
open Lib (rf rc el Fe Cl LW Wi Ob Wj PW PX Wk)
open jx (eO)
open qi (HK)
open Ow (eI)
theorem step(N:aF)(g k0 k1:aW->aQ->aw->aw->aw->aQ->aQ->aQ->aQ->aw->aQ->aQ->aw->az R)(i0:aw)(q1 q2 q3 q4:aQ)(i5:aw)(fe:aA Fe)(cl:aA Cl)(i8:aw)(i:aF)(hi:i<cl.length)(hl:cl.length<=1048576):
  r2 N g k0 k1 ak (rc cl) cl.length (i:aw) i0 q1 q2 q3 q4 i5 (rf fe) (rc cl) i8=bif HK i0 fe.length cl i then g ak (rc cl) cl.length ((i+1:aF):aw) i0 q1 q2 q3 q4 i5 (rf fe) (rc cl) i8 else k0 ak (rc cl) cl.length (i:aw) i0 q1 q2 q3 q4 i5 (rf fe) (rc cl) i8:=by
 unfold HK;have e1:decide (((el cl i).km.size:aw)>400)= !decide (((el cl i).km.size:aw)<=400):=by rw[<-decide_not,ca];omega
 have e2:decide ((el cl i).age<0)= !decide (0<=(el cl i).age):=by rw[<-decide_not,ca];omega
 by_cases hz:i=0
 ·subst hz;simp only[r2,eU,dL,Lib.dq,hi,aN,Lib.cF,aM,au,Lib.dZ,LW hi,Wi hi,Ob hi,Wj hi,PW hi,PX hi,Wk hi,bu,bE,eI,o6.iP,aK (show¬(((0:aF):aw)>0)by omega),ax,e1,e2,Lib.c6 hi (by omega:cl.length<=9223372036854775807),Al,bh];cases decide (1<=(el cl 0).id/\(el cl 0).id<=9)<;>cases eO (el cl 0).k<;>cases decide (1<=(el cl 0).sta/\(el cl 0).sta<=3)<;>cases decide (0<=(el cl 0).fe/\(el cl 0).fe<=(fe.length:aw))<;>cases decide (((el cl 0).km.size:aw)<=400)<;>cases decide (0<=(el cl 0).fr/\(el cl 0).fr<=i0)<;>cases decide (0<=(el cl 0).age)<;>rfl
 ·have mA:i-1<cl.length:=by omega
  have e3:decide ((el cl (i-1)).id≥(el cl i).id)= !decide ((el cl (i-1)).id<(el cl i).id):=by rw[<-decide_not,ca];omega
  simp only[r2,eU,dL,Lib.dq,hi,aN,Lib.cF,aM,au,Lib.dZ,LW hi,Wi hi,Ob hi,Wj hi,PW hi,PX hi,Wk hi,bu,bE,eI,o6.iP,aE (show(i:aw)>0 by omega),lW (show 0<i by omega) (by omega),mA,LW mA,ax,e1,e2,e3,Lib.c6 hi (by omega:cl.length<=9223372036854775807),aK hz,oi];cases decide (1<=(el cl i).id/\(el cl i).id<=9)<;>cases decide ((el cl (i-1)).id<(el cl i).id)<;>cases eO (el cl i).k<;>cases decide (1<=(el cl i).sta/\(el cl i).sta<=3)<;>cases decide (0<=(el cl i).fe/\(el cl i).fe<=(fe.length:aw))<;>cases decide (((el cl i).km.size:aw)<=400)<;>cases decide (0<=(el cl i).fr/\(el cl i).fr<=i0)<;>cases decide (0<=(el cl i).age)<;>rfl
theorem ok(i0:aw)(q1 q2 q3 q4:aQ)(i5:aw)(fe:aA Fe)(cl:aA Cl)(i8:aw)(hl:cl.length<=1048576):
  c i0 q1 q2 q3 q4 i5 (rf fe) (rc cl) i8=ai/\v i0 q1 q2 q3 q4 i5 (rf fe) (rc cl) i8=((cw cl.length).all (HK i0 fe.length cl)&&decide (cl.length<=6)):=by
 refine out _ _ _ _ _ _ _ _ _ ?_;unfold vo b;rw[eU]
 have key:=jl (HK i0 fe.length cl) cl.length (λn (i:aF)=>l2 Lib.cZ (λ(HA:aW) (_:aQ) (_ _ _:aw) (_ _ _ _:aQ) (_:aw) (_ _:aQ) (_:aw)=>ah HA) (λ(_:aW) (_:aQ) (_ _ _:aw) (_ _ _ _:aQ) (_:aw) (_ y37:aQ) (_:aw)=>ah (decide ((↑(bS y37):aw)<=6))) n ak (rc cl) (cl.length:aw) (i:aw) i0 q1 q2 q3 q4 i5 (rf fe) (rc cl) i8) (ah ak) (ah (decide (cl.length<=6)))
  (λn i hi hq=>by simp only[l2];rw[step _ _ _ _ _ _ _ _ _ _ _ _ _ i hi hl,hq];rfl)
  (λn i hi hq=>by simp only[l2];rw[step _ _ _ _ _ _ _ _ _ _ _ _ _ i hi hl,hq];rfl)
  (λn=>by simp only[l2,r2,Lib.dq,bm,bj,ax,eU];rw[show decide ((cl.length:aw)<=6)=decide (cl.length<=6)by rw[ca];omega]) Lib.cZ (cS (by omega))
 refine key.trans ?_;cases (cw cl.length).all (HK i0 fe.length cl)<;>rfl
end Qf

namespace Ov
open Lib (rr rs re rf rc el En Fe Cl Px)
open nN (MV)
open m9 (nF apart)
open qi (HK jd)
theorem ok(p:Px)(hp:p.Fit 1048576):c p.now (re p.en) (rs p.w) (rs p.m) (rr p.s) p.a (rf p.fe) (rc p.cl) p.hits=ai/\v p.now (re p.en) (rs p.w) (rs p.m) (rr p.s) p.a (rf p.fe) (rc p.cl) p.hits=jd p:=by refine out _ _ _ _ _ _ _ _ _ ?_;have h1:=Qe.ok p.now p.en p.w p.m p.s p.a (rf p.fe) (rc p.cl) p.hits hp.en hp.w hp.m ⟨hp.s.1,hp.s.2.1⟩;have h2:=Ow.ok p.now (re p.en) (rs p.w) (rs p.m) (rr p.s) p.a p.fe (rc p.cl) p.hits hp.fe;have h3:=Qf.ok p.now (re p.en) (rs p.w) (rs p.m) (rr p.s) p.a p.fe p.cl p.hits hp.cl;unfold vo b jd;have e1:∀n a b,lz.v n a b=decide (a<=n/\n<=b):=λn a b=>fD.eI n a b;have e2:RR.v p.hits=decide (0<=p.hits/\p.hits<=1000000000):=e1 p.hits 0 1000000000;rw[e1,e2,h1.1,h1.2,h2.1,h2.2,h3.1,h3.2,Gm];cases decide (1<=p.now/\p.now<=1000000000)<;>cases MV p.en p.w p.m p.s p.a<;>cases decide (p.fe.length<=20)<;>cases decide (p.cl.length<=6)<;>cases decide (0<=p.hits/\p.hits<=1000000000)<;>cases (cw p.fe.length).all (λi=>nF p.now (el p.fe i))<;>cases (cw p.fe.length).all (apart p.fe)<;>cases (cw p.cl.length).all (HK p.now p.fe.length p.cl)<;>rfl
end Ov

namespace qE
def p(s:aQ)(k:aw)(i:aF):aW:=decide (bE (ar s i 0)=k)
theorem ok(d:aQ)(n:aw)(hl:d.length<=4294967296):c d n=ai/\v d n=Lib.fi (p d n) d.length 0:=by
 refine out d n ?_;unfold vo b;refine mT (p d n) d.length (λm (i:aF)=>l2 Lib.cZ (λ(_:aQ) (_:aw) (y7 _ _:aw)=>ah y7) (λ(_:aQ) (_:aw) (_ _ _:aw)=>ah (-1)) m d n 0 (d.length:aw) (i:aw)) ah (λm i hi hp=> ?_) (λm i hi hp=> ?_) (λm=> ?_) Lib.cZ (cS (by omega))
 ·unfold p at hp;simp only[l2,r2,Lib.dq,Lib.cF,Lib.dZ,hi,aN,aM,au,Kg.v,hp]
 ·unfold p at hp;simp only[l2,r2,Lib.dq,Lib.cF,Lib.dZ,hi,aN,aM,au,Kg.v,hp,ax,Lib.c6 hi (by omega:d.length<=9223372036854775807)]
 ·simp only[l2,r2,Lib.dq,bm,bj,ax]
end qE

namespace zh
open Lib (rc el Cl)
open ic (lA)
theorem ok(i0:aw)(r1 r2 r3 r4:aQ)(i5:aw)(r6:aQ)(cl:aA Cl)(i8 id:aw)(hl:cl.length<=1048576):c i0 r1 r2 r3 r4 i5 r6 (rc cl) i8 id=ai/\decide (v i0 r1 r2 r3 r4 i5 r6 (rc cl) i8 id≥0)=lA cl id:=by
 have h:=qE.ok (rc cl) id (by rw[eU];omega);have o:=out i0 r1 r2 r3 r4 i5 r6 (rc cl) i8 id (by unfold vo b;rw[h.1,h.2,au]);refine⟨o.1, ?_⟩
 rw[o.2,eU];exact ic.B9 cl (λx=>decide (x.id=id)) _ λi hi=>by unfold qE.p;rw[LW hi,eH hi];rfl
end zh

namespace pR
def p(s:aQ)(k:aq)(i:aF):aW:=bZ (aC (bu (ar s i 0))) (aC k)
theorem ok(d:aQ)(n:aq)(hl:d.length<=4294967296):c d n=ai/\v d n=Lib.fi (p d n) d.length 0:=by
 refine out d n ?_;unfold vo b;refine mT (p d n) d.length (λm (i:aF)=>l2 Lib.cZ (λ(_:aQ) (_:aq) (y7 _ _:aw)=>ah y7) (λ(_:aQ) (_:aq) (_ _ _:aw)=>ah (-1)) m d n 0 (d.length:aw) (i:aw)) ah (λm i hi hp=> ?_) (λm i hi hp=> ?_) (λm=> ?_) Lib.cZ (cS (by omega))
 ·unfold p at hp;simp only[l2,r2,Lib.dq,Lib.cF,Lib.dZ,hi,aN,aM,au,Kf.v,hp]
 ·unfold p at hp;simp only[l2,r2,Lib.dq,Lib.cF,Lib.dZ,hi,aN,aM,au,Kf.v,hp,ax,Lib.c6 hi (by omega:d.length<=9223372036854775807)]
 ·simp only[l2,r2,Lib.dq,bm,bj,ax]
end pR

namespace qG
theorem ok(i:aF)(key:aq)(hi:i<3)(hk:key.size<=140737488355328):c (i:aw) key=ai/\v (i:aw) key=(gj.pl i key:aw):=by
 refine out _ _ ?_;unfold vo b;have e:(key++bytesOf (aD (aP [Ck.i bf] 1) 0 [CV.i bf (bF bf (bJ (↑(dV (jq (b_ 64 (i:aw)) (b_ 64 255))):aw)))]))=gj.keyed i key:=by
  unfold gj.keyed;match i,hi with
  |0,_=>rfl
  |1,_=>rfl
  |2,_=>rfl
 have hs:=gj.CW i key;have h:=uY.ok (gj.keyed i key) (by omega);have e2:cj key+cj (bytesOf (aD (aP [Ck.i bf] 1) 0 [CV.i bf (bF bf (bJ (↑(dV (jq (b_ 64 (i:aw)) (b_ 64 255))):aw)))]))=key.size+1:=by rw[pL,CU]
 rw[e2,e,aE (by omega),au,h.1,h.2,au];have hp:=gj.pl_int i key;have hl:=gj.CJ i key;have hr:=gj.LI i key;unfold gj.sm at hp hr;rw[dj (by omega) (by omega),hp]
end qG

end Go.FG
