/- What the functions come to, in plain numbers, texts and lists; last the law itself. No condition but those that each states. -/
import Derived.Test.YtilcgpcemjeaeaaGreatPFallenb
import Derived.Test.YtilcgpcemjeaeaaGreatFFallena
set_option linter.unusedVariables false
set_option linter.unusedSimpArgs false
set_option maxRecDepth 100000
open Bool renaming and_self->aM,true->ai,not_true->a_,false->ak,true_and->bc,not_false->bR,and_true->ju,false_or->ox,and_false->wC,false_and->lG,and_eq_true->aL,false_eq_true->dx,not_eq_true'->dr,or_eq_true->dL,and_assoc->nS,not_eq_false'->nk
open ByteArray renaming toList->aA,empty_append->lP,extract->bO,size->cm
open Go.IntKind renaming i64->ao
open Go.Op renaming bytesLess->b7
open Int renaming tdiv->cQ,le_trans->BV,neg->Ku,toNat->aW,tmod->cy,tmod_eq_emod_of_nonneg->ir,toNat_natCast->dG,lt_irrefl->Ks,tdiv_eq_ediv_of_nonneg->ie
open List renaming getElem_mem->bC,length_map->bU,ext_getElem->lT,set_getElem_self->fA,getElem_set_self->kK,length_set->cD,set_set->pN,beq->bZ,take_succ_eq_append_getElem->cu,filter_append->gv,all_eq_true->bu,mem_or_eq_of_mem_set->jL,take_set_of_le->wN,drop_set_of_lt->wM,drop_eq_nil_of_le->gU,append_nil->dn,take_length->dD,filter_eq_self->eK,getElem_of_mem->c6,take->g_,drop->nt,drop_zero->e_,take_append_of_le_length->pb,take_of_length_le->jf,getElem_take->nC,mem_map->cW,filter_map->o_,filter_congr->kV,drop_length->dj,length_singleton->bA,nodup_append->eQ,length_append->bP,mem_append->ba,mem_append_left->bM,mem_singleton->aZ,mem_append_right->bN,length_tail->W8,length->bT,set->aD,map_append->di,drop_eq_getElem_cons->dE,find?_cons_of_neg->Kv,length_filter_le->eC,length_take->eD,nil_append->gC,append_assoc->cz,pairwise_cons->qG,mem_of_find?_eq_some->qF,find?_eq_none->W6,find?_some->vp,mem_cons->cB,not_mem_nil->gG,any_eq_true->F2,foldl_append->kW,getD_eq_getElem?_getD->cS,getElem?_append_left->dH,range->b9,mem_range->gV,pairwise_iff_getElem->dB,nodup_cons->lh,mem_cons_self->dq,mem_cons_of_mem->c7,length_cons->db,pairwise_map->jA,nodup_iff_pairwise_ne->lK,mem_filter->c9
open List.Pairwise renaming filter->oH
open List.cons renaming inj->kD
open Nat renaming zero_le->bI,lt_irrefl->bm,sub_zero->sr,le_trans->dh,zero_add->bV,le_refl->cF
open Option renaming some->ah,none->aj,map_some->jh
open UInt8 renaming ofNat->ay
open _root_ renaming ByteArray->aq,Int->aw,Option->aC,List->az,Nat->aF,decide_eq_true->aE,decide_true->aN,cond_true->au,cond_false->ax,if_neg->bH,if_pos->bz,decide_eq_false->aK,Bool->aX,decide_false->bj,decide_eq_decide->cg,of_decide_eq_false->l8,decide_eq_true_eq->bf,decide_eq_false_iff_not->fu,absurd->cJ,of_decide_eq_true->cq
namespace Go.FG
open Lib (GO all_congr iC pk B7 jW v_ eW xC eN fV kA m7 Cs Nr xJ mg uJ cG l_ rc0 rc1 rc2 rc3 rc4 rc5 rc6 fc JO WD WE eB re0 re1 re2 re3 dc dM QK Ke gX WG eZ pR kU Dc uc o6 yC FC ou Dl yD qW qX uf nR de Kh wd0 wd1 wd2 oE qz qA qB Dp DB Qm z5 QM QN)
variable {R:Type}
namespace iL
open Lib (rr ri)
open dv (fR bq DZ half Cf Qh Qi oT uN tB)
theorem agz(K:aq->aw->aw->aw->aw->aR->aC R)(s:az (az aw))(key:aq)(y a:aw)(hs:s.length=3)(hq:∀q∈s,q.length=16/\∀n∈q,0<=n/\n<=15)(hk:key.size<=140737488355328):
  l5 Lib.cU K Lib.cU key 3 0 y a (rr s)=K key 3 3 y a (rr (DZ s key)):=by
 refine(nR fR s (λi q=>bq (gm.pl i key) q) (λm (i:aF) x=>l5 Lib.cU K m key 3 (i:aw) y a x) (λx=>K key 3 3 y a x) (λm i L h h2 hL wc=> ?_) (λm L hL=> ?_) Lib.cU (cG (by omega)))
 ·have hp:=qL.ok i key (by omega) hk;have s5:=gm.C1 i key;obtain⟨Kb,hn⟩:=hq _ (bC h);have e0:ar (L.map fR) i 0=CV.l 3 (ri s[i]):=by rw[Cf L i h2,wc]
  have hb:gm.pl i key<s[i].length:=by omega
  have hx:=hn _ (bC hb);have e3:decide ((i:aw)<3)=true:=aE (by omega);simp only[l5,r5,bU,Lib.dm,h2,e3,aN,au,hp.1,hp.2,Lib.cE,aM,Lib.dX,e0,jz,Lib.gW,Kb,s5,QK hb,bF];unfold bq iv;rw[oT hb,ax,de (x:=s[i][gm.pl i key]+1) (by omega) (by omega)];by_cases hd:s[i][gm.pl i key]<15
  ·rw[bH (by omega),aE hd,au,Qh _ _ _ hb,Qi _ _ _ h2,Lib.cZ h2 (by omega)]
  ·have e15:s[i][gm.pl i key]=15:=by omega
   rw[bz (by omega),aK hd,ax,e15,Qh _ _ _ hb,Qi _ _ _ h2,Lib.cZ h2 (by omega)]
 ·have e3:decide ((s.length:aw)<3)=false:=aK (by omega);simp only[l5,r5,e3,ax,hs];rfl
theorem alR(K:aF->aw->aw->aw->aw->aw->aw->aR->aC R)(L:az (az aw))(i:aF)(h:i<L.length)(u w y a:aw)(hl:L.length<=1048576)(hq:L[i].length=16)(hn:∀n∈L[i],0<=n/\n<=15):
  l18 Lib.cU K Lib.cU i u w 16 0 y a (L.map fR)=K i u w 16 16 y a ((L.set i (L[i].map λn=>cQ n 2)).map fR):=by
 have hmi:L[i].mapIdx (λ_ n=>cQ n 2)=L[i].map λn=>cQ n 2:=by apply lT<;>simp
 have key:=mg (L[i].length) (λm (k:aF) x=>l18 Lib.cU K m i u w 16 (k:aw) y a x) (λk=>(L.set i (ou L[i] (λ_ n=>cQ n 2) k)).map fR) (K i u w 16 16 y a ((L.set i (L[i].map λn=>cQ n 2)).map fR)) (λm k hk=> ?_) (λm=> ?_) Lib.cU 0 (bI _) (cG (by omega))
 ·rw[Dl,fA]at key;exact key
 ·have hu:=qX L[i] (λ_ n=>cQ n 2) k (by omega);generalize hU:ou L[i] (λ_ n=>cQ n 2) k=U at hu;have hku:k<U.length:=by omega
  have gf:U[k]=L[i][k]:=by subst hU;exact yD _ _ _ hk _
  have afr:U.set k (cQ L[i][k] 2)=ou L[i] (λ_ n=>cQ n 2) (k+1):=by subst hU;exact uf L[i] (λ_ n=>cQ n 2) k hk
  have h2:i<(L.set i U).length:=by simpa using h
  have e0:ar ((L.set i U).map fR) i 0=CV.l 3 (ri U):=by rw[Cf _ _ h2,kK]
  have hx:=hn _ (bC hk);have ht:0<=cQ L[i][k] 2:=Int.tdiv_nonneg hx.1 (by omega);have Hf:cQ L[i][k] 2<=15:=BV (Int.tdiv_le_self _ hx.1) hx.2;have e3:decide ((k:aw)<16)=true:=aE (by omega);simp only[l18,r18,bU,cD,Lib.dm,h,hku,e3,aN,au,Lib.cE,aM,Lib.dX,e0,jz,Lib.gW,QK hku,bF,gf];rw[de (x:=cQ L[i][k] 2) (by omega) (by omega),Qh _ _ _ hku,Qi _ _ _ h2,afr,pN,Lib.cZ hk (by omega)]
 ·have e3:decide ((L[i].length:aw)<16)=false:=aK (by omega);simp only[l18,r18,e3,ax];rw[qW,hmi,hq];rfl
theorem alP(K:aw->aw->aw->aw->aR->aC R)(s:az (az aw))(y a:aw)(hs:s.length=3)(hq:∀q∈s,q.length=16/\∀n∈q,0<=n/\n<=15):
  Jv Lib.cU K Lib.cU 3 0 y a (rr s)=K 3 3 y a (rr (half s)):=by
 have hmi:s.mapIdx (λ_ q=>q.map λn=>cQ n 2)=half s:=by unfold half;apply lT<;>simp
 rw[<-hmi];refine(nR fR s (λ_ q=>q.map λn=>cQ n 2) (λm (i:aF) x=>Jv Lib.cU K m 3 (i:aw) y a x) (λx=>K 3 3 y a x) (λm i L h h2 hL wc=> ?_) (λm L hL=> ?_) Lib.cU (cG (by omega)))
 ·obtain⟨Kb,hn⟩:=hq _ (bC h);have e3:decide ((i:aw)<3)=true:=aE (by omega);have e0:ar (L.map fR) i 0=CV.l 3 (ri s[i]):=by rw[Cf L i h2,wc]
  simp only[Jv,QJ,bU,Lib.dm,h2,e3,aN,au,Lib.cE,aM,Lib.dX,e0,jz,Lib.gW,Kb];rw[show((16:aF):aw)=16 from rfl,alR _ L i h2 3 i y a (by omega) (by rw[wc];exact Kb) (by rw[wc];exact hn),Lib.cZ h2 (by omega),wc]
 ·have e3:decide ((s.length:aw)<3)=false:=aK (by omega);simp only[Jv,QJ,e3,ax,hs];rfl
theorem ok(s:az (az aw))(a:aw)(key:aq)(hf:jq.oS s)(hk:key.size<=140737488355328):c (rr s) a key=ai/\v (rr s) a key=(rr (dv.val s a key).1,(dv.val s a key).2):=by
 refine out _ _ _ ?_;have h1:=jq.ok s a hf;have h2:=pQ.ok s a hf;unfold vo b dv.val;rw[h1.1,h1.2,h2.1,h2.2,au,au];cases cf:fF.ot s a with
 |false=>rfl
 |true=>
  obtain⟨hs,ha,hq⟩:=uN cf;obtain⟨b1,b2⟩:=tB (key:=key) hs hq;rw[a_,ax,au,gX,hs,show((3:aF):aw)=3 from rfl,agz _ s key _ _ hs hq hk,de (x:=a+1) (by omega) (by omega)];by_cases hd:a+1=64
  ·rw[aK (show¬a+1<64 by omega),aE hd,au,ax,gX,b1,show((3:aF):aw)=3 from rfl,alP _ _ _ _ b1 b2]
  ·rw[aE (show a+1<64 by omega),aK hd];rfl
end iL

namespace sM
def p(s:aR)(k:aq)(i:aF):aX:=bZ (aA (bw (ar s i 0))) (aA k)
theorem ok(d:aR)(n:aq)(hl:d.length<=4294967296):c d n=ai/\v d n=Lib.fi (p d n) d.length 0:=by
 refine out d n ?_;unfold vo b;refine m7 (p d n) d.length (λm (i:aF)=>l2 Lib.cU (λ(_:aR) (_:aq) (y7 _ _:aw)=>ah y7) (λ(_:aR) (_:aq) (_ _ _:aw)=>ah (-1)) m d n 0 (d.length:aw) (i:aw)) ah (λm i hi hp=> ?_) (λm i hi hp=> ?_) (λm=> ?_) Lib.cU (cG (by omega))
 ·unfold p at hp;simp only[l2,r2,Lib.dm,Lib.cE,Lib.dX,hi,aN,aM,au,A1.v,hp]
 ·unfold p at hp;simp only[l2,r2,Lib.dm,Lib.cE,Lib.dX,hi,aN,aM,au,A1.v,hp,ax,Lib.cZ hi (by omega:d.length<=9223372036854775807)]
 ·simp only[l2,r2,Lib.dm,bm,bj,ax]
end sM

namespace wY
def cn(y:az CV):aX:=match y with|[.s _]=>ai|_=>ak
def cr(y:az CV):az CV:=[CV.s (bw (y.getD 0 (.b ak)))]
theorem tE{y:az CV}(h:cn y=ai):cr y=y:=by
 unfold cn at h;split at h
 ·rfl
 ·cases h
theorem mz{y:az CV}(h:cn y=ai):y.length=1:=by rw[<-tE h];rfl
def keep(d:aq)(y:az CV):aX:= !List.beq (aA (bw (y.getD 0 (.b ak)))) (aA d)
theorem iu(d:aq){s:aR}{i:aF}(h:i<s.length):(s.take (i+1)).filter (keep d)=(s.take i).filter (keep d)++(bif keep d s[i]then [s[i]]else []):=by rw[cu h,gv];cases hk:keep d s[i]<;>simp[hk]
theorem run(N:aF)(s0:aR)(d:aq)(hc:s0.all cn=ai)(hn:s0.length<=9223372036854775807)(K:aq->aw->aw->aR->aC R)(kr:aR->aC R)
  (hK:∀(j:aF) x,x.length=s0.length->j<=s0.length->K d j s0.length x=kr (x.take j)) (m j i:aF) (x:aR)
  (hi:j<i/\i<=s0.length/\x.length=s0.length/\(∀y∈x,y.length=1)/\x.take j=(s0.take i).filter (keep d)/\x.drop i=s0.drop i) (hm:s0.length-i<m):
  l5 N K m d j i x=kr (s0.filter (keep d)):=by
 have K_:∀y∈s0,cn y=true:=bu.1 hc
 refine Lib.g9 (λm (s:aF×aF×aR)=>l5 N K m d s.1 s.2.1 s.2.2) (λs=>s0.length-s.2.1)
  (λs=>s.1<s.2.1/\s.2.1<=s0.length/\s.2.2.length=s0.length/\(∀y∈s.2.2,y.length=1)/\s.2.2.take s.1=(s0.take s.2.1).filter (keep d)/\s.2.2.drop s.2.1=s0.drop s.2.1)
  (λ_=>kr (s0.filter (keep d))) (λm s hs=> ?_) m (j,i,x) hi hm
 obtain⟨j,i,x⟩:=s;obtain⟨h1,h2,h3,h4,h5,h6⟩:=hs;simp only at h1 h2 h3 h4 h5 h6⊢;by_cases gg:i<s0.length
 ·right;have oD:i<x.length:=by omega
  have Hb:j<x.length:=by omega
  have hx:x[i]=s0[i]:=by have e1:=Lib.eL oD;have e2:=Lib.eL gg;rw[h6,e2]at e1;exact(kD e1).1.symm
  have hd:x.drop (i+1)=s0.drop (i+1):=by have e1:=Lib.eL oD;have e2:=Lib.eL gg;rw[h6,e2]at e1;exact(kD e1).2.symm
  have Lb:=K_ _ (bC gg);have hf:=iu d gg;cases hk:keep d s0[i]with
  |true=>
   refine⟨(j+1,i+1,x.set j s0[i]), ?_,by simp only;omega,trivial, ?_⟩
   ·rw[hk,au,<-h5]at hf;refine⟨by simp only;omega,by simp only;omega,by simpa using h3, ?_, ?_, ?_⟩
    ·intro y hy;rcases jL hy with h|h
     ·exact h4 y h
     ·rw[h];exact mz Lb
    ·rw[hf];rw[cu (by simpa using Hb)];simp[wN]
    ·simp only;rw[wM (by omega)];exact hd
   ·have e:A1.v (bw (ar x i 0)) d=false:=by
     have:(!A1.v (bw (ar x i 0)) d)=true:=by rw[Lib.cK oD,hx];exact hk
     simpa using this
    have es:eJ x j 0 [CV.s (bw (ar x i 0))]=x.set j s0[i]:=by
     have hl:=h4 _ (bC Hb);rw[Lib.BH Hb,Lib.cK oD,hx];have:iH x[j] 0 (cr s0[i])=s0[i]:=by rw[tE Lb];unfold iH;have:=mz Lb;simp[hl,this,gU]
     unfold cr at this;rw[this]
    have b1:(j:aw)<(x.length:aw):=by omega
    simp only[l5,r5,Lib.dm,Lib.cE,Lib.dX,oD,Hb,aN,bc,au,e,bR,es,Lib.cZ gg hn,Lib.cZ (show j<s0.length by omega) hn]
  |false=>
   refine⟨(j,i+1,x), ?_,by simp only;omega,trivial, ?_⟩
   ·rw[hk,ax,dn,<-h5]at hf;exact⟨by simp only;omega,by simp only;omega,h3,h4,hf.symm,hd⟩
   ·have e:A1.v (bw (ar x i 0)) d=true:=by
     have:(!A1.v (bw (ar x i 0)) d)=false:=by rw[Lib.cK oD,hx];exact hk
     simpa using this
    simp only[l5,r5,Lib.dm,Lib.cE,Lib.dX,oD,aN,bc,au,e,a_,ax,Lib.cZ gg hn]
 ·left;have:i=s0.length:=by omega
  subst this;rw[dD]at h5;have e:=hK j x h3 (by omega);rw[h5]at e;have oD:¬s0.length<x.length:=by omega
  simp only[l5,r5,Lib.dm,oD,bj,ax,e]
theorem ok(s0:aR)(i_:aq)(hc:s0.all cn=ai)(hn:s0.length<=4294967296):c s0 i_=ai/\v s0 i_=s0.filter (keep i_):=by
 refine out s0 i_ ?_;have hv:=sM.ok s0 i_ hn;unfold vo b;rw[hv.1,hv.2,au];rcases Lib.pz (sM.p s0 i_) s0.length 0 with ⟨h,n5⟩|⟨k,_,Ap,hk,Le,K9⟩
 ·rw[h];have:s0.filter (keep i_)=s0:=by rw[eK];intro y hy;obtain⟨i,hi,rfl⟩:=c6 hy;have:=n5 i (bI _) (by omega);unfold sM.p at this;rw[Lib.cK hi]at this;unfold keep;rw[this];rfl
  rw[this];rfl
 ·rw[hk];have D6:k<s0.length:=by omega
  have iB:decide ((k:aw)=Ku 1)=false:=aK (by show¬(k:aw)= -1;omega);rw[iB,ax,Lib.cZ D6 (by omega)];have K_:∀y∈s0,cn y=true:=bu.1 hc;refine run _ s0 i_ hc (by omega) _ ah (λj x hx hj=> ?_) _ k (k+1) s0 ⟨by omega,by omega,rfl,λy hy=>mz (K_ y hy), ?_,rfl⟩ (cG (by omega))
  ·have b1:g8 (j:aw) (s0.length:aw) (s0.length:aw)=true:=by simp[g8];omega
   have e:g_ j x++aP [Ck.s] (s0.length-j)++nt s0.length x=g_ j x++aP [Ck.s] (s0.length-j):=by rw[gU (by omega),dn]
   have hl:(g_ j x).length=j:=by simp;omega
   simp only[hx,Lib.dX,b1,au,e];rw[Lib.tz (by simp[g8];omega)];unfold eA;rw[show aW 0=0 from rfl,e_,sr,pb (by omega),jf (by omega)]
  ·rw[iu i_ D6];have e1:keep i_ s0[k]=false:=by unfold sM.p at Le;rw[Lib.cK D6]at Le;unfold keep;rw[Le];rfl
   have e2:(s0.take k).filter (keep i_)=s0.take k:=by
    rw[eK];intro y hy;obtain⟨i,hi,rfl⟩:=c6 hy;have Wx:i<k:=by simp at hi;omega
    have:=K9 i (bI _) Wx;unfold sM.p at this;rw[Lib.cK (by omega)]at this;rw[nC];unfold keep;rw[this];rfl
   rw[e1,e2,ax,dn]
end wY

namespace kg
theorem aiF(l:az aq):(Lib.rs l).all wY.cn=true:=by rw[bu];intro y hy;unfold Lib.rs at hy;obtain⟨z,_,rfl⟩:=cW.1 hy;rfl
theorem aeZ(l:az aq)(k:aq):(Lib.rs l).filter (wY.keep k)=Lib.rs (fj.without l k):=by unfold Lib.rs fj.without;rw[o_];congr 1;apply kV;intro x _;show(!List.beq (aA x) (aA k))=_;rw[Lib.fm]
theorem ok(l:az aq)(k:aq)(hl:l.length<=1048576):c (Lib.rs l) k=ai/\v (Lib.rs l) k=Lib.rs (fj.without l k):=by have h1:=tq.ok (Lib.rs l) (by rw[eZ];omega);have h2:=wY.ok (Lib.rs l) k (aiF l) (by rw[eZ];omega);rw[aeZ]at h2;exact out _ _ (by unfold vo b;rw[h1.1,h1.2,h2.1,h2.2,au,au])
end kg

namespace vZ
open Lib (rr ri)
open mL (gs G_)
theorem ok(s:az (az aw))(a:aw)(key:aq)(hf:jq.oS s)(hk:key.size<=140737488355328):c (rr s) a key=ai/\v (rr s) a key=mL.val s a key:=by
 refine out _ _ _ ?_;have h2:=pQ.ok s a hf;unfold vo b mL.val;rw[h2.1,h2.2,au];cases cf:fF.ot s a with
 |false=>rfl
 |true=>
  obtain⟨hs,ha,hq⟩:=dv.uN cf;rw[a_,ax,au,gX];have:=Lib.g9 (λm (t:aF×aw)=>l5 Lib.cU (λ(_:aq) (y6:aw) (_:aR) (_ _:aw)=>ah y6) m key t.2 (rr s) s.length (t.1:aw)) (λt=>s.length-t.1) (λt=>t.1<=s.length) (λt=>ah (gs key t.1 (s.drop t.1) t.2)) (λm t ht=>by
   obtain⟨i,x⟩:=t;dsimp only at ht⊢;by_cases h:i<s.length
   ·right;have hp:=qL.ok i key (by omega) hk;have s5:=gm.C1 i key;obtain⟨Kb,hn⟩:=hq _ (bC h);have hb:gm.pl i key<s[i].length:=by omega
    refine⟨(i+1,bif decide (s[i].getD (gm.pl i key) 0<x)then s[i].getD (gm.pl i key) 0 else x),by dsimp only;omega,by dsimp only;omega,by rw[<-G_ key s i h x], ?_⟩
    simp only[l5,r5,gX,Lib.dm,h,aN,au,hp.1,hp.2,Lib.cE,aM,Lib.dX,Ke h,jz,Lib.gW,Kb,s5,QK hb,bF,Lib.cZ h (by omega:s.length<=9223372036854775807)];rw[dv.oT hb];unfold iv;rw[ax];by_cases hd:s[i][gm.pl i key]<x
    ·rw[bz hd,aE hd,au]
    ·rw[bH hd,aK hd,ax]
   ·left;have:i=s.length:=by omega
    subst this;simp only[l5,r5,gX,Lib.dm,bm,bj,ax,dj,gs]) Lib.cU (0,15) (bI _) (cG (by dsimp only;omega))
  simpa using this
end vZ

namespace zw
open Lib (rr rs)
open fj (has without gK lM wy ix pH)
open jC (eR Lp nI sR)
open e6 (De zer SW VT nJ wj kO LW tI CY)
theorem ok(w m:az aq)(s:az (az aw))(a:aw)(key:aq)(hw:w.length<=1048576)(hm:m.length<=1048576)(hf:jq.oS s)(hk:key.size<=140737488355328):
  c (rs w) (rs m) (rr s) a key=ai/\v (rs w) (rs m) (rr s) a key=(rs (e6.val w m s a key).1,rs (e6.val w m s a key).2.1,rr (e6.val w m s a key).2.2.1,(e6.val w m s a key).2.2.2.1,(e6.val w m s a key).2.2.2.2):=by
 refine out _ _ _ _ _ ?_;have h1:=jw.ok w m s a hw hm hf;have h2:=pd.ok w m s a hw hm hf;have h3:=iL.ok s a key hf hk;have h5:=sK.ok m key (by omega);have h6:=kg.ok w key hw;have h7:=kg.ok m key hm;have sf:=LW (a:=a) (key:=key) hf;unfold vo b;simp only[Lib.lt,h1.1,h1.2,h2.1,h2.2,au];unfold e6.val;cases hp:sR w m s a with
 |false=>rfl
 |true=>
  obtain⟨p1,p2,p3,p4⟩:=CY hp;rw[pd.iS,bc];cases Ap:eR key with
  |false=>rfl
  |true=>
   have A_:=kO Ap;have l6:=ix (l:=w) (k:=key);have l7:=ix (l:=m) (k:=key);simp only[a_,ax,au,h3.1,h3.2,h5.1,h5.2,h6.1,h6.2,h7.1,h7.2,De,zer,eZ,pR,bA];rw[Lib.ch (n:=(without w key).length+1) (by omega) (by omega),Lib.ch (n:=(without m key).length+1) (by omega) (by omega)];simp only[au];cases hA:has w key with
   |true=>
    have hB:has m key=false:=by rw[lM];intro XP;have:=(wj.1 p1).2;rw[eQ]at this;exact this.2.2 key (gK.1 hA) key XP rfl
    have jD:=pH hA;rw[hB,ax,au,aE (show((without w key++[key]).length:aw)<=2 by rw[bP,bA];omega)];rfl
   |false=>
    rw[wy hA];cases hB:has m key with
    |true=>rfl
    |false=>
     simp only[ax];rw[show decide (((w++[key]).length:aw)<=2)=decide ((w++[key]).length<=2)by rw[cg];omega];cases hC:decide ((w++[key]).length<=2)with
     |true=>rfl
     |false=>
      have hlw:(w++[key]).length=3:=by have:=l8 hC;rw[bP,bA]at this⊢;omega
      have hfm:(w++[key]).getD 0 ⟨#[]⟩∈w++[key]:=tI (by omega);have Lc:((w++[key]).getD 0 ⟨#[]⟩).size<=30:=by
       rcases ba.1 hfm with h|h
       ·exact(kO (nJ p1 (bM _ h))).2
       ·rw[aZ]at h;rw[h];exact A_.2
      have g1:=vZ.ok (dv.val s a key).1 (dv.val s a key).2 ((w++[key]).getD 0 ⟨#[]⟩) sf (by omega);have i1:g8 1 ((w++[key]).length:aw) ((w++[key]).length:aw)=true:=by rw[hlw];rfl
      simp only[ax,aE (show(0:aw)<((w++[key]).length:aw)by omega),i1,au,SW,VT,zer,De,eZ,Lib.ch (n:=m.length+1) (b:=16) (by omega) (by omega),g1.1,g1.2];rw[show decide ((m.length:aw)<4)=decide (m.length<4)by rw[cg];omega];cases hD:decide (m.length<4)with
      |true=>rfl
      |false=>
       have hm4:m.length=4:=by have:=l8 hD;omega
       have hmm:m.getD 0 ⟨#[]⟩∈m:=tI (by omega);have hms:=(kO (nJ p1 (bN _ hmm))).2;have g2:=vZ.ok (dv.val s a key).1 (dv.val s a key).2 (m.getD 0 ⟨#[]⟩) sf (by omega);have i2:g8 1 (m.length:aw) (m.length:aw)=true:=by simp[g8];omega
       have Hf:m.tail.length=3:=by rw[W8];omega
       simp only[ax,aE (show(0:aw)<(m.length:aw)by omega),i2,au,De,Lib.ch (n:=m.tail.length+1) (b:=16) (by omega) (by omega),g2.1,g2.2];cases decide (mL.val (dv.val s a key).1 (dv.val s a key).2 ((w++[key]).getD 0 ⟨#[]⟩)>mL.val (dv.val s a key).1 (dv.val s a key).2 (m.getD 0 ⟨#[]⟩))<;>rfl
end zw

namespace va
open Lib (rr rs)
open fj (without)
theorem ok(w m:az aq)(s:az (az aw))(a:aw)(key:aq)(hw:w.length<=1048576)(hm:m.length<=1048576)(hf:jq.oS s):c (rs w) (rs m) (rr s) a key=ai/\v (rs w) (rs m) (rr s) a key=(rs (without w key),rs (without m key),rr s,a):=by have h1:=jw.ok w m s a hw hm hf;have h2:=kg.ok w key hw;have h3:=kg.ok m key hm;exact out _ _ _ _ _ (by unfold vo b;rw[h1.1,h1.2,h2.1,h2.2,h3.1,h3.2];rfl)
end va

namespace jo
open Lib (rc Cl)
open im (lC jn lid Tw)
theorem ok(i0:aw)(q1 q2 q3 q4:aR)(i5:aw)(q6:aR)(cl:az Cl)(i8:aw)(x:Cl)(cs:cl.Pairwise λa b=>a.id<b.id)(hn:lC cl x.id=ak)(hl:cl.length<=1048576):
  c i0 q1 q2 q3 q4 i5 q6 (rc cl) i8 x.id x.k x.fe x.fr x.sta x.mQ x.age=ai/\v i0 q1 q2 q3 q4 i5 q6 (rc cl) i8 x.id x.k x.fe x.fr x.sta x.mQ x.age=(i0,q1,q2,q3,q4,i5,q6,rc (jn cl x),i8):=by
 refine out _ _ _ _ _ _ _ _ _ _ _ _ _ _ _ _ ?_;unfold vo b;have hrl:=fc cl
 have:=uc (lid x.id) (rc cl) (λm (i:aF)=>l2 Lib.cU (λDC FH El wA Kj Kk V7 WN QP QQ H8 QR QS QT QU Qo V8=>bif(decide (0<=DC)&&decide (DC<=(↑(bT V8):aw))&&cw (bT V8+bT (aD (aP [Ck.i ao,Ck.s,Ck.i ao,Ck.i ao,Ck.i ao,Ck.s,Ck.i ao] 1) 0 [CV.i ao Kj,CV.s Kk,CV.i ao V7,CV.i ao WN,CV.i ao QP,CV.s QQ,CV.i ao H8])) 72)then(ah (FH,QR,QS,QT,QU,El,Qo,(Pu.tN V8 (aW DC) (aD (aP [Ck.i ao,Ck.s,Ck.i ao,Ck.i ao,Ck.i ao,Ck.s,Ck.i ao] 1) 0 [CV.i ao Kj,CV.s Kk,CV.i ao V7,CV.i ao WN,CV.i ao QP,CV.s QQ,CV.i ao H8])),wA))else(aj)) m (i:aw) i0 i5 i8 x.id x.k x.fe x.fr x.sta x.mQ x.age q1 q2 q3 q4 q6 (rc cl))
  (λa=>bif decide ((a:aw)<=((rc cl).length:aw))then ah (i0,q1,q2,q3,q4,i5,q6,Pu.tN (rc cl) a [Cl.row x],i8)else aj)
  (λm i h hp=>by
   have mN:decide (bF (ar (rc cl) i 0)<x.id)=true:=by rw[Lib.cK h];exact hp
   simp only[l2,r2,Lib.dm,h,aN,Lib.cE,aM,au,Lib.dX,mN,Lib.cZ h (by omega:(rc cl).length<=9223372036854775807)])
  (λm i h hp=>by
   have mN:decide (bF (ar (rc cl) i 0)<x.id)=false:=by rw[Lib.cK h];exact hp
   simp only[l2,r2,Lib.dm,h,aN,Lib.cE,aM,bc,ju,au,ax,Lib.dX,mN,Lib.iM,bA,Lib.ch (n:=(rc cl).length+1) (b:=72) (by omega) (by omega)];rfl)
  (λm=>by simp only[l2,r2,Lib.dm,bm,bj,aN,Lib.cE,aM,bc,ju,au,ax,Lib.dX,Lib.iM,bA,Lib.ch (n:=(rc cl).length+1) (b:=72) (by omega) (by omega)];rfl) Lib.cU (cG (by omega))
 refine this.trans ?_;have hle:=FC (lid x.id) (rc cl);rw[aE (by omega),au];unfold Pu.tN;rw[Tw cs hn]
end jo

namespace R_
open Lib (rr rs re rf rc Px Cl Fe En el)
open fj (without)
open jC (eR)
open pj (jd)
open im (hit sP put H4 N1 Fs lC jn rW mP Bu)
open fY (fS)
open rj (g7 oh)
def res(q:Px×aw):aw×aR×aR×aR×aR×aw×aR×aR×aw×aw:=(q.1.now,re q.1.en,rs q.1.w,rs q.1.m,rr q.1.s,q.1.a,rf q.1.fe,rc q.1.cl,q.1.hits,q.2)
theorem Az(fe:az Fe)(key:aq):rf fe++aD (aP [Ck.s,Ck.s,Ck.i ao,Ck.i ao,Ck.i ao] 1) 0 [CV.s key,CV.s {data:= #[]},CV.i ao 1,CV.i ao 0,CV.i ao 0]=rf (fe++[rW key]):=by unfold Lib.rf;rw[di];rfl
theorem Bx{p:Px}{i:aF}(hi:i<p.en.length)(ho:g7 p):bJ (p.now-(el p.en i).st)=p.now-(el p.en i).st:=by have h1:=ho.now;have h2:=(ni.Ef (ho.en _ (kA hi))).2.1;exact de (by omega) (by omega)
theorem ok(p:Px)(id:aw)(key:aq)(hp:p.Fit 1048576)(hkz:key.size<=140737488355328):c p.now (re p.en) (rs p.w) (rs p.m) (rr p.s) p.a (rf p.fe) (rc p.cl) p.hits id key=ai/\v p.now (re p.en) (rs p.w) (rs p.m) (rr p.s) p.a (rf p.fe) (rc p.cl) p.hits id key=res (im.ask p id key):=by
 have h1:=iP.ok p hp;have h2:=OS.ok p hp;have oe:=hp.cl;have H7:=hp.fe;have hen:=hp.en;have Lc:jq.oS p.s:=⟨hp.s.1,hp.s.2.1⟩
 have h3:=zu.ok p.now (re p.en) (rs p.w) (rs p.m) (rr p.s) p.a (rf p.fe) p.cl p.hits id oe;refine out _ _ _ _ _ _ _ _ _ _ _ ?_;unfold vo b im.ask;simp only[Lib.lt,h1.1,h1.2,h2.1,h2.2,au];cases cf:jd p with
 |false=>rfl
 |true=>
 have ho:g7 p:=oh.1 cf;rw[a_,ax,bc,show lB.v id 1 9=decide (1<=id/\id<=9)from fF.eO _ _ _];cases Jf:decide (1<=id/\id<=9)with
 |false=>rfl
 |true=>
 rw[a_,ax,bc,pd.iS];cases hko:eR key with
 |false=>rfl
 |true=>
 have A_:=e6.kO hko;rw[a_,ax,bc,h3.1,au,h3.2];cases hhi:lC p.cl id with
 |true=>rfl
 |false=>
 rw[ax,bR,bc,fc];by_cases h6:p.cl.length=6
 ·rw[aE (show(p.cl.length:aw)=6 by omega),au,aK (show¬p.cl.length<6 by omega)];rfl
 have hc6:=ho.cll;rw[aK (show¬(p.cl.length:aw)=6 by omega),ax,aE (show p.cl.length<6 by omega),au];have h4:=pW.ok (re p.en) key (by rw[dc];omega);have h5:=KE.ok p.now (re p.en) (rs p.w) (rs p.m) (rr p.s) p.a (rf p.fe) (rc p.cl) p.hits key (by rw[dM];omega);have h7:=zw.ok p.w p.m p.s p.a key hp.w hp.m Lc (by omega);have h8:=iL.ok p.s p.a key Lc (by omega);have h9:=va.ok p.w p.m p.s p.a key hp.w hp.m Lc;have QB:=pP.ok (re p.en) key (fY.Sw _) (by rw[dc];omega);rw[fY.GZ]at QB;have P6:=λ(i0:aw) (q1 q2 q3 q4:aR) (i5:aw) (q6:aR) (i8:aw) (x:Cl) (hx:x.id=id)=>jo.ok i0 q1 q2 q3 q4 i5 q6 p.cl i8 x ho.cs (by rw[hx];exact hhi) oe;rw[h4.1,au,h4.2,dc];have azb:p.hits<=1000000000:=ho.hits.2;have ar0:0<=p.hits:=ho.hits.1;have s5:=ho.fl;have ajc:iv ak (bJ (p.hits+1)) 1000000000=bif decide (p.hits<1000000000)then p.hits+1 else p.hits:=by
  rw[de (by omega) (by omega)];unfold iv;rw[ax];by_cases h:p.hits<1000000000
  ·rw[aE h,au,bH (by omega)]
  ·rw[aK h,ax,bz (by omega)];omega
 have hfp:∀i (hi:i<p.fe.length),qI.p (rf p.fe) key i=Fs key p.fe[i]:=λi hi=>by unfold qI.p Fs Ii.v;rw[Dp hi,Qm hi,eN hi];simp only[bw,bF,Lib.fm];cases decide (p.fe[i].k=key)<;>rfl
 have hep:∀i (hi:i<p.en.length),pW.p (re p.en) key i=decide (p.en[i].k=key):=λi hi=>by unfold pW.p;rw[oE hi,eN hi];exact Lib.fm
 have wn:∀n:aF,n<=1048576->bJ ((n:aw)+1)=(n:aw)+1:=λn hn=>de (by omega) (by omega);have cN:∀(n:aF) (fe:az Fe),n<fe.length->bw (ar (rf fe) n 1)=(el fe n).t:=λn fe hn=>by rw[DB hn];rfl
 have Jn:cw (p.fe.length+1) 56=true:=Lib.ch (by omega) (by omega);have dK:∀key:aq,bT (aD (aP [Ck.s,Ck.s,Ck.i ao,Ck.i ao,Ck.i ao] 1) 0 [CV.s key,CV.s {data:= #[]},CV.i ao 1,CV.i ao 0,CV.i ao 0])=1:=λ_=>rfl;rcases Bu p.fe (Fs key) _ hfp with ⟨f1,_,f2⟩|⟨j,hj,f1,_,f2⟩
 ·have f2:N1 p.fe key=none:=f2;rw[dM,f1]at h5;rcases Bu p.en (λe=>decide (e.k=key)) _ hep with ⟨e1,e2,_⟩|⟨i,hi,e1,e2,_⟩
  ·have e2:H4 p.en key=none:=e2;rw[e1,e2];unfold sP;rw[f2];dsimp only;by_cases QC:p.fe.length=20
   ·rw[aK (show¬p.fe.length<20 by omega)];simp only[show decide ((-1:aw)≥0)=ak from rfl,ax,h5.1,h5.2,au,show decide ((-1:aw)<0)=ai from rfl,dM,aE (show(p.fe.length:aw)=20 by omega)];rfl
   ·have nq:=P6 p.now (re p.en) (rs p.w) (rs p.m) (rr (dv.val p.s p.a key).1) (dv.val p.s p.a key).2 (rf (p.fe++[rW key])) p.hits ⟨id,key,(p.fe.length:aw)+1,0,1,(el (p.fe++[rW key]) p.fe.length).t,0⟩ rfl;dsimp only at nq;rw[aE (show p.fe.length<20 by omega)];simp only[show decide ((-1:aw)≥0)=ak from rfl,ax,h5.1,h5.2,au,show decide ((-1:aw)<0)=ai from rfl,dM,aK (show¬(p.fe.length:aw)=20 by omega),h8.1,h8.2,dK,Jn,Az,bP,bA,Lib.dX,Lib.dm,aE (show p.fe.length<p.fe.length+1 by omega),cN p.fe.length (p.fe++[rW key]) (by simp),wn _ H7,nq.1,nq.2];rfl
  ·have e2:H4 p.en key=ah (el p.en i):=e2;rw[e1,e2];have Ao:GN.v (bw (ar (re p.en) i 0)) (bF (ar (re p.en) i 1)) (bF (ar (re p.en) i (1+1))) (bw (ar (re p.en) i (1+1+1))) p.now=mP (el p.en i) p.now:=by rw[oE hi,qz hi,qA hi,qB hi];rfl
   have g1:bF (ar (re p.en) i 1)=(el p.en i).st:=by rw[qz hi];rfl
   have g3:bw (ar (re p.en) i (1+1+1))=(el p.en i).bo:=by rw[qB hi];rfl
   dsimp only;cases Ww:mP (el p.en i) p.now with
   |true=>
    have g0:bw (ar (re p.en) i 0)=(el p.en i).k:=by rw[oE hi];rfl
    have g2:bF (ar (re p.en) i (1+1))=(el p.en i).li:=by rw[qA hi];rfl
    have Ao:GN.v (el p.en i).k (el p.en i).st (el p.en i).li (el p.en i).bo p.now=true:=Ww;have hw:=Bx (p:=p) hi ho;have nq:=P6 p.now (re p.en) (rs (e6.val p.w p.m p.s p.a key).1) (rs (e6.val p.w p.m p.s p.a key).2.1) (rr (e6.val p.w p.m p.s p.a key).2.2.1) (e6.val p.w p.m p.s p.a key).2.2.2.1 (rf p.fe) p.hits ⟨id,key,0,(el p.en i).st,2,(el p.en i).bo,p.now-(el p.en i).st⟩ rfl;dsimp only at nq;simp only[aE (show((i:aF):aw)≥0 by omega),Lib.cE,Lib.dm,hi,aN,aM,au,Lib.dX,g0,g1,g2,g3,Ao,h7.1,h7.2,hw,nq.1,nq.2,ajc,dc];rfl
   |false=>
    rw[Ww]at Ao;unfold sP;rw[f2];dsimp only;by_cases QC:p.fe.length=20
    ·rw[aK (show¬p.fe.length<20 by omega)];simp only[aE (show((i:aF):aw)≥0 by omega),Lib.cE,Lib.dm,hi,aN,aM,au,ax,Lib.dX,dc,Ao,h5.1,h5.2,show decide ((-1:aw)<0)=ai from rfl,dM,aE (show(p.fe.length:aw)=20 by omega)];rfl
    ·have nq:=P6 p.now (re (fS p.en key)) (rs (without p.w key)) (rs (without p.m key)) (rr (dv.val p.s p.a key).1) (dv.val p.s p.a key).2 (rf (p.fe++[rW key])) p.hits ⟨id,key,(p.fe.length:aw)+1,0,1,(el (p.fe++[rW key]) p.fe.length).t,0⟩ rfl;dsimp only at nq;rw[aE (show p.fe.length<20 by omega)];simp only[aE (show((i:aF):aw)≥0 by omega),Lib.cE,dc,hi,aN,aM,Ao,h9.1,h9.2,QB.1,QB.2,ax,h5.1,h5.2,au,show decide ((-1:aw)<0)=ai from rfl,dM,aK (show¬(p.fe.length:aw)=20 by omega),h8.1,h8.2,dK,Jn,Az,bP,bA,Lib.dX,Lib.dm,aE (show p.fe.length<p.fe.length+1 by omega),cN p.fe.length (p.fe++[rW key]) (by simp),wn _ H7,nq.1,nq.2];rfl
 ·have f2:N1 p.fe key=ah j:=f2;rw[dM,f1]at h5;have nj:decide (((j:aF):aw)<0)=false:=aK (by omega);rcases Bu p.en (λe=>decide (e.k=key)) _ hep with ⟨e1,e2,_⟩|⟨i,hi,e1,e2,_⟩
  ·have e2:H4 p.en key=none:=e2;rw[e1,e2];unfold sP;rw[f2];dsimp only;have nq:=P6 p.now (re p.en) (rs p.w) (rs p.m) (rr (dv.val p.s p.a key).1) (dv.val p.s p.a key).2 (rf p.fe) p.hits ⟨id,key,(j:aw)+1,0,1,(el p.fe j).t,0⟩ rfl;dsimp only at nq;simp only[show decide ((-1:aw)≥0)=ak from rfl,ax,h5.1,h5.2,au,nj,dM,h8.1,h8.2,Lib.dX,Lib.cE,Lib.dm,hj,aN,aM,cN j p.fe hj,wn j (by omega),nq.1,nq.2];rfl
  ·have e2:H4 p.en key=ah (el p.en i):=e2;rw[e1,e2];have Ao:GN.v (bw (ar (re p.en) i 0)) (bF (ar (re p.en) i 1)) (bF (ar (re p.en) i (1+1))) (bw (ar (re p.en) i (1+1+1))) p.now=mP (el p.en i) p.now:=by rw[oE hi,qz hi,qA hi,qB hi];rfl
   have g1:bF (ar (re p.en) i 1)=(el p.en i).st:=by rw[qz hi];rfl
   have g3:bw (ar (re p.en) i (1+1+1))=(el p.en i).bo:=by rw[qB hi];rfl
   dsimp only;cases Ww:mP (el p.en i) p.now with
   |true=>
    have g0:bw (ar (re p.en) i 0)=(el p.en i).k:=by rw[oE hi];rfl
    have g2:bF (ar (re p.en) i (1+1))=(el p.en i).li:=by rw[qA hi];rfl
    have Ao:GN.v (el p.en i).k (el p.en i).st (el p.en i).li (el p.en i).bo p.now=true:=Ww;have hw:=Bx (p:=p) hi ho;have nq:=P6 p.now (re p.en) (rs (e6.val p.w p.m p.s p.a key).1) (rs (e6.val p.w p.m p.s p.a key).2.1) (rr (e6.val p.w p.m p.s p.a key).2.2.1) (e6.val p.w p.m p.s p.a key).2.2.2.1 (rf p.fe) p.hits ⟨id,key,0,(el p.en i).st,2,(el p.en i).bo,p.now-(el p.en i).st⟩ rfl;dsimp only at nq;simp only[aE (show((i:aF):aw)≥0 by omega),Lib.cE,Lib.dm,hi,aN,aM,au,Lib.dX,g0,g1,g2,g3,Ao,h7.1,h7.2,hw,nq.1,nq.2,ajc,dc];rfl
   |false=>rw[Ww]at Ao;unfold sP;rw[f2];dsimp only;have nq:=P6 p.now (re (fS p.en key)) (rs (without p.w key)) (rs (without p.m key)) (rr (dv.val p.s p.a key).1) (dv.val p.s p.a key).2 (rf p.fe) p.hits ⟨id,key,(j:aw)+1,0,1,(el p.fe j).t,0⟩ rfl;dsimp only at nq;simp only[aE (show((i:aF):aw)≥0 by omega),Lib.cE,dc,hi,aN,aM,Ao,h9.1,h9.2,QB.1,QB.2,ax,h5.1,h5.2,au,nj,dM,h8.1,h8.2,Lib.dX,Lib.dm,hj,cN j p.fe hj,wn j (by omega),nq.1,nq.2];rfl
end R_

namespace wW
open Lib (re el En)
open im (H4)
def res(o:aC En):aq×aw×aw×aq×aX:=match o with|some e=>(e.k,e.st,e.li,e.bo,ai)|none=>(⟨#[]⟩,0,0,⟨#[]⟩,ak)
theorem ok(now:aw)(en:az En)(q2 q3 q4:aR)(q5:aw)(q6 q7:aR)(q8:aw)(key:aq)(hl:en.length<=1048576):c now (re en) q2 q3 q4 q5 q6 q7 q8 key=ai/\v now (re en) q2 q3 q4 q5 q6 q7 q8 key=res (H4 en key):=by
 refine out _ _ _ _ _ _ _ _ _ _ ?_;unfold vo b H4
 have go:∀(d i n:aF),en.length-i<=d->i<=en.length->d<n->
   l2 Lib.cU (λ(_:aq) (DC:aX) (_ _:aw) (_ _ _ _:aR) (_:aw) (_ _:aR) (_:aw) (QR:aq) (QS QT:aw) (QU:aq)=>ah (QR,QS,QT,QU,DC)) (λ(_:aq) (_:aX) (_ _:aw) (_ _ _ _:aR) (_:aw) (_ _:aR) (_:aw) (_:aq) (_ _:aw) (_:aq)=>ah (({data:= #[]}:aq),0,0,({data:= #[]}:aq),ak)) n key ak (i:aw) now (re en) q2 q3 q4 q5 q6 q7 q8 ({data:= #[]}) 0 0 ({data:= #[]})=ah (res ((en.drop i).find? λe=>decide (e.k=key))):=by
  intro d
  induction d with
  |zero=>
   intro i n h1 h2 h3;obtain⟨n,rfl⟩:∃n',n=n'+1:=⟨n-1,by omega⟩
   have:i=en.length:=by omega
   subst this;simp only[l2,r2,dc,Lib.dm,bm,bj,ax,dj];rfl
  |succ d ih=>
   intro i n h1 h2 h3;obtain⟨n,rfl⟩:∃n',n=n'+1:=⟨n-1,by omega⟩
   by_cases hi:i<en.length
   ·rw[dE hi];have g:=ih (i+1) n (by omega) hi (by omega);simp only[l2,r2,dc,Lib.dm,hi,aN,Lib.cE,aM,au,Lib.dX,oE hi,qz hi,qA hi,qB hi,bw,bF,Lib.fm,eN hi,Lib.cZ hi (by omega:en.length<=9223372036854775807)];cases hk:decide (en[i].k=key)with
    |true=>rw[au,List.find?_cons_of_pos (p:=λe:En=>decide (e.k=key)) hk];rfl
    |false=>rw[ax,Kv (p:=λe:En=>decide (e.k=key)) (by simp[hk])];exact g
   ·have:i=en.length:=by omega
    subst this;simp only[l2,r2,dc,Lib.dm,bm,bj,ax,dj];rfl
 have:=go en.length 0 Lib.cU (by omega) (bI _) (cG (by omega));rw[e_]at this;exact this
end wW

namespace vg
open Lib (rr rs)
open fj (without)
theorem ok(w m:az aq)(s:az (az aw))(a:aw)(key:aq)(hw:w.length<=1048576)(hm:m.length<=1048576)(hf:jq.oS s):c (rs w) (rs m) (rr s) a key=ai/\v (rs w) (rs m) (rr s) a key=(rs (without w key),rs (without m key),rr s,a):=by have h1:=n_.ok s a hf;have h2:=ph.ok w key hw;have h3:=ph.ok m key hm;exact out _ _ _ _ _ (by unfold vo b;rw[h1.1,h1.2,h2.1,h2.2,h3.1,h3.2];rfl)
end vg

namespace qo
open Lib (re el oE qz qA qB En)
open fY (fS)
theorem ok(l:az En)(k:aq)(hl:l.length<=2097152):c (re l) k=ai/\v (re l) k=re (fS l k):=by
 refine out _ _ ?_;unfold vo b;have key:=mg l.length (λn (i:aF) (x:aR)=>l3 Lib.cU (λ(_:aR) (_:aq) (_:aw) (y7:aR)=>ah y7) n (re l) k (i:aw) x) (λi=>re (fS (l.take i) k)) (ah (re (fS l k))) (λn i hi=>by
  have hlen:(fS (l.take i) k).length<=i:=by refine dh (eC ..) ?_;rw[eD];omega
  have e:fS (l.take (i+1)) k=fS (l.take i) k++(bif !decide ((el l i).k=k)then [el l i]else []):=by unfold fS;rw[cu hi,gv,eN hi];cases hd:decide (l[i].k=k)<;>simp[hd]
  rw[e];simp only[l3,r3,dc,Lib.dm,hi,aN,Lib.cE,aM,au,Lib.dX,oE hi,qz hi,qA hi,qB hi,bw,bF,Lib.fm,pR,bA,Lib.cZ hi (by omega:l.length<=9223372036854775807)];rw[Lib.ch (by omega) (by omega),au];cases decide ((el l i).k=k)with
  |true=>rw[a_,ax,ax,dn]
  |false=>rw[bR,au,au];unfold Lib.re;rw[di];rfl) (λn=>by
  simp only[l3,r3,dc,Lib.dm,bm,bj,ax,dD]) Lib.cU 0 (bI _) (cG (by omega))
 exact key
end qo

namespace lU
open Lib (rc el Cl)
open im (jn)
theorem tail(l:az Cl)(x:Cl)(hl:l.length<=1048576)(c0:az Cl)(hc:c0.length<=1048577):
  l9 Lib.cU (λ(_:aR) (_ _:aw) (_:aq) (_ _ _:aw) (_:aq) (_:aw) (y:aR)=>ah y) Lib.cU (rc l) 0 x.id x.k x.fe x.fr x.sta x.mQ x.age (rc c0)=ah (rc (c0++l.filter λy=>decide (y.id>x.id))):=by
 refine Cs l (λy=>decide (y.id>x.id)) (λm (i:aF) acc=>l9 Lib.cU (λ(_:aR) (_ _:aw) (_:aq) (_ _ _:aw) (_:aq) (_:aw) (y:aR)=>ah y) m (rc l) (i:aw) x.id x.k x.fe x.fr x.sta x.mQ x.age (rc acc)) (λacc=>ah (rc acc)) c0
  (λm i acc h ha hp=> ?_) (λm i acc h hp=> ?_) (λm acc=> ?_) Lib.cU (cG (by omega))
 ·have mN:decide (l[i].id>x.id)=true:=hp;simp only[l9,r9,fc,Lib.dm,h,aN,Lib.cE,aM,au,Lib.dX,rc0 h,rc1 h,rc2 h,rc3 h,rc4 h,rc5 h,rc6 h,bw,bF,mN,pR,bA,Lib.cZ h (by omega:l.length<=9223372036854775807),Lib.ch (n:=acc.length+1) (b:=72) (by omega) (by omega)];unfold Lib.rc;rw[di];rfl
 ·have mN:decide (l[i].id>x.id)=false:=hp;simp only[l9,r9,fc,Lib.dm,h,aN,Lib.cE,aM,au,ax,Lib.dX,rc0 h,bF,mN,Lib.cZ h (by omega:l.length<=9223372036854775807)]
 ·simp only[l9,r9,fc,Lib.dm,bm,bj,ax]
theorem ok(l:az Cl)(x:Cl)(hl:l.length<=1048576):c (rc l) x.id x.k x.fe x.fr x.sta x.mQ x.age=ai/\v (rc l) x.id x.k x.fe x.fr x.sta x.mQ x.age=rc (jn l x):=by
 refine out _ _ _ _ _ _ _ _ ?_;unfold vo b
 have key:=Cs l (λy=>decide (y.id<x.id))
  (λm (i:aF) acc=>l3 Lib.cU (λ(Ki:aR) (_ Mj:aw) (HR:aq) (OE WM QO:aw) (DC:aq) (FH:aw) (El:aR)=>bif(cw (bT El+bT (aD (aP [Ck.i ao,Ck.s,Ck.i ao,Ck.i ao,Ck.i ao,Ck.s,Ck.i ao] 1) 0 [CV.i ao Mj,CV.s HR,CV.i ao OE,CV.i ao WM,CV.i ao QO,CV.s DC,CV.i ao FH])) 72)then(l9 Lib.cU (λ(_:aR) (_ _:aw) (_:aq) (_ _ _:aw) (_:aq) (_:aw) (y39:aR)=>ah y39) Lib.cU Ki 0 Mj HR OE WM QO DC FH (El++aD (aP [Ck.i ao,Ck.s,Ck.i ao,Ck.i ao,Ck.i ao,Ck.s,Ck.i ao] 1) 0 [CV.i ao Mj,CV.s HR,CV.i ao OE,CV.i ao WM,CV.i ao QO,CV.s DC,CV.i ao FH]))else(aj)) m (rc l) (i:aw) x.id x.k x.fe x.fr x.sta x.mQ x.age (rc acc))
  (λacc=>bif cw (acc.length+1) 72 then l9 Lib.cU (λ(_:aR) (_ _:aw) (_:aq) (_ _ _:aw) (_:aq) (_:aw) (y:aR)=>ah y) Lib.cU (rc l) 0 x.id x.k x.fe x.fr x.sta x.mQ x.age (rc (acc++[x]))else aj) []
  (λm i acc h ha hp=>by
   have mN:decide (l[i].id<x.id)=true:=hp;have ha:acc.length<=i:=by simpa using ha
   simp only[l3,r3,fc,Lib.dm,h,aN,Lib.cE,aM,au,Lib.dX,rc0 h,rc1 h,rc2 h,rc3 h,rc4 h,rc5 h,rc6 h,bw,bF,mN,pR,bA,Lib.cZ h (by omega:l.length<=9223372036854775807),Lib.ch (n:=acc.length+1) (b:=72) (by omega) (by omega)];unfold Lib.rc;rw[di];rfl)
  (λm i acc h hp=>by have mN:decide (l[i].id<x.id)=false:=hp;simp only[l3,r3,fc,Lib.dm,h,aN,Lib.cE,aM,au,ax,Lib.dX,rc0 h,bF,mN,Lib.cZ h (by omega:l.length<=9223372036854775807)])
  (λm acc=>by simp only[l3,r3,fc,Lib.dm,bm,bj,ax,pR,bA];unfold Lib.rc;rw[di];rfl) Lib.cU (cG (by omega))
 refine key.trans ?_;have hf:=eC (λy:Cl=>decide (y.id<x.id)) l;rw[gC,Lib.ch (by omega) (by omega),au,tail l x hl _ (by simp;omega)];unfold jn;rw[cz]
end lU

namespace wS
open Lib (rr rs re rf rc Px Cl Fe En el)
open fj (without)
open jC (eR)
open pj (jd)
open np (lF)
open im (hit sP put H4 N1 Fs lC jn rW mP)
open fY (fS)
open rj (g7 oh)
open R_ (res Bx Az)
theorem find(k0 k1:aw->aq->aw->aw->aw->aR->aR->aR->aR->aw->aR->aR->aw->aw->aw->aw->aw->aw->aw->aR->aR->aR->aR->aR->aR->aC R)(cl:az Cl)(hl:cl.length<=1048576)(id:aw)(key:aq)(z4 z6:aw)(q7 q8 q9 Ee:aR)(V_:aw)(UO:aR)(Wa z15 J8 z17 OG OH OI:aw)(UP UQ UR US UT UU:aR):
  (lC cl id=ak->l5 Lib.cU k0 k1 Lib.cU id key z4 0 z6 q7 q8 q9 Ee V_ UO (rc cl) Wa z15 J8 z17 OG OH OI UP UQ UR US UT UU=k1 id key z4 (cl.length:aw) z6 q7 q8 q9 Ee V_ UO (rc cl) Wa z15 J8 z17 OG OH OI UP UQ UR US UT UU)/\
  (lC cl id=ai->∃j:aw,l5 Lib.cU k0 k1 Lib.cU id key z4 0 z6 q7 q8 q9 Ee V_ UO (rc cl) Wa z15 J8 z17 OG OH OI UP UQ UR US UT UU=k0 id key 1 j z6 q7 q8 q9 Ee V_ UO (rc cl) Wa OG OH OI OG OH OI UP UQ UR US UT UU):=by
 have go:∀(d i n:aF),cl.length-i<=d->i<=cl.length->d<n->
   (((cl.drop i).any λx=>decide (x.id=id))=ak->l5 Lib.cU k0 k1 n id key z4 (i:aw) z6 q7 q8 q9 Ee V_ UO (rc cl) Wa z15 J8 z17 OG OH OI UP UQ UR US UT UU=k1 id key z4 (cl.length:aw) z6 q7 q8 q9 Ee V_ UO (rc cl) Wa z15 J8 z17 OG OH OI UP UQ UR US UT UU)/\
   (((cl.drop i).any λx=>decide (x.id=id))=ai->∃j:aw,l5 Lib.cU k0 k1 n id key z4 (i:aw) z6 q7 q8 q9 Ee V_ UO (rc cl) Wa z15 J8 z17 OG OH OI UP UQ UR US UT UU=k0 id key 1 j z6 q7 q8 q9 Ee V_ UO (rc cl) Wa OG OH OI OG OH OI UP UQ UR US UT UU):=by
  intro d
  induction d with
  |zero=>
   intro i n h1 h2 h3;obtain⟨n,rfl⟩:∃n',n=n'+1:=⟨n-1,by omega⟩
   have:i=cl.length:=by omega
   subst this;rw[dj];exact⟨λ_=>by simp only[l5,r5,fc,Lib.dm,bm,bj,ax],λh=>by cases h⟩
  |succ d ih=>
   intro i n h1 h2 h3;obtain⟨n,rfl⟩:∃n',n=n'+1:=⟨n-1,by omega⟩
   by_cases hi:i<cl.length
   ·rw[dE hi,List.any_cons];obtain⟨g1,g2⟩:=ih (i+1) n (by omega) hi (by omega);have e:l5 Lib.cU k0 k1 (n+1) id key z4 (i:aw) z6 q7 q8 q9 Ee V_ UO (rc cl) Wa z15 J8 z17 OG OH OI UP UQ UR US UT UU=bif decide (cl[i].id=id)then k0 id key 1 (i:aw) z6 q7 q8 q9 Ee V_ UO (rc cl) Wa OG OH OI OG OH OI UP UQ UR US UT UU else l5 Lib.cU k0 k1 n id key z4 ((i+1:aF):aw) z6 q7 q8 q9 Ee V_ UO (rc cl) Wa z15 J8 z17 OG OH OI UP UQ UR US UT UU:=by simp only[l5,r5,fc,Lib.dm,hi,aN,Lib.cE,aM,au,Lib.dX,rc0 hi,bF,Lib.cZ hi (by omega:cl.length<=9223372036854775807)]
    rw[e];cases hc:decide (cl[i].id=id)with
    |true=>exact⟨λh=>by simp at h,λ_=>⟨i,rfl⟩⟩
    |false=>rw[ox,ax];exact⟨g1,g2⟩
   ·have:i=cl.length:=by omega
    subst this;rw[dj];exact⟨λ_=>by simp only[l5,r5,fc,Lib.dm,bm,bj,ax],λh=>by cases h⟩
 have:=go cl.length 0 Lib.cU (by omega) (bI _) (cG (by omega));rw[e_]at this;exact this
def sc(key:aq):az Fe->aF->aw×aq->aw×aq
 |[],_,s=>s|x::r,i,s=>sc key r (i+1) (bif Fs key x then((i:aw)+1,x.t)else s)
theorem scan(k0:aq->aX->aw->aw->aR->aR->aR->aR->aw->aR->aR->aw->aw->aw->aw->aw->aw->aw->aw->aq->aw->aw->aw->aq->aw->aR->aR->aR->aR->aR->aR->aC R)(fe:az Fe)(hl:fe.length<=1048576)(key:aq)(h0:aX)(z84:aw)(q85 q86 q87 q88:aR)(z89:aw)(q91:aR)(z92 z93 z94 z95 z96 z97 z98 z99:aw)(ZJ:aq)(aac aad aae:aw)(Zw Zx Zy Zz ZB ZC:aR):
  Yf Lib.cU k0 Lib.cU key h0 0 z84 q85 q86 q87 q88 z89 (rf fe) q91 z92 z93 z94 z95 z96 z97 z98 z99 ZJ 0 aac aad ({data:= #[]}) aae Zw Zx Zy Zz ZB ZC=k0 key h0 (fe.length:aw) z84 q85 q86 q87 q88 z89 (rf fe) q91 z92 z93 z94 z95 z96 z97 z98 z99 ZJ (sc key fe 0 (0,⟨#[]⟩)).1 aac aad (sc key fe 0 (0,⟨#[]⟩)).2 aae Zw Zx Zy Zz ZB ZC:=by
 have go:∀(d i n:aF) (s:aw×aq),fe.length-i<=d->i<=fe.length->d<n->
   Yf Lib.cU k0 n key h0 (i:aw) z84 q85 q86 q87 q88 z89 (rf fe) q91 z92 z93 z94 z95 z96 z97 z98 z99 ZJ s.1 aac aad s.2 aae Zw Zx Zy Zz ZB ZC=k0 key h0 (fe.length:aw) z84 q85 q86 q87 q88 z89 (rf fe) q91 z92 z93 z94 z95 z96 z97 z98 z99 ZJ (sc key (fe.drop i) i s).1 aac aad (sc key (fe.drop i) i s).2 aae Zw Zx Zy Zz ZB ZC:=by
  intro d
  induction d with
  |zero=>
   intro i n s h1 h2 h3;obtain⟨n,rfl⟩:∃n',n=n'+1:=⟨n-1,by omega⟩
   have:i=fe.length:=by omega
   subst this;simp only[Yf,r22,dM,Lib.dm,bm,bj,ax,dj,sc]
  |succ d ih=>
   intro i n s h1 h2 h3;obtain⟨n,rfl⟩:∃n',n=n'+1:=⟨n-1,by omega⟩
   by_cases hi:i<fe.length
   ·rw[dE hi];unfold sc;rw[<-ih (i+1) n _ (by omega) hi (by omega)];have w:=Lib.cZ hi (by omega:fe.length<=9223372036854775807);have w2:((i+1:aF):aw)=(i:aw)+1:=by omega
    simp only[Yf,r22,dM,Lib.dm,hi,aN,Lib.cE,aM,au,Lib.dX,Dp hi,DB hi,z5 hi,bw,bF,Lib.fm,w,eN hi];unfold Fs;cases decide (fe[i].k=key)<;>cases decide (fe[i].sta=1)<;>simp only[ju,wC,aM,lG,au,ax,w2]
   ·have:i=fe.length:=by omega
    subst this;simp only[Yf,r22,dM,Lib.dm,bm,bj,ax,dj,sc]
 have:=go fe.length 0 Lib.cU (0,⟨#[]⟩) (by omega) (bI _) (cG (by omega));rw[e_]at this;exact this
theorem ZN(key:aq):∀(l:az Fe) (i:aF) (s:aw×aq),(∀x∈l,Fs key x=ak)->sc key l i s=s:=by
 intro l;induction l with
 |nil=>intro i s _;rfl
 |cons x l ih=>intro i s h;unfold sc;rw[h x (by simp),ax];exact ih _ _ λy hy=>h y (by simp[hy])
theorem agA{fe:az Fe}(hp:fe.Pairwise λf g=>lF g f=ak)(key:aq):sc key fe 0 (0,⟨#[]⟩)=match N1 fe key with|some j=>((j:aw)+1,(el fe j).t)|none=>(0,⟨#[]⟩):=by
 have go:∀(l:az Fe) (i:aF),l.Pairwise (λf g=>lF g f=ak)->sc key l i (0,⟨#[]⟩)=match l.findIdx? (Fs key)with|some j=>(((i+j:aF):aw)+1,(el l j).t)|none=>(0,⟨#[]⟩):=by
  intro l;induction l with
  |nil=>intro i _;rfl
  |cons x l ih=>
   intro i h;rw[qG]at h;unfold sc;rw[List.findIdx?_cons];cases hq:Fs key x with
   |true=>
    have hn:∀y∈l,Fs key y=false:=λy hy=>by
     have h2:=h.1 y hy;unfold Fs at hq⊢;unfold lF at h2;simp only[aL,bf]at hq;rw[hq.1,hq.2]at h2;simp only[Bool.and_eq_false_iff,fu]at h2⊢;rcases h2 with h2|h2
     ·exact .inr h2
     ·rcases h2 with h2|h2
      ·exact cJ trivial h2
      ·exact .inl h2
    rw[au,ZN key l _ _ hn];rfl
   |false=>
    rw[ax,ih (i+1) h.2];cases l.findIdx? (Fs key)with
    |none=>rfl
    |some j=>simp only[dx,if_false,jh,show i+1+j=i+(j+1)by omega];rfl
 have:=go fe 0 hp;unfold N1;rw[this];cases fe.findIdx? (Fs key)with
 |none=>rfl
 |some j=>dsimp only;rw[bV]
theorem ok(p:Px)(id:aw)(key:aq)(hp:p.Fit 1048576)(hkz:key.size<=140737488355328):c p.now (re p.en) (rs p.w) (rs p.m) (rr p.s) p.a (rf p.fe) (rc p.cl) p.hits id key=ai/\v p.now (re p.en) (rs p.w) (rs p.m) (rr p.s) p.a (rf p.fe) (rc p.cl) p.hits id key=res (im.ask p id key):=by
 have h1:=fP.ok p hp;have h2:=pj.ok p hp;have oe:=hp.cl;have H7:=hp.fe;have hen:=hp.en;have Lc:jq.oS p.s:=⟨hp.s.1,hp.s.2.1⟩
 refine out _ _ _ _ _ _ _ _ _ _ _ ?_;unfold vo b im.ask;simp only[Lib.lt,h1.1,h1.2,h2.1,h2.2,au];cases cf:jd p with
 |false=>rfl
 |true=>
 have ho:g7 p:=oh.1 cf;rw[a_,ax,bc,show km.v id 1 9=decide (1<=id/\id<=9)from fF.eO _ _ _];cases Jf:decide (1<=id/\id<=9)with
 |false=>rfl
 |true=>
 rw[a_,ax,bc,show tf.v key=eR key from fF.eO _ _ _];cases hko:eR key with
 |false=>rfl
 |true=>
 have A_:=e6.kO hko;rw[a_,ax,bc,fc];have hc6:=ho.cll;by_cases h6:p.cl.length=6
 ·rw[aE (show(p.cl.length:aw)≥6 by omega),au,aK (show¬p.cl.length<6 by omega),wC];rfl
 rw[aK (show¬(p.cl.length:aw)≥6 by omega),ax,aE (show p.cl.length<6 by omega),ju];cases hhi:lC p.cl id with
 |true=>obtain⟨j,hj⟩:=(find _ _ p.cl oe id key 0 p.now (re p.en) (rs p.w) (rs p.m) (rr p.s) p.a (rf p.fe) p.hits 0 0 0 p.now p.a p.hits (re p.en) (rs p.w) (rs p.m) (rr p.s) (rf p.fe) (rc p.cl)).2 hhi;refine hj.trans ?_;rfl
 |false=>
 refine((find _ _ p.cl oe id key 0 p.now (re p.en) (rs p.w) (rs p.m) (rr p.s) p.a (rf p.fe) p.hits 0 0 0 p.now p.a p.hits (re p.en) (rs p.w) (rs p.m) (rr p.s) (rf p.fe) (rc p.cl)).1 hhi).trans ?_;rw[bR,au];have h4:=wW.ok p.now p.en (rs p.w) (rs p.m) (rr p.s) p.a (rf p.fe) (rc p.cl) p.hits key hen;have h7:=e6.ok p.w p.m p.s p.a key hp.w hp.m Lc (by omega);have h8:=dv.ok p.s p.a key Lc (by omega);have h9:=vg.ok p.w p.m p.s p.a key hp.w hp.m Lc;have QB:=qo.ok p.en key (by omega);have Ju:=λx:Cl=>lU.ok p.cl x oe;have ar0:=ho.hits;have s5:=ho.fl;have yN:=agA ho.ap key;have Jn:cw (p.fe.length+1) 56=true:=Lib.ch (by omega) (by omega);have dK:∀key:aq,bT (aD (aP [Ck.s,Ck.s,Ck.i ao,Ck.i ao,Ck.i ao] 1) 0 [CV.s key,CV.s {data:= #[]},CV.i ao 1,CV.i ao 0,CV.i ao 0])=1:=λ_=>rfl;have Nz:(el (p.fe++[rW key]) p.fe.length).t=⟨#[]⟩:=by rw[eN (by simp),List.getElem_append_right (by omega)];simp[rW]
 rw[h4.1,h4.2,au];cases he:H4 p.en key with
 |some e=>
  have afj:e∈p.en:=qF he;obtain⟨i,hi,hie⟩:=c6 afj;dsimp only[wW.res];rw[au,<-vT.eq,show GN.v e.k e.st e.li e.bo p.now=mP e p.now from rfl];cases Ao:mP e p.now with
  |true=>
   have hw:bJ (p.now-e.st)=p.now-e.st:=by have:=Bx (p:=p) hi ho;rwa[eN hi,hie]at this
   have hj:=Ju ⟨id,key,0,e.st,2,e.bo,p.now-e.st⟩;dsimp only at hj;rw[au,h7.1,h7.2,au,au,hw,hj.1,hj.2,au,au];unfold res hit;cases hh:decide (p.hits<1000000000)with
   |true=>rw[bf]at hh;rw[au,de (by omega) (by omega)];rfl
   |false=>rfl
  |false=>
   rw[ax,ax];refine(scan _ p.fe H7 key ai p.now (re p.en) (rs p.w) (rs p.m) (rr p.s) p.a (rc p.cl) p.hits 0 0 0 p.now p.a p.hits id key 0 1 0 (re p.en) (rs p.w) (rs p.m) (rr p.s) (rf p.fe) (rc p.cl)).trans ?_;rw[yN];unfold sP;cases hoi:N1 p.fe key with
   |none=>
    dsimp only;by_cases QC:p.fe.length=20
    ·rw[aK (show¬p.fe.length<20 by omega)];simp only[aN,au,dM,aE (show(p.fe.length:aw)≥20 by omega)];rfl
    ·rw[aE (show p.fe.length<20 by omega)];have hj:=Ju ⟨id,key,(p.fe.length:aw)+1,0,1,⟨#[]⟩,0⟩;dsimp only at hj;have hlen:((p.fe.length+1:aF):aw)=(p.fe.length:aw)+1:=by omega
     simp only[aN,au,ax,dM,aK (show¬(p.fe.length:aw)≥20 by omega),dK,Jn,QB.1,QB.2,h9.1,h9.2,h8.1,h8.2,Az,bP,bA,hlen,hj.1,hj.2];unfold res put;rw[Nz];rfl
   |some j=>dsimp only;have hj:=Ju ⟨id,key,(j:aw)+1,0,1,(el p.fe j).t,0⟩;dsimp only at hj;simp only[aK (show¬(j:aw)+1=0 by omega),au,ax,QB.1,QB.2,h9.1,h9.2,h8.1,h8.2,hj.1,hj.2];rfl
 |none=>
  dsimp only[wW.res];rw[ax];refine(scan _ p.fe H7 key ak p.now (re p.en) (rs p.w) (rs p.m) (rr p.s) p.a (rc p.cl) p.hits 0 0 0 p.now p.a p.hits id key 0 1 0 (re p.en) (rs p.w) (rs p.m) (rr p.s) (rf p.fe) (rc p.cl)).trans ?_;rw[yN];unfold sP;cases hoi:N1 p.fe key with
  |none=>
   dsimp only;by_cases QC:p.fe.length=20
   ·rw[aK (show¬p.fe.length<20 by omega)];simp only[aN,au,dM,aE (show(p.fe.length:aw)≥20 by omega)];rfl
   ·rw[aE (show p.fe.length<20 by omega)];have hj:=Ju ⟨id,key,(p.fe.length:aw)+1,0,1,⟨#[]⟩,0⟩;dsimp only at hj;have hlen:((p.fe.length+1:aF):aw)=(p.fe.length:aw)+1:=by omega
    simp only[aN,au,ax,dM,aK (show¬(p.fe.length:aw)≥20 by omega),dK,Jn,h8.1,h8.2,Az,bP,bA,hlen,hj.1,hj.2];unfold res put;rw[Nz];rfl
  |some j=>dsimp only;have hj:=Ju ⟨id,key,(j:aw)+1,0,1,(el p.fe j).t,0⟩;dsimp only at hj;simp only[aK (show¬(j:aw)+1=0 by omega),au,ax,h8.1,h8.2,hj.1,hj.2];rfl
end wS

namespace vh
open Lib (rr rs re rf rc Px el)
open pj (jd)
theorem ok(p:Px)(f:aw)(hp:p.Fit 1048576):c p.now (re p.en) (rs p.w) (rs p.m) (rr p.s) p.a (rf p.fe) (rc p.cl) p.hits f=ai/\v p.now (re p.en) (rs p.w) (rs p.m) (rr p.s) p.a (rf p.fe) (rc p.cl) p.hits f=gq.s6 p f:=by
 have h:=pj.ok p hp;have hf:=hp.fe;refine out _ _ _ _ _ _ _ _ _ _ ?_;unfold vo b gq.s6;rw[h.1,h.2,au,dM,de (x:=(p.fe.length:aw)-1) (by omega) (by omega),show km.v f 0 ((p.fe.length:aw)-1)=decide (0<=f/\f<=(p.fe.length:aw)-1)from fF.eO _ _ _];cases jd p with
 |false=>rfl
 |true=>
  cases hd:decide (0<=f/\f<=(p.fe.length:aw)-1)with
  |false=>rfl
  |true=>
   have:=cq hd;obtain⟨n,rfl⟩:∃n:aF,f=(n:aw):=⟨f.toNat,by omega⟩
   have hn:n<p.fe.length:=by omega
   simp only[au,bc,Lib.cE,Lib.dm,hn,aN,aM,Lib.dX,z5 hn,bF]
end vh

namespace QV
theorem put(s:aw)(t q:aq)(ht:(t.size:aw)<=400)(hs:1<=s/\s<=3):DO.v s t [] q=bif decide (s=1)&&(decide (1<=q.size/\q.size<=40)&&decide (t.size+q.size<=400))then(s,t++q,[],ai)else(s,t,[],ak):=by
 unfold DO.v;have cf:lL.v s t []=true:=by unfold lL.v lL.rest;rw[aE hs,aE (show t.size<=400 by omega)];rfl
 by_cases h1:s=1
 ·by_cases h2:1<=q.size/\q.size<=40
  ·by_cases h3:t.size+q.size<=400
   ·rw[bz ⟨cf,h1,h2.1,h2.2,h3⟩,aE h1,aE h2,aE h3];rfl
   ·rw[bH (by omega),aK h3];simp
  ·rw[bH (by omega),aK h2];simp
 ·rw[bH (by simp[h1]),aK h1];rfl
end QV

namespace sL
open Lib (rr rs re rf rc Px Cl el)
open uU (ec nY lx)
theorem ok(p:Px)(f:aF)(st:aw)(hf:f<p.fe.length)(hl:p.fe.length<=2097152)(hc:p.cl.length<=2097152):
  c p.now (re p.en) (rs p.w) (rs p.m) (rr p.s) p.a (rf p.fe) (rc p.cl) p.hits (f:aw) st=ai/\v p.now (re p.en) (rs p.w) (rs p.m) (rr p.s) p.a (rf p.fe) (rc p.cl) p.hits (f:aw) st=(p.now,re p.en,rs p.w,rs p.m,rr p.s,p.a,rf p.fe,rc (nY p.cl f st (el p.fe f).t),p.hits):=by
 refine out _ _ _ _ _ _ _ _ _ _ _ ?_;unfold vo b;have key:=nR Cl.row p.cl (λ_ c=>ec f st (el p.fe f).t c) (λn (i:aF) x=>l1 Lib.cU (λ(_ _ _ WM QO DC:aw) (FH El wA Kj Kk V7:aR)=>ah (WM,FH,El,wA,Kj,QO,Kk,V7,DC)) n (f:aw) st (i:aw) p.now p.a p.hits (re p.en) (rs p.w) (rs p.m) (rr p.s) (rf p.fe) x) (λx=>ah (p.now,re p.en,rs p.w,rs p.m,rr p.s,p.a,rf p.fe,x,p.hits)) (λn i L h h2 hL wc=> ?_) (λn L hL=> ?_) Lib.cU (cG (by omega))
 ·rw[lx]at key;exact key
 ·have e2:ar (L.map Cl.row) i 2=CV.i ao p.cl[i].fe:=by rw[eW _ L i _ h2,wc];rfl
  have e4:ar (L.map Cl.row) i 4=CV.i ao p.cl[i].sta:=by rw[eW _ L i _ h2,wc];rfl
  have s1:eJ (L.map Cl.row) i 5 [CV.s (el p.fe f).t]=(L.set i {p.cl[i]with mQ:=(el p.fe f).t}).map Cl.row:=kU Cl.row L i 5 _ _ h2 (by rw[wc];rfl);have h3:i<(L.set i {p.cl[i]with mQ:=(el p.fe f).t}).length:=by simpa using h2
  have s2:eJ ((L.set i {p.cl[i]with mQ:=(el p.fe f).t}).map Cl.row) i 4 [CV.i ao st]=((L.set i {p.cl[i]with mQ:=(el p.fe f).t}).set i {p.cl[i]with sta:=st,mQ:=(el p.fe f).t}).map Cl.row:=kU Cl.row _ i 4 _ _ h3 (by rw[kK];rfl);simp only[l1,r1,Lib.dm,h2,hf,bU,cD,aN,Lib.cE,aM,au,Lib.dX,e2,e4,bF,s1,s2,pN,dM,DB hf,bw,Lib.cZ h (by omega:p.cl.length<=9223372036854775807),de (x:=(f:aw)+1) (by omega) (by omega)];unfold ec;cases decide (p.cl[i].fe=(f:aw)+1)with
  |false=>rw[lG,ax,ax,<-wc,fA]
  |true=>
   cases decide (p.cl[i].sta=1)with
   |false=>rw[bc,au,ax,ax,<-wc,fA]
   |true=>rw[bc,au,au,au]
 ·simp only[l1,r1,bU,hL,Lib.dm,bm,bj,ax]
end sL

namespace DR
open Lib (rr rs re rf rc Px el)
open gq (s6 C3 told iT n7 iR yw)
theorem ok(p:Px)(f:aw)(q:aq)(hp:p.Fit 1048576):c p.now (re p.en) (rs p.w) (rs p.m) (rr p.s) p.a (rf p.fe) (rc p.cl) p.hits f q=ai/\v p.now (re p.en) (rs p.w) (rs p.m) (rr p.s) p.a (rf p.fe) (rc p.cl) p.hits f q=(p.now,re p.en,rs p.w,rs p.m,rr p.s,p.a,rf (C3 p f q).1.fe,rc (C3 p f q).1.cl,p.hits,(C3 p f q).2):=by
 have h1:=fP.ok p hp;have h2:=vh.ok p f hp;have hf:=hp.fe;have hc:=hp.cl;refine out _ _ _ _ _ _ _ _ _ _ _ ?_;unfold vo b C3;simp only[Lib.lt,h1.1,h1.2,h2.1,h2.2,au];cases ho:s6 p f with
 |false=>rfl
 |true=>
  obtain⟨n,rfl,hn,cf,hs1⟩:=iT ho;have xM:=gq.Nn cf n hn;unfold np.nN at xM;simp only[aL,bf]at xM;have nq:GM.v 1 (el p.fe n).t [] q=_:=QV.put 1 (el p.fe n).t q xM.2.1 (by omega);rw[aE (show(1:aw)=1 from rfl),bc]at nq;simp only[a_,ax,au,Lib.cE,Lib.dm,dM,hn,aN,aM,Lib.dX,DB hn,bw,nq,bc];cases hs:decide (1<=q.size/\q.size<=40)&&decide ((el p.fe n).t.size+q.size<=400)with
  |false=>rfl
  |true=>
   have e1:=yw p.fe n 1 [CV.s ((el p.fe n).t++q)] {el p.fe n with t:=(el p.fe n).t++q} hn rfl;have Hc:n<(p.fe.set n {el p.fe n with t:=(el p.fe n).t++q}).length:=by rw[cD];exact hn
   have h3:=sL.ok {p with fe:=p.fe.set n {el p.fe n with t:=(el p.fe n).t++q}} n 1 Hc (by rw[cD];omega) (by dsimp only;omega);dsimp only at h3;rw[iR hn]at h3;simp only[a_,ax,au,e1,h3.1,h3.2];rfl
end DR

namespace OV
open Lib (rr rs re rf rc Px En el)
open fY (So fS mC)
open kC (yB)
theorem ok(p:Px)(e:En)(r6 r7:aR)(hp:p.Fit 1048575)(hso:So p.en)(hk1:∀x∈p.en,1<=x.k.size)(hk:e.k.size<=140737488355328):
  c p.now (re p.en) (rs p.w) (rs p.m) (rr p.s) p.a r6 r7 p.hits e.k e.st e.li e.bo=ai/\v p.now (re p.en) (rs p.w) (rs p.m) (rr p.s) p.a r6 r7 p.hits e.k e.st e.li e.bo=(p.now,re (yB p e).en,rs (yB p e).w,rs (yB p e).m,rr (yB p e).s,(yB p e).a,r6,r7,p.hits):=by
 have he:=hp.en;have hw:=hp.w;have hm:=hp.m;obtain⟨b1,b2,b3⟩:=e6.Md p.w p.m p.s p.a e.k;have h1:=e6.ok p.w p.m p.s p.a e.k (by omega) (by omega) ⟨dh hp.s.1 (by omega),λq hq=>dh (hp.s.2.1 q hq) (by omega)⟩ hk;refine out _ _ _ _ _ _ _ _ _ _ _ _ _ ?_;unfold vo b yB;generalize e6.val p.w p.m p.s p.a e.k=V at h1 b1 b2 b3;obtain⟨W,M,T,A,G⟩:=V;dsimp only at h1 b1 b2⊢;have h2:=qo.ok p.en G (by omega);have h3:=th.ok W M (rr T) A e.k (by omega) (by omega);have hd:=fY.xB p.en G;have h4:=lN.ok (re (fS p.en G)) e.k e.st e.li e.bo (by rw[dc];omega);rw[fY.tY]at h4;simp only[Lib.lt,h1.1,h1.2,h2.1,h2.2,h3.1,h3.2,h4.1,h4.2,au,Lib.fm];by_cases hG:G=⟨#[]⟩
 ·subst hG;rw[fY.drop_nil hk1]at h4⊢;rw[aE rfl];simp only[a_,ax,h4.1,h4.2,au];cases fj.has W e.k||fj.has M e.k<;>rfl
 ·rw[aK hG];simp only[bR,au];cases fj.has W e.k||fj.has M e.k<;>rfl
end OV

namespace DU
open Lib (rr rs re rf rc Px el)
open gq (s6 told iT n7 iR yw)
open s7 (cls kG)
theorem ok(p:Px)(f life:aw)(hp:p.Fit 1048576):c p.now (re p.en) (rs p.w) (rs p.m) (rr p.s) p.a (rf p.fe) (rc p.cl) p.hits f life=ai/\v p.now (re p.en) (rs p.w) (rs p.m) (rr p.s) p.a (rf p.fe) (rc p.cl) p.hits f life=(p.now,re (cls p f life).1.en,rs (cls p f life).1.w,rs (cls p f life).1.m,rr (cls p f life).1.s,(cls p f life).1.a,rf (cls p f life).1.fe,rc (cls p f life).1.cl,p.hits,(cls p f life).2):=by
 have h1:=fP.ok p hp;have h2:=vh.ok p f hp;have hf:=hp.fe;have hc:=hp.cl;refine out _ _ _ _ _ _ _ _ _ _ _ ?_;unfold vo b cls;simp only[Lib.lt,h1.1,h1.2,h2.1,h2.2,au];cases ho:s6 p f with
 |false=>rfl
 |true=>
  obtain⟨n,rfl,hn,cf,hs1⟩:=iT ho;obtain⟨so,ks,_,_,_,_,_,_,_,_,xM⟩:=kC.BF cf;have xM:=xM n hn;unfold np.nN at xM;rw[aL]at xM;have A_:=e6.kO xM.1;rw[show km.v life 0 999999=decide (0<=life/\life<=999999)from fF.eO _ _ _];cases hl:decide (0<=life/\life<=999999)with
  |false=>rfl
  |true=>
   generalize hg:({el p.fe n with sta:=2,li:=life,st:=p.now}:Lib.Fe)=g;have hk:g.k=(el p.fe n).k:=by rw[<-hg]
   have ht:g.t=(el p.fe n).t:=by rw[<-hg]
   have gl:g.li=life:=by rw[<-hg]
   have gs:g.st=p.now:=by rw[<-hg]
   have e3:=yw p.fe n 0 [CV.s (el p.fe n).k,CV.s (el p.fe n).t,CV.i ao 2,CV.i ao life,CV.i ao p.now] g hn (by rw[<-hg];rfl);have n3:n<(p.fe.set n g).length:=by rw[cD];exact hn
   have h3:=sL.ok {p with fe:=p.fe.set n g} n 2 n3 (by rw[cD];omega) (by dsimp only;omega);dsimp only at h3;rw[iR hn]at h3;have h4:=OV.ok (told p n g 2) (kG g) (rf (p.fe.set n g)) (rc (told p n g 2).cl) ((n7 (kC.kB cf)).le (by omega)) so ks (by show g.k.size<=_;rw[hk];omega);unfold kG at h4;dsimp only[told]at h4;rw[gl,gs,hk,ht]at h4;unfold kG told;rw[ht]at h3;simp only[a_,ax,au,Lib.cE,Lib.dm,dM,hn,aN,aM,bc,Lib.dX,Dp hn,DB hn,Qm hn,QM hn,QN hn,bF,bw,e3,h3.1,h3.2,gl,gs,hk,ht];cases decide (life>0)with
   |true=>simp only[au,h4.1,h4.2];subst hg;rfl
   |false=>subst hg;rfl
end DU

namespace DV
theorem ok(k:aq)(s l:aw)(b0:aq):c k s l b0=ai/\v k s l b0=ve.val k s l b0:=by
 refine out k s l b0 ?_;have hf:=fJ.ok (jM.v k s l b0).1;unfold vo b ve.val;rw[hf.1,hf.2];unfold jM.v fJ.val;by_cases h:ni.v k s l b0=ai
 ·have h1:=mY.ue h;have h2:=mY.BK h;rw[bz h,bz h,bz (by dsimp only;omega)];rfl
 ·rw[bH h,bH h];rfl
end DV

namespace eu
open Lib (rd el Fi)
open dI (put)
theorem tail(l:az Fi)(n t:aq)(k:aw)(hl:l.length<=1000000)(c0:az Fi)(hc:c0.length<=1000001):
  l9 Lib.cU (λ(_:aw) (_:aR) (_ _:aq) (_:aw) (y:aR)=>ah y) Lib.cU 0 (rd l) n t k (rd c0)=ah (rd (c0++l.filter λx=> !(fY.fy x.n n||decide (x.n=n)))):=by
 refine Cs l (λx=> !(fY.fy x.n n||decide (x.n=n))) (λm (i:aF) acc=>l9 Lib.cU (λ(_:aw) (_:aR) (_ _:aq) (_:aw) (y:aR)=>ah y) m (i:aw) (rd l) n t k (rd acc)) (λacc=>ah (rd acc)) c0
  (λm i acc h ha hp=> ?_) (λm i acc h hp=> ?_) (λm acc=> ?_) Lib.cU (cG (by omega))
 ·have mN:(!(b7 (aA l[i].n) (aA n)||decide (l[i].n=n)))=true:=hp;simp only[l9,r9,eB,Lib.dm,h,aN,Lib.cE,aM,au,Lib.dX,JO h,WD h,WE h,bw,bF,Lib.fm,mN,pR,bA,Lib.cZ h (by omega:l.length<=9223372036854775807),Lib.ch (n:=acc.length+1) (b:=40) (by omega) (by omega)];unfold Lib.rd;rw[di];rfl
 ·have mN:(!(b7 (aA l[i].n) (aA n)||decide (l[i].n=n)))=false:=hp;simp only[l9,r9,eB,Lib.dm,h,aN,Lib.cE,aM,au,ax,Lib.dX,JO h,bw,Lib.fm,mN,Lib.cZ h (by omega:l.length<=9223372036854775807)]
 ·simp only[l9,r9,eB,Lib.dm,bm,bj,ax]
theorem ok(l:az Fi)(n t:aq)(k:aw)(hl:l.length<=1000000):c (rd l) n t k=ai/\v (rd l) n t k=rd (put l ⟨n,t,k⟩):=by
 refine out _ _ _ _ ?_;unfold vo b
 have key:=Nr l (λx=>fY.fy x.n n)
  (λm (i:aF)=>l3 Lib.cU (λ(_:aw) (y41:aR) (y42 y43:aq) (V9:aw)=>l9 Lib.cU (λ(_:aw) (_:aR) (_ _:aq) (_:aw) (y50:aR)=>ah y50) Lib.cU 0 y41 y42 y43 V9 ([]++aD (aP [Ck.s,Ck.s,Ck.i ao] 1) 0 [CV.s y42,CV.s y43,CV.i ao V9])) (λ(_:aw) (y52:aR) (y53 y54:aq) (y55:aw) (y56:aR)=>bif(cw (bT y56+bT (aD (aP [Ck.s,Ck.s,Ck.i ao] 1) 0 [CV.s y53,CV.s y54,CV.i ao y55])) 40)then(l9 Lib.cU (λ(_:aw) (_:aR) (_ _:aq) (_:aw) (y62:aR)=>ah y62) Lib.cU 0 y52 y53 y54 y55 (y56++aD (aP [Ck.s,Ck.s,Ck.i ao] 1) 0 [CV.s y53,CV.s y54,CV.i ao y55]))else(aj)) m (i:aw) (rd l) n t k)
  (λm (i:aF) acc=>sO Lib.cU (λ(_:aw) (y41:aR) (y42 y43:aq) (V9:aw)=>l9 Lib.cU (λ(_:aw) (_:aR) (_ _:aq) (_:aw) (y50:aR)=>ah y50) Lib.cU 0 y41 y42 y43 V9 ([]++aD (aP [Ck.s,Ck.s,Ck.i ao] 1) 0 [CV.s y42,CV.s y43,CV.i ao V9])) (λ(_:aw) (y52:aR) (y53 y54:aq) (y55:aw) (y56:aR)=>bif(cw (bT y56+bT (aD (aP [Ck.s,Ck.s,Ck.i ao] 1) 0 [CV.s y53,CV.s y54,CV.i ao y55])) 40)then(l9 Lib.cU (λ(_:aw) (_:aR) (_ _:aq) (_:aw) (y62:aR)=>ah y62) Lib.cU 0 y52 y53 y54 y55 (y56++aD (aP [Ck.s,Ck.s,Ck.i ao] 1) 0 [CV.s y53,CV.s y54,CV.i ao y55]))else(aj)) m (i:aw) (rd l) n t k (rd acc))
  (λacc=>bif cw (acc.length+1) 40 then l9 Lib.cU (λ(_:aw) (_:aR) (_ _:aq) (_:aw) (y:aR)=>ah y) Lib.cU 0 (rd l) n t k (rd (acc++[⟨n,t,k⟩]))else aj)
  (λm i h hp=>by have mN:b7 (aA l[i].n) (aA n)=true:=hp;simp only[l3,r3,eB,Lib.dm,h,aN,Lib.cE,aM,au,Lib.dX,JO h,WD h,WE h,bw,bF,mN,pR,Lib.cZ h (by omega:l.length<=9223372036854775807)];rfl)
  (λm i h hp=>by have mN:b7 (aA l[i].n) (aA n)=false:=hp;simp only[l3,r3,eB,Lib.dm,h,aN,Lib.cE,aM,au,ax,Lib.dX,JO h,bw,mN,Lib.cZ h (by omega:l.length<=9223372036854775807)])
  (λm=>by simp only[l3,r3,eB,Lib.dm,bm,bj,ax];rw[Lib.ch (by simp) (by simp),au];rfl)
  (λm i acc h ha hp=>by have mN:b7 (aA l[i].n) (aA n)=true:=hp;simp only[sO,zQ,eB,Lib.dm,h,aN,Lib.cE,aM,au,Lib.dX,JO h,WD h,WE h,bw,bF,mN,pR,bA,Lib.cZ h (by omega:l.length<=9223372036854775807),Lib.ch (n:=acc.length+1) (b:=40) (by omega) (by omega)];unfold Lib.rd;rw[di];rfl)
  (λm i acc h hp=>by have mN:b7 (aA l[i].n) (aA n)=false:=hp;simp only[sO,zQ,eB,Lib.dm,h,aN,Lib.cE,aM,au,ax,Lib.dX,JO h,bw,mN,Lib.cZ h (by omega:l.length<=9223372036854775807)])
  (λm acc=>by simp only[sO,zQ,eB,Lib.dm,bm,bj,ax,pR,bA];unfold Lib.rd;rw[di];rfl) Lib.cU (cG (by omega))
 refine key.trans ?_;have hf:=eC (λx:Fi=>fY.fy x.n n) l;rw[Lib.ch (by omega) (by omega),au,tail l n t k hl _ (by simp;omega)];unfold put;rw[cz]
end eu

namespace eS
open Lib (rd el Fi)
open dI (without)
theorem ok(l:az Fi)(n:aq)(hl:l.length<=1000000):c (rd l) n=ai/\v (rd l) n=rd (without l n):=by
 refine out _ _ ?_;unfold vo b
 have key:=Nr l (λx=> !decide (x.n=n))
  (λm (i:aF)=>l3 Lib.cU (λ(_:aq) (_:aw) (_:aR)=>ah ([]:aR)) (λ(_:aq) (_:aw) (_:aR) (wA:aR)=>ah wA) m n (i:aw) (rd l))
  (λm (i:aF) acc=>sO Lib.cU (λ(_:aq) (_:aw) (_:aR)=>ah ([]:aR)) (λ(_:aq) (_:aw) (_:aR) (wA:aR)=>ah wA) m n (i:aw) (rd l) (rd acc)) (λacc=>ah (rd acc))
  (λm i h hp=>by simp only[l3,r3,eB,Lib.dm,h,aN,Lib.cE,aM,au,Lib.dX,JO h,WD h,WE h,bw,bF,Lib.fm,hp,pR,Lib.cZ h (by omega:l.length<=9223372036854775807)];rfl)
  (λm i h hp=>by simp only[l3,r3,eB,Lib.dm,h,aN,Lib.cE,aM,au,ax,Lib.dX,JO h,bw,Lib.fm,hp,Lib.cZ h (by omega:l.length<=9223372036854775807)])
  (λm=>by simp only[l3,r3,eB,Lib.dm,bm,bj,ax];rfl)
  (λm i acc h ha hp=>by simp only[sO,zQ,eB,Lib.dm,h,aN,Lib.cE,aM,au,Lib.dX,JO h,WD h,WE h,bw,bF,Lib.fm,hp,pR,bA,Lib.cZ h (by omega:l.length<=9223372036854775807),Lib.ch (n:=acc.length+1) (b:=40) (by omega) (by omega)];unfold Lib.rd;rw[di];rfl)
  (λm i acc h hp=>by simp only[sO,zQ,eB,Lib.dm,h,aN,Lib.cE,aM,au,ax,Lib.dX,JO h,bw,Lib.fm,hp,Lib.cZ h (by omega:l.length<=9223372036854775807)])
  (λm acc=>by simp only[sO,zQ,eB,Lib.dm,bm,bj,ax]) Lib.cU (cG (by omega))
 exact key
end eS

namespace B4
open Lib (rd el Fi)
open dI (without put Wm sQ act Hs j5)
open rL (res)
theorem Zo(d:az Fi)(h:d.length<=1000000):gD.c (rd d)=ai/\gD.v (rd d)=sQ d:=gD.ok (rd d) (by rw[eB];omega)
theorem nm(n:aq):qm.v n=decide (1<=(n.size:aw)/\(n.size:aw)<=8):=gD.m_ _ _ _
theorem T2{l:az Fi}{n t:aq}{k:aw}(h:¬(1<=(n.size:aw)/\(n.size:aw)<=8)):sQ (put l ⟨n,t,k⟩)=false:=by
 cases hk:sQ (put l ⟨n,t,k⟩)with
 |false=>rfl
 |true=>have:=(j5.1 hk).2.1 ⟨n,t,k⟩ (dI.j6.2 (.inl rfl));unfold dI.nN at this;simp only[aL,bf]at this;exact cJ this.1 h
theorem ok(l:az Fi)(k:aw)(n t o:aq)(hl:l.length<=1000)(ht:t.size<=2305843009213693952):c (rd l) k n t o=ai/\v (rd l) k n t o=res (act l k n t o):=by
 refine out _ _ _ _ _ ?_;unfold vo b;have h1:=jB.ok (rd l) n (by rw[eB];omega);have h2:=Zo l (by omega);rw[h2.1,h2.2,au];unfold act;cases hk:sQ l with
 |false=>rfl
 |true=>
 rw[a_,ax,bc,nm];obtain⟨q1,q2,q3⟩:=j5.1 hk;have rn:∀f∈l,(1<=(f.n.size:aw)/\(f.n.size:aw)<=8)/\(f.t.size:aw)<=20000/\f.kp<=(f.t.size:aw):=λf hf=>by have:=q2 f hf;unfold dI.nN at this;simp only[aL,bf,dr,fu]at this;omega
 by_cases hn:1<=(n.size:aw)/\(n.size:aw)<=8;case neg=>
  rw[aK hn,bR,au]
  have zF:l.find? (λx=>decide (x.n=n))=none:=by rw[W6];intro x hx;have:=(rn x hx).1;simp only[bf];intro e;rw[e]at this;exact hn this
  cases dI.kh k t o with
  |false=>rfl
  |true=>
   rw[au];unfold Hs;rw[zF];by_cases k1:k=1
   ·rw[bz k1];dsimp only;rw[T2 hn];rfl
   ·rw[bH k1];rfl
 rw[aE hn,a_,ax,Lib.fm,Lib.fm,h1.1,h1.2,au,eB];unfold Lib.lt;by_cases ko:k=3\/o=⟨#[]⟩
 case neg=>
  rw[not_or]at ko
  have:dI.kh k t o=false:=by unfold dI.kh;rw[aK ko.1,aK ko.2];simp
  rw[this,show(k !=3)=ai from bne_iff_ne.2 ko.1,au,aK ko.2];rfl
 by_cases kt:k=1\/t=⟨#[]⟩
 case neg=>
  rw[not_or]at kt
  have:dI.kh k t o=false:=by unfold dI.kh;rw[aK kt.1,aK kt.2];simp
  rw[this,show(k !=1)=ai from bne_iff_ne.2 kt.1,au,aK kt.2]
  rcases ko with ko|ko
  ·subst ko;rfl
  ·rw[aE ko];cases (k !=3)<;>rfl
 have abg:∀x:aC (aR×aX),(bif k !=3 then(bif !decide (o=⟨#[]⟩)then ah (([]:aR),ak)else(bif k !=1 then(bif !decide (t=⟨#[]⟩)then ah ([],ak)else x)else x))else(bif k !=1 then(bif !decide (t=⟨#[]⟩)then ah ([],ak)else x)else x))=x:=λx=>by
  rcases ko with ko|ko<;>rcases kt with kt|kt
  ·omega
  ·subst ko;rw[aE kt];rfl
  ·subst kt;rw[aE ko];rfl
  ·rw[aE ko,aE kt];cases (k !=3)<;>cases (k !=1)<;>rfl
 have wp:=λ(m:az Fi) (hml:m.length<=1000) (n t:aq) (k:aw)=>eu.ok m n t k (by omega);have wo:=eS.ok l n (by omega);have wol:=dI.Mh l n;have pl:=λ(m:az Fi) (f:Fi) (hm:m.length<=1000)=>Zo (put m f) (dh (dI.sa f) (by omega));have fin:∀d:az Fi,(bif !sQ d then ah (([]:aR),ak)else ah (rd d,ai))=ah (res (bif sQ d then ah d else aj)):=λd=>by cases sQ d<;>rfl
 by_cases hk4:1<=k/\k<=4;case neg=>
  have ha:dI.kh k t o=false:=by unfold dI.kh;rw[aK hk4];rfl
  rw[ha]
  refine(abg _).trans ?_
  rcases rL.find l n with ⟨e1,e2⟩|⟨i,hi,e1,e2⟩
  ·rw[e1,aK (show¬k=1 by omega)];rfl
  ·rw[e1];dsimp only;rw[aK (show¬k=1 by omega),aK (show¬k=2 by omega),aK (show¬k=3 by omega),aK (show¬k=4 by omega),aK (show¬((i:aF):aw)<0 by omega),aE (show((i:aF):aw)≥0 by omega)];simp only[Lib.dm,hi,aN,aM,bc,au,ax];rfl
 have ha:dI.kh k t o=true:=by unfold dI.kh;rw[aE hk4,bc,aL,dL,dL,bf,bf,bf,bf];exact⟨kt.symm,ko.symm⟩
 rw[ha,au];refine(abg _).trans ?_;unfold Hs;rcases rL.find l n with ⟨e1,e2⟩|⟨i,hi,e1,e2⟩
 ·rw[e1,e2];dsimp only;by_cases k1:k=1
  ·subst k1;have p:=wp l hl n (⟨#[]⟩++t) 0;have d:=pl l ⟨n,⟨#[]⟩++t,0⟩ hl;have et:(⟨#[]⟩:aq)++t=t:=lP;rw[show decide ((-1:aw)≥0)=ak from rfl,ax,aE (show(1:aw)=1 from rfl),au,aE (show(⟨#[]⟩:aq).size+t.size<=4611686018427387904 from by rw[show(⟨#[]⟩:aq).size=0 from rfl];omega),au,p.1,p.2,au,d.1,d.2,au,fin,et];rfl
  ·rw[show decide ((-1:aw)≥0)=ak from rfl,ax,aK k1,ax,bH k1];rfl
 ·have hf:(el l i).n=n:=by have:=vp e2;exact cq this
  have xM:=rn _ (kA hi);rw[e1,e2];dsimp only;rw[aK (show¬((i:aF):aw)<0 by omega),aE (show((i:aF):aw)≥0 by omega),au];simp only[Lib.dm,hi,aN,Lib.dX,wd0 hi,wd1 hi,wd2 hi,bw,bF,aM,bc,au,ax];by_cases k1:k=1
  ·subst k1;have p:=wp l hl (el l i).n ((el l i).t++t) (el l i).kp;have d:=pl l ⟨(el l i).n,(el l i).t++t,(el l i).kp⟩ hl;rw[aE (show(1:aw)=1 from rfl),au,aE (show(el l i).t.size+t.size<=4611686018427387904 by omega),au,p.1,p.2,au,d.1,d.2,au,fin];rfl
  rw[aK k1,ax,bH k1];by_cases k2:k=2
  ·subst k2;have p:=wp l hl (el l i).n (el l i).t ((el l i).t.size:aw);have d:=pl l ⟨(el l i).n,(el l i).t,((el l i).t.size:aw)⟩ hl;rw[aE (show(2:aw)=2 from rfl),au,p.1,p.2,au,d.1,d.2,au,fin];rfl
  rw[aK k2,ax,bH k2];by_cases k3:k=3
  ·subst k3;rw[aE (show(3:aw)=3 from rfl),au,bz rfl];by_cases b1:(el l i).kp=((el l i).t.size:aw)
   ·rw[aK (show¬(el l i).kp<((el l i).t.size:aw)by omega),ax,Lib.fm,nm];by_cases b2:o=n
    ·rw[aE b2,au,bz (.inr b2)];rfl
    ·rw[aK b2,ax,bH (by rintro (h|h);exact h b1;exact b2 h)];by_cases b3:1<=(o.size:aw)/\(o.size:aw)<=8
     ·have p:=wp (without l n) (by omega) o (el l i).t (el l i).kp;have d:=pl (without l n) ⟨o,(el l i).t,(el l i).kp⟩ (by omega);rw[aE b3,a_,ax,wo.1,wo.2,au,p.1,p.2,au,d.1,d.2,au,fin]
     ·rw[aK b3];dsimp only;rw[T2 b3];rfl
   ·rw[aE (show(el l i).kp<((el l i).t.size:aw)by omega),au,bz (.inl b1)];rfl
  rw[aK k3,ax,bH k3];have k4:k=4:=by omega
  subst k4;have d:=Zo (without l n) (by omega);rw[aE (show(4:aw)=4 from rfl),au,wo.1,wo.2,au,d.1,d.2,au,fin]
end B4

namespace qp
open Lib (rd el Fi)
open dI (ki act ra Ac wa0 wa1 wa2 wa3 sb Bl)
theorem ok(l:az Fi)(a:az Ac)(hl:l.length<=1000)(ha:a.length<=1000000)(ht:∀x∈a,x.t.size<=2305843009213693952):c (rd l) (ra a)=ai/\v (rd l) (ra a)=(rd (ki l 0 a).1,((ki l 0 a).2:aw)):=by
 refine out _ _ ?_;unfold vo b;rw[Lib.rU,eB,Lib.ch (by omega) (by omega),au,show aP [Ck.s,Ck.s,Ck.i ao] 0++rd l=rd l from rfl]
 have key:∀(d i n:aF) (z:aw) (l:az Fi),a.length-i<=d->i<=a.length->l.length<=1000->d<n->
   l3 Lib.cU (λ(_:aR) (y5 _:aw) (y7:aR)=>ah (y7,y5)) (λ(y8:aR) (_ _:aw) (wz:aR)=>ah (wz,(↑(bT y8):aw))) n (ra a) z (i:aw) (rd l)=ah (rd (ki l i (a.drop i)).1,((ki l i (a.drop i)).2:aw)):=by
  intro d
  induction d with
  |zero=>
   intro i n z l e1 e2 e3 e4;obtain⟨n,rfl⟩:∃n',n=n'+1:=⟨n-1,by omega⟩
   have:i=a.length:=by omega
   subst this;simp only[l3,r3,Lib.dm,bm,bj,ax,sb,dj,ki]
  |succ d ih=>
   intro i n z l e1 e2 e3 e4;obtain⟨n,rfl⟩:∃n',n=n'+1:=⟨n-1,by omega⟩
   by_cases hi:i<a.length
   ·have hd:=B4.ok l (el a i).k (el a i).n (el a i).t (el a i).o e3 (ht _ (kA hi));simp only[l3,r3,Lib.dm,sb,hi,aN,Lib.cE,aM,au,Lib.dX,wa0 hi,wa1 hi,wa2 hi,wa3 hi,bw,bF,hd.1,hd.2,Lib.cZ hi (by omega:a.length<=9223372036854775807)];rw[dE hi,<-eN hi];unfold ki;cases hac:act l (el a i).k (el a i).n (el a i).t (el a i).o with
    |none=>rfl
    |some e=>have:=(Bl hac).2;exact ih (i+1) n z e (by omega) hi (by omega) (by omega)
   ·have:i=a.length:=by omega
    subst this;simp only[l3,r3,Lib.dm,bm,bj,ax,sb,dj,ki]
 exact key a.length 0 Lib.cU 0 l (by omega) (bI _) hl (cG (by omega))
end qp

namespace DS
open Lib (rr rs re rf rc rd Px En el Dp DB QM QN)
open gE (Wo Ev closed)
open jU (dk es)
open hZ (tu)
open fU (ri v8 ub kB)
open s7 (cls kG)
theorem ok{i:aF}{w:Wo}(h:tu i w)(hi:i<=71)(k id:aw)(t:aq)(nn:aw)(left:aR)(h0:0<=nn):c w.p.now (re w.p.en) (rs w.p.w) (rs w.p.m) (rr w.p.s) w.p.a (rf w.p.fe) (rc w.p.cl) w.p.hits (rd (dk w.o)) (ri w.cd) (re w.bd) k id t nn left=ai/\v w.p.now (re w.p.en) (rs w.p.w) (rs w.p.m) (rr w.p.s) w.p.a (rf w.p.fe) (rc w.p.cl) w.p.hits (rd (dk w.o)) (ri w.cd) (re w.bd) k id t nn left=((closed w id (nn%1000000)).2,v8 (closed w id (nn%1000000)).1):=by
 refine out _ _ _ _ _ _ _ _ _ _ _ _ _ _ _ _ _ ?_;have hl:0<=nn%1000000/\nn%1000000<=999999:=by omega
 have hm:cy nn 1000000=nn%1000000:=ir h0;have XL:=h.bd;have Wy:=h.tx hi;have hdl:=jU.Cj w.o;have A:=DU.ok w.p id (nn%1000000) (kB h.px);obtain⟨q1,q2⟩:=hZ.KO (f:=id) h.px hl;obtain⟨s1,s2⟩:=s7.IJ (p:=w.p) (f:=id) (life:=nn%1000000);have mM:=kB q1;unfold vo b;rw[hm];generalize nn%1000000=life at*
 rw[A.1,au,A.2,fU.lt_eq];unfold closed v8;dsimp only;rw[<-s1,<-s2];generalize cls w.p id life=Q at q1 q2 s1 s2 mM;obtain⟨q,ok⟩:=Q;dsimp only at q1 q2 s1 s2 mM⊢;rcases q2 with ⟨r1,r2⟩|⟨r1,n,rn,hn,rf_,rs_,rl⟩
 ·subst r1;rfl
 subst r1;rw[au,bc];by_cases hz:life=0
 ·rw[aK (show¬life>0 by omega)];rfl
 rw[aE (show life>0 by omega),au,au];obtain⟨t1,t2⟩:=rl (by omega);have Hc:n<q.fe.length:=by rw[rf_,cD];exact hn
 have Nz:el q.fe n={el w.p.fe n with sta:=2,li:=life,st:=w.p.now}:=by rw[rf_,gq.iR hn]
 subst rn;rw[dG];have C:=DV.ok (el q.fe n).k (el q.fe n).st (el q.fe n).li (el q.fe n).t;have hE:ni.v (el q.fe n).k (el q.fe n).st (el q.fe n).li (el q.fe n).t=true:=by rw[Nz];exact t1
 have Ao:=hZ.K4 (e:=kG (el q.fe n)) hE;rw[ve.val,bz hE,show ve.ki (fJ.fr (jM.sV (el q.fe n).k (el q.fe n).st (el q.fe n).li (el q.fe n).t))=dI.ra (gT.sE (gT.H5 (kG (el q.fe n))))from rfl]at C;have D:=qp.ok (dk w.o) (gT.sE (gT.H5 (kG (el q.fe n)))) (by omega) (by unfold gT.sE;simp) (λx hx=>by
  unfold gT.sE at hx;simp only[cB,gG,or_false]at hx;rcases hx with rfl|rfl
  ·show(gT.H5 (kG (el q.fe n))).size<=_;omega
  ·exact bI _)
 rw[jU.Nh (by omega)]at D;have room:∀y,cw ((re w.bd).length+(aD (aP [Ck.s,Ck.i ao,Ck.i ao,Ck.s] 1) 0 y).length) 48=true:=λy=>by rw[dc,fU.nb];exact Lib.ch (by omega) (by omega)
 have sn:=ub w.bd (kG (el q.fe n));unfold kG at sn C D;dsimp only at sn;have alL:cw ((aP [Ck.s,Ck.i ao,Ck.i ao,Ck.s] 0).length+(re w.bd).length) 48=true:=by rw[dc];exact Lib.ch (by show(0+w.bd.length)*48<=_;omega) (by show 0+w.bd.length<=_;omega)
 simp only[fU.lt_eq,fU.avN,alL,dM,Lib.dm,Hc,aN,Lib.cE,aM,au,Lib.dX,Dp Hc,DB Hc,QM Hc,QN Hc,bw,bF,C.1,C.2,D.1,D.2,room,sn,show kG (el q.fe n)=⟨(el q.fe n).k,(el q.fe n).st,(el q.fe n).li,(el q.fe n).t⟩from rfl];rfl
end DS

namespace DT
open Lib (rr rs re rf rc Px el)
open gq (s6 Cd told iT n7 iR yw)
theorem ok(p:Px)(f:aw)(hp:p.Fit 1048576):c p.now (re p.en) (rs p.w) (rs p.m) (rr p.s) p.a (rf p.fe) (rc p.cl) p.hits f=ai/\v p.now (re p.en) (rs p.w) (rs p.m) (rr p.s) p.a (rf p.fe) (rc p.cl) p.hits f=(p.now,re p.en,rs p.w,rs p.m,rr p.s,p.a,rf (Cd p f).1.fe,rc (Cd p f).1.cl,p.hits,(Cd p f).2):=by
 have h1:=fP.ok p hp;have h2:=vh.ok p f hp;have hf:=hp.fe;have hc:=hp.cl;refine out _ _ _ _ _ _ _ _ _ _ ?_;unfold vo b Cd;simp only[Lib.lt,h1.1,h1.2,h2.1,h2.2,au];cases ho:s6 p f with
 |false=>rfl
 |true=>
  obtain⟨n,rfl,hn,_,_⟩:=iT ho;have e1:=yw p.fe n 2 [CV.i ao 3] {el p.fe n with sta:=3} hn rfl;have Hc:n<(p.fe.set n {el p.fe n with sta:=3}).length:=by rw[cD];exact hn
  have h3:=sL.ok {p with fe:=p.fe.set n {el p.fe n with sta:=3}} n 3 Hc (by rw[cD];omega) (by dsimp only;omega);dsimp only at h3;rw[iR hn]at h3;simp only[a_,ax,au,Lib.cE,Lib.dm,dM,hn,aN,aM,Lib.dX,e1,h3.1,h3.2];rfl
end DT

namespace wX
open Lib (rd Fi En el wd0 wd1 wd2)
open dI (sQ)
open jU (dk es)
open gT (tx base)
theorem one(f:Fi)(left:aR)(h:sQ [f]=ai)(hk:f.kp=(f.t.size:aw)):c (rd [f]) left=ai/\v (rd [f]) left=(rd [f],ai):=by
 have h1:=gD.ok (rd [f]) (by rw[eB];simp);refine out _ _ ?_;unfold vo b;rw[h1.1,au,h1.2,show gD.val (rd [f])=ai from h,a_,ax];have h0:0<[f].length:=by simp
 have c0:ar (rd [f]) 0 0=CV.s f.n:=wd0 (l:=[f]) h0;have c1:ar (rd [f]) 0 1=CV.s f.t:=wd1 (l:=[f]) h0;have c2:ar (rd [f]) 0 (1+1)=CV.i ao f.kp:=wd2 (l:=[f]) h0;have ib:g8 0 (f.t.size:aw) (f.t.size:aw)=true:=by simp[g8]
 have ex:bO f.t 0 (aW (f.t.size:aw))=f.t:=Lib.G0 f.t;have w1:bJ (0+1)=1:=rfl;have L:(rd [f]).length=1:=rfl;have step:∀(N m:aF),l5 Lib.cU (λ_ _ _=>ah (([]:aR),ai)) (λ_ _ _ wA=>ah (wA,ai)) (m+1) left 0 (rd [f])=l5a Lib.cU (λ_ _ _=>ah (([]:aR),ai)) (λ_ _ _ wA=>ah (wA,ai)) m left 1 (rd [f]) (rd [f]):=by
  intro N m;have t0:aW 0=0:=rfl;simp only[l5,r5,L,t0];generalize bF (ar left 0 0)=z;simp only[c0,c1,c2,bw,bF,hk,ib,ex,w1];rw[show decide ((0:aw)<((1:aF):aw))=ai from rfl,au,show(decide ((0:aw)<=0)&&ai)=ai from rfl,au];have fin:([]++aD (aP [Ck.s,Ck.s,Ck.i ao] 1) 0 [CV.s f.n,CV.s f.t,CV.i ao (f.t.size:aw)]:aR)=rd [f]:=by
   unfold Lib.rd;rw[gC];show [[CV.s f.n,CV.s f.t,CV.i ao (f.t.size:aw)]]=[Fi.row f]
   unfold Fi.row;rw[hk]
  simp only[fin];by_cases hl:(0:aw)<(left.length:aw)
  ·simp only[aE hl,au,show decide ((0:aw)<=0)=ai from rfl,aM];by_cases a:z>(f.t.size:aw)
   ·simp only[aE a,au,aK (show¬(f.t.size:aw)<(f.t.size:aw)by omega),ax]
   ·by_cases b:z<(f.t.size:aw)
    ·simp only[aK a,ax,aE b,au]
    ·have e:z=(f.t.size:aw):=by omega
     simp only[aK a,ax,aK b,e,ib,ex,fin,au,show decide ((f.t.size:aw)<(f.t.size:aw))=ak from aK (by omega),show decide ((f.t.size:aw)>(f.t.size:aw))=ak from aK (by omega)]
  ·simp only[aK hl,ax,au,aK (show¬(f.t.size:aw)<(f.t.size:aw)by omega)];try rw[aK (show¬(0:aw)>(f.t.size:aw)by omega),ax]
   by_cases b:(0:aw)<(f.t.size:aw)
   ·rw[aE b,au]
   ·rw[aK b,ax];have e:(f.t.size:aw)=0:=by omega
    rw[e]at ex fin;rw[show(0:aw).toNat=0 from rfl]at ex;rw[ex,fin]
 have last:∀(m:aF),l5a Lib.cU (λ_ _ _=>ah (([]:aR),ai)) (λ_ _ _ wA=>ah (wA,ai)) (m+1) left 1 (rd [f]) (rd [f])=ah (rd [f],ai):=by intro m;simp only[l5a,r5a,L,show decide ((1:aw)<((1:aF):aw))=ak from rfl,ax]
 obtain⟨n,hn⟩:∃n,Lib.cU=n+2:=⟨Lib.cU-2,by have:=cG (n:=2) (by omega);omega⟩
 have key:∀N,N=n+2->l5 Lib.cU (λ_ _ _=>ah (([]:aR),ai)) (λ_ _ _ wA=>ah (wA,ai)) N left 0 (rd [f])=ah (rd [f],ai):=by rintro N rfl;rw[step Lib.cU (n+1),last n]
 exact key _ hn
theorem ok{o:aC (az En)}(h:(tx (es o)).size<=20000)(left:aR):c (rd (dk o)) left=ai/\v (rd (dk o)) left=(rd (dk o),ai):=by
 cases o with
 |some l=>exact one _ left (jU.EW h) rfl
 |none=>
  have hd:sQ []=true:=jU.EW (o:=aj) h;have h1:=gD.ok (rd []) (by rw[eB];simp);refine out _ _ ?_;unfold vo b;show(bif gD.c (rd [])then bif !gD.v (rd [])then _ else l5 Lib.cU _ _ Lib.cU left 0 (rd [])else aj)=_;rw[h1.1,au,h1.2,show gD.val (rd [])=ai from hd,a_,ax];obtain⟨n,hn⟩:∃n,Lib.cU=n+1:=⟨Lib.cU-1,by have:=cG (n:=1) (by omega);omega⟩
  have key:∀N,N=n+1->l5 Lib.cU (λ_ _ _=>ah (([]:aR),ai)) (λ_ _ _ wA=>ah (wA,ai)) N left 0 (rd [])=ah (rd [],ai):=by rintro N rfl;rfl
  exact key _ hn
end wX

namespace Ae
open Lib (rr rs re rf rc Px En el oE qz qA qB)
open dZ (qc mP one rS yp zD p0)
theorem ok(now:aw)(l:az En)(hl:l.length<=1048576):
  c now (re l)=ai/\v now (re l)=(now,re (qc now l).en,rs (qc now l).w,rs (qc now l).m,rr (qc now l).s,(qc now l).a,[],[],0):=by
 refine out _ _ ?_;unfold vo b;have key:=mg l.length (λn (i:aF) (p:Px)=>l4 Lib.cU (λ(_:aw) (_:aR) (_ _ _ _ Kk V7 WN:aw) (QP QQ H8 QR QS QT:aR)=>ah (Kk,QP,QQ,H8,QR,V7,QS,QT,WN)) n now (re l) (i:aw) 0 0 0 now p.a 0 (re p.en) (rs p.w) (rs p.m) (rr p.s) [] []) (λi=>qc now (l.take i)) (ah (now,re (qc now l).en,rs (qc now l).w,rs (qc now l).m,rr (qc now l).s,(qc now l).a,[],[],0)) (λn i hi=>by
  have I:=rS now l i (by omega);have hs:=yp now l i hi;generalize qc now (l.take i)=p at I hs;rw[hs];unfold one;have hw:bJ ((i:aw)+1)=((i+1:aF):aw):=Lib.cZ hi (by omega);have H7:vT.v (el l i).k (el l i).st (el l i).li (el l i).bo now=mP (el l i) now:=(vT.eq _ _ _ _ _).symm;cases hf:mP (el l i) now with
  |false=>
   rw[hf]at H7;cases hq:ni.v (el l i).k (el l i).st (el l i).li (el l i).bo with
   |false=>simp only[l4,r4,dc,Lib.dm,hi,aN,Lib.cE,aM,au,Lib.dX,oE hi,qz hi,qA hi,qB hi,bw,bF,hq,ax,hw]
   |true=>simp only[l4,r4,dc,Lib.dm,hi,aN,Lib.cE,aM,au,Lib.dX,oE hi,qz hi,qA hi,qB hi,bw,bF,hq,H7,ax,hw]
  |true=>rw[hf]at H7;have hq:=zD hf;have hk:=(ni.Ef hq).1;have h4:=OV.ok p (el l i) [] [] (I.fit (by omega) (by omega)) I.so I.ks (by omega);rw[I.now,I.hits]at h4;simp only[l4,r4,Lib.lt,dc,Lib.dm,hi,aN,Lib.cE,aM,au,Lib.dX,oE hi,qz hi,qA hi,qB hi,bw,bF,hq,H7,h4.1,h4.2,hw]) (λn=>by
  simp only[l4,r4,dc,Lib.dm,bm,bj,ax,dD]) Lib.cU 0 (bI _) (cG (by omega))
 exact key
end Ae

namespace wT
open Lib (rr rs re rf rc rd Px En el oE qz qA qB)
open gE (Wo Ev tG js)
open jU (dk es)
open hZ (tu)
open fU (ri v8 ub kB)
theorem walk(N:aF)(L:az En)(hL:L.length<=1048576)(hN:L.length<N)(K0 K1:aw->aw->aw->aw->aR->aR->aR->aR->aR->aR->aR->aR->aR->aR->aR->aC R)(now a5 a8:aw)(q1 q2 q3 q4 q6 q7 q9 Ee ZA:aR):
  l7 N K0 K1 N 0 now a5 a8 (re L) (re []) q1 q2 q3 q4 q6 q7 q9 Ee ZA=K0 (L.length:aw) now a5 a8 (re L) (re (L.filter λe=>dZ.mP e now)) q1 q2 q3 q4 q6 q7 q9 Ee ZA:=by
 have hw:∀i,i<L.length->bJ ((i:aw)+1)=((i+1:aF):aw):=λi h=>Lib.cZ h (by omega)
 have key:=Cs L (λe=>dZ.mP e now) (λm (i:aF) acc=>l7 N K0 K1 m (i:aw) now a5 a8 (re L) (re acc) q1 q2 q3 q4 q6 q7 q9 Ee ZA) (λacc=>K0 (L.length:aw) now a5 a8 (re L) (re acc) q1 q2 q3 q4 q6 q7 q9 Ee ZA) []
  (λm i acc hi ha hp=>by rw[<-eN hi]at hp⊢;unfold dZ.mP at hp;rw[vT.eq]at hp;simp only[l7,r7,dc,Lib.dm,hi,aN,Lib.cE,aM,au,Lib.dX,oE hi,qz hi,qA hi,qB hi,bw,bF,hp,hw i hi,fU.nb,fU.ub];rw[Lib.ch (by simp at ha;omega) (by simp at ha;omega),au])
  (λm i acc hi hp=>by rw[<-eN hi]at hp;unfold dZ.mP at hp;rw[vT.eq]at hp;simp only[l7,r7,dc,Lib.dm,hi,aN,Lib.cE,aM,au,Lib.dX,oE hi,qz hi,qA hi,qB hi,bw,bF,hp,hw i hi,ax])
  (λm acc=>by simp only[l7,r7,dc,Lib.dm,bm,bj,ax])
  N hN
 exact key
theorem ok{i:aF}{w:Wo}(h:tu i w)(hi:i<=71)(k id:aw)(t:aq)(n:aw)(left:aR):c w.p.now (re w.p.en) (rs w.p.w) (rs w.p.m) (rr w.p.s) w.p.a (rf w.p.fe) (rc w.p.cl) w.p.hits (rd (dk w.o)) (ri w.cd) (re w.bd) k id t n left=ai/\v w.p.now (re w.p.en) (rs w.p.w) (rs w.p.m) (rr w.p.s) w.p.a (rf w.p.fe) (rc w.p.cl) w.p.hits (rd (dk w.o)) (ri w.cd) (re w.bd) k id t n left=v8 (tG w):=by
 refine out _ _ _ _ _ _ _ _ _ _ _ _ _ _ _ _ _ ?_;have Wy:=h.tx hi;have hlen:=h.len hi;have hdl:=jU.Cj w.o;have A:=wX.ok (o:=w.o) (by omega) left;have B:=(jU.Sx (o:=w.o) (by omega) h.eo).2;have D6:=gT.Hk (es w.o);have hf:=hZ.G7 h.eo;have Pt:=hZ.Cw w;have htf:=hZ.VV _ hf;have C:=jN.ok (rd (dk w.o)) (re (js w)) (by rw[eB];omega) (by rw[dc];omega);rw[jU.aa2 (by omega) hf]at C;have D:=qp.ok (dk w.o) (pT.tv (gT.tx (js w))) (by omega) (by unfold pT.tv;simp) (λx hx=>by
  unfold pT.tv at hx;simp only[cB,gG,or_false]at hx;rcases hx with rfl|rfl|rfl
  ·show(gT.tx (js w)).size<=_;omega
  ·exact bI _
  ·exact bI _)
 rw[jU.Ng (by omega) (by omega)]at D;have E:=Ae.ok w.p.now (js w) (by omega);unfold vo;generalize hN:Lib.cU=N;have jD:(gT.kp (es w.o)).length<N:=by rw[<-hN];exact cG (by omega)
 clear hN;unfold b;rw[A.1,au,A.2,fU.lt_eq];rw[show(rd (dk w.o),ai).2=ai from rfl,au,show(rd (dk w.o),ai).1=rd (dk w.o)from rfl];rw[B.1,au,B.2,fU.lt_eq,show aP [Ck.s,Ck.i ao,Ck.i ao,Ck.s] 0=re []from rfl,walk N (gT.kp (es w.o)) (by omega) jD];have e:((kpp:az En)->kpp=gT.kp (es w.o)->kpp.filter (λe=>dZ.mP e w.p.now)=js w):=λ_ h=>by subst h;rfl
 rw[e _ rfl];simp only[fU.lt_eq,C.1,C.2,D.1,D.2,E.1,E.2,au];have hinv:=dZ.rS w.p.now (js w) (js w).length (cF _);rw[dD]at hinv;unfold v8 tG;dsimp only;rw[hinv.now,hinv.fe,hinv.cl,hinv.hits];rfl
end wT

namespace DN
open Lib (rr rs re rf rc rd Px En el)
open gE (Wo Ev closed tG js iA flag)
open jU (dk es)
open hZ (tu)
open fU (ri v8 ub kB)
theorem fl(b:aX):AY.v b=flag b:=by cases b<;>rfl
theorem left(l:az Lib.Cl)(id:aw):decide ((((l.filter λc=> !decide (c.id=id)).length:aF):aw)<(l.length:aw))=im.lC l id:=by
 unfold im.lC;cases h:l.any λx=>decide (x.id=id)with
 |true=>
  obtain⟨x,hx,hp⟩:=F2.1 h;have:(l.filter λc=> !decide (c.id=id)).length<l.length:=by rw[List.length_filter_lt_length_iff_exists];exact⟨x,hx,by simpa using hp⟩
  exact aE (by omega)
 |false=>
  rw[List.any_eq_false]at h;have:l.filter (λc=> !decide (c.id=id))=l:=eK.2 λx hx=>by have:=h x hx;simpa using this
  rw[this];exact aK (by omega)
theorem ok{i:aF}{w:Wo}{e:Ev}(h:tu i w)(hi:i<=71)(he:iA e=ai):c w.p.now (re w.p.en) (rs w.p.w) (rs w.p.m) (rr w.p.s) w.p.a (rf w.p.fe) (rc w.p.cl) w.p.hits (rd (dk w.o)) (ri w.cd) (re w.bd) e.k e.id e.t e.n e.l=ai/\v w.p.now (re w.p.en) (rs w.p.w) (rs w.p.m) (rr w.p.s) w.p.a (rf w.p.fe) (rc w.p.cl) w.p.hits (rd (dk w.o)) (ri w.cd) (re w.bd) e.k e.id e.t e.n e.l=((gE.act w e).2,v8 (gE.act w e).1):=by
 unfold iA at he;simp only[aL,bf]at he;obtain⟨hk,Jf,ht,hn,hl⟩:=he;have hp:=kB h.px;refine out _ _ _ _ _ _ _ _ _ _ _ _ _ _ _ _ _ ?_;unfold vo b gE.act;by_cases k1:e.k=1
 ·rw[aE k1,au];have A:=wS.ok w.p e.id e.t hp (by omega);rw[A.1,au,A.2,fU.lt_eq];try rfl
 rw[aK k1,ax,ax];by_cases k2:e.k=2
 ·rw[aE k2,au];have A:=DR.ok w.p e.id e.t hp;rw[A.1,au,A.2,fU.lt_eq,fl];unfold v8 gq.C3;cases gq.s6 w.p e.id&&(decide (1<=e.t.size/\e.t.size<=40)&&decide ((el w.p.fe e.id.toNat).t.size+e.t.size<=400))<;>rfl
 rw[aK k2,ax,ax];by_cases k3:e.k=3
 ·rw[aE k3,au];have A:=DS.ok h hi e.k e.id e.t e.n e.l hn;rw[k3]at A;rw[k3,A.1,au,A.2,fU.lt_eq];try rfl
 rw[aK k3,ax,ax];by_cases k4:e.k=4
 ·rw[aE k4,au];have A:=DT.ok w.p e.id hp;rw[A.1,au,A.2,fU.lt_eq,fl];unfold v8 gq.Cd;cases gq.s6 w.p e.id<;>rfl
 rw[aK k4,ax,ax];by_cases k5:e.k=5
 ·rw[aE k5,au];have A:=qK.ok w.p e.n hp;rw[A.1,au,A.2,fU.lt_eq];try rfl
 rw[aK k5,ax,ax];by_cases k6:e.k=6
 ·rw[aE k6,au];have A:=tl.ok w.p e.id hp;rw[A.1,au,A.2,fU.lt_eq,fl];dsimp only;rw[fc,fc,show(tl.val w.p e.id).cl=w.p.cl.filter (λc=> !decide (c.id=e.id))from rfl,left];try rfl
 rw[aK k6,ax,ax];have k7:e.k=7:=by omega
 rw[aE k7,au];have A:=wT.ok h hi e.k e.id e.t e.n e.l;rw[k7]at A;rw[k7,A.1,au,A.2,fU.lt_eq];try rfl
end DN

namespace Ka
open Lib (rr rs re rf rc rd Px En el)
open gE (Wo Ev closed tG js iA flag)
open jU (dk es)
open hZ (tu)
open fU (ri v8 ub kB)
theorem Sb(w:Wo)(e:Ev):(gE.act w e).1.cd=w.cd:=by
 unfold gE.act closed;cases decide (e.k=1)<;>cases decide (e.k=2)<;>cases decide (e.k=3)<;>cases decide (e.k=4)<;>cases decide (e.k=5)<;>cases decide (e.k=6)<;>(try rfl)
 all_goals
  dsimp only[au,ax]
  cases (s7.cls w.p e.id (e.n%1000000)).2&&decide (e.n%1000000>0)<;>rfl
theorem ok{i:aF}{w:Wo}{e:Ev}(h:tu i w)(hi:i<=71)(he:iA e=ai):c w.p.now (re w.p.en) (rs w.p.w) (rs w.p.m) (rr w.p.s) w.p.a (rf w.p.fe) (rc w.p.cl) w.p.hits (rd (dk w.o)) (ri w.cd) (re w.bd) e.k e.id e.t e.n e.l=ai/\v w.p.now (re w.p.en) (rs w.p.w) (rs w.p.m) (rr w.p.s) w.p.a (rf w.p.fe) (rc w.p.cl) w.p.hits (rd (dk w.o)) (ri w.cd) (re w.bd) e.k e.id e.t e.n e.l=v8 (gE.step w e):=by
 refine out _ _ _ _ _ _ _ _ _ _ _ _ _ _ _ _ _ ?_;have A:=DN.ok h hi he;have hcd:=h.cd;unfold vo b;rw[A.1,au,A.2,fU.lt_eq];have e1:(v8 (gE.act w e).1).2.2.2.2.2.2.2.2.2.2.1=ri w.cd:=by unfold v8;rw[Sb]
 have r1:cw ((aP [Ck.i ao] 0).length+(ri w.cd).length) 8=true:=by rw[fU.gW];exact Lib.ch (by show(0+w.cd.length)*8<=_;omega) (by show 0+w.cd.length<=_;omega)
 have r2:cw ((ri w.cd).length+(aD (aP [Ck.i ao] 1) 0 [CV.i ao (gE.act w e).2]).length) 8=true:=by rw[fU.gW,fU.nb];exact Lib.ch (by omega) (by omega)
 show(bif cw ((aP [Ck.i ao] 0).length+((v8 (gE.act w e).1).2.2.2.2.2.2.2.2.2.2.1).length) 8 then _ else aj)=_;simp only[e1,fU.avO,r1,r2,au,fU.acO];rfl
end Ka

namespace qg
open Lib (rr rs re rf rc rd Px En el)
open gE (Wo Ev iA)
open jU (dk es)
open hZ (tu)
open fU (ri v8)
open qf (rv run)
open dt (I)
open A_Post (jk)
theorem ids{p:Px}(h:rj.g7 p):∀j,j<(rc p.cl).length->0<=bF (ar (rc p.cl) j 0)/\bF (ar (rc p.cl) j 0)<=30:=by
 intro j hj;have CB:j<p.cl.length:=by rw[fc]at hj;exact hj
 have:=h.cl _ (kA CB);unfold rj.IC at this;simp only[aL,bf]at this;rw[show ar (rc p.cl) j 0=CV.i ao (el p.cl j).id from fV _ p.cl j 0 CB];show 0<=(el p.cl j).id/\(el p.cl j).id<=30;omega
theorem next{α:Type}{i:aF}{w:Wo}{q:aR}{a s:aw}{X:aw×aw×aq×aw×aR×aR×aw×aw×aR×aR×aR×aR×aR×aR×aR×aR×aR->aC α}{P:α->Prop}(h:tu i w)(hI:I q a)
  (hx:∀k id t n a' s',I q a'->iA ⟨k,id,t,n,[]⟩=ai->k<=6->jk (X (k,id,t,n,[],q,a',s',re w.p.en,rs w.p.w,rs w.p.m,rr w.p.s,rf w.p.fe,rc w.p.cl,rd (dk w.o),ri w.cd,re w.bd)) P):
  jk (bif KF.c q a s w.p.now (re w.p.en) (rs w.p.w) (rs w.p.m) (rr w.p.s) w.p.a (rf w.p.fe) (rc w.p.cl) w.p.hits (rd (dk w.o)) (ri w.cd) (re w.bd)then Lib.lt (KF.v q a s w.p.now (re w.p.en) (rs w.p.w) (rs w.p.m) (rr w.p.s) w.p.a (rf w.p.fe) (rc w.p.cl) w.p.hits (rd (dk w.o)) (ri w.cd) (re w.bd)) X else aj) P:=by obtain⟨x,e,k,id,t,n,a',s',rfl,h1,h2,h3⟩:=KF.body q a s w.p.now (re w.p.en) (rs w.p.w) (rs w.p.m) (rr w.p.s) w.p.a (rf w.p.fe) (rc w.p.cl) w.p.hits (rd (dk w.o)) (ri w.cd) (re w.bd) hI (by rw[dM];exact h.px.fl) (ids h.px);obtain⟨c1,v1⟩:=KF.out _ _ _ _ _ _ _ _ _ _ _ _ _ _ _ e;exact A_Post.call c1 v1 (hx k id t n a' s' h1 h2 h3)
theorem step{α:Type}{i:aF}{w:Wo}{X:aw×aR×aR×aR×aR×aw×aR×aR×aw×aR×aR×aR->aC α}{P:α->Prop}(e:Ev)(h:tu i w)(hi:i<=71)(he:iA e=ai)(hx:jk (X (v8 (gE.step w e))) P):
  jk (bif Ka.c w.p.now (re w.p.en) (rs w.p.w) (rs w.p.m) (rr w.p.s) w.p.a (rf w.p.fe) (rc w.p.cl) w.p.hits (rd (dk w.o)) (ri w.cd) (re w.bd) e.k e.id e.t e.n e.l then Lib.lt (Ka.v w.p.now (re w.p.en) (rs w.p.w) (rs w.p.m) (rr w.p.s) w.p.a (rf w.p.fe) (rc w.p.cl) w.p.hits (rd (dk w.o)) (ri w.cd) (re w.bd) e.k e.id e.t e.n e.l) X else aj) P:=
 A_Post.call (Ka.ok h hi he).1 (Ka.ok h hi he).2 hx
theorem Da(l:az Ev)(e:Ev):run (l++[e])=gE.step (run l) e:=by unfold run;rw[kW];rfl
theorem HE(l:az Ev)(e:Ev):rv l++aD (aP [Ck.i ao,Ck.i ao,Ck.s,Ck.i ao,Ck.l 3] 1) 0 [CV.i ao e.k,CV.i ao e.id,CV.s e.t,CV.i ao e.n,CV.l 3 e.l]=rv (l++[e]):=by unfold rv;rw[di];rfl
theorem Nm(n:aw):iA ⟨7,0,⟨#[]⟩,0,aD (aP [Ck.i ao] 1) 0 [CV.i ao n]⟩=true:=rfl
theorem B5{l:az Ev}{e:Ev}(h:∀x∈l,iA x=ai)(he:iA e=ai):∀x∈l++[e],iA x=true:=by
 intro x hx;rcases ba.1 hx with h1|h1
 ·exact h x h1
 ·rw[aZ.1 h1];exact he
end qg

namespace KD
theorem ok(q:aR)(hl:q.length<=1048576):∃h,c q=ai/\v q=(q,0,h):=by
 have key:=uJ (λn (s:aF×aw)=>l3 Lib.cU (λ(y3:aR) (y4 _:aw)=>ah (y3,(0:aw),y4)) n q s.2 (s.1:aw)) (λs=>q.length-s.1) (λs=>s.1<=q.length) (λr=>∃h,r=(q,0,h)) (λn s hs=>by
  obtain⟨i,h⟩:=s;dsimp only at hs⊢;by_cases hi:i<q.length
  ·by_cases h4:(i:aw)<4000
   ·right;have mi:bJ ((i:aw)+1)=((i+1:aF):aw):=de (by omega) (by omega)
    have e:∃h',l3 Lib.cU (λ(y3:aR) (y4 _:aw)=>ah (y3,(0:aw),y4)) (n+1) q h (i:aw)=l3 Lib.cU (λ(y3:aR) (y4 _:aw)=>ah (y3,(0:aw),y4)) n q h' ((i+1:aF):aw):=
     ⟨_,by simp only[l3,r3,Lib.dm,hi,h4,aN,Lib.cE,aM,au,Lib.dX,mi];rfl⟩
    obtain⟨h',e⟩:=e;exact⟨(i+1,h'),hi,by dsimp only;omega,e⟩
   ·left;exact⟨_,by simp only[l3,r3,Lib.dm,hi,h4,aN,bj,au,ax];rfl,_,rfl⟩
  ·left;exact⟨_,by simp only[l3,r3,Lib.dm,hi,bj,ax];rfl,_,rfl⟩) Lib.cU (0,bJ (34901+(q.length:aw))) (bI _) (cG (by omega))
 obtain⟨b',hb,h,rfl⟩:=key;obtain⟨e1,e2⟩:=out q (x:=(q,0,h)) hb;exact⟨h,e1,e2⟩
end KD

namespace Qx
open Lib (rr rs re rf rc rd Px En el)
open gE (Wo Ev iA)
open jU (dk es)
open hZ (tu)
open fU (ri v8)
open qf (rv run)
open qg (Da HE B5)
open dt (I)
open A_Post (jk)
theorem rm{l:az Ev}(h:l.length<=70)(y:az CV):cw ((rv l).length+(aD (aP [Ck.i ao,Ck.i ao,Ck.s,Ck.i ao,Ck.l 3] 1) 0 y).length) 64=true:=by rw[qf.ua,fU.nb];exact Lib.ch (by omega) (by omega)
theorem walk{P:R->Prop}(N:aF)(q:aR)(m:aF)(hm:m<=65)(K:aw->aw->aR->aw->aw->aw->aw->aw->aR->aR->aR->aR->aR->aR->aR->aR->aR->aR->aC R)
  (hK:∀(l:az Ev) (a s:aw),l.length=m->(∀x∈l,iA x=ai)->I q a->jk (K (m:aw) (m:aw) q a s (run l).p.now (run l).p.a (run l).p.hits (rv l) (re (run l).p.en) (rs (run l).p.w) (rs (run l).p.m) (rr (run l).p.s) (rf (run l).p.fe) (rc (run l).p.cl) (rd (dk (run l).o)) (ri (run l).cd) (re (run l).bd)) P):
  ∀(d i n:aF) (l:az Ev) (a s:aw),m-i<=d->l.length=i->i<=m->d<n->(∀x∈l,iA x=ai)->I q a->
   jk (l7 N K n (m:aw) (i:aw) q a s (run l).p.now (run l).p.a (run l).p.hits (rv l) (re (run l).p.en) (rs (run l).p.w) (rs (run l).p.m) (rr (run l).p.s) (rf (run l).p.fe) (rc (run l).p.cl) (rd (dk (run l).o)) (ri (run l).cd) (re (run l).bd)) P:=by
 have fin:∀(n:aF) (l:az Ev) (a s:aw),l.length=m->(∀x∈l,iA x=ai)->I q a->jk (l7 N K (n+1) (m:aw) (m:aw) q a s (run l).p.now (run l).p.a (run l).p.hits (rv l) (re (run l).p.en) (rs (run l).p.w) (rs (run l).p.m) (rr (run l).p.s) (rf (run l).p.fe) (rc (run l).p.cl) (rd (dk (run l).o)) (ri (run l).cd) (re (run l).bd)) P:=λn l a s hl he hI=>by rw[show l7 N K (n+1)=r7 N (l7 N K n) K from rfl];unfold r7;exact A_Post.cn (aK (Ks _)) (hK l a s hl he hI)
 intro d;induction d with
 |zero=>
  intro i n l a s h1 h2 h3 h4 h5 h6;obtain⟨n,rfl⟩:∃k,n=k+1:=⟨n-1,by omega⟩
  have:i=m:=by omega
  subst this;exact fin n l a s h2 h5 h6
 |succ d ih=>
  intro i n l a s h1 h2 h3 h4 h5 h6;obtain⟨n,rfl⟩:∃k,n=k+1:=⟨n-1,by omega⟩
  by_cases h:i<m
  ·have mi:bJ ((i:aw)+1)=((i+1:aF):aw):=de (by omega) (by omega);have hW:tu l.length (run l):=qf.LR h5;have go:∀(e:Ev) (a s:aw),iA e=ai->I q a->jk (l7 N K n (m:aw) (bJ ((i:aw)+1)) q a s (gE.step (run l) e).p.now (gE.step (run l) e).p.a (gE.step (run l) e).p.hits (rv l++aD (aP [Ck.i ao,Ck.i ao,Ck.s,Ck.i ao,Ck.l 3] 1) 0 [CV.i ao e.k,CV.i ao e.id,CV.s e.t,CV.i ao e.n,CV.l 3 e.l]) (re (gE.step (run l) e).p.en) (rs (gE.step (run l) e).p.w) (rs (gE.step (run l) e).p.m) (rr (gE.step (run l) e).p.s) (rf (gE.step (run l) e).p.fe) (rc (gE.step (run l) e).p.cl) (rd (dk (gE.step (run l) e).o)) (ri (gE.step (run l) e).cd) (re (gE.step (run l) e).bd)) P:=λe a s he hI=>by have:=ih (i+1) n (l++[e]) a s (by omega) (by rw[bP,h2];rfl) h (by omega) (B5 h5 he) hI;rw[Da,<-HE]at this;rw[mi];exact this
   rw[show l7 N K (n+1)=r7 N (l7 N K n) K from rfl];unfold r7;refine A_Post.ck (aE (by omega)) ?_;refine qg.next hW h6 (λk id t n0 a1 s1 I1 he hk=> ?_);refine A_Post.once I1 (λx a2 s2 I2=> ?_);cases x with
   |true=>refine A_Post.ck rfl ?_;refine A_Post.below I2 (λn1 a3 s3 I3 _ _=> ?_);refine qg.step ⟨7,0,⟨#[]⟩,0,aD (aP [Ck.i ao] 1) 0 [CV.i ao n1]⟩ hW (by omega) (qg.Nm n1) ?_;refine A_Post.ck (rm (by omega) _) ?_;exact go ⟨7,0,⟨#[]⟩,0,aD (aP [Ck.i ao] 1) 0 [CV.i ao n1]⟩ a3 s3 (qg.Nm n1) I3
   |false=>refine A_Post.cn rfl ?_;refine qg.step ⟨k,id,t,n0,[]⟩ hW (by omega) he ?_;refine A_Post.ck (rm (by omega) _) ?_;exact go ⟨k,id,t,n0,[]⟩ a2 s2 he I2
  ·have:i=m:=by omega
   subst this;exact fin n l a s h2 h5 h6
theorem ok(q:aR)(a s:aw)(code:aR)(hI:I q a)(hc:code.length<=1048576):∃(l:az Ev) (a' s':aw),c q a s code=ai/\v q a s code=(rv l,q,a',s')/\l.length<=65/\(∀e∈l,iA e=ai):=by
 have key:∃m:aF,m<=65/\(decide (bJ (20+bJ (cQ (code.length:aw) 6))>65)=ai/\m=65\/decide (bJ (20+bJ (cQ (code.length:aw) 6))>65)=ak/\bJ (20+bJ (cQ (code.length:aw) 6))=(m:aw)):=by
  have h0:0<=cQ (code.length:aw) 6/\cQ (code.length:aw) 6<=1048576:=by rw[ie (by omega)];omega
  generalize cQ (code.length:aw) 6=z at*
  rw[de (x:=z) (by omega) (by omega),de (x:=20+z) (by omega) (by omega)];by_cases h:20+z>65
  ·exact⟨65,by omega, .inl ⟨aE h,rfl⟩⟩
  ·exact⟨(20+z).toNat,by omega, .inr ⟨aK h,by omega⟩⟩
 have main:jk (vo q a s code) (λx=>∃(l:az Ev) (a' s':aw),x=(rv l,q,a',s')/\l.length<=65/\(∀e∈l,iA e=ai)):=by
  obtain⟨m,hm,hk⟩:=key;unfold vo;generalize hN:Lib.cU=N;have hN1:65<N:=by rw[<-hN];exact cG (by omega)
  clear hN;unfold b;rcases hk with ⟨h1,h2⟩|⟨h1,h2⟩
  ·subst h2;refine A_Post.ck h1 ?_;exact walk N q 65 (by omega) _ (λl a1 s1 hl he hI1=>A_Post.ret ⟨l,a1,s1,rfl,by omega,he⟩) 65 0 N [] a s (by omega) rfl (by omega) hN1 (λe h=>by cases h) hI
  ·refine A_Post.cn h1 ?_;rw[h2];exact walk N q m hm _ (λl a1 s1 hl he hI1=>A_Post.ret ⟨l,a1,s1,rfl,by omega,he⟩) m 0 N [] a s (by omega) rfl (by omega) (by omega) (λe h=>by cases h) hI
 obtain⟨x,hx,l,a',s',rfl,h1,h2⟩:=main;obtain⟨c1,v1⟩:=out _ _ _ _ hx;exact⟨l,a',s',c1,v1,h1,h2⟩
end Qx

namespace U9
open gE (Ev iA)
open qf (rv)
theorem ok(code:aR)(hc:code.length<=1048576):∃l:az Ev,c code=ai/\v code=rv l/\l.length<=65/\(∀e∈l,iA e=ai):=by obtain⟨h,c0,v0⟩:=KD.ok code hc;obtain⟨l,a',s',c1,v1,h1,h2⟩:=Qx.ok code 0 h code ⟨by omega,by omega,hc⟩ hc;obtain⟨c2,v2⟩:=out code (x:=rv l) (by unfold vo b;simp only[c0,v0,au,fU.lt_eq,c1,v1]);exact⟨l,c2,v2,h1,h2⟩
end U9

namespace M0
theorem ok(q:aR)(hl:q.length<=1048576):∃p,c q=ai/\v q=p/\p.length=12/\∀i,i<12->0<=bF (ar p i 0)/\bF (ar p i 0)<10000:=by
 obtain⟨h,c1,v1⟩:=KD.ok q hl;obtain⟨n0,a0,s0,c0,v0,I0,g0,u0⟩:=dt.ok q 0 h ⟨by omega,by omega,hl⟩;have key:=uJ (λn (z:aF×aw×aw×aR)=>l5 Lib.cU (λ(_:aw) (_:aR) (_ _:aw) (y9:aR)=>ah y9) n (z.1:aw) q z.2.1 z.2.2.1 z.2.2.2) (λz=>12-z.1) (λz=>z.1<=12/\dt.I q z.2.1/\z.2.2.2.length=z.1/\∀i,i<z.1->0<=bF (ar z.2.2.2 i 0)/\bF (ar z.2.2.2 i 0)<10000) (λp=>p.length=12/\∀i,i<12->0<=bF (ar p i 0)/\bF (ar p i 0)<10000) (λn z hz=>by
  obtain⟨i,a,s,p⟩:=z;obtain⟨h1,h2,h3,h4⟩:=hz;dsimp only at h1 h2 h3 h4⊢;by_cases hi:(i:aw)<12
  ·right;have mi:bJ ((i:aw)+1)=((i+1:aF):aw):=de (by omega) (by omega);obtain⟨n1,a1,s1,c1,v1,I1,g1,u1⟩:=nE.ok q a s 10000 h2;have u1':=u1 (by omega);refine⟨(i+1,a1,s1,p++[[CV.i ao n1]]),⟨by dsimp only;omega,I1,by simp[h3],λj hj=> ?_⟩,by dsimp only;omega, ?_⟩
   ·dsimp only at hj⊢;by_cases Ld:j<i
    ·have:=h4 j Ld;rw[show ar (p++[[CV.i ao n1]]) j 0=ar p j 0 from by unfold ar;congr 1;rw[cS,cS,dH (by omega)]];exact this
    ·have CB:j=p.length:=by omega
     rw[show ar (p++[[CV.i ao n1]]) j 0=CV.i ao n1 from by rw[v_ p [CV.i ao n1] [] j 0 CB.symm];rfl];exact⟨g1,u1'⟩
   ·simp only[Lib.lt,l5,r5,c1,v1,mi,aE hi,au,Lib.iM,bA,Lib.ch (n:=p.length+1) (b:=8) (by omega) (by omega)]
  ·left;have:i=12:=by omega
   subst this;exact⟨p,by simp only[l5,r5,aK hi,ax],h3,h4⟩) Lib.cU (0,a0,s0,[]) ⟨by omega,I0,rfl,λi hi=>cJ hi (Nat.not_lt_zero i)⟩ (cG (by dsimp only;omega))
 obtain⟨p,hb,h1,h2⟩:=key;obtain⟨e1,e2⟩:=out q (x:=p) (by unfold vo b;simp only[Lib.lt,c1,v1,c0,v0,au];exact hb);exact⟨p,e1,e2,h1,h2⟩
end M0

namespace Bk
def p(s:aR)(k:aq)(a l:aw)(t:aq)(i:aF):aX:=bZ (aA (bw (ar s i 0))) (aA k)&&(decide (bF (ar s i 1)=a)&&(decide (bF (ar s i (1+1))=l)&&(bZ (aA (bw (ar s i (1+1+1)))) (aA t)&&ai)))
def val(s:aR)(k:aq)(a l:aw)(t:aq):aX:=decide (Lib.fi (p s k a l t) s.length 0≥0)
theorem ok(s:aR)(k:aq)(a l:aw)(t:aq)(hl:s.length<=4294967296):c s k a l t=ai/\v s k a l t=val s k a l t:=by
 refine out s k a l t ?_;unfold vo b;refine m7 (p s k a l t) s.length (λm (i:aF)=>l2 Lib.cU (λ(_:aR) (y8:aX) (_:aw) (_:aq) (_ _:aw) (_:aq)=>ah y8) (λ(_:aR) (_:aX) (_:aw) (_:aq) (_ _:aw) (_:aq)=>ah ak) m s ak (i:aw) k a l t) (λx=>ah (decide (x≥0))) (λm i hi hp=> ?_) (λm i hi hp=> ?_) (λm=> ?_) Lib.cU (cG (by omega))
 ·unfold p at hp;rw[show decide ((i:aw)≥0)=ai from aE (by omega)];simp only[l2,r2,Lib.dm,Lib.cE,Lib.dX,hi,aN,aM,au];rw[hp,au]
 ·unfold p at hp;simp only[l2,r2,Lib.dm,Lib.cE,Lib.dX,hi,aN,aM,au];rw[hp,ax,Lib.cZ hi (by omega:s.length<=9223372036854775807)]
 ·simp only[l2,r2,Lib.dm,bm,bj,ax];rfl
end Bk

namespace j_
open Lib (Cl Fe el)
def hb(bd:aR)(k:aq)(fr:aw)(mQ:aq)(age:aw)(i:aF):aX:=bZ (aA (bw (ar bd i 0))) (aA k)&&(decide (bF (ar bd i 1)=fr)&&(bZ (aA (bw (ar bd i (1+1+1)))) (aA mQ)&&decide (bF (ar bd i (1+1))>age)))
def has(bd:aR)(k:aq)(fr:aw)(mQ:aq)(age:aw):aX:=decide (Lib.fi (hb bd k fr mQ age) bd.length 0≥0)
def bg(t mQ:aq):aX:=decide (((t.size:aF):aw)≥((mQ.size:aF):aw))&&bZ (aA (bO t (aW 0) (aW (↑(cm mQ):aw)))) (aA mQ)
def wt(f:Fe)(c:Cl):aX:=bZ (aA f.k) (aA c.k)&&(bif decide (c.sta=1)then bZ (aA c.mQ) (aA f.t)&&decide (f.sta=1)else bif decide (c.sta=2)then bZ (aA c.mQ) (aA f.t)&&decide (f.sta=2)else decide (c.sta=3)&&(bg f.t c.mQ&&decide (f.sta=3)))
def gOk(fe:az Fe)(bd:aR)(c:Cl):aX:=bif decide (c.fe=0)then has bd c.k c.fr c.mQ c.age&&decide (c.sta=2)else wt (el fe (c.fe-1).toNat) c
def Pn(fe:az Fe)(cl:az Cl)(bd:aR):aX:=(b9 cl.length).all λi=>gOk fe bd (el cl i)
end j_

namespace Ik
def q(a s:aR)(i:aF):aX:=Bk.val s (bw (ar a i 0)) (bF (ar a i 1)) (bF (ar a i (1+1))) (bw (ar a i (1+1+1)))
def val(a s:aR):aX:=bif(b9 a.length).all (q a s)then ai else ak
theorem ok(i0:aw)(p1 p2 p3 p4:aR)(i5:aw)(p6 p7:aR)(i8:aw)(p9 p10 p11:aR)(hl:p1.length<=4294967296)(Fa:p11.length<=4294967296):c i0 p1 p2 p3 p4 i5 p6 p7 i8 p9 p10 p11=ai/\v i0 p1 p2 p3 p4 i5 p6 p7 i8 p9 p10 p11=val p1 p11:=by
 refine out _ _ _ _ _ _ _ _ _ _ _ _ ?_;unfold vo b;have hw:∀i,i<p1.length->bJ ((i:aw)+1)=((i+1:aF):aw):=λi h=>Lib.cZ h (by omega);have ho:=λk a l t=>Bk.ok p11 k a l t Fa
 have key:=iC (q p1 p11) p1.length (λm (i:aF)=>l2 Lib.cU (λ(OE:aX) (_ _:aw) (_ _ _ _:aR) (_:aw) (_ _:aR) (_:aw) (_ _ _:aR)=>ah OE) (λ(_:aX) (_ _:aw) (_ _ _ _:aR) (_:aw) (_ _:aR) (_:aw) (_ _ _:aR)=>ah ai) m ak (i:aw) i0 p1 p2 p3 p4 i5 p6 p7 i8 p9 p10 p11) (ah ak) (ah ai)
  (λm i hi hp=>by unfold q at hp;simp only[l2,r2,Lib.dm,hi,aN,Lib.cE,aM,au,Lib.dX,(ho _ _ _ _).1,(ho _ _ _ _).2,hp,a_,ax,hw i hi])
  (λm i hi hp=>by unfold q at hp;simp only[l2,r2,Lib.dm,hi,aN,Lib.cE,aM,au,Lib.dX,(ho _ _ _ _).1,(ho _ _ _ _).2,hp,bR])
  (λm=>by simp only[l2,r2,Lib.dm,bm,bj,ax]) Lib.cU (cG (by omega))
 refine key.trans ?_;unfold val;cases (b9 p1.length).all (q p1 p11)<;>rfl
end Ik

namespace uj
open Lib (rr rs re rf rc Px)
def qe(a:aR)(now:aw)(kp:aR)(i:aF):aX:=bif vT.v (bw (ar a i 0)) (bF (ar a i 1)) (bF (ar a i (1+1))) (bw (ar a i (1+1+1))) now then Bk.val kp (bw (ar a i 0)) (bF (ar a i 1)) (bF (ar a i (1+1))) (bw (ar a i (1+1+1)))else ai
def sw(p:Px)(kp bd:aR):aX:=(b9 p.en.length).all (qe (re p.en) p.now kp)&&(pj.jd p&&(eg.val (rf p.fe)&&(j_.Pn p.fe p.cl bd&&Ik.val (re p.en) bd)))
theorem cls{p:Px}(h:pj.jd p=ai):∀i,i<p.cl.length->0<=(Lib.el p.cl i).fe/\(Lib.el p.cl i).fe<=p.fe.length:=by intro i hi;have:=(rj.oh.1 h).cl _ (kA hi);unfold rj.IC at this;simp only[aL,bf]at this;exact this.2.2.2.1
end uj

namespace ahJ
open Lib (Px Cl Fe En el re rf rc)
open Em (u5 Gp xL)
open rj (g7)
open gE (Wo)
open jU (es)
open gT (kp)
theorem Tc{l:az En}{e:En}(h:e∈l):Bk.val (re l) e.k e.st e.li e.bo=true:=by
 unfold Bk.val;rw[dc,im.Cr l (λx=>bZ (aA x.k) (aA e.k)&&(decide (x.st=e.st)&&(decide (x.li=e.li)&&(bZ (aA x.bo) (aA e.bo)&&ai)))) (Bk.p (re l) e.k e.st e.li e.bo) (λi hi=> ?_),F2]
 ·exact⟨e,h,by simp[jW]⟩
 ·unfold Bk.p;rw[oE hi,qz hi,qA hi,qB hi,eN hi];rfl
theorem stored{en bd:az En}(h:∀e∈en,e∈bd):Ik.val (re en) (re bd)=true:=by
 unfold Ik.val;have:(b9 (re en).length).all (Ik.q (re en) (re bd))=true:=by
  rw[bu];intro i hi;have sC:i<en.length:=by rw[dc]at hi;exact gV.1 hi
  unfold Ik.q;rw[oE sC,qz sC,qA sC,qB sC];exact Tc (h _ (kA sC))
 rw[this];rfl
theorem one{fe:az Fe}(h:fe.Pairwise λf g=>np.lF g f=ak):eg.val (rf fe)=true:=by
 unfold eg.val;rw[bu];intro i hi;rw[bu];intro j hj;have sC:i<fe.length:=by rw[dM]at hi;exact gV.1 hi
 have CB:j<i:=gV.1 hj;have:=dB.1 h j i (by omega) sC CB;unfold np.lF at this;unfold eg.g eg.op;rw[Dp sC,Qm sC,Dp (by omega:j<fe.length),Qm (by omega:j<fe.length),eN sC,eN (by omega:j<fe.length)];show(!(decide ((fe[i]).sta=1)&&(decide ((fe[j]).sta=1)&&bZ (aA (fe[i]).k) (aA (fe[j]).k))))=ai;rw[Lib.fm,this];rfl
theorem Xj(t:aq):j_.bg t t=true:=by
 unfold j_.bg;rw[aE (Int.le_refl _),bc];have:bO t (aW 0) (aW (t.size:aw))=t:=by rw[dG];show t.extract 0 t.size=t;exact ByteArray.extract_zero_size
 rw[this];exact jW _
theorem mQ{fe:az Fe}{cl:az Cl}{bd:az En}(h:∀c∈cl,Gp fe bd c):j_.Pn fe cl (re bd)=true:=by
 unfold j_.Pn;rw[bu];intro i hi;have sC:=gV.1 hi;have hc:=h _ (kA sC);generalize el cl i=c at hc;unfold j_.gOk;rcases hc with ⟨h1,h2,e,he,h3,h4,h5,h6⟩|⟨n,h1,h2,h3,h4,h5,h6⟩
 ·rw[aE h1,au,aE h2,ju];unfold j_.has;rw[dc,im.Cr bd (λx=>bZ (aA x.k) (aA c.k)&&(decide (x.st=c.fr)&&(bZ (aA x.bo) (aA c.mQ)&&decide (x.li>c.age)))) (j_.hb (re bd) c.k c.fr c.mQ c.age) (λi hi=> ?_),F2]
  ·exact⟨e,he,by simp[h3,h4,h5,h6,jW]⟩
  ·unfold j_.hb;rw[oE hi,qz hi,qA hi,qB hi,eN hi];rfl
 ·rw[aK (show¬c.fe=0 by omega),ax,show(c.fe-1).toNat=n by omega];unfold j_.wt;rw[h3,h4,h5,jW,bc];have:c.sta=1\/c.sta=2\/c.sta=3:=by omega
  rcases this with q|q|q
  ·rw[q];simp[jW]
  ·rw[q];simp[jW]
  ·rw[q];simp[Xj]
theorem amm{w:Wo}(ho:g7 w.p)(h:u5 w):uj.sw w.p (re (kp (es w.o))) (re w.bd)=true:=by
 unfold uj.sw;rw[rj.oh.2 ho,one ho.ap,mQ h.cl,stored h.bd];simp only[ju];rw[bu];intro i hi;have sC:=gV.1 hi;unfold uj.qe;rw[oE sC,qz sC,qA sC,qB sC];show(bif vT.v (el w.p.en i).k (el w.p.en i).st (el w.p.en i).li (el w.p.en i).bo w.p.now then Bk.val (re (kp (es w.o))) (el w.p.en i).k (el w.p.en i).st (el w.p.en i).li (el w.p.en i).bo else ai)=ai;cases hf:vT.v (el w.p.en i).k (el w.p.en i).st (el w.p.en i).li (el w.p.en i).bo w.p.now with
 |false=>rfl
 |true=>refine Tc (h.fr _ (kA sC) ?_);unfold dZ.mP;rw[vT.eq];exact hf
end ahJ

namespace WO
open Lib (rr rs re rf rc rd Px En el)
open gE (Wo Ev iA)
open jU (dk es)
open qf (rv run life Ja W13)
open fU (ri)
open gT (kp)
open Em (u5)
theorem runs{l:az Ev}(hl:l.length<=70)(he:∀e∈l,iA e=ai):life l=W13 (run l) ai/\hZ.tu l.length (run l)/\u5 (run l):=by
 refine⟨?_,qf.LR he,Em.ZI he⟩
 unfold life;rw[qf.Cy.2 ⟨hl,he⟩,au]
theorem sound{l:az Ev}(hl:l.length<=70)(he:∀e∈l,iA e=ai):
  (yL.c (rd (dk (run l).o))=ai/\yL.v (rd (dk (run l).o))=re (kp (es (run l).o)))/\(U61.c (rd (dk (run l).o))=ai/\U61.v (rd (dk (run l).o))=re (kp (es (run l).o)))/\(re (kp (es (run l).o))).length<=1048576/\(re (run l).bd).length<=1048576/\uj.sw (run l).p (re (kp (es (run l).o))) (re (run l).bd)=true:=by obtain⟨_,hW,hS⟩:=runs hl he;have t:=hW.tx (by omega);have f:=jU.Sx (by omega) hW.eo;have h1:=hW.len (by omega);have h2:=gT.Hk (es (run l).o);have h3:=hW.bd;exact⟨f.2,f.1,by rw[dc];omega,by rw[dc];omega,ahJ.amm hW.px hS⟩
end WO

namespace vd
open Lib (rr rs re rf rc Px)
open pj (jd)
theorem ok(p:Px)(f:aw)(hp:p.Fit 1048576):c p.now (re p.en) (rs p.w) (rs p.m) (rr p.s) p.a (rf p.fe) (rc p.cl) p.hits f=ai/\v p.now (re p.en) (rs p.w) (rs p.m) (rr p.s) p.a (rf p.fe) (rc p.cl) p.hits f=(jd p&&decide (0<=f/\f<=(p.fe.length:aw)-1)):=by have h:=OS.ok p hp;have hf:=hp.fe;refine out _ _ _ _ _ _ _ _ _ _ ?_;unfold vo b;rw[h.1,h.2,au,dM,de (x:=(p.fe.length:aw)-1) (by omega) (by omega),show lB.v f 0 ((p.fe.length:aw)-1)=decide (0<=f/\f<=(p.fe.length:aw)-1)from fF.eO _ _ _];cases jd p<;>rfl
end vd

namespace AR
open Lib (rr rs re rf rc Px Cl el)
open uU (ec nY lx)
theorem ok(p:Px)(f:aF)(hf:f<p.fe.length)(hl:p.fe.length<=2097152)(hc:p.cl.length<=2097152):
  c p.now (re p.en) (rs p.w) (rs p.m) (rr p.s) p.a (rf p.fe) (rc p.cl) p.hits (f:aw)=ai/\v p.now (re p.en) (rs p.w) (rs p.m) (rr p.s) p.a (rf p.fe) (rc p.cl) p.hits (f:aw)=(p.now,re p.en,rs p.w,rs p.m,rr p.s,p.a,rf p.fe,rc (nY p.cl f 1 (el p.fe f).t),p.hits):=by
 refine out _ _ _ _ _ _ _ _ _ _ ?_;unfold vo b;rw[fc];have key:=nR Cl.row p.cl (λ_ c=>ec f 1 (el p.fe f).t c) (λn (i:aF) x=>l1 Lib.cU (λ(_ _ _ WM QO DC:aw) (FH El wA Kj Kk V7:aR)=>ah (WM,El,wA,Kj,Kk,QO,V7,FH,DC)) n (f:aw) (p.cl.length:aw) (i:aw) p.now p.a p.hits x (re p.en) (rs p.w) (rs p.m) (rr p.s) (rf p.fe)) (λx=>ah (p.now,re p.en,rs p.w,rs p.m,rr p.s,p.a,rf p.fe,x,p.hits)) (λn i L h h2 hL wc=> ?_) (λn L hL=> ?_) Lib.cU (cG (by omega))
 ·rw[lx]at key;exact key
 ·have e2:ar (L.map Cl.row) i (1+1)=CV.i ao p.cl[i].fe:=by rw[eW _ L i _ h2,wc];rfl
  have e4:ar (L.map Cl.row) i (1+1+1+1)=CV.i ao p.cl[i].sta:=by rw[eW _ L i _ h2,wc];rfl
  have s1:eJ (L.map Cl.row) i 5 [CV.s (el p.fe f).t]=(L.set i {p.cl[i]with mQ:=(el p.fe f).t}).map Cl.row:=kU Cl.row L i 5 _ _ h2 (by rw[wc];rfl);simp only[l1,r1,Lib.dm,h,h2,hf,bU,cD,aN,Lib.cE,aM,au,Lib.dX,e2,e4,bF,s1,pN,dM,DB hf,bw,Lib.cZ h (by omega:p.cl.length<=9223372036854775807),de (x:=(f:aw)+1) (by omega) (by omega)];unfold ec;cases decide (p.cl[i].fe=(f:aw)+1)with
  |false=>rw[lG,ax,ax,<-wc,fA]
  |true=>
   cases hd:decide (p.cl[i].sta=1)with
   |false=>rw[bc,au,ax,ax,<-wc,fA]
   |true=>have e:=cq hd;rw[bc,au,au,au];rw[show({p.cl[i]with sta:=1,mQ:=(el p.fe f).t}:Cl)={p.cl[i]with mQ:=(el p.fe f).t}by rw[<-e]]
 ·simp only[l1,r1,Lib.dm,bm,bj,ax]
end AR

namespace Wp
open Lib (rr rs re rf rc Px el)
open gq (s6 C3 told iT n7 iR yw)
theorem ok(p:Px)(f:aw)(q:aq)(hp:p.Fit 1048576):c p.now (re p.en) (rs p.w) (rs p.m) (rr p.s) p.a (rf p.fe) (rc p.cl) p.hits f q=ai/\v p.now (re p.en) (rs p.w) (rs p.m) (rr p.s) p.a (rf p.fe) (rc p.cl) p.hits f q=(p.now,re p.en,rs p.w,rs p.m,rr p.s,p.a,rf (C3 p f q).1.fe,rc (C3 p f q).1.cl,p.hits,(C3 p f q).2):=by
 have h1:=iP.ok p hp;have h2:=vd.ok p f hp;have hf:=hp.fe;have hc:=hp.cl;refine out _ _ _ _ _ _ _ _ _ _ _ ?_;unfold vo b C3;simp only[Lib.lt,h1.1,h1.2,h2.1,h2.2,au];unfold s6;cases cf:pj.jd p&&decide (0<=f/\f<=(p.fe.length:aw)-1)with
 |false=>rw[<-nS (pj.jd p),cf];rfl
 |true=>
  rw[<-nS (pj.jd p),cf,bc];rw[aL,bf]at cf;obtain⟨n,rfl⟩:∃n:aF,f=(n:aw):=⟨f.toNat,by omega⟩
  have hn:n<p.fe.length:=by omega
  have xM:=gq.Nn cf.1 n hn;unfold np.nN at xM;simp only[aL,bf]at xM;have nq:=QV.put (el p.fe n).sta (el p.fe n).t q xM.2.1 xM.2.2.1;simp only[a_,ax,au,Lib.cE,Lib.dm,dM,hn,aN,aM,Lib.dX,z5 hn,DB hn,bF,bw,nq];cases hs:decide ((el p.fe n).sta=1)&&(decide (1<=q.size/\q.size<=40)&&decide ((el p.fe n).t.size+q.size<=400))with
  |false=>rfl
  |true=>
   have e1:=yw p.fe n 1 [CV.s ((el p.fe n).t++q)] {el p.fe n with t:=(el p.fe n).t++q} hn rfl;have Hc:n<(p.fe.set n {el p.fe n with t:=(el p.fe n).t++q}).length:=by rw[cD];exact hn
   have h3:=AR.ok {p with fe:=p.fe.set n {el p.fe n with t:=(el p.fe n).t++q}} n Hc (by rw[cD];omega) (by dsimp only;omega);dsimp only at h3;rw[iR hn]at h3;simp only[a_,ax,au,e1,h3.1,h3.2];rfl
end Wp

namespace vV
open Lib (rr rs re rf rc Px Cl el)
open uU (ec nY lx)
theorem ok(p:Px)(f:aF)(st:aw)(hf:f<p.fe.length)(hl:p.fe.length<=2097152)(hc:p.cl.length<=2097152):
  c p.now (re p.en) (rs p.w) (rs p.m) (rr p.s) p.a (rf p.fe) (rc p.cl) p.hits (f:aw) st=ai/\v p.now (re p.en) (rs p.w) (rs p.m) (rr p.s) p.a (rf p.fe) (rc p.cl) p.hits (f:aw) st=(p.now,re p.en,rs p.w,rs p.m,rr p.s,p.a,rf p.fe,rc (nY p.cl f st (el p.fe f).t),p.hits):=by
 refine out _ _ _ _ _ _ _ _ _ _ _ ?_;unfold vo b;rw[fc];have key:=nR Cl.row p.cl (λ_ c=>ec f st (el p.fe f).t c) (λn (i:aF) x=>l1 Lib.cU (λ(_ _ _ _ DC FH El:aw) (wA Kj Kk V7 WN QP:aR)=>ah (DC,Kj,Kk,V7,WN,FH,QP,wA,El)) n (f:aw) st (p.cl.length:aw) (i:aw) p.now p.a p.hits x (re p.en) (rs p.w) (rs p.m) (rr p.s) (rf p.fe)) (λx=>ah (p.now,re p.en,rs p.w,rs p.m,rr p.s,p.a,rf p.fe,x,p.hits)) (λn i L h h2 hL wc=> ?_) (λn L hL=> ?_) Lib.cU (cG (by omega))
 ·rw[lx]at key;exact key
 ·have e2:ar (L.map Cl.row) i (1+1)=CV.i ao p.cl[i].fe:=by rw[eW _ L i _ h2,wc];rfl
  have e4:ar (L.map Cl.row) i (1+1+1+1)=CV.i ao p.cl[i].sta:=by rw[eW _ L i _ h2,wc];rfl
  have s1:eJ (L.map Cl.row) i 4 [CV.i ao st]=(L.set i {p.cl[i]with sta:=st}).map Cl.row:=kU Cl.row L i 4 _ _ h2 (by rw[wc];rfl);have h3:i<(L.set i {p.cl[i]with sta:=st}).length:=by simpa using h2
  have s2:eJ ((L.set i {p.cl[i]with sta:=st}).map Cl.row) i 5 [CV.s (el p.fe f).t]=((L.set i {p.cl[i]with sta:=st}).set i {p.cl[i]with sta:=st,mQ:=(el p.fe f).t}).map Cl.row:=kU Cl.row _ i 5 _ _ h3 (by rw[kK];rfl);simp only[l1,r1,Lib.dm,h,h2,hf,bU,cD,aN,Lib.cE,aM,au,Lib.dX,e2,e4,bF,s1,s2,pN,dM,DB hf,bw,Lib.cZ h (by omega:p.cl.length<=9223372036854775807),de (x:=(f:aw)+1) (by omega) (by omega)];unfold ec;cases decide (p.cl[i].fe=(f:aw)+1)with
  |false=>rw[lG,ax,ax,<-wc,fA]
  |true=>
   cases decide (p.cl[i].sta=1)with
   |false=>rw[bc,au,ax,ax,<-wc,fA]
   |true=>rw[bc,au,au,au]
 ·simp only[l1,r1,Lib.dm,bm,bj,ax]
end vV

namespace OU
open Lib (rr rs re rf rc Px En el)
open fY (So fS mC)
open kC (yB)
theorem ok(p:Px)(e:En)(r6 r7:aR)(hp:p.Fit 1048575)(hso:So p.en)(hk:e.k.size<=140737488355328):
  c p.now (re p.en) (rs p.w) (rs p.m) (rr p.s) p.a r6 r7 p.hits e.k e.st e.li e.bo=ai/\v p.now (re p.en) (rs p.w) (rs p.m) (rr p.s) p.a r6 r7 p.hits e.k e.st e.li e.bo=(p.now,re (yB p e).en,rs (yB p e).w,rs (yB p e).m,rr (yB p e).s,(yB p e).a,r6,r7,p.hits):=by have he:=hp.en;have hw:=hp.w;have hm:=hp.m;obtain⟨b1,b2,b3⟩:=e6.Md p.w p.m p.s p.a e.k;have h1:=zw.ok p.w p.m p.s p.a e.k (by omega) (by omega) ⟨dh hp.s.1 (by omega),λq hq=>dh (hp.s.2.1 q hq) (by omega)⟩ hk;refine out _ _ _ _ _ _ _ _ _ _ _ _ _ ?_;unfold vo b yB;generalize e6.val p.w p.m p.s p.a e.k=V at h1 b1 b2 b3;obtain⟨W,M,T,A,G⟩:=V;dsimp only at h1 b1 b2⊢;have h2:=pP.ok (re p.en) G (fY.Sw _) (by rw[dc];omega);rw[fY.GZ]at h2;have h3:=sJ.ok W M (rr T) A e.k (by omega) (by omega);have hd:=fY.xB p.en G;have h4:=u9.ok (re (fS p.en G)) e.k e.st e.li e.bo (fY.CT (hso.drop G)) (by rw[dc];omega);rw[fY.tY]at h4;simp only[Lib.lt,h1.1,h1.2,h2.1,h2.2,h3.1,h3.2,h4.1,h4.2,au];cases fj.has W e.k||fj.has M e.k<;>rfl
end OU

namespace DP
open Lib (rr rs re rf rc Px el)
open gq (s6 told iT n7 iR yw)
open s7 (cls kG)
theorem ok(p:Px)(f life:aw)(hp:p.Fit 1048576):c p.now (re p.en) (rs p.w) (rs p.m) (rr p.s) p.a (rf p.fe) (rc p.cl) p.hits f life=ai/\v p.now (re p.en) (rs p.w) (rs p.m) (rr p.s) p.a (rf p.fe) (rc p.cl) p.hits f life=(p.now,re (cls p f life).1.en,rs (cls p f life).1.w,rs (cls p f life).1.m,rr (cls p f life).1.s,(cls p f life).1.a,rf (cls p f life).1.fe,rc (cls p f life).1.cl,p.hits,(cls p f life).2):=by
 have h1:=iP.ok p hp;have h2:=vd.ok p f hp;have hf:=hp.fe;have hc:=hp.cl;refine out _ _ _ _ _ _ _ _ _ _ _ ?_;unfold vo b cls;simp only[Lib.lt,h1.1,h1.2,h2.1,h2.2,au];unfold s6;cases cf:pj.jd p&&decide (0<=f/\f<=(p.fe.length:aw)-1)with
 |false=>rw[<-nS (pj.jd p),cf];rfl
 |true=>
  rw[<-nS (pj.jd p),cf,bc];rw[aL,bf]at cf;obtain⟨n,rfl⟩:∃n:aF,f=(n:aw):=⟨f.toNat,by omega⟩
  have hn:n<p.fe.length:=by omega
  obtain⟨so,_,_,_,_,_,_,_,_,_,xM⟩:=kC.BF cf.1;have xM:=xM n hn;unfold np.nN at xM;rw[aL]at xM;have A_:=e6.kO xM.1;simp only[a_,ax,au,Lib.cE,Lib.dm,dM,hn,aN,aM,Lib.dX,z5 hn,bF];rw[show((el p.fe n).sta !=1)= !decide ((el p.fe n).sta=1)from rfl,show lB.v life 0 999999=decide (0<=life/\life<=999999)from fF.eO _ _ _];cases hs:decide ((el p.fe n).sta=1)with
  |false=>rfl
  |true=>
   cases hl:decide (0<=life/\life<=999999)with
   |false=>rfl
   |true=>
    have e1:=yw p.fe n 2 [CV.i ao 2] {el p.fe n with sta:=2} hn rfl;have n1:n<(p.fe.set n {el p.fe n with sta:=2}).length:=by rw[cD];exact hn
    have e2:=yw (p.fe.set n {el p.fe n with sta:=2}) n 3 [CV.i ao life] {el p.fe n with sta:=2,li:=life} n1 (by rw[iR hn];rfl);rw[pN]at e2;have n2:n<(p.fe.set n {el p.fe n with sta:=2,li:=life}).length:=by rw[cD];exact hn
    have e3:=yw (p.fe.set n {el p.fe n with sta:=2,li:=life}) n 4 [CV.i ao p.now] {el p.fe n with sta:=2,li:=life,st:=p.now} n2 (by rw[iR hn];rfl);rw[pN]at e3;generalize hg:({el p.fe n with sta:=2,li:=life,st:=p.now}:Lib.Fe)=g at e3;have n3:n<(p.fe.set n g).length:=by rw[cD];exact hn
    have h3:=vV.ok {p with fe:=p.fe.set n g} n 2 n3 (by rw[cD];omega) (by dsimp only;omega);dsimp only at h3;rw[iR hn]at h3;have hk:g.k=(el p.fe n).k:=by rw[<-hg]
    have h4:=OU.ok (told p n g 2) (kG g) (rf (p.fe.set n g)) (rc (told p n g 2).cl) ((n7 (kC.kB cf.1)).le (by omega)) so (by show g.k.size<=_;rw[hk];omega);have z0:bw (ar (rf (p.fe.set n g)) n 0)=g.k:=by rw[Dp n3,iR hn];rfl
    have z1:bw (ar (rf (p.fe.set n g)) n 1)=g.t:=by rw[DB n3,iR hn];rfl
    have gl:g.li=life:=by rw[<-hg]
    have gs:g.st=p.now:=by rw[<-hg]
    unfold kG at h4;dsimp only[told]at h4;rw[gl,gs]at h4;unfold kG told;simp only[a_,ax,au,e1,e2,e3,h3.1,h3.2,z0,z1,gl,gs];cases decide (life>0)with
    |true=>simp only[au,h4.1,h4.2];rfl
    |false=>rfl
end DP

namespace vU
open Lib (rd el Fi)
open dI (ki act ra Ac wa0 wa1 wa2 wa3 sb Bl)
theorem ok(l:az Fi)(a:az Ac)(hl:l.length<=1000)(ha:a.length<=1000000)(ht:∀x∈a,x.t.size<=2305843009213693952):c (rd l) (ra a)=ai/\v (rd l) (ra a)=(rd (ki l 0 a).1,((ki l 0 a).2:aw)):=by
 refine out _ _ ?_;unfold vo b;have h1:=tp.ok (rd l) (by rw[eB];omega);rw[h1.1,h1.2,au,sb]
 have key:∀(d i n:aF) (l:az Fi),a.length-i<=d->i<=a.length->l.length<=1000->d<n->
   l3 Lib.cU (λ(_:aR) (y7:aw) (_:aR) (_ _:aw) (wz:aR)=>ah (wz,y7)) (λ(Mj:aR) (_:aw) (_:aR) (_ _:aw) (DC:aR)=>ah (DC,(↑(bT Mj):aw))) n (ra a) 0 (ra a) (a.length:aw) (i:aw) (rd l)=ah (rd (ki l i (a.drop i)).1,((ki l i (a.drop i)).2:aw)):=by
  intro d
  induction d with
  |zero=>
   intro i n l e1 e2 e3 e4;obtain⟨n,rfl⟩:∃n',n=n'+1:=⟨n-1,by omega⟩
   have:i=a.length:=by omega
   subst this;simp only[l3,r3,Lib.dm,bm,bj,ax,sb,dj,ki]
  |succ d ih=>
   intro i n l e1 e2 e3 e4;obtain⟨n,rfl⟩:∃n',n=n'+1:=⟨n-1,by omega⟩
   by_cases hi:i<a.length
   ·have hd:=rL.ok l (el a i).k (el a i).n (el a i).t (el a i).o e3 (ht _ (kA hi));simp only[l3,r3,Lib.dm,sb,hi,aN,Lib.cE,aM,au,Lib.dX,wa0 hi,wa1 hi,wa2 hi,wa3 hi,bw,bF,hd.1,hd.2,Lib.cZ hi (by omega:a.length<=9223372036854775807)];rw[dE hi,<-eN hi];unfold ki;cases hac:act l (el a i).k (el a i).n (el a i).t (el a i).o with
    |none=>rfl
    |some e=>have:=(Bl hac).2;exact ih (i+1) n e (by omega) hi (by omega) (by omega)
   ·have:i=a.length:=by omega
    subst this;simp only[l3,r3,Lib.dm,bm,bj,ax,sb,dj,ki]
 exact key a.length 0 Lib.cU l (by omega) (bI _) hl (cG (by omega))
end vU

namespace Wq
open Lib (rr rs re rf rc rd Px En el Dp DB QM QN)
open gE (Wo Ev closed)
open jU (dk es)
open hZ (tu)
open fU (ri v8 ub kB)
open s7 (cls kG)
theorem ok{i:aF}{w:Wo}(h:tu i w)(hi:i<=71)(id life:aw)(hl:0<=life/\life<=999999):c w.p.now (re w.p.en) (rs w.p.w) (rs w.p.m) (rr w.p.s) w.p.a (rf w.p.fe) (rc w.p.cl) w.p.hits (rd (dk w.o)) (ri w.cd) (re w.bd) id life=ai/\v w.p.now (re w.p.en) (rs w.p.w) (rs w.p.m) (rr w.p.s) w.p.a (rf w.p.fe) (rc w.p.cl) w.p.hits (rd (dk w.o)) (ri w.cd) (re w.bd) id life=((cls w.p id life).2,v8 (closed w id life).1):=by
 refine out _ _ _ _ _ _ _ _ _ _ _ _ _ _ ?_;have XL:=h.bd;have Wy:=h.tx hi;have hdl:=jU.Cj w.o;have A:=DP.ok w.p id life (kB h.px);obtain⟨q1,q2⟩:=hZ.KO (f:=id) h.px hl;obtain⟨s1,s2⟩:=s7.IJ (p:=w.p) (f:=id) (life:=life);have mM:=kB q1;unfold vo b;rw[A.1,au,A.2,fU.lt_eq];unfold closed v8;dsimp only;rw[<-s1,<-s2];generalize cls w.p id life=Q at q1 q2 s1 s2 mM;obtain⟨q,ok⟩:=Q;dsimp only at q1 q2 s1 s2 mM⊢;rcases q2 with ⟨r1,r2⟩|⟨r1,n,rn,hn,rf_,rs_,rl⟩
 ·subst r1;rfl
 subst r1;rw[a_,ax];by_cases hz:life=0
 ·rw[aE hz,au,bc,aK (show¬life>0 by omega)];rfl
 rw[aK hz,ax,bc,aE (show life>0 by omega),au];obtain⟨t1,t2⟩:=rl (by omega);have Hc:n<q.fe.length:=by rw[rf_,cD];exact hn
 have Nz:el q.fe n={el w.p.fe n with sta:=2,li:=life,st:=w.p.now}:=by rw[rf_,gq.iR hn]
 subst rn;rw[dG];have B:=sJ.ok q.w q.m (rr q.s) q.a (el q.fe n).k mM.w mM.m;have C:=ve.ok (el q.fe n).k (el q.fe n).st (el q.fe n).li (el q.fe n).t;have hE:ni.v (el q.fe n).k (el q.fe n).st (el q.fe n).li (el q.fe n).t=true:=by rw[Nz];exact t1
 have Ao:=hZ.K4 (e:=kG (el q.fe n)) hE;rw[ve.val,bz hE,show ve.ki (fJ.fr (jM.sV (el q.fe n).k (el q.fe n).st (el q.fe n).li (el q.fe n).t))=dI.ra (gT.sE (gT.H5 (kG (el q.fe n))))from rfl]at C;have D:=vU.ok (dk w.o) (gT.sE (gT.H5 (kG (el q.fe n)))) (by omega) (by unfold gT.sE;simp) (λx hx=>by
  unfold gT.sE at hx;simp only[cB,gG,or_false]at hx;rcases hx with rfl|rfl
  ·show(gT.H5 (kG (el q.fe n))).size<=_;omega
  ·exact bI _)
 rw[jU.Nh (by omega)]at D;have hP:(fj.has q.w (el q.fe n).k||fj.has q.m (el q.fe n).k)=true:=by rw[Nz];exact t2
 rw[hP]at B;have room:∀y,cw ((re w.bd).length+(aD (aP [Ck.s,Ck.i ao,Ck.i ao,Ck.s] 1) 0 y).length) 48=true:=λy=>by rw[dc,fU.nb];exact Lib.ch (by omega) (by omega)
 have sn:=ub w.bd (kG (el q.fe n));unfold kG at sn C D;dsimp only at sn;simp only[fU.lt_eq,dM,Lib.dm,Hc,aN,Lib.cE,aM,au,Lib.dX,Dp Hc,DB Hc,QM Hc,QN Hc,bw,bF,B.1,B.2,C.1,C.2,D.1,D.2,room,sn,show kG (el q.fe n)=⟨(el q.fe n).k,(el q.fe n).st,(el q.fe n).li,(el q.fe n).t⟩from rfl]
end Wq

namespace Wr
open Lib (rr rs re rf rc Px el)
open gq (s6 Cd told iT n7 iR yw)
theorem ok(p:Px)(f:aw)(hp:p.Fit 1048576):c p.now (re p.en) (rs p.w) (rs p.m) (rr p.s) p.a (rf p.fe) (rc p.cl) p.hits f=ai/\v p.now (re p.en) (rs p.w) (rs p.m) (rr p.s) p.a (rf p.fe) (rc p.cl) p.hits f=(p.now,re p.en,rs p.w,rs p.m,rr p.s,p.a,rf (Cd p f).1.fe,rc (Cd p f).1.cl,p.hits,(Cd p f).2):=by
 have h1:=iP.ok p hp;have h2:=vd.ok p f hp;have hf:=hp.fe;have hc:=hp.cl;refine out _ _ _ _ _ _ _ _ _ _ ?_;unfold vo b Cd;simp only[Lib.lt,h1.1,h1.2,h2.1,h2.2,au];unfold s6;cases cf:pj.jd p&&decide (0<=f/\f<=(p.fe.length:aw)-1)with
 |false=>rw[<-nS,cf];rfl
 |true=>
  rw[<-nS,cf,bc];rw[aL,bf]at cf;obtain⟨n,rfl⟩:∃n:aF,f=(n:aw):=⟨f.toNat,by omega⟩
  have hn:n<p.fe.length:=by omega
  simp only[a_,ax,au,Lib.cE,Lib.dm,dM,hn,aN,aM,Lib.dX,z5 hn,bF];cases hs:decide ((el p.fe n).sta=1)with
  |false=>rw[show((el p.fe n).sta !=1)= !decide ((el p.fe n).sta=1)from rfl,hs];rfl
  |true=>
   have e1:=yw p.fe n 2 [CV.i ao 3] {el p.fe n with sta:=3} hn rfl;have Hc:n<(p.fe.set n {el p.fe n with sta:=3}).length:=by rw[cD];exact hn
   have h3:=vV.ok {p with fe:=p.fe.set n {el p.fe n with sta:=3}} n 3 Hc (by rw[cD];omega) (by dsimp only;omega);dsimp only at h3;rw[iR hn]at h3;rw[show((el p.fe n).sta !=1)= !decide ((el p.fe n).sta=1)from rfl,hs];simp only[a_,ax,au,e1,h3.1,h3.2];rfl
end Wr

namespace DK
open Lib (rr rs re rf rc Px)
open qK (tm later)
theorem md(n:aw):AU.c n 1000=ai/\AU.v n 1000=n%1000:=by
 refine AU.out _ _ ?_;unfold AU.vo AU.b;have t:=tm n;rw[show(!decide ((1000:aw)=0))=ai from rfl,au,au];congr 1;by_cases hn:cy n 1000<0
 ·have e:=t.2 hn;rw[e,de (x:=n%1000) (by omega) (by omega),ir (by omega)];omega
 ·have e:=t.1 (by omega);rw[e,de (x:=n%1000+1000) (by omega) (by omega),ir (by omega)];omega
theorem ok(p:Px)(n:aw)(hp:p.Fit 1048576):c p.now (re p.en) (rs p.w) (rs p.m) (rr p.s) p.a (rf p.fe) (rc p.cl) p.hits n=ai/\v p.now (re p.en) (rs p.w) (rs p.m) (rr p.s) p.a (rf p.fe) (rc p.cl) p.hits n=((qK.val p n).now,re p.en,rs p.w,rs p.m,rr p.s,p.a,rf p.fe,rc p.cl,p.hits):=by have h:=iP.ok p hp;have hm:=md n;refine out _ _ _ _ _ _ _ _ _ _ ?_;unfold vo b qK.val later;simp only[Lib.lt,h.1,h.2,hm.1,hm.2,au];rw[de (x:=1000000000-n%1000) (by omega) (by omega)];cases decide (p.now>1000000000-n%1000)<;>rfl
end DK

namespace ny
def p(s:aR)(k:aw)(i:aF):aX:=decide (bF (ar s i 0)=k)
theorem ok(d:aR)(n:aw)(hl:d.length<=4294967296):c d n=ai/\v d n=Lib.fi (p d n) d.length 0:=by
 refine out d n ?_;unfold vo b;refine m7 (p d n) d.length (λm (i:aF)=>l2 Lib.cU (λ(_:aR) (_:aw) (y7 _ _:aw)=>ah y7) (λ(_:aR) (_:aw) (_ _ _:aw)=>ah (-1)) m d n 0 (d.length:aw) (i:aw)) ah (λm i hi hp=> ?_) (λm i hi hp=> ?_) (λm=> ?_) Lib.cU (cG (by omega))
 ·unfold p at hp;simp only[l2,r2,Lib.dm,Lib.cE,Lib.dX,hi,aN,aM,au,AW.v,hp]
 ·unfold p at hp;simp only[l2,r2,Lib.dm,Lib.cE,Lib.dX,hi,aN,aM,au,AW.v,hp,ax,Lib.cZ hi (by omega:d.length<=9223372036854775807)]
 ·simp only[l2,r2,Lib.dm,bm,bj,ax]
end ny

namespace wQ
def cn(y:az CV):aX:=match y with|[.i .i64 _, .s _, .i .i64 _, .i .i64 _, .i .i64 _, .s _, .i .i64 _]=>ai|_=>ak
def cr(y:az CV):az CV:=[CV.i ao (bF (y.getD 0 (.b ak))),CV.s (bw (y.getD 1 (.b ak))),CV.i ao (bF (y.getD 2 (.b ak))),CV.i ao (bF (y.getD 3 (.b ak))),CV.i ao (bF (y.getD 4 (.b ak))),CV.s (bw (y.getD 5 (.b ak))),CV.i ao (bF (y.getD 6 (.b ak)))]
theorem tE{y:az CV}(h:cn y=ai):cr y=y:=by
 unfold cn at h;split at h
 ·rfl
 ·cases h
theorem mz{y:az CV}(h:cn y=ai):y.length=7:=by rw[<-tE h];rfl
def keep(d:aw)(y:az CV):aX:= !decide (bF (y.getD 0 (.b ak))=d)
theorem iu(d:aw){s:aR}{i:aF}(h:i<s.length):(s.take (i+1)).filter (keep d)=(s.take i).filter (keep d)++(bif keep d s[i]then [s[i]]else []):=by rw[cu h,gv];cases hk:keep d s[i]<;>simp[hk]
theorem run(N:aF)(s0:aR)(d:aw)(hc:s0.all cn=ai)(hn:s0.length<=9223372036854775807)(K:aw->aw->aw->aR->aC R)(kr:aR->aC R)
  (hK:∀(j:aF) x,x.length=s0.length->j<=s0.length->K d j s0.length x=kr (x.take j)) (m j i:aF) (x:aR)
  (hi:j<i/\i<=s0.length/\x.length=s0.length/\(∀y∈x,y.length=7)/\x.take j=(s0.take i).filter (keep d)/\x.drop i=s0.drop i) (hm:s0.length-i<m):
  l5 N K m d j i x=kr (s0.filter (keep d)):=by
 have K_:∀y∈s0,cn y=true:=bu.1 hc
 refine Lib.g9 (λm (s:aF×aF×aR)=>l5 N K m d s.1 s.2.1 s.2.2) (λs=>s0.length-s.2.1)
  (λs=>s.1<s.2.1/\s.2.1<=s0.length/\s.2.2.length=s0.length/\(∀y∈s.2.2,y.length=7)/\s.2.2.take s.1=(s0.take s.2.1).filter (keep d)/\s.2.2.drop s.2.1=s0.drop s.2.1)
  (λ_=>kr (s0.filter (keep d))) (λm s hs=> ?_) m (j,i,x) hi hm
 obtain⟨j,i,x⟩:=s;obtain⟨h1,h2,h3,h4,h5,h6⟩:=hs;simp only at h1 h2 h3 h4 h5 h6⊢;by_cases gg:i<s0.length
 ·right;have oD:i<x.length:=by omega
  have Hb:j<x.length:=by omega
  have hx:x[i]=s0[i]:=by have e1:=Lib.eL oD;have e2:=Lib.eL gg;rw[h6,e2]at e1;exact(kD e1).1.symm
  have hd:x.drop (i+1)=s0.drop (i+1):=by have e1:=Lib.eL oD;have e2:=Lib.eL gg;rw[h6,e2]at e1;exact(kD e1).2.symm
  have Lb:=K_ _ (bC gg);have hf:=iu d gg;cases hk:keep d s0[i]with
  |true=>
   refine⟨(j+1,i+1,x.set j s0[i]), ?_,by simp only;omega,trivial, ?_⟩
   ·rw[hk,au,<-h5]at hf;refine⟨by simp only;omega,by simp only;omega,by simpa using h3, ?_, ?_, ?_⟩
    ·intro y hy;rcases jL hy with h|h
     ·exact h4 y h
     ·rw[h];exact mz Lb
    ·rw[hf];rw[cu (by simpa using Hb)];simp[wN]
    ·simp only;rw[wM (by omega)];exact hd
   ·have e:AW.v (bF (ar x i 0)) (bw (ar x i 1)) (bF (ar x i (1+1))) (bF (ar x i (1+1+1))) (bF (ar x i (1+1+1+1))) (bw (ar x i (1+1+1+1+1))) (bF (ar x i (1+1+1+1+1+1))) d=false:=by
     have:(!AW.v (bF (ar x i 0)) (bw (ar x i 1)) (bF (ar x i (1+1))) (bF (ar x i (1+1+1))) (bF (ar x i (1+1+1+1))) (bw (ar x i (1+1+1+1+1))) (bF (ar x i (1+1+1+1+1+1))) d)=true:=by rw[Lib.cK oD,hx];exact hk
     simpa using this
    have es:eJ x j 0 [CV.i ao (bF (ar x i 0)),CV.s (bw (ar x i 1)),CV.i ao (bF (ar x i (1+1))),CV.i ao (bF (ar x i (1+1+1))),CV.i ao (bF (ar x i (1+1+1+1))),CV.s (bw (ar x i (1+1+1+1+1))),CV.i ao (bF (ar x i (1+1+1+1+1+1)))]=x.set j s0[i]:=by
     have hl:=h4 _ (bC Hb);rw[Lib.BH Hb,Lib.cK oD,Lib.cK oD,Lib.cK oD,Lib.cK oD,Lib.cK oD,Lib.cK oD,Lib.cK oD,hx];have:iH x[j] 0 (cr s0[i])=s0[i]:=by rw[tE Lb];unfold iH;have:=mz Lb;simp[hl,this,gU]
     unfold cr at this;rw[this]
    have b1:(j:aw)<(x.length:aw):=by omega
    simp only[l5,r5,Lib.dm,Lib.cE,Lib.dX,oD,Hb,aN,bc,au,e,bR,es,Lib.cZ gg hn,Lib.cZ (show j<s0.length by omega) hn]
  |false=>
   refine⟨(j,i+1,x), ?_,by simp only;omega,trivial, ?_⟩
   ·rw[hk,ax,dn,<-h5]at hf;exact⟨by simp only;omega,by simp only;omega,h3,h4,hf.symm,hd⟩
   ·have e:AW.v (bF (ar x i 0)) (bw (ar x i 1)) (bF (ar x i (1+1))) (bF (ar x i (1+1+1))) (bF (ar x i (1+1+1+1))) (bw (ar x i (1+1+1+1+1))) (bF (ar x i (1+1+1+1+1+1))) d=true:=by
     have:(!AW.v (bF (ar x i 0)) (bw (ar x i 1)) (bF (ar x i (1+1))) (bF (ar x i (1+1+1))) (bF (ar x i (1+1+1+1))) (bw (ar x i (1+1+1+1+1))) (bF (ar x i (1+1+1+1+1+1))) d)=false:=by rw[Lib.cK oD,hx];exact hk
     simpa using this
    simp only[l5,r5,Lib.dm,Lib.cE,Lib.dX,oD,aN,bc,au,e,a_,ax,Lib.cZ gg hn]
 ·left;have:i=s0.length:=by omega
  subst this;rw[dD]at h5;have e:=hK j x h3 (by omega);rw[h5]at e;have oD:¬s0.length<x.length:=by omega
  simp only[l5,r5,Lib.dm,oD,bj,ax,e]
theorem ok(s0:aR)(i_:aw)(hc:s0.all cn=ai)(hn:s0.length<=4294967296):c s0 i_=ai/\v s0 i_=s0.filter (keep i_):=by
 refine out s0 i_ ?_;have hv:=ny.ok s0 i_ hn;unfold vo b;rw[hv.1,hv.2,au];rcases Lib.pz (ny.p s0 i_) s0.length 0 with ⟨h,n5⟩|⟨k,_,Ap,hk,Le,K9⟩
 ·rw[h];have:s0.filter (keep i_)=s0:=by rw[eK];intro y hy;obtain⟨i,hi,rfl⟩:=c6 hy;have:=n5 i (bI _) (by omega);unfold ny.p at this;rw[Lib.cK hi]at this;unfold keep;rw[this];rfl
  rw[this];rfl
 ·rw[hk];have D6:k<s0.length:=by omega
  have iB:decide ((k:aw)=Ku 1)=false:=aK (by show¬(k:aw)= -1;omega);rw[iB,ax,Lib.cZ D6 (by omega)];have K_:∀y∈s0,cn y=true:=bu.1 hc;refine run _ s0 i_ hc (by omega) _ ah (λj x hx hj=> ?_) _ k (k+1) s0 ⟨by omega,by omega,rfl,λy hy=>mz (K_ y hy), ?_,rfl⟩ (cG (by omega))
  ·have b1:g8 (j:aw) (s0.length:aw) (s0.length:aw)=true:=by simp[g8];omega
   have e:g_ j x++aP [Ck.i ao,Ck.s,Ck.i ao,Ck.i ao,Ck.i ao,Ck.s,Ck.i ao] (s0.length-j)++nt s0.length x=g_ j x++aP [Ck.i ao,Ck.s,Ck.i ao,Ck.i ao,Ck.i ao,Ck.s,Ck.i ao] (s0.length-j):=by rw[gU (by omega),dn]
   have hl:(g_ j x).length=j:=by simp;omega
   simp only[hx,Lib.dX,b1,au,e];rw[Lib.tz (by simp[g8];omega)];unfold eA;rw[show aW 0=0 from rfl,e_,sr,pb (by omega),jf (by omega)]
  ·rw[iu i_ D6];have e1:keep i_ s0[k]=false:=by unfold ny.p at Le;rw[Lib.cK D6]at Le;unfold keep;rw[Le];rfl
   have e2:(s0.take k).filter (keep i_)=s0.take k:=by
    rw[eK];intro y hy;obtain⟨i,hi,rfl⟩:=c6 hy;have Wx:i<k:=by simp at hi;omega
    have:=K9 i (bI _) Wx;unfold ny.p at this;rw[Lib.cK (by omega)]at this;rw[nC];unfold keep;rw[this];rfl
   rw[e1,e2,ax,dn]
end wQ

namespace DL
open Lib (rr rs re rf rc Px Cl)
theorem aiD(l:az Cl):(rc l).all wQ.cn=true:=by rw[bu];intro y hy;unfold Lib.rc at hy;obtain⟨z,_,rfl⟩:=cW.1 hy;rfl
theorem aeZ(l:az Cl)(id:aw):(rc l).filter (wQ.keep id)=rc (l.filter λc=> !decide (c.id=id)):=by unfold Lib.rc;rw[o_];rfl
theorem ok(p:Px)(id:aw)(hp:p.Fit 1048576):c p.now (re p.en) (rs p.w) (rs p.m) (rr p.s) p.a (rf p.fe) (rc p.cl) p.hits id=ai/\v p.now (re p.en) (rs p.w) (rs p.m) (rr p.s) p.a (rf p.fe) (rc p.cl) p.hits id=(p.now,re p.en,rs p.w,rs p.m,rr p.s,p.a,rf p.fe,rc (tl.val p id).cl,p.hits):=by have h:=iP.ok p hp;have hc:=hp.cl;have h2:=wQ.ok (rc p.cl) id (aiD _) (by rw[fc];omega);rw[aeZ]at h2;exact out _ _ _ _ _ _ _ _ _ _ (by unfold vo b;simp only[Lib.lt,h.1,h.2,h2.1,h2.2,au];rfl)
end DL

namespace AX
theorem ok(d l:aR)(hd:d.length<=1048576)(hl:l.length<=1048576):c d l=ai/\v d l=jN.val d l:=by
 refine out d l ?_;have k1:=il.ok d (by omega);have k2:=u6.ok d {data:= #[ay 110,ay 101,ay 119]} (by omega);have e2:v7.val d {data:= #[ay 110,ay 101,ay 119]}=v7.val d jN.nm:=rfl;unfold vo b jN.val;rw[k1.1,k1.2,au];cases gD.val d with
 |false=>rfl
 |true=>
  rw[a_,ax,au];have tr:∀(K0 K1:aX->aq->aR->aw->aw->aR->aC (aR×aX)) (kt:aq->aC (aR×aX)) (h0:∀x i,K0 ak x l l.length i d=ah ([],ak)) (h1:∀x i,K1 ak x l l.length i d=kt x),l5 Lib.cU K0 K1 Lib.cU ak ⟨#[]⟩ l l.length 0 d=jN.fin (jN.fs l l.length 0 ⟨#[]⟩) (ah ([],ak)) kt:=by
   intro K0 K1 kt h0 h1;refine jN.Nc l hl (λm i acc=>l5 Lib.cU K0 K1 m ak acc l l.length (i:aw) d) _ kt (λm i acc hi ha hf ho=> ?_) (λm i acc hi ho=> ?_) (λm acc=> ?_)
   ·have mi:bJ ((i:aw)+1)=((i+1:aF):aw):=de (by omega) (by omega);have f1:=mY.ok (bw (ar l i 0)) (bF (ar l i 1)) (bF (ar l i (1+1))) (bw (ar l i (1+1+1)));have f2:mY.val (bw (ar l i 0)) (bF (ar l i 1)) (bF (ar l i (1+1))) (bw (ar l i (1+1+1)))=(fJ.fr (jN.tx l i),ai):=by unfold mY.val;exact bz ho
    simp only[l5,r5,Lib.dm,Lib.cE,Lib.dX,hi,aN,aM,au,ax,f1.1,f1.2,f2,a_,aE (show acc.size+(fJ.fr (jN.tx l i)).size<=4611686018427387904 by omega),mi]
   ·have f1:=mY.ok (bw (ar l i 0)) (bF (ar l i 1)) (bF (ar l i (1+1))) (bw (ar l i (1+1+1)));have f2:mY.val (bw (ar l i 0)) (bF (ar l i 1)) (bF (ar l i (1+1))) (bw (ar l i (1+1+1)))=(⟨#[]⟩,ak):=by unfold mY.val;rw[bH (by intro h;have h':jN.eo l i=true:=h;rw[ho]at h';cases h')]
    simp only[l5,r5,Lib.dm,Lib.cE,Lib.dX,hi,aN,aM,au,f1.1,f1.2,f2,bR];exact h0 acc i
   ·simp only[l5,r5,Lib.dm,bm,bj,ax];exact h1 acc _
  refine(tr _ _ (λx=>ah (jN.ki (v7.val d jN.nm).2 x,ai)) (λ_ _=>rfl) (λx _=> ?_)).trans ?_
  ·rw[k2.1,au,k2.2,e2];cases (v7.val d jN.nm).2<;>rfl
  ·cases jN.fs l l.length 0 ⟨#[]⟩<;>rfl
end AX

namespace Qw
open Lib (rr rs re rf rc Px En el oE qz qA qB)
open dZ (qc mP one rS yp zD p0)
theorem ok(now:aw)(l:az En)(hl:l.length<=1048576):
  c now (re l)=ai/\v now (re l)=(now,re (qc now l).en,rs (qc now l).w,rs (qc now l).m,rr (qc now l).s,(qc now l).a,[],[],0):=by
 refine out _ _ ?_;unfold vo b;rw[dc];have key:=mg l.length (λn (i:aF) (p:Px)=>l4 Lib.cU (λ(_:aw) (_:aR) (_ _ _ _ _ WN QP QQ:aw) (H8 QR QS QT QU Qo:aR)=>ah (WN,H8,QR,QS,QT,QP,QU,Qo,QQ)) n now (re l) (l.length:aw) (i:aw) 0 0 0 now p.a 0 (re p.en) (rs p.w) (rs p.m) (rr p.s) [] []) (λi=>qc now (l.take i)) (ah (now,re (qc now l).en,rs (qc now l).w,rs (qc now l).m,rr (qc now l).s,(qc now l).a,[],[],0)) (λn i hi=>by
  have I:=rS now l i (by omega);have hs:=yp now l i hi;generalize qc now (l.take i)=p at I hs;rw[hs];unfold one;have hw:bJ ((i:aw)+1)=((i+1:aF):aw):=Lib.cZ hi (by omega);cases hf:mP (el l i) now with
  |false=>have vu:GN.v (el l i).k (el l i).st (el l i).li (el l i).bo now=false:=hf;simp only[l4,r4,dc,Lib.dm,hi,aN,Lib.cE,aM,au,Lib.dX,oE hi,qz hi,qA hi,qB hi,bw,bF,vu,ax,hw]
  |true=>have vu:GN.v (el l i).k (el l i).st (el l i).li (el l i).bo now=true:=hf;have hk:=(ni.Ef (zD hf)).1;have h4:=OU.ok p (el l i) [] [] (I.fit (by omega) (by omega)) I.so (by omega);rw[I.now,I.hits]at h4;simp only[l4,r4,Lib.lt,dc,Lib.dm,hi,aN,Lib.cE,aM,au,Lib.dX,oE hi,qz hi,qA hi,qB hi,bw,bF,vu,h4.1,h4.2,hw]) (λn=>by
  simp only[l4,r4,Lib.dm,bm,bj,ax,dD]) Lib.cU 0 (bI _) (cG (by omega))
 exact key
end Qw

namespace AP
open Lib (rr rs re rf rc rd Px En el oE qz qA qB)
open gE (Wo Ev tG js)
open jU (dk es)
open hZ (tu)
open fU (ri v8 ub kB)
theorem walk(N:aF)(L:az En)(hL:L.length<=1048576)(hN:L.length<N)(K0:aw->aw->aw->aw->aw->aR->aR->aR->aR->aR->aR->aR->aR->aR->aR->aR->aC R)(now a5 a8:aw)(q1 q2 q3 q4 q6 q7 q9 Ee ZA:aR):
  l3 N K0 N (L.length:aw) 0 now a5 a8 (re []) (re L) q1 q2 q3 q4 q6 q7 q9 Ee ZA=K0 (L.length:aw) (L.length:aw) now a5 a8 (re (L.filter λe=>dZ.mP e now)) (re L) q1 q2 q3 q4 q6 q7 q9 Ee ZA:=by
 have hw:∀i,i<L.length->bJ ((i:aw)+1)=((i+1:aF):aw):=λi h=>Lib.cZ h (by omega)
 have key:=Cs L (λe=>dZ.mP e now) (λm (i:aF) acc=>l3 N K0 m (L.length:aw) (i:aw) now a5 a8 (re acc) (re L) q1 q2 q3 q4 q6 q7 q9 Ee ZA) (λacc=>K0 (L.length:aw) (L.length:aw) now a5 a8 (re acc) (re L) q1 q2 q3 q4 q6 q7 q9 Ee ZA) []
  (λm i acc hi ha hp=>by rw[<-eN hi]at hp⊢;unfold dZ.mP at hp;simp only[l3,r3,dc,Lib.dm,hi,aN,Lib.cE,aM,au,Lib.dX,oE hi,qz hi,qA hi,qB hi,bw,bF,hp,hw i hi,fU.nb,fU.ub];rw[Lib.ch (by simp at ha;omega) (by simp at ha;omega),au])
  (λm i acc hi hp=>by rw[<-eN hi]at hp;unfold dZ.mP at hp;simp only[l3,r3,dc,Lib.dm,hi,aN,Lib.cE,aM,au,Lib.dX,oE hi,qz hi,qA hi,qB hi,bw,bF,hp,hw i hi,ax])
  (λm acc=>by simp only[l3,r3,Lib.dm,bm,bj,ax])
  N hN
 exact key
theorem ok{i:aF}{w:Wo}(h:tu i w)(hi:i<=71)(left:aR):c w.p.now (re w.p.en) (rs w.p.w) (rs w.p.m) (rr w.p.s) w.p.a (rf w.p.fe) (rc w.p.cl) w.p.hits (rd (dk w.o)) (ri w.cd) (re w.bd) left=ai/\v w.p.now (re w.p.en) (rs w.p.w) (rs w.p.m) (rr w.p.s) w.p.a (rf w.p.fe) (rc w.p.cl) w.p.hits (rd (dk w.o)) (ri w.cd) (re w.bd) left=v8 (tG w):=by
 refine out _ _ _ _ _ _ _ _ _ _ _ _ _ ?_;have Wy:=h.tx hi;have hlen:=h.len hi;have hdl:=jU.Cj w.o;have A:=wR.ok (dk w.o) left (by omega);rw[jU.Xp (by omega) left,show rL.res (ah (dk w.o))=(rd (dk w.o),ai)from rfl]at A;have B:=(jU.Sx (o:=w.o) (by omega) h.eo).1;have D6:=gT.Hk (es w.o);have hf:=hZ.G7 h.eo;have Pt:=hZ.Cw w;have htf:=hZ.VV _ hf;have C:=AX.ok (rd (dk w.o)) (re (js w)) (by rw[eB];omega) (by rw[dc];omega);rw[jU.aa2 (by omega) hf]at C;have D:=vU.ok (dk w.o) (pT.tv (gT.tx (js w))) (by omega) (by unfold pT.tv;simp) (λx hx=>by
  unfold pT.tv at hx;simp only[cB,gG,or_false]at hx;rcases hx with rfl|rfl|rfl
  ·show(gT.tx (js w)).size<=_;omega
  ·exact bI _
  ·exact bI _)
 rw[jU.Ng (by omega) (by omega)]at D;have E:=Qw.ok w.p.now (js w) (by omega);unfold vo;generalize hN:Lib.cU=N;have jD:(gT.kp (es w.o)).length<N:=by rw[<-hN];exact cG (by omega)
 clear hN;unfold b;rw[A.1,au,A.2,fU.lt_eq];show(bif U61.c (rd (dk w.o))then Lib.lt (U61.v (rd (dk w.o))) _ else aj)=_;rw[B.1,au,B.2,fU.lt_eq,dc,show aP [Ck.s,Ck.i ao,Ck.i ao,Ck.s] 0=re []from rfl,walk N (gT.kp (es w.o)) (by omega) jD];have e:((kpp:az En)->kpp=gT.kp (es w.o)->kpp.filter (λe=>dZ.mP e w.p.now)=js w):=λ_ h=>by subst h;rfl
 rw[e _ rfl];simp only[fU.lt_eq,C.1,C.2,D.1,D.2,E.1,E.2,au];have hinv:=dZ.rS w.p.now (js w) (js w).length (cF _);rw[dD]at hinv;unfold v8 tG;dsimp only;rw[hinv.now,hinv.fe,hinv.cl,hinv.hits];rfl
end AP

namespace Wn
open Lib (rr rs re rf rc rd Px En el)
open gE (Wo Ev closed tG js iA flag)
open jU (dk es)
open hZ (tu)
open fU (ri v8 ub kB)
theorem fl(b:aX):GJ.v b=flag b:=by cases b<;>rfl
theorem ok{i:aF}{w:Wo}{e:Ev}(h:tu i w)(hi:i<=71)(he:iA e=ai):c w.p.now (re w.p.en) (rs w.p.w) (rs w.p.m) (rr w.p.s) w.p.a (rf w.p.fe) (rc w.p.cl) w.p.hits (rd (dk w.o)) (ri w.cd) (re w.bd) e.k e.id e.t e.n e.l=ai/\v w.p.now (re w.p.en) (rs w.p.w) (rs w.p.m) (rr w.p.s) w.p.a (rf w.p.fe) (rc w.p.cl) w.p.hits (rd (dk w.o)) (ri w.cd) (re w.bd) e.k e.id e.t e.n e.l=((gE.act w e).2,v8 (gE.act w e).1):=by
 unfold iA at he;simp only[aL,bf]at he;obtain⟨hk,Jf,ht,hn,hl⟩:=he;have hp:=kB h.px;refine out _ _ _ _ _ _ _ _ _ _ _ _ _ _ _ _ _ ?_;unfold vo b gE.act;by_cases k1:e.k=1
 ·rw[aE k1,au];have A:=R_.ok w.p e.id e.t hp (by omega);rw[A.1,au,A.2,fU.lt_eq];try rfl
 rw[aK k1,ax,ax];by_cases k2:e.k=2
 ·rw[aE k2,au];have A:=Wp.ok w.p e.id e.t hp;rw[A.1,au,A.2,fU.lt_eq,fl];unfold v8 gq.C3;cases gq.s6 w.p e.id&&(decide (1<=e.t.size/\e.t.size<=40)&&decide ((el w.p.fe e.id.toNat).t.size+e.t.size<=400))<;>rfl
 rw[aK k2,ax,ax];by_cases k3:e.k=3
 ·rw[aE k3,au,ir hn];have A:=Wq.ok h hi e.id (e.n%1000000) (by omega);rw[A.1,au,A.2,fU.lt_eq,fl];try rfl
 rw[aK k3,ax,ax];by_cases k4:e.k=4
 ·rw[aE k4,au];have A:=Wr.ok w.p e.id hp;rw[A.1,au,A.2,fU.lt_eq,fl];unfold v8 gq.Cd;cases gq.s6 w.p e.id<;>rfl
 rw[aK k4,ax,ax];by_cases k5:e.k=5
 ·rw[aE k5,au];have A:=DK.ok w.p e.n hp;rw[A.1,au,A.2,fU.lt_eq];try rfl
 rw[aK k5,ax,ax];by_cases k6:e.k=6
 ·rw[aE k6,au];have A:=DL.ok w.p e.id hp;have B:=zu.ok w.p.now (re w.p.en) (rs w.p.w) (rs w.p.m) (rr w.p.s) w.p.a (rf w.p.fe) w.p.cl w.p.hits e.id hp.cl;rw[B.1,au,fU.lt_eq,A.1,au,A.2,fU.lt_eq,fl,B.2];try rfl
 rw[aK k6,ax,ax];have A:=AP.ok h hi e.l;rw[A.1,au,A.2,fU.lt_eq];try rfl
end Wn

namespace DM
open Lib (rr rs re rf rc rd Px En el)
open gE (Wo Ev iA)
open jU (dk es)
open hZ (tu)
open fU (ri v8)
open qf (rv ua wv0 wv1 wv2 wv3 wv4 run LQ Db Ja life W13 Cy)
theorem chk(N n:aF)(l:az Ev)(hl:l.length<=1048576)(hn:l.length<n)(K0 K1:aR->aX->aR->aw->aw->aw->aw->aw->aC R)(kf:aC R)(hK:∀i:aw,K0 (rv l) ak (rv l) (l.length:aw) i 0 0 0=kf):
  l4 N K0 K1 n (rv l) ak (rv l) (l.length:aw) 0 0 0 0=bif(b9 l.length).all λi=>iA (el l i)then K1 (rv l) ak (rv l) (l.length:aw) (l.length:aw) 0 0 0 else kf:=by
 have hw:∀i,i<l.length->bJ ((i:aw)+1)=((i+1:aF):aw):=λi h=>Lib.cZ h (by omega)
 have key:=iC (λi=>iA (el l i)) l.length (λm (i:aF)=>l4 N K0 K1 m (rv l) ak (rv l) (l.length:aw) (i:aw) 0 0 0) kf (K1 (rv l) ak (rv l) (l.length:aw) (l.length:aw) 0 0 0)
  (λm i hi hp=>by simp only[l4,r4,ua,Lib.dm,hi,aN,Lib.cE,aM,au,Lib.dX,wv0 hi,wv1 hi,wv2 hi,wv3 hi,wv4 hi,bF,bw,jz,qf.NZ,hp,a_,ax,hw i hi])
  (λm i hi hp=>by simp only[l4,r4,ua,Lib.dm,hi,aN,Lib.cE,aM,au,Lib.dX,wv0 hi,wv1 hi,wv2 hi,wv3 hi,wv4 hi,bF,bw,jz,qf.NZ,hp,bR,hK])
  (λm=>by simp only[l4,r4,Lib.dm,bm,bj,ax]) n hn
 exact key
theorem go(N:aF)(l:az Ev)(hl:l.length<=70)(he:∀e∈l,iA e=ai)(K:aR->aw->aw->aw->aw->aw->aw->aw->aw->aR->aR->aR->aR->aR->aR->aR->aR->aR->aC R):∀(d i n:aF) (w:Wo),w=run (l.take i)->l.length-i<=d->i<=l.length->d<n->
  PH N K n (rv l) (l.length:aw) (i:aw) 0 0 0 w.p.now w.p.a w.p.hits (re w.p.en) (rs w.p.w) (rs w.p.m) (rr w.p.s) (rf w.p.fe) (rc w.p.cl) (rd (dk w.o)) (ri w.cd) (re w.bd)=K (rv l) (l.length:aw) (l.length:aw) 0 0 0 (run l).p.now (run l).p.a (run l).p.hits (re (run l).p.en) (rs (run l).p.w) (rs (run l).p.m) (rr (run l).p.s) (rf (run l).p.fe) (rc (run l).p.cl) (rd (dk (run l).o)) (ri (run l).cd) (re (run l).bd):=by
 have fin:∀(n:aF) (w:Wo),w=run (l.take l.length)->PH N K (n+1) (rv l) (l.length:aw) (l.length:aw) 0 0 0 w.p.now w.p.a w.p.hits (re w.p.en) (rs w.p.w) (rs w.p.m) (rr w.p.s) (rf w.p.fe) (rc w.p.cl) (rd (dk w.o)) (ri w.cd) (re w.bd)=K (rv l) (l.length:aw) (l.length:aw) 0 0 0 (run l).p.now (run l).p.a (run l).p.hits (re (run l).p.en) (rs (run l).p.w) (rs (run l).p.m) (rr (run l).p.s) (rf (run l).p.fe) (rc (run l).p.cl) (rd (dk (run l).o)) (ri (run l).cd) (re (run l).bd):=by intro n w hw;rw[dD]at hw;subst hw;simp only[PH,Aw,Lib.dm,bm,bj,ax]
 intro d;induction d with
 |zero=>
  intro i n w hw h1 h2 h3;obtain⟨n,rfl⟩:∃m,n=m+1:=⟨n-1,by omega⟩
  have:i=l.length:=by omega
  subst this;exact fin n w hw
 |succ d ih=>
  intro i n w hw h1 h2 h3;obtain⟨n,rfl⟩:∃m,n=m+1:=⟨n-1,by omega⟩
  by_cases hi:i<l.length
  ·have hW:tu i w:=by rw[hw];exact LQ he i h2
   have hE:=he _ (kA hi);have A:=Wn.ok hW (by omega) hE;have hcd:=hW.cd;have e1:(gE.act w (el l i)).1.cd=w.cd:=Ka.Sb w _;have rm:cw ((ri w.cd).length+(aD (aP [Ck.i ao] 1) 0 [CV.i ao (gE.act w (el l i)).2]).length) 8=true:=by rw[fU.gW,fU.nb];exact Lib.ch (by omega) (by omega)
   have nx:=ih (i+1) n (gE.step w (el l i)) (by rw[Db l i hi,hw]) (by omega) hi (by omega);refine Eq.trans ?_ nx;have ass:bJ ((i:aw)+1)=((i+1:aF):aw):=Lib.cZ hi (by omega);simp only[PH,Aw,ua,Lib.dm,hi,aN,Lib.cE,aM,au,Lib.dX,wv0 hi,wv1 hi,wv2 hi,wv3 hi,wv4 hi,bF,bw,jz,ass];rw[A.1,au,A.2,fU.lt_eq];unfold v8;dsimp only;rw[e1,rm,au,fU.acO];rfl
  ·have:i=l.length:=by omega
   subst this;exact fin n w hw
theorem ok(l:az Ev)(hl:l.length<=1048576):c (rv l)=ai/\v (rv l)=life l:=by
 refine out _ ?_;unfold vo;generalize hN:Lib.cU=N;have jD:l.length<N:=by rw[<-hN];exact cG (by omega)
 clear hN;unfold b life Ja;rw[ua];by_cases h:l.length<=70
 ·rw[aE h,bc,aK (show¬(l.length:aw)>70 by omega),ax];rw[chk N N l hl jD _ _ (ah (0,[],[],[],[],0,[],[],0,[],[],[],ak)) (λ_=>rfl)];cases ha:(b9 l.length).all λi=>iA (el l i)with
  |false=>rfl
  |true=>have he:∀e∈l,iA e=true:=(Cy.1 (by unfold Ja;rw[ha,aE h];rfl)).2;rw[au,au];simp only[ua];exact(go N l h he _ l.length 0 N qf.w0 rfl (by omega) (by omega) jD).trans rfl
 ·rw[aK h,lG,aE (show(l.length:aw)>70 by omega),au,ax]
end DM

namespace M5
open eg (op g val)
theorem ok(i0:aw)(p1 p2 p3 p4:aR)(i5:aw)(p6 p7:aR)(i8:aw)(hl:p6.length<=4294967296):c i0 p1 p2 p3 p4 i5 p6 p7 i8=ai/\v i0 p1 p2 p3 p4 i5 p6 p7 i8=eg.val p6:=by
 refine out _ _ _ _ _ _ _ _ _ ?_;unfold vo b;have hw:∀i,i<p6.length->bJ ((i:aw)+1)=((i+1:aF):aw):=λi h=>Lib.cZ h (by omega);have inner:∀(i:aF) (hi:i<p6.length) (K0 K1:aX->aw->aw->aw->aR->aR->aR->aR->aw->aR->aR->aw->aC aX) (kf kt:aC aX) (h0:∀j:aw,K0 ak i j i0 p1 p2 p3 p4 i5 p6 p7 i8=kf) (h1:∀j:aw,K1 ak i j i0 p1 p2 p3 p4 i5 p6 p7 i8=kt),l5 Lib.cU K0 K1 Lib.cU ak i 0 i0 p1 p2 p3 p4 i5 p6 p7 i8=bif(b9 i).all (g p6 i)then kt else kf:=λi hi K0 K1 kf kt h0 h1=>
  iC (g p6 i) i (λm (j:aF)=>l5 Lib.cU K0 K1 m ak i j i0 p1 p2 p3 p4 i5 p6 p7 i8) kf kt
  (λm j hj hp=>by
   have CB:j<p6.length:=by omega
   unfold g op at hp;cases e1:decide (bF (ar p6 i 2)=1)with
   |false=>simp only[l5,r5,Lib.dm,hj,CB,hi,aN,Lib.cE,aM,au,Lib.dX,e1,ax,hw j CB]
   |true=>
    cases e2:decide (bF (ar p6 j 2)=1)with
    |false=>simp only[l5,r5,Lib.dm,hj,CB,hi,aN,Lib.cE,aM,au,Lib.dX,e1,e2,ax,hw j CB]
    |true=>rw[e1,e2,bc,bc,dr]at hp;simp only[l5,r5,Lib.dm,hj,CB,hi,aN,Lib.cE,aM,au,Lib.dX,e1,e2,hp,ax,hw j CB])
  (λm j hj hp=>by
   have CB:j<p6.length:=by omega
   unfold g op at hp;rw[nk]at hp;simp only[aL]at hp;obtain⟨e1,e2,e3⟩:=hp;simp only[l5,r5,Lib.dm,hj,CB,hi,aN,Lib.cE,aM,au,Lib.dX,e1,e2,e3,h0])
  (λm=>by simp only[l5,r5,Lib.dm,bm,bj,ax,h1]) Lib.cU (cG (by omega))
 have st:∀(m i:aF) (hi:i<p6.length),l2 Lib.cU (λ(y47:aX) (_ _:aw) (_ _ _ _:aR) (_:aw) (_ _:aR) (_:aw)=>ah y47) (λ(_:aX) (_ _:aw) (_ _ _ _:aR) (_:aw) (_ _:aR) (_:aw)=>ah ai) (m+1) ak (i:aw) i0 p1 p2 p3 p4 i5 p6 p7 i8=bif(b9 i).all (g p6 i)then l2 Lib.cU (λ(y47:aX) (_ _:aw) (_ _ _ _:aR) (_:aw) (_ _:aR) (_:aw)=>ah y47) (λ(_:aX) (_ _:aw) (_ _ _ _:aR) (_:aw) (_ _:aR) (_:aw)=>ah ai) m ak ((i+1:aF):aw) i0 p1 p2 p3 p4 i5 p6 p7 i8 else ah false:=by
  intro m i hi;simp only[l2,r2,Lib.dm,hi,aN,au];refine inner i hi _ _ _ _ ?_ ?_
  ·intro _;rfl
  ·intro _;rw[hw i hi]
 have key:=iC (λi=>(b9 i).all (g p6 i)) p6.length (λm (i:aF)=>l2 Lib.cU (λ(y47:aX) (_ _:aw) (_ _ _ _:aR) (_:aw) (_ _:aR) (_:aw)=>ah y47) (λ(_:aX) (_ _:aw) (_ _ _ _:aR) (_:aw) (_ _:aR) (_:aw)=>ah ai) m ak (i:aw) i0 p1 p2 p3 p4 i5 p6 p7 i8) (ah ak) (ah ai)
  (λm i hi hp=>by rw[st m i hi,hp,au])
  (λm i hi hp=>by rw[st m i hi,hp,ax])
  (λm=>by simp only[l2,r2,Lib.dm,bm,bj,ax]) Lib.cU (cG (by omega))
 refine key.trans ?_;unfold eg.val;cases (b9 p6.length).all λi=>(b9 i).all (g p6 i)<;>rfl
end M5

namespace DQ
theorem ok(a0 a1:aq):c a0 a1=ai/\v a0 a1=j_.bg a0 a1:=by
 refine out _ _ ?_;unfold vo b j_.bg;by_cases h:((a0.size:aF):aw)≥((a1.size:aF):aw)
 ·rw[aE h,au,show g8 0 (a1.size:aw) (a0.size:aw)=ai by simp[g8];omega,au,bc]
 ·rw[aK h,ax,lG]
end DQ

namespace AQ
open Lib (rf Dp DB Qm)
theorem ok(a0:aw)(a1 a2 a3 a4:aR)(a5:aw)(fe:az Lib.Fe)(a7:aR)(a8:aw)(a9 a10 bd:aR)(x:Lib.Cl)(h1:0<=x.fe)(h2:x.fe<=fe.length)(hl:fe.length<=1048576)(hb:bd.length<=1048576):c a0 a1 a2 a3 a4 a5 (rf fe) a7 a8 a9 a10 bd x.id x.k x.fe x.fr x.sta x.mQ x.age=ai/\v a0 a1 a2 a3 a4 a5 (rf fe) a7 a8 a9 a10 bd x.id x.k x.fe x.fr x.sta x.mQ x.age=j_.gOk fe bd x:=by
 refine out _ _ _ _ _ _ _ _ _ _ _ _ _ _ _ _ _ _ _ ?_;unfold vo b j_.gOk;cases h0:decide (x.fe=0)with
 |true=>
  rw[au,au];refine(m7 (j_.hb bd x.k x.fr x.mQ x.age) bd.length (λm (i:aF)=>l3 Lib.cU (λ(y:aX) (_ _:aw) (_ _ _ _:aR) (_:aw) (_ _:aR) (_:aw) (_ _ _:aR) (_:aw) (_:aq) (_ _ _:aw) (_:aq) (_:aw)=>ah y) (λ(_:aX) (_ _:aw) (_ _ _ _:aR) (_:aw) (_ _:aR) (_:aw) (_ _ _:aR) (_:aw) (_:aq) (_ _ _:aw) (_:aq) (_:aw)=>ah ak) m ak (i:aw) a0 a1 a2 a3 a4 a5 (rf fe) a7 a8 a9 a10 bd x.id x.k x.fe x.fr x.sta x.mQ x.age) (λj=>ah (decide (j≥0)&&decide (x.sta=2))) (λm i hi hp=> ?_) (λm i hi hp=> ?_) (λm=> ?_) Lib.cU (cG (by omega))).trans rfl
  ·unfold j_.hb at hp;simp only[aL]at hp;obtain⟨e1,e2,e3,e4⟩:=hp;simp only[l3,r3,Lib.dm,Lib.cE,Lib.dX,hi,aN,aM,au,e1,e2,e3,e4,aE (show(i:aw)≥0 by omega),bc]
  ·unfold j_.hb at hp;have hw:=Lib.cZ hi (by omega:bd.length<=9223372036854775807);simp only[l3,r3,Lib.dm,Lib.cE,Lib.dX,hi,aN,aM,au,hw];revert hp;cases bZ (aA (bw (ar bd i 0))) (aA x.k)<;>cases decide (bF (ar bd i 1)=x.fr)<;>cases bZ (aA (bw (ar bd i (1+1+1)))) (aA x.mQ)<;>cases decide (bF (ar bd i (1+1))>x.age)<;>intro hp<;>first|rfl|cases hp
  ·simp only[l3,r3,Lib.dm,bm,bj,ax];rfl
 |false=>
  have h0:=l8 h0;have hw:bJ (x.fe-1)=(((x.fe-1).toNat:aF):aw):=by rw[de (by omega) (by omega)];omega
  have hi:(x.fe-1).toNat<fe.length:=by omega
  have hp:=DQ.ok;rw[ax,ax];unfold j_.wt;simp only[Lib.lt,km.v,dM,aE (show x.fe≥1 by omega),aE h2,a_,ax,hw,Lib.dm,hi,aN,Lib.cE,aM,au,Lib.dX,Dp hi,DB hi,Qm hi,bw,bF,(hp _ _).1,(hp _ _).2];generalize bZ (aA (Lib.el fe (x.fe-1).toNat).k) (aA x.k)=u;generalize bZ (aA x.mQ) (aA (Lib.el fe (x.fe-1).toNat).t)=u2;generalize j_.bg _ _=u3;cases u<;>cases decide (x.sta=1)<;>cases decide (x.sta=2)<;>cases decide (x.sta=3)<;>cases u2<;>cases u3<;>cases decide ((Lib.el fe (x.fe-1).toNat).sta=3)<;>rfl
end AQ

namespace Qy
open Lib (rf rc el Kh VY VZ V0 V1 V2 V3)
theorem ok(i0:aw)(p1 p2 p3 p4:aR)(i5:aw)(fe:az Lib.Fe)(cl:az Lib.Cl)(i8:aw)(p9 p10 bd:aR)(hc:∀i,i<cl.length->0<=(el cl i).fe/\(el cl i).fe<=fe.length)(hl:fe.length<=1048576)(oe:cl.length<=1048576)(XL:bd.length<=1048576):c i0 p1 p2 p3 p4 i5 (rf fe) (rc cl) i8 p9 p10 bd=ai/\v i0 p1 p2 p3 p4 i5 (rf fe) (rc cl) i8 p9 p10 bd=j_.Pn fe cl bd:=by
 refine out _ _ _ _ _ _ _ _ _ _ _ _ ?_;unfold vo b;have hw:∀i,i<cl.length->bJ ((i:aw)+1)=((i+1:aF):aw):=λi h=>Lib.cZ h (by omega);have hk:=λi hi=>AQ.ok i0 p1 p2 p3 p4 i5 fe (rc cl) i8 p9 p10 bd (el cl i) (hc i hi).1 (hc i hi).2 hl XL
 have key:=iC (λi=>j_.gOk fe bd (el cl i)) cl.length (λm (i:aF)=>l2 Lib.cU (λ(OE:aX) (_ _:aw) (_ _ _ _:aR) (_:aw) (_ _:aR) (_:aw) (_ _ _:aR)=>ah OE) (λ(_:aX) (_ _:aw) (_ _ _ _:aR) (_:aw) (_ _:aR) (_:aw) (_ _ _:aR)=>ah ai) m ak (i:aw) i0 p1 p2 p3 p4 i5 (rf fe) (rc cl) i8 p9 p10 bd) (ah ak) (ah ai)
  (λm i hi hp=>by simp only[l2,r2,fc,Lib.dm,hi,aN,Lib.cE,aM,au,Lib.dX,Kh hi,VY hi,VZ hi,V0 hi,V1 hi,V2 hi,V3 hi,bw,bF,hw i hi,(hk i hi).1,(hk i hi).2,hp,a_,ax])
  (λm i hi hp=>by simp only[l2,r2,fc,Lib.dm,hi,aN,Lib.cE,aM,au,Lib.dX,Kh hi,VY hi,VZ hi,V0 hi,V1 hi,V2 hi,V3 hi,bw,bF,hw i hi,(hk i hi).1,(hk i hi).2,hp,bR])
  (λm=>by simp only[l2,r2,fc,Lib.dm,bm,bj,ax]) Lib.cU (cG (by omega))
 refine key.trans ?_;unfold j_.Pn;cases (b9 cl.length).all λi=>j_.gOk fe bd (el cl i)<;>rfl
end Qy

namespace M1
open Lib (rr rs re rf rc Px)
open uj (qe sw cls)
theorem walk(K1:aX->aw->aw->aR->aR->aR->aR->aw->aR->aR->aw->aR->aR->aR->aR->aC aX)(p:Px)(d WB bd L:aR)(hen:p.en.length<=1048576)(hL:L.length<=1048576):l3 Lib.cU (λ(y:aX) (_ _:aw) (_ _ _ _:aR) (_:aw) (_ _:aR) (_:aw) (_ _ _ _:aR)=>ah y) K1 Lib.cU ak 0 p.now (re p.en) (rs p.w) (rs p.m) (rr p.s) p.a (rf p.fe) (rc p.cl) p.hits d WB bd L=bif(b9 p.en.length).all (qe (re p.en) p.now L)then K1 ak (p.en.length:aw) p.now (re p.en) (rs p.w) (rs p.m) (rr p.s) p.a (rf p.fe) (rc p.cl) p.hits d WB bd L else ah false:=by
 have hw:∀i,i<p.en.length->bJ ((i:aw)+1)=((i+1:aF):aw):=λi h=>Lib.cZ h (by omega);have ho:=λk a l t=>Bk.ok L k a l t (by omega)
 exact iC (qe (re p.en) p.now L) p.en.length (λm (i:aF)=>l3 Lib.cU (λ(y:aX) (_ _:aw) (_ _ _ _:aR) (_:aw) (_ _:aR) (_:aw) (_ _ _ _:aR)=>ah y) K1 m ak (i:aw) p.now (re p.en) (rs p.w) (rs p.m) (rr p.s) p.a (rf p.fe) (rc p.cl) p.hits d WB bd L) (ah ak) (K1 ak (p.en.length:aw) p.now (re p.en) (rs p.w) (rs p.m) (rr p.s) p.a (rf p.fe) (rc p.cl) p.hits d WB bd L)
  (λm i hi hq=>by unfold qe at hq;simp only[l3,r3,dc,Lib.dm,hi,aN,Lib.cE,aM,au,Lib.dX,(ho _ _ _ _).1,(ho _ _ _ _).2,hw i hi];revert hq;generalize vT.v _ _ _ _ _=u1;generalize Bk.val _ _ _ _ _=u2;cases u1<;>cases u2<;>intro hq<;>first|rfl|cases hq)
  (λm i hi hq=>by unfold qe at hq;simp only[l3,r3,dc,Lib.dm,hi,aN,Lib.cE,aM,au,Lib.dX,(ho _ _ _ _).1,(ho _ _ _ _).2,hw i hi];revert hq;generalize vT.v _ _ _ _ _=u1;generalize Bk.val _ _ _ _ _=u2;cases u1<;>cases u2<;>intro hq<;>first|rfl|cases hq)
  (λm=>by simp only[l3,r3,dc,Lib.dm,bm,bj,ax]) Lib.cU (cG (by omega))
theorem ok(p:Px)(d WB bd L:aR)(hp:p.Fit 1048576)(XL:bd.length<=1048576)(hL:L.length<=1048576)(hk:yL.c d=ai/\yL.v d=L):c p.now (re p.en) (rs p.w) (rs p.m) (rr p.s) p.a (rf p.fe) (rc p.cl) p.hits d WB bd=ai/\v p.now (re p.en) (rs p.w) (rs p.m) (rr p.s) p.a (rf p.fe) (rc p.cl) p.hits d WB bd=sw p L bd:=by
 refine out _ _ _ _ _ _ _ _ _ _ _ _ ?_;have hen:=hp.en;have H7:=hp.fe;have oe:=hp.cl;unfold vo b;rw[hk.1,hk.2,au];refine(walk _ p d WB bd L hen hL).trans ?_;unfold sw;cases (b9 p.en.length).all (qe (re p.en) p.now L)with
 |false=>rfl
 |true=>
 rw[au,bc];have I1:=pj.ok p hp;have I2:=M5.ok p.now (re p.en) (rs p.w) (rs p.m) (rr p.s) p.a (rf p.fe) (rc p.cl) p.hits (by rw[dM];omega);dsimp only;rw[I1.1,au,I1.2];cases cf:pj.jd p with
 |false=>rfl
 |true=>
 rw[au,bc,I2.1,au,I2.2];cases eg.val (rf p.fe)with
 |false=>rfl
 |true=>
 have I3:=Qy.ok p.now (re p.en) (rs p.w) (rs p.m) (rr p.s) p.a p.fe p.cl p.hits d WB bd (cls cf) H7 oe XL;rw[au,bc,I3.1,au,I3.2];cases j_.Pn p.fe p.cl bd with
 |false=>rfl
 |true=>
 have I4:=Ik.ok p.now (re p.en) (rs p.w) (rs p.m) (rr p.s) p.a (rf p.fe) (rc p.cl) p.hits d WB bd (by rw[dc];omega) (by omega);rw[au,bc,I4.1,au,I4.2]
end M1

namespace M3
open Lib (rd En)
open jU (dk es)
open gT (tx base)
theorem ok(o:aC (az En))(h:(tx (es o)).size<=20000):c (rd (dk o))=ai/\v (rd (dk o))=true:=by
 refine out _ ?_;have D:=gD.ok (rd (dk o)) (by rw[eB];have:=jU.Cj o;omega);rw[show gD.val (rd (dk o))=ai from jU.EW h]at D;unfold vo;generalize hN:Lib.cU=N
 obtain⟨n,rfl⟩:∃n,N=n+1+1:=⟨N-2,by have:2<N:=by rw[<-hN];exact cG (by omega)
                                   omega⟩
 clear hN;unfold b;rw[D.1,au,D.2,a_,ax];cases o with
 |none=>rfl
 |some l=>show l4 (n+1+1) _ _ (n+1+1) ak 0 [[CV.s gT.qv,CV.s (tx l),CV.i ao ((tx l).size:aw)]]=ah ai;rw[show l4 (n+1+1) (λy3 y4 y5=>ah y3) (λy6 y7 y8=>ah ai) (n+1+1)=r4 (n+1+1) (l4 (n+1+1) (λy3 y4 y5=>ah y3) (λy6 y7 y8=>ah ai) (n+1)) (λy3 y4 y5=>ah y3) (λy6 y7 y8=>ah ai)from rfl];generalize tx l=t;unfold r4;have e1:bF (ar [[CV.s gT.qv,CV.s t,CV.i ao (t.size:aw)]] (aW 0) 2)=(t.size:aw):=rfl;have e2:bw (ar [[CV.s gT.qv,CV.s t,CV.i ao (t.size:aw)]] (aW 0) 1)=t:=rfl;rw[e1,e2,aK (Ks _)];rfl
end M3

namespace Kl
open Lib (Px Cl Fe En el)
open Em (u5 uF Hj yo)
open dZ (mP qc)
open gE (Wo tG js)
open jU (es)
open gT (kp)
theorem TE{α:Type}:∀(A B:az α),A.Nodup->(∀x∈A,x∈B)->A.length<=B.length:=by
 classical
 intro A;induction A with
 |nil=>intro B _ _;exact bI _
 |cons a A ih=>intro B h1 h2;rw[lh]at h1;have ha:a∈B:=h2 a dq;have:=ih (B.erase a) h1.2 λx hx=>(List.mem_erase_of_ne (λe=>h1.1 (by rw[<-e];exact hx))).2 (h2 x (c7 _ hx));rw[List.length_erase_of_mem ha]at this;have:=List.length_pos_of_mem ha;rw[db];omega
theorem IU{l:az En}(h:fY.So l):l.Nodup:=by have:=z_.yA h;exact(jA.1 (lK.1 this)).imp λ{a b} XJ e=>XJ (by rw[e])
theorem SP{w:Wo}(ho:rj.g7 w.p)(h:u5 w):(w.p.en.filter λe=>mP e w.p.now).length<=(kp (js w)).length:=by refine TE _ _ (oH _ (IU ho.so)) λx hx=> ?_;obtain⟨h1,h2⟩:=c9.1 hx;exact Hj _ (uF w) x (c9.2 ⟨h.fr x h1 h2,h2⟩)
theorem Xi{w:Wo}(ho:rj.g7 w.p):(tG w).p.en.length<=(kp (js w)).length:=by have hp:=hZ.LP ho.now (js w);exact TE _ _ (IU hp.so) λx hx=>Hj _ (uF w) x (yo _ x hx).1
end Kl

namespace U3
open Lib (rr rs re rf rc rd Px En Cl Fe el)
open gE (Wo Ev iA tG js)
open jU (dk es)
open qf (rv run life Ja W13)
open fU (ri)
open A_Post (jk)
open Em (u5 Gp)
open gT (kp)
def fe(n:aw):Ev:=⟨7,0,⟨#[]⟩,0,aD (aP [Ck.i ao] 1) 0 [CV.i ao n]⟩
theorem Nn(n:aw):iA (fe n)=true:=rfl
theorem Az(l:az Ev)(n:aw):aP [Ck.i ao,Ck.i ao,Ck.s,Ck.i ao,Ck.l 3] 0++rv l++aD (aP [Ck.i ao,Ck.i ao,Ck.s,Ck.i ao,Ck.l 3] 1) 0 [CV.i ao 7,CV.i ao 0,CV.s {data:= #[]},CV.i ao 0,CV.l 3 (aD (aP [Ck.i ao] 1) 0 [CV.i ao n])]=rv (l++[fe n]):=by rw[<-qg.HE];rfl
theorem vw(r:aR):eA r (aW 0) (aW (r.length:aw))=r:=by rw[dG];show(r.drop 0).take (r.length-0)=r;rw[e_,sr,dD]
theorem walk{P:R->Prop}(N:aF)(K:aX->aw->aw->aw->aw->aw->aw->aw->aw->aR->aR->aR->aR->aR->aR->aR->aR->aR->aR->aR->aR->aR->aR->aR->aR->aR->aR->aC R)(en:az En)(hl:en.length<=1000)(x8 x9 WH WI HO WJ:aw)(WK WL Z1 Z2 Z3 Z4 Z5 Z6 Z7 Z8 Z9 Z_ x27 x28 x29 x30 x31:aR)
  (hK:jk (K ak ((en.filter λe=>dZ.mP e x8).length:aw) (en.length:aw) x8 x9 WH WI HO WJ (re en) WK WL Z1 Z2 Z3 Z4 Z5 Z6 Z7 Z8 Z9 Z_ x27 x28 x29 x30 x31) P):
  ∀(d i n:aF),en.length-i<=d->i<=en.length->d<n->
   jk (Jv N K n ak (((en.take i).filter λe=>dZ.mP e x8).length:aw) (i:aw) x8 x9 WH WI HO WJ (re en) WK WL Z1 Z2 Z3 Z4 Z5 Z6 Z7 Z8 Z9 Z_ x27 x28 x29 x30 x31) P:=by
 have fin:∀n:aF,jk (Jv N K (n+1) ak (((en.take en.length).filter λe=>dZ.mP e x8).length:aw) (en.length:aw) x8 x9 WH WI HO WJ (re en) WK WL Z1 Z2 Z3 Z4 Z5 Z6 Z7 Z8 Z9 Z_ x27 x28 x29 x30 x31) P:=λn=>by rw[dD];refine A_Post.eq ?_ hK;simp only[Jv,QJ,dc,Lib.dm,bm,bj,ax]
 intro d;induction d with
 |zero=>
  intro i n h1 h2 h3;obtain⟨n,rfl⟩:∃k,n=k+1:=⟨n-1,by omega⟩
  have:i=en.length:=by omega
  subst this;exact fin n
 |succ d ih=>
  intro i n h1 h2 h3;obtain⟨n,rfl⟩:∃k,n=k+1:=⟨n-1,by omega⟩
  by_cases hi:i<en.length
  ·have mi:bJ ((i:aw)+1)=((i+1:aF):aw):=de (by omega) (by omega);have nx:=ih (i+1) n (by omega) hi (by omega);rw[cu hi,gv,bP]at nx;refine A_Post.eq ?_ nx;have hb:((en.take i).filter λe=>dZ.mP e x8).length<=1000:=by have:=eC (λe=>dZ.mP e x8) (en.take i);rw[eD]at this;omega
   have Ao:vT.v (bw (ar (re en) i 0)) (bF (ar (re en) i 1)) (bF (ar (re en) i (1+1))) (bw (ar (re en) i (1+1+1))) x8=dZ.mP en[i] x8:=by rw[re0 hi,re1 hi,re2 hi,re3 hi];unfold dZ.mP;rw[vT.eq];rfl
   cases hf:dZ.mP en[i] x8 with
   |true=>
    have e:([en[i]].filter λe=>dZ.mP e x8).length=1:=by simp[hf]
    rw[e];have hw:bJ ((((en.take i).filter λe=>dZ.mP e x8).length:aw)+1)=((((en.take i).filter λe=>dZ.mP e x8).length+1:aF):aw):=de (by omega) (by omega);simp only[Jv,QJ,dc,Lib.dm,hi,aN,Lib.cE,aM,au,Lib.dX,Ao,hf,mi,hw]
   |false=>
    have e:([en[i]].filter λe=>dZ.mP e x8).length=0:=by simp[hf]
    rw[e];simp only[Jv,QJ,dc,Lib.dm,hi,aN,Lib.cE,aM,au,ax,Lib.dX,Ao,hf,mi];rfl
  ·have:i=en.length:=by omega
   subst this;exact fin n
theorem alN(a:aR)(ha:vL a):vo a=ah true:=by
 have hb:∀x:aX,U8.v a=x->vo a=ah true:=λx hx=>by
  cases x with
  |true=>unfold vo b;rw[hx,au]
  |false=>
   have hlen:a.length<=1048576:=by unfold U8.v at hx;have:=l8 hx;omega
   obtain⟨l,c0,v0,hl,he⟩:=U9.ok a hlen;obtain⟨p,c1,v1,hp,_⟩:=M0.ok a hlen;obtain⟨el,hW,hS⟩:=WO.runs (by omega) he;have A:=DM.ok l (by omega);rw[el]at A;generalize hn:cy (bF (ar p (aW 0) 0)) 50=m;have he2:∀e∈l++[fe m],iA e=true:=qg.B5 he (Nn m);have Fa:(l++[fe m]).length<=70:=by rw[bP];show l.length+1<=70;omega
   obtain⟨el2,hW2,hS2⟩:=WO.runs Fa he2;obtain⟨k1,k2,k3,k4,sw⟩:=WO.sound Fa he2;have B:=DM.ok (l++[fe m]) (by omega);rw[el2]at B;have er:run (l++[fe m])={tG (run l)with cd:=(run l).cd++[0]}:=by rw[qg.Da];rfl
   have S2:=M1.ok (run (l++[fe m])).p (rd (dk (run (l++[fe m])).o)) (ri (run (l++[fe m])).cd) (re (run (l++[fe m])).bd) _ (fU.kB hW2.px) k4 k3 k1;rw[sw]at S2;have t2:=hW2.tx (by omega);have AK:=M3.ok (run (l++[fe m])).o (by omega);have V:=dZ.rS (run l).p.now (js (run l)) (js (run l)).length (cF _);rw[dD]at V;have XR:(run (l++[fe m])).p.now=(run l).p.now:=by rw[er];exact V.now
   have oe:(run (l++[fe m])).p.cl=[]:=by rw[er];exact V.cl
   have aiY:es (run (l++[fe m])).o=js (run l):=by rw[er];rfl
   have hen:(run (l++[fe m])).p.en.length<=(kp (es (run (l++[fe m])).o)).length:=by rw[aiY,er];exact Kl.Xi hW.px
   have Ao:((run l).p.en.filter λe=>dZ.mP e (run l).p.now).length<=(kp (es (run (l++[fe m])).o)).length:=by rw[aiY];exact Kl.SP hW.px hS
   have Wz:eA (rv l) (aW 0) (aW ((rv l).length:aw))=rv l:=vw (rv l);have hrl:(rv l).length=l.length:=qf.ua l;have gg:g8 0 ((rv l).length:aw) ((rv l).length:aw)=true:=by unfold g8;simp
   have r1:cw ((aP [Ck.i ao,Ck.i ao,Ck.s,Ck.i ao,Ck.l 3] 0).length+(rv l).length) 64=true:=by rw[hrl];exact Lib.ch (by show(0+l.length)*64<=_;omega) (by show 0+l.length<=_;omega)
   have r2:∀y:az CV,cw ((aP [Ck.i ao,Ck.i ao,Ck.s,Ck.i ao,Ck.l 3] 0++rv l).length+(aD (aP [Ck.i ao,Ck.i ao,Ck.s,Ck.i ao,Ck.l 3] 1) 0 y).length) 64=true:=λy=>by rw[fU.nb,show(aP [Ck.i ao,Ck.i ao,Ck.s,Ck.i ao,Ck.l 3] 0++rv l)=rv l from rfl,hrl];exact Lib.ch (by omega) (by omega)
   generalize hw2:run (l++[fe m])=w2 at*
   have Nz:=hW.px;have ay7:=(kC.BF (rj.oh.2 hW.px)).2.2.1;have main:jk (vo a) (λx=>x=ai):=by
    unfold vo;generalize hN:Lib.cU=N;have hN1:6<N:=by rw[<-hN];exact cG (by omega)
    clear hN;unfold b;refine A_Post.cn hx ?_;refine A_Post.call c0 v0 ?_;refine A_Post.cn (aK (by rw[hrl];omega)) ?_;refine A_Post.call c1 v1 ?_;refine A_Post.ck gg ?_;refine A_Post.ck (by rw[Wz];exact r1) ?_;refine A_Post.ck (aE (by rw[hp];omega)) ?_;refine A_Post.ck (by rw[Wz];exact r2 _) ?_;refine A_Post.ck gg ?_;refine A_Post.call (u:=W13 (run l) ai) (by rw[Wz];exact A.1) (by rw[Wz];exact A.2) ?_;refine A_Post.call (u:=W13 w2 ai) (by rw[Wz,hn,Az];exact B.1) (by rw[Wz,hn,Az];exact B.2) ?_;refine A_Post.cn rfl ?_;refine A_Post.cn rfl ?_;refine A_Post.cn ?_ ?_
    ·show((((ri w2.cd).length:aF):aw) !=bJ (((rv l).length:aw)+1))=ak;have:=hW2.cd;rw[bP]at this;rw[fU.gW,this,hrl,de (x:=(l.length:aw)+1) (by omega) (by omega)];exact bne_self_eq_false _
    refine A_Post.call S2.1 S2.2 ?_;refine A_Post.cn rfl ?_;refine A_Post.cn ?_ ?_
    ·show(w2.p.now !=(run l).p.now)=ak;rw[XR];exact bne_self_eq_false _
    refine A_Post.cn ?_ ?_
    ·show decide ((((rc w2.p.cl).length:aF):aw)>0)=ak;rw[oe];rfl
    refine walk N _ (run l).p.en (by omega) _ _ _ _ _ _ _ _ _ _ _ _ _ _ _ _ _ _ _ _ _ _ _ ?_ (run l).p.en.length 0 N (by omega) (bI _) (by omega);refine A_Post.call k1.1 k1.2 ?_;refine A_Post.ck (aE ?_) ?_
    ·show(((re w2.p.en).length:aF):aw)<=((re (kp (es w2.o))).length:aw)
     rw[dc,dc];omega
    refine A_Post.ck (aE ?_) ?_
    ·show((re (kp (es w2.o))).length:aw)≥((((run l).p.en.filter λe=>dZ.mP e (run l).p.now).length:aF):aw);rw[dc];omega
    refine A_Post.call AK.1 AK.2 ?_;exact A_Post.ret rfl
   obtain⟨x,h1,h2⟩:=main;rw[h1,h2]
 exact hb _ rfl
theorem law(a:aR)(ha:vL a):v a=true:=(out a (alN a ha)).2
theorem auQ(a:aR)(ha:vL a):c a=true:=(out a (alN a ha)).1
end U3

end Go.FG
