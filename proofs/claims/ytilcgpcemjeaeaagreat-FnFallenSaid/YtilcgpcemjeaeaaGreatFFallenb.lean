/- What the functions come to, in plain numbers, texts and lists; last the law itself. No condition but those that each states. -/
import Derived.Test.YtilcgpcemjeaeaaGreatPFallenb
import Derived.Test.YtilcgpcemjeaeaaGreatFFallena
set_option linter.unusedVariables false
set_option linter.unusedSimpArgs false
set_option maxRecDepth 100000
open Bool renaming and_self->aM,true->ai,not_true->a_,false->ak,true_and->bc,not_false->bR,and_true->js,false_or->ou,and_false->wA,false_and->lE,and_eq_true->aL,false_eq_true->dy,not_eq_true'->dt,or_eq_true->dM,and_assoc->nO,not_eq_false'->nc
open ByteArray renaming toList->aC,empty_append->lO,extract->bO,size->cq
open Go.IntKind renaming i64->ao
open Go.Op renaming bytesLess->b7
open Int renaming tdiv->cR,le_trans->BQ,neg->Kn,toNat->aW,tmod->cz,tmod_eq_emod_of_nonneg->iq,toNat_natCast->dH,lt_irrefl->Km,tdiv_eq_ediv_of_nonneg->ic
open List renaming getElem_mem->bC,length_map->bU,ext_getElem->lQ,set_getElem_self->fB,getElem_set_self->kI,length_set->cE,set_set->pK,beq->bZ,take_succ_eq_append_getElem->cw,filter_append->gz,all_eq_true->bu,mem_or_eq_of_mem_set->jK,take_set_of_le->wH,drop_set_of_lt->wG,drop_eq_nil_of_le->gU,append_nil->dp,take_length->dE,filter_eq_self->eK,getElem_of_mem->c7,take->g9,drop->nk,drop_zero->fa,take_append_of_le_length->o8,take_of_length_le->je,getElem_take->ny,mem_map->cX,filter_map->o7,filter_congr->kT,drop_length->dm,length_singleton->bA,nodup_append->eQ,length_append->bP,mem_append->ba,mem_append_left->bM,mem_singleton->aZ,mem_append_right->bN,length_tail->W6,length->bT,set->aD,map_append->dj,drop_eq_getElem_cons->dF,find?_cons_of_neg->Ko,length_filter_le->eC,length_take->eD,nil_append->gD,append_assoc->cB,pairwise_cons->qD,mem_of_find?_eq_some->qC,find?_eq_none->W4,find?_some->vl,mem_cons->cC,not_mem_nil->gG,any_eq_true->FR,foldl_append->kU,getD_eq_getElem?_getD->cT,getElem?_append_left->dI,range->b9,mem_range->gV,pairwise_iff_getElem->dC,nodup_cons->la,mem_cons_self->dr,mem_cons_of_mem->c8,length_cons->dc,pairwise_map->jy,nodup_iff_pairwise_ne->lJ,mem_filter->c_
open List.Pairwise renaming filter->oD
open List.cons renaming inj->kC
open Nat renaming zero_le->bI,lt_irrefl->bm,sub_zero->si,le_trans->di,zero_add->bV,le_refl->cG
open Option renaming some->ah,none->aj,map_some->jf
open UInt8 renaming ofNat->ay
open _root_ renaming ByteArray->aq,Int->aw,Option->az,List->aA,Nat->aF,decide_eq_true->aE,decide_true->aN,cond_true->au,cond_false->ax,if_neg->bH,if_pos->bz,decide_eq_false->aK,Bool->aX,decide_false->bj,decide_eq_decide->ch,of_decide_eq_false->lX,decide_eq_true_eq->bf,decide_eq_false_iff_not->fw,absurd->cK,of_decide_eq_true->cu
namespace Go.FG
open Lib (GH all_congr iC pf B2 jV v8 eZ w7 eN fW kq mW Cn Nl xD mb uF cJ lY rc0 rc1 rc2 rc3 rc4 rc5 rc6 fg JI WA WB eB re0 re1 re2 re3 de dN QG J9 gX WC e6 pO kS C8 tY oY yv Fv oq Dg yw qT qU ua nN dg Kb wd0 wd1 wd2 oA qw qx qy Dj Dw Qi zW QI QJ)
variable {R:Type}
namespace iL
open Lib (rr ri)
open dx (fR bq DU half Ca Qd Qe oO uJ tq)
theorem agy(K:aq->aw->aw->aw->aw->aQ->az R)(s:aA (aA aw))(key:aq)(y a:aw)(hs:s.length=3)(hq:∀q∈s,q.length=16/\∀n∈q,0<=n/\n<=15)(hk:key.size<=140737488355328):
  l5 Lib.cW K Lib.cW key 3 0 y a (rr s)=K key 3 3 y a (rr (DU s key)):=by
 refine(nN fR s (λi q=>bq (gn.pl i key) q) (λm (i:aF) x=>l5 Lib.cW K m key 3 (i:aw) y a x) (λx=>K key 3 3 y a x) (λm i L h h2 hL wa=> ?_) (λm L hL=> ?_) Lib.cW (cJ (by omega)))
 ·have hp:=qI.ok i key (by omega) hk;have sV:=gn.CW i key;obtain⟨J6,hn⟩:=hq _ (bC h);have e0:ar (L.map fR) i 0=CV.l 3 (ri s[i]):=by rw[Ca L i h2,wa]
  have hb:gn.pl i key<s[i].length:=by omega
  have hx:=hn _ (bC hb);have e3:decide ((i:aw)<3)=true:=aE (by omega);simp only[l5,r5,bU,Lib.dn,h2,e3,aN,au,hp.1,hp.2,Lib.cF,aM,Lib.dY,e0,jx,Lib.gW,J6,sV,QG hb,bF];unfold bq iu;rw[oO hb,ax,dg (x:=s[i][gn.pl i key]+1) (by omega) (by omega)];by_cases hd:s[i][gn.pl i key]<15
  ·rw[bH (by omega),aE hd,au,Qd _ _ _ hb,Qe _ _ _ h2,Lib.c5 h2 (by omega)]
  ·have e15:s[i][gn.pl i key]=15:=by omega
   rw[bz (by omega),aK hd,ax,e15,Qd _ _ _ hb,Qe _ _ _ h2,Lib.c5 h2 (by omega)]
 ·have e3:decide ((s.length:aw)<3)=false:=aK (by omega);simp only[l5,r5,e3,ax,hs];rfl
theorem alQ(K:aF->aw->aw->aw->aw->aw->aw->aQ->az R)(L:aA (aA aw))(i:aF)(h:i<L.length)(u w y a:aw)(hl:L.length<=1048576)(hq:L[i].length=16)(hn:∀n∈L[i],0<=n/\n<=15):
  l18 Lib.cW K Lib.cW i u w 16 0 y a (L.map fR)=K i u w 16 16 y a ((L.set i (L[i].map λn=>cR n 2)).map fR):=by
 have hmi:L[i].mapIdx (λ_ n=>cR n 2)=L[i].map λn=>cR n 2:=by apply lQ<;>simp
 have key:=mb (L[i].length) (λm (k:aF) x=>l18 Lib.cW K m i u w 16 (k:aw) y a x) (λk=>(L.set i (oq L[i] (λ_ n=>cR n 2) k)).map fR) (K i u w 16 16 y a ((L.set i (L[i].map λn=>cR n 2)).map fR)) (λm k hk=> ?_) (λm=> ?_) Lib.cW 0 (bI _) (cJ (by omega))
 ·rw[Dg,fB]at key;exact key
 ·have hu:=qU L[i] (λ_ n=>cR n 2) k (by omega);generalize hU:oq L[i] (λ_ n=>cR n 2) k=U at hu;have hku:k<U.length:=by omega
  have gg:U[k]=L[i][k]:=by subst hU;exact yw _ _ _ hk _
  have afq:U.set k (cR L[i][k] 2)=oq L[i] (λ_ n=>cR n 2) (k+1):=by subst hU;exact ua L[i] (λ_ n=>cR n 2) k hk
  have h2:i<(L.set i U).length:=by simpa using h
  have e0:ar ((L.set i U).map fR) i 0=CV.l 3 (ri U):=by rw[Ca _ _ h2,kI]
  have hx:=hn _ (bC hk);have ht:0<=cR L[i][k] 2:=Int.tdiv_nonneg hx.1 (by omega);have G9:cR L[i][k] 2<=15:=BQ (Int.tdiv_le_self _ hx.1) hx.2;have e3:decide ((k:aw)<16)=true:=aE (by omega);simp only[l18,r18,bU,cE,Lib.dn,h,hku,e3,aN,au,Lib.cF,aM,Lib.dY,e0,jx,Lib.gW,QG hku,bF,gg];rw[dg (x:=cR L[i][k] 2) (by omega) (by omega),Qd _ _ _ hku,Qe _ _ _ h2,afq,pK,Lib.c5 hk (by omega)]
 ·have e3:decide ((L[i].length:aw)<16)=false:=aK (by omega);simp only[l18,r18,e3,ax];rw[qT,hmi,hq];rfl
theorem alO(K:aw->aw->aw->aw->aQ->az R)(s:aA (aA aw))(y a:aw)(hs:s.length=3)(hq:∀q∈s,q.length=16/\∀n∈q,0<=n/\n<=15):
  Jp Lib.cW K Lib.cW 3 0 y a (rr s)=K 3 3 y a (rr (half s)):=by
 have hmi:s.mapIdx (λ_ q=>q.map λn=>cR n 2)=half s:=by unfold half;apply lQ<;>simp
 rw[<-hmi];refine(nN fR s (λ_ q=>q.map λn=>cR n 2) (λm (i:aF) x=>Jp Lib.cW K m 3 (i:aw) y a x) (λx=>K 3 3 y a x) (λm i L h h2 hL wa=> ?_) (λm L hL=> ?_) Lib.cW (cJ (by omega)))
 ·obtain⟨J6,hn⟩:=hq _ (bC h);have e3:decide ((i:aw)<3)=true:=aE (by omega);have e0:ar (L.map fR) i 0=CV.l 3 (ri s[i]):=by rw[Ca L i h2,wa]
  simp only[Jp,QF,bU,Lib.dn,h2,e3,aN,au,Lib.cF,aM,Lib.dY,e0,jx,Lib.gW,J6];rw[show((16:aF):aw)=16 from rfl,alQ _ L i h2 3 i y a (by omega) (by rw[wa];exact J6) (by rw[wa];exact hn),Lib.c5 h2 (by omega),wa]
 ·have e3:decide ((s.length:aw)<3)=false:=aK (by omega);simp only[Jp,QF,e3,ax,hs];rfl
theorem ok(s:aA (aA aw))(a:aw)(key:aq)(hf:jm.oN s)(hk:key.size<=140737488355328):c (rr s) a key=ai/\v (rr s) a key=(rr (dx.val s a key).1,(dx.val s a key).2):=by
 refine out _ _ _ ?_;have h1:=jm.ok s a hf;have h2:=pN.ok s a hf;unfold vo b dx.val;rw[h1.1,h1.2,h2.1,h2.2,au,au];cases cg:fG.oj s a with
 |false=>rfl
 |true=>
  obtain⟨hs,ha,hq⟩:=uJ cg;obtain⟨b1,b2⟩:=tq (key:=key) hs hq;rw[a_,ax,au,gX,hs,show((3:aF):aw)=3 from rfl,agy _ s key _ _ hs hq hk,dg (x:=a+1) (by omega) (by omega)];by_cases hd:a+1=64
  ·rw[aK (show¬a+1<64 by omega),aE hd,au,ax,gX,b1,show((3:aF):aw)=3 from rfl,alO _ _ _ _ b1 b2]
  ·rw[aE (show a+1<64 by omega),aK hd];rfl
end iL

namespace sJ
def p(s:aQ)(k:aq)(i:aF):aX:=bZ (aC (bw (ar s i 0))) (aC k)
theorem ok(d:aQ)(n:aq)(hl:d.length<=4294967296):c d n=ai/\v d n=Lib.fi (p d n) d.length 0:=by
 refine out d n ?_;unfold vo b;refine mW (p d n) d.length (λm (i:aF)=>l2 Lib.cW (λ(_:aQ) (_:aq) (y7 _ _:aw)=>ah y7) (λ(_:aQ) (_:aq) (_ _ _:aw)=>ah (-1)) m d n 0 (d.length:aw) (i:aw)) ah (λm i hi hp=> ?_) (λm i hi hp=> ?_) (λm=> ?_) Lib.cW (cJ (by omega))
 ·unfold p at hp;simp only[l2,r2,Lib.dn,Lib.cF,Lib.dY,hi,aN,aM,au,AU.v,hp]
 ·unfold p at hp;simp only[l2,r2,Lib.dn,Lib.cF,Lib.dY,hi,aN,aM,au,AU.v,hp,ax,Lib.c5 hi (by omega:d.length<=9223372036854775807)]
 ·simp only[l2,r2,Lib.dn,bm,bj,ax]
end sJ

namespace wS
def cn(y:aA CV):aX:=match y with|[.s _]=>ai|_=>ak
def cr(y:aA CV):aA CV:=[CV.s (bw (y.getD 0 (.b ak)))]
theorem tw{y:aA CV}(h:cn y=ai):cr y=y:=by
 unfold cn at h;split at h
 ·rfl
 ·cases h
theorem mr{y:aA CV}(h:cn y=ai):y.length=1:=by rw[<-tw h];rfl
def keep(d:aq)(y:aA CV):aX:= !List.beq (aC (bw (y.getD 0 (.b ak)))) (aC d)
theorem ir(d:aq){s:aQ}{i:aF}(h:i<s.length):(s.take (i+1)).filter (keep d)=(s.take i).filter (keep d)++(bif keep d s[i]then [s[i]]else []):=by rw[cw h,gz];cases hk:keep d s[i]<;>simp[hk]
theorem run(N:aF)(s0:aQ)(d:aq)(hc:s0.all cn=ai)(hn:s0.length<=9223372036854775807)(K:aq->aw->aw->aQ->az R)(kr:aQ->az R)
  (hK:∀(j:aF) x,x.length=s0.length->j<=s0.length->K d j s0.length x=kr (x.take j)) (m j i:aF) (x:aQ)
  (hi:j<i/\i<=s0.length/\x.length=s0.length/\(∀y∈x,y.length=1)/\x.take j=(s0.take i).filter (keep d)/\x.drop i=s0.drop i) (hm:s0.length-i<m):
  l5 N K m d j i x=kr (s0.filter (keep d)):=by
 have K4:∀y∈s0,cn y=true:=bu.1 hc
 refine Lib.g8 (λm (s:aF×aF×aQ)=>l5 N K m d s.1 s.2.1 s.2.2) (λs=>s0.length-s.2.1)
  (λs=>s.1<s.2.1/\s.2.1<=s0.length/\s.2.2.length=s0.length/\(∀y∈s.2.2,y.length=1)/\s.2.2.take s.1=(s0.take s.2.1).filter (keep d)/\s.2.2.drop s.2.1=s0.drop s.2.1)
  (λ_=>kr (s0.filter (keep d))) (λm s hs=> ?_) m (j,i,x) hi hm
 obtain⟨j,i,x⟩:=s;obtain⟨h1,h2,h3,h4,h5,h6⟩:=hs;simp only at h1 h2 h3 h4 h5 h6⊢;by_cases gh:i<s0.length
 ·right;have oz:i<x.length:=by omega
  have G5:j<x.length:=by omega
  have hx:x[i]=s0[i]:=by have e1:=Lib.eL oz;have e2:=Lib.eL gh;rw[h6,e2]at e1;exact(kC e1).1.symm
  have hd:x.drop (i+1)=s0.drop (i+1):=by have e1:=Lib.eL oz;have e2:=Lib.eL gh;rw[h6,e2]at e1;exact(kC e1).2.symm
  have K6:=K4 _ (bC gh);have hf:=ir d gh;cases hk:keep d s0[i]with
  |true=>
   refine⟨(j+1,i+1,x.set j s0[i]), ?_,by simp only;omega,trivial, ?_⟩
   ·rw[hk,au,<-h5]at hf;refine⟨by simp only;omega,by simp only;omega,by simpa using h3, ?_, ?_, ?_⟩
    ·intro y hy;rcases jK hy with h|h
     ·exact h4 y h
     ·rw[h];exact mr K6
    ·rw[hf];rw[cw (by simpa using G5)];simp[wH]
    ·simp only;rw[wG (by omega)];exact hd
   ·have e:AU.v (bw (ar x i 0)) d=false:=by
     have:(!AU.v (bw (ar x i 0)) d)=true:=by rw[Lib.cL oz,hx];exact hk
     simpa using this
    have es:eJ x j 0 [CV.s (bw (ar x i 0))]=x.set j s0[i]:=by
     have hl:=h4 _ (bC G5);rw[Lib.BB G5,Lib.cL oz,hx];have:iH x[j] 0 (cr s0[i])=s0[i]:=by rw[tw K6];unfold iH;have:=mr K6;simp[hl,this,gU]
     unfold cr at this;rw[this]
    have b1:(j:aw)<(x.length:aw):=by omega
    simp only[l5,r5,Lib.dn,Lib.cF,Lib.dY,oz,G5,aN,bc,au,e,bR,es,Lib.c5 gh hn,Lib.c5 (show j<s0.length by omega) hn]
  |false=>
   refine⟨(j,i+1,x), ?_,by simp only;omega,trivial, ?_⟩
   ·rw[hk,ax,dp,<-h5]at hf;exact⟨by simp only;omega,by simp only;omega,h3,h4,hf.symm,hd⟩
   ·have e:AU.v (bw (ar x i 0)) d=true:=by
     have:(!AU.v (bw (ar x i 0)) d)=false:=by rw[Lib.cL oz,hx];exact hk
     simpa using this
    simp only[l5,r5,Lib.dn,Lib.cF,Lib.dY,oz,aN,bc,au,e,a_,ax,Lib.c5 gh hn]
 ·left;have:i=s0.length:=by omega
  subst this;rw[dE]at h5;have e:=hK j x h3 (by omega);rw[h5]at e;have oz:¬s0.length<x.length:=by omega
  simp only[l5,r5,Lib.dn,oz,bj,ax,e]
theorem ok(s0:aQ)(iZ:aq)(hc:s0.all cn=ai)(hn:s0.length<=4294967296):c s0 iZ=ai/\v s0 iZ=s0.filter (keep iZ):=by
 refine out s0 iZ ?_;have hv:=sJ.ok s0 iZ hn;unfold vo b;rw[hv.1,hv.2,au];rcases Lib.pr (sJ.p s0 iZ) s0.length 0 with ⟨h,nW⟩|⟨k,_,Aj,hk,K9,K3⟩
 ·rw[h];have:s0.filter (keep iZ)=s0:=by rw[eK];intro y hy;obtain⟨i,hi,rfl⟩:=c7 hy;have:=nW i (bI _) (by omega);unfold sJ.p at this;rw[Lib.cL hi]at this;unfold keep;rw[this];rfl
  rw[this];rfl
 ·rw[hk];have D0:k<s0.length:=by omega
  have iA:decide ((k:aw)=Kn 1)=false:=aK (by show¬(k:aw)= -1;omega);rw[iA,ax,Lib.c5 D0 (by omega)];have K4:∀y∈s0,cn y=true:=bu.1 hc;refine run _ s0 iZ hc (by omega) _ ah (λj x hx hj=> ?_) _ k (k+1) s0 ⟨by omega,by omega,rfl,λy hy=>mr (K4 y hy), ?_,rfl⟩ (cJ (by omega))
  ·have b1:g7 (j:aw) (s0.length:aw) (s0.length:aw)=true:=by simp[g7];omega
   have e:g9 j x++aP [Ck.s] (s0.length-j)++nk s0.length x=g9 j x++aP [Ck.s] (s0.length-j):=by rw[gU (by omega),dp]
   have hl:(g9 j x).length=j:=by simp;omega
   simp only[hx,Lib.dY,b1,au,e];rw[Lib.tp (by simp[g7];omega)];unfold eA;rw[show aW 0=0 from rfl,fa,si,o8 (by omega),je (by omega)]
  ·rw[ir iZ D0];have e1:keep iZ s0[k]=false:=by unfold sJ.p at K9;rw[Lib.cL D0]at K9;unfold keep;rw[K9];rfl
   have e2:(s0.take k).filter (keep iZ)=s0.take k:=by
    rw[eK];intro y hy;obtain⟨i,hi,rfl⟩:=c7 hy;have Wu:i<k:=by simp at hi;omega
    have:=K3 i (bI _) Wu;unfold sJ.p at this;rw[Lib.cL (by omega)]at this;rw[ny];unfold keep;rw[this];rfl
   rw[e1,e2,ax,dp]
end wS

namespace ka
theorem aiE(l:aA aq):(Lib.rs l).all wS.cn=true:=by rw[bu];intro y hy;unfold Lib.rs at hy;obtain⟨z,_,rfl⟩:=cX.1 hy;rfl
theorem aeY(l:aA aq)(k:aq):(Lib.rs l).filter (wS.keep k)=Lib.rs (fm.without l k):=by unfold Lib.rs fm.without;rw[o7];congr 1;apply kT;intro x _;show(!List.beq (aC x) (aC k))=_;rw[Lib.fu]
theorem ok(l:aA aq)(k:aq)(hl:l.length<=1048576):c (Lib.rs l) k=ai/\v (Lib.rs l) k=Lib.rs (fm.without l k):=by have h1:=tf.ok (Lib.rs l) (by rw[e6];omega);have h2:=wS.ok (Lib.rs l) k (aiE l) (by rw[e6];omega);rw[aeY]at h2;exact out _ _ (by unfold vo b;rw[h1.1,h1.2,h2.1,h2.2,au,au])
end ka

namespace vV
open Lib (rr ri)
open mH (gs G3)
theorem ok(s:aA (aA aw))(a:aw)(key:aq)(hf:jm.oN s)(hk:key.size<=140737488355328):c (rr s) a key=ai/\v (rr s) a key=mH.val s a key:=by
 refine out _ _ _ ?_;have h2:=pN.ok s a hf;unfold vo b mH.val;rw[h2.1,h2.2,au];cases cg:fG.oj s a with
 |false=>rfl
 |true=>
  obtain⟨hs,ha,hq⟩:=dx.uJ cg;rw[a_,ax,au,gX];have:=Lib.g8 (λm (t:aF×aw)=>l5 Lib.cW (λ(_:aq) (y6:aw) (_:aQ) (_ _:aw)=>ah y6) m key t.2 (rr s) s.length (t.1:aw)) (λt=>s.length-t.1) (λt=>t.1<=s.length) (λt=>ah (gs key t.1 (s.drop t.1) t.2)) (λm t ht=>by
   obtain⟨i,x⟩:=t;dsimp only at ht⊢;by_cases h:i<s.length
   ·right;have hp:=qI.ok i key (by omega) hk;have sV:=gn.CW i key;obtain⟨J6,hn⟩:=hq _ (bC h);have hb:gn.pl i key<s[i].length:=by omega
    refine⟨(i+1,bif decide (s[i].getD (gn.pl i key) 0<x)then s[i].getD (gn.pl i key) 0 else x),by dsimp only;omega,by dsimp only;omega,by rw[<-G3 key s i h x], ?_⟩
    simp only[l5,r5,gX,Lib.dn,h,aN,au,hp.1,hp.2,Lib.cF,aM,Lib.dY,J9 h,jx,Lib.gW,J6,sV,QG hb,bF,Lib.c5 h (by omega:s.length<=9223372036854775807)];rw[dx.oO hb];unfold iu;rw[ax];by_cases hd:s[i][gn.pl i key]<x
    ·rw[bz hd,aE hd,au]
    ·rw[bH hd,aK hd,ax]
   ·left;have:i=s.length:=by omega
    subst this;simp only[l5,r5,gX,Lib.dn,bm,bj,ax,dm,gs]) Lib.cW (0,15) (bI _) (cJ (by dsimp only;omega))
  simpa using this
end vV

namespace zr
open Lib (rr rs)
open fm (has without gK lL wv iw pE)
open jA (eS Li nE sO)
open e8 (C_ zer SR VQ nF wg kL LP tD CS)
theorem ok(w m:aA aq)(s:aA (aA aw))(a:aw)(key:aq)(hw:w.length<=1048576)(hm:m.length<=1048576)(hf:jm.oN s)(hk:key.size<=140737488355328):
  c (rs w) (rs m) (rr s) a key=ai/\v (rs w) (rs m) (rr s) a key=(rs (e8.val w m s a key).1,rs (e8.val w m s a key).2.1,rr (e8.val w m s a key).2.2.1,(e8.val w m s a key).2.2.2.1,(e8.val w m s a key).2.2.2.2):=by
 refine out _ _ _ _ _ ?_;have h1:=ju.ok w m s a hw hm hf;have h2:=o_.ok w m s a hw hm hf;have h3:=iL.ok s a key hf hk;have h5:=sH.ok m key (by omega);have h6:=ka.ok w key hw;have h7:=ka.ok m key hm;have sf:=LP (a:=a) (key:=key) hf;unfold vo b;simp only[Lib.lt,h1.1,h1.2,h2.1,h2.2,au];unfold e8.val;cases hp:sO w m s a with
 |false=>rfl
 |true=>
  obtain⟨p1,p2,p3,p4⟩:=CS hp;rw[o_.iS,bc];cases Aj:eS key with
  |false=>rfl
  |true=>
   have A1:=kL Aj;have l6:=iw (l:=w) (k:=key);have l7:=iw (l:=m) (k:=key);simp only[a_,ax,au,h3.1,h3.2,h5.1,h5.2,h6.1,h6.2,h7.1,h7.2,C_,zer,e6,pO,bA];rw[Lib.cj (n:=(without w key).length+1) (by omega) (by omega),Lib.cj (n:=(without m key).length+1) (by omega) (by omega)];simp only[au];cases hA:has w key with
   |true=>
    have hB:has m key=false:=by rw[lL];intro XN;have:=(wg.1 p1).2;rw[eQ]at this;exact this.2.2 key (gK.1 hA) key XN rfl
    have jB:=pE hA;rw[hB,ax,au,aE (show((without w key++[key]).length:aw)<=2 by rw[bP,bA];omega)];rfl
   |false=>
    rw[wv hA];cases hB:has m key with
    |true=>rfl
    |false=>
     simp only[ax];rw[show decide (((w++[key]).length:aw)<=2)=decide ((w++[key]).length<=2)by rw[ch];omega];cases hC:decide ((w++[key]).length<=2)with
     |true=>rfl
     |false=>
      have hlw:(w++[key]).length=3:=by have:=lX hC;rw[bP,bA]at this⊢;omega
      have hfm:(w++[key]).getD 0 ⟨#[]⟩∈w++[key]:=tD (by omega);have K7:((w++[key]).getD 0 ⟨#[]⟩).size<=30:=by
       rcases ba.1 hfm with h|h
       ·exact(kL (nF p1 (bM _ h))).2
       ·rw[aZ]at h;rw[h];exact A1.2
      have g1:=vV.ok (dx.val s a key).1 (dx.val s a key).2 ((w++[key]).getD 0 ⟨#[]⟩) sf (by omega);have i1:g7 1 ((w++[key]).length:aw) ((w++[key]).length:aw)=true:=by rw[hlw];rfl
      simp only[ax,aE (show(0:aw)<((w++[key]).length:aw)by omega),i1,au,SR,VQ,zer,C_,e6,Lib.cj (n:=m.length+1) (b:=16) (by omega) (by omega),g1.1,g1.2];rw[show decide ((m.length:aw)<4)=decide (m.length<4)by rw[ch];omega];cases hD:decide (m.length<4)with
      |true=>rfl
      |false=>
       have hm4:m.length=4:=by have:=lX hD;omega
       have hmm:m.getD 0 ⟨#[]⟩∈m:=tD (by omega);have hms:=(kL (nF p1 (bN _ hmm))).2;have g2:=vV.ok (dx.val s a key).1 (dx.val s a key).2 (m.getD 0 ⟨#[]⟩) sf (by omega);have i2:g7 1 (m.length:aw) (m.length:aw)=true:=by simp[g7];omega
       have G9:m.tail.length=3:=by rw[W6];omega
       simp only[ax,aE (show(0:aw)<(m.length:aw)by omega),i2,au,C_,Lib.cj (n:=m.tail.length+1) (b:=16) (by omega) (by omega),g2.1,g2.2];cases decide (mH.val (dx.val s a key).1 (dx.val s a key).2 ((w++[key]).getD 0 ⟨#[]⟩)>mH.val (dx.val s a key).1 (dx.val s a key).2 (m.getD 0 ⟨#[]⟩))<;>rfl
end zr

namespace u5
open Lib (rr rs)
open fm (without)
theorem ok(w m:aA aq)(s:aA (aA aw))(a:aw)(key:aq)(hw:w.length<=1048576)(hm:m.length<=1048576)(hf:jm.oN s):c (rs w) (rs m) (rr s) a key=ai/\v (rs w) (rs m) (rr s) a key=(rs (without w key),rs (without m key),rr s,a):=by have h1:=ju.ok w m s a hw hm hf;have h2:=ka.ok w key hw;have h3:=ka.ok m key hm;exact out _ _ _ _ _ (by unfold vo b;rw[h1.1,h1.2,h2.1,h2.2,h3.1,h3.2];rfl)
end u5

namespace jl
open Lib (rc Cl)
open il (lA jn lid Ts)
theorem ok(i0:aw)(q1 q2 q3 q4:aQ)(i5:aw)(q6:aQ)(cl:aA Cl)(i8:aw)(x:Cl)(cs:cl.Pairwise λa b=>a.id<b.id)(hn:lA cl x.id=ak)(hl:cl.length<=1048576):
  c i0 q1 q2 q3 q4 i5 q6 (rc cl) i8 x.id x.k x.fe x.fr x.sta x.mM x.age=ai/\v i0 q1 q2 q3 q4 i5 q6 (rc cl) i8 x.id x.k x.fe x.fr x.sta x.mM x.age=(i0,q1,q2,q3,q4,i5,q6,rc (jn cl x),i8):=by
 refine out _ _ _ _ _ _ _ _ _ _ _ _ _ _ _ _ ?_;unfold vo b;have hrl:=fg cl
 have:=tY (lid x.id) (rc cl) (λm (i:aF)=>l2 Lib.cW (λDx FA Eg wy Kd Ke V4 WK QL QM H0 QN QO QP QQ Qk V5=>bif(decide (0<=Dx)&&decide (Dx<=(↑(bT V5):aw))&&cy (bT V5+bT (aD (aP [Ck.i ao,Ck.s,Ck.i ao,Ck.i ao,Ck.i ao,Ck.s,Ck.i ao] 1) 0 [CV.i ao Kd,CV.s Ke,CV.i ao V4,CV.i ao WK,CV.i ao QL,CV.s QM,CV.i ao H0])) 72)then(ah (FA,QN,QO,QP,QQ,Eg,Qk,(Pu.tI V5 (aW Dx) (aD (aP [Ck.i ao,Ck.s,Ck.i ao,Ck.i ao,Ck.i ao,Ck.s,Ck.i ao] 1) 0 [CV.i ao Kd,CV.s Ke,CV.i ao V4,CV.i ao WK,CV.i ao QL,CV.s QM,CV.i ao H0])),wy))else(aj)) m (i:aw) i0 i5 i8 x.id x.k x.fe x.fr x.sta x.mM x.age q1 q2 q3 q4 q6 (rc cl))
  (λa=>bif decide ((a:aw)<=((rc cl).length:aw))then ah (i0,q1,q2,q3,q4,i5,q6,Pu.tI (rc cl) a [Cl.row x],i8)else aj)
  (λm i h hp=>by
   have mJ:decide (bF (ar (rc cl) i 0)<x.id)=true:=by rw[Lib.cL h];exact hp
   simp only[l2,r2,Lib.dn,h,aN,Lib.cF,aM,au,Lib.dY,mJ,Lib.c5 h (by omega:(rc cl).length<=9223372036854775807)])
  (λm i h hp=>by
   have mJ:decide (bF (ar (rc cl) i 0)<x.id)=false:=by rw[Lib.cL h];exact hp
   simp only[l2,r2,Lib.dn,h,aN,Lib.cF,aM,bc,js,au,ax,Lib.dY,mJ,Lib.iM,bA,Lib.cj (n:=(rc cl).length+1) (b:=72) (by omega) (by omega)];rfl)
  (λm=>by simp only[l2,r2,Lib.dn,bm,bj,aN,Lib.cF,aM,bc,js,au,ax,Lib.dY,Lib.iM,bA,Lib.cj (n:=(rc cl).length+1) (b:=72) (by omega) (by omega)];rfl) Lib.cW (cJ (by omega))
 refine this.trans ?_;have hle:=Fv (lid x.id) (rc cl);rw[aE (by omega),au];unfold Pu.tI;rw[Ts cs hn]
end jl

namespace R7
open Lib (rr rs re rf rc Px Cl Fe En el)
open fm (without)
open jA (eS)
open pe (jb)
open il (hit sM put HW NW Fl lA jn rT mL Bp)
open fZ (fT)
open qZ (g6 od)
def res(q:Px×aw):aw×aQ×aQ×aQ×aQ×aw×aQ×aQ×aw×aw:=(q.1.now,re q.1.en,rs q.1.w,rs q.1.m,rr q.1.s,q.1.a,rf q.1.fe,rc q.1.cl,q.1.hits,q.2)
theorem Au(fe:aA Fe)(key:aq):rf fe++aD (aP [Ck.s,Ck.s,Ck.i ao,Ck.i ao,Ck.i ao] 1) 0 [CV.s key,CV.s {data:= #[]},CV.i ao 1,CV.i ao 0,CV.i ao 0]=rf (fe++[rT key]):=by unfold Lib.rf;rw[dj];rfl
theorem Bs{p:Px}{i:aF}(hi:i<p.en.length)(ho:g6 p):bJ (p.now-(el p.en i).st)=p.now-(el p.en i).st:=by have h1:=ho.now;have h2:=(nb.Ea (ho.en _ (kq hi))).2.1;exact dg (by omega) (by omega)
theorem ok(p:Px)(id:aw)(key:aq)(hp:p.Fit 1048576)(hkz:key.size<=140737488355328):c p.now (re p.en) (rs p.w) (rs p.m) (rr p.s) p.a (rf p.fe) (rc p.cl) p.hits id key=ai/\v p.now (re p.en) (rs p.w) (rs p.m) (rr p.s) p.a (rf p.fe) (rc p.cl) p.hits id key=res (il.ask p id key):=by
 have h1:=iP.ok p hp;have h2:=OO.ok p hp;have oc:=hp.cl;have HZ:=hp.fe;have hen:=hp.en;have K7:jm.oN p.s:=⟨hp.s.1,hp.s.2.1⟩
 have h3:=zp.ok p.now (re p.en) (rs p.w) (rs p.m) (rr p.s) p.a (rf p.fe) p.cl p.hits id oc;refine out _ _ _ _ _ _ _ _ _ _ _ ?_;unfold vo b il.ask;simp only[Lib.lt,h1.1,h1.2,h2.1,h2.2,au];cases cg:jb p with
 |false=>rfl
 |true=>
 have ho:g6 p:=od.1 cg;rw[a_,ax,bc,show lz.v id 1 9=decide (1<=id/\id<=9)from fG.eO _ _ _];cases I_:decide (1<=id/\id<=9)with
 |false=>rfl
 |true=>
 rw[a_,ax,bc,o_.iS];cases hko:eS key with
 |false=>rfl
 |true=>
 have A1:=e8.kL hko;rw[a_,ax,bc,h3.1,au,h3.2];cases hhi:lA p.cl id with
 |true=>rfl
 |false=>
 rw[ax,bR,bc,fg];by_cases h6:p.cl.length=6
 ·rw[aE (show(p.cl.length:aw)=6 by omega),au,aK (show¬p.cl.length<6 by omega)];rfl
 have hc6:=ho.cll;rw[aK (show¬(p.cl.length:aw)=6 by omega),ax,aE (show p.cl.length<6 by omega),au];have h4:=pU.ok (re p.en) key (by rw[de];omega);have h5:=Ky.ok p.now (re p.en) (rs p.w) (rs p.m) (rr p.s) p.a (rf p.fe) (rc p.cl) p.hits key (by rw[dN];omega);have h7:=zr.ok p.w p.m p.s p.a key hp.w hp.m K7 (by omega);have h8:=iL.ok p.s p.a key K7 (by omega);have h9:=u5.ok p.w p.m p.s p.a key hp.w hp.m K7;have Qx:=pM.ok (re p.en) key (fZ.Ss _) (by rw[de];omega);rw[fZ.GR]at Qx;have P0:=λ(i0:aw) (q1 q2 q3 q4:aQ) (i5:aw) (q6:aQ) (i8:aw) (x:Cl) (hx:x.id=id)=>jl.ok i0 q1 q2 q3 q4 i5 q6 p.cl i8 x ho.cs (by rw[hx];exact hhi) oc;rw[h4.1,au,h4.2,de];have aza:p.hits<=1000000000:=ho.hits.2;have arZ:0<=p.hits:=ho.hits.1;have sV:=ho.fl;have ajb:iu ak (bJ (p.hits+1)) 1000000000=bif decide (p.hits<1000000000)then p.hits+1 else p.hits:=by
  rw[dg (by omega) (by omega)];unfold iu;rw[ax];by_cases h:p.hits<1000000000
  ·rw[aE h,au,bH (by omega)]
  ·rw[aK h,ax,bz (by omega)];omega
 have hfp:∀i (hi:i<p.fe.length),qF.p (rf p.fe) key i=Fl key p.fe[i]:=λi hi=>by unfold qF.p Fl Ia.v;rw[Dj hi,Qi hi,eN hi];simp only[bw,bF,Lib.fu];cases decide (p.fe[i].k=key)<;>rfl
 have hep:∀i (hi:i<p.en.length),pU.p (re p.en) key i=decide (p.en[i].k=key):=λi hi=>by unfold pU.p;rw[oA hi,eN hi];exact Lib.fu
 have wn:∀n:aF,n<=1048576->bJ ((n:aw)+1)=(n:aw)+1:=λn hn=>dg (by omega) (by omega);have cN:∀(n:aF) (fe:aA Fe),n<fe.length->bw (ar (rf fe) n 1)=(el fe n).t:=λn fe hn=>by rw[Dw hn];rfl
 have Jh:cy (p.fe.length+1) 56=true:=Lib.cj (by omega) (by omega);have dL:∀key:aq,bT (aD (aP [Ck.s,Ck.s,Ck.i ao,Ck.i ao,Ck.i ao] 1) 0 [CV.s key,CV.s {data:= #[]},CV.i ao 1,CV.i ao 0,CV.i ao 0])=1:=λ_=>rfl;rcases Bp p.fe (Fl key) _ hfp with ⟨f1,_,f2⟩|⟨j,hj,f1,_,f2⟩
 ·have f2:NW p.fe key=none:=f2;rw[dN,f1]at h5;rcases Bp p.en (λe=>decide (e.k=key)) _ hep with ⟨e1,e2,_⟩|⟨i,hi,e1,e2,_⟩
  ·have e2:HW p.en key=none:=e2;rw[e1,e2];unfold sM;rw[f2];dsimp only;by_cases Qy:p.fe.length=20
   ·rw[aK (show¬p.fe.length<20 by omega)];simp only[show decide ((-1:aw)≥0)=ak from rfl,ax,h5.1,h5.2,au,show decide ((-1:aw)<0)=ai from rfl,dN,aE (show(p.fe.length:aw)=20 by omega)];rfl
   ·have nh:=P0 p.now (re p.en) (rs p.w) (rs p.m) (rr (dx.val p.s p.a key).1) (dx.val p.s p.a key).2 (rf (p.fe++[rT key])) p.hits ⟨id,key,(p.fe.length:aw)+1,0,1,(el (p.fe++[rT key]) p.fe.length).t,0⟩ rfl;dsimp only at nh;rw[aE (show p.fe.length<20 by omega)];simp only[show decide ((-1:aw)≥0)=ak from rfl,ax,h5.1,h5.2,au,show decide ((-1:aw)<0)=ai from rfl,dN,aK (show¬(p.fe.length:aw)=20 by omega),h8.1,h8.2,dL,Jh,Au,bP,bA,Lib.dY,Lib.dn,aE (show p.fe.length<p.fe.length+1 by omega),cN p.fe.length (p.fe++[rT key]) (by simp),wn _ HZ,nh.1,nh.2];rfl
  ·have e2:HW p.en key=ah (el p.en i):=e2;rw[e1,e2];have Ai:GG.v (bw (ar (re p.en) i 0)) (bF (ar (re p.en) i 1)) (bF (ar (re p.en) i (1+1))) (bw (ar (re p.en) i (1+1+1))) p.now=mL (el p.en i) p.now:=by rw[oA hi,qw hi,qx hi,qy hi];rfl
   have g1:bF (ar (re p.en) i 1)=(el p.en i).st:=by rw[qw hi];rfl
   have g3:bw (ar (re p.en) i (1+1+1))=(el p.en i).bo:=by rw[qy hi];rfl
   dsimp only;cases Wt:mL (el p.en i) p.now with
   |true=>
    have g0:bw (ar (re p.en) i 0)=(el p.en i).k:=by rw[oA hi];rfl
    have g2:bF (ar (re p.en) i (1+1))=(el p.en i).li:=by rw[qx hi];rfl
    have Ai:GG.v (el p.en i).k (el p.en i).st (el p.en i).li (el p.en i).bo p.now=true:=Wt;have hw:=Bs (p:=p) hi ho;have nh:=P0 p.now (re p.en) (rs (e8.val p.w p.m p.s p.a key).1) (rs (e8.val p.w p.m p.s p.a key).2.1) (rr (e8.val p.w p.m p.s p.a key).2.2.1) (e8.val p.w p.m p.s p.a key).2.2.2.1 (rf p.fe) p.hits ⟨id,key,0,(el p.en i).st,2,(el p.en i).bo,p.now-(el p.en i).st⟩ rfl;dsimp only at nh;simp only[aE (show((i:aF):aw)≥0 by omega),Lib.cF,Lib.dn,hi,aN,aM,au,Lib.dY,g0,g1,g2,g3,Ai,h7.1,h7.2,hw,nh.1,nh.2,ajb,de];rfl
   |false=>
    rw[Wt]at Ai;unfold sM;rw[f2];dsimp only;by_cases Qy:p.fe.length=20
    ·rw[aK (show¬p.fe.length<20 by omega)];simp only[aE (show((i:aF):aw)≥0 by omega),Lib.cF,Lib.dn,hi,aN,aM,au,ax,Lib.dY,de,Ai,h5.1,h5.2,show decide ((-1:aw)<0)=ai from rfl,dN,aE (show(p.fe.length:aw)=20 by omega)];rfl
    ·have nh:=P0 p.now (re (fT p.en key)) (rs (without p.w key)) (rs (without p.m key)) (rr (dx.val p.s p.a key).1) (dx.val p.s p.a key).2 (rf (p.fe++[rT key])) p.hits ⟨id,key,(p.fe.length:aw)+1,0,1,(el (p.fe++[rT key]) p.fe.length).t,0⟩ rfl;dsimp only at nh;rw[aE (show p.fe.length<20 by omega)];simp only[aE (show((i:aF):aw)≥0 by omega),Lib.cF,de,hi,aN,aM,Ai,h9.1,h9.2,Qx.1,Qx.2,ax,h5.1,h5.2,au,show decide ((-1:aw)<0)=ai from rfl,dN,aK (show¬(p.fe.length:aw)=20 by omega),h8.1,h8.2,dL,Jh,Au,bP,bA,Lib.dY,Lib.dn,aE (show p.fe.length<p.fe.length+1 by omega),cN p.fe.length (p.fe++[rT key]) (by simp),wn _ HZ,nh.1,nh.2];rfl
 ·have f2:NW p.fe key=ah j:=f2;rw[dN,f1]at h5;have nj:decide (((j:aF):aw)<0)=false:=aK (by omega);rcases Bp p.en (λe=>decide (e.k=key)) _ hep with ⟨e1,e2,_⟩|⟨i,hi,e1,e2,_⟩
  ·have e2:HW p.en key=none:=e2;rw[e1,e2];unfold sM;rw[f2];dsimp only;have nh:=P0 p.now (re p.en) (rs p.w) (rs p.m) (rr (dx.val p.s p.a key).1) (dx.val p.s p.a key).2 (rf p.fe) p.hits ⟨id,key,(j:aw)+1,0,1,(el p.fe j).t,0⟩ rfl;dsimp only at nh;simp only[show decide ((-1:aw)≥0)=ak from rfl,ax,h5.1,h5.2,au,nj,dN,h8.1,h8.2,Lib.dY,Lib.cF,Lib.dn,hj,aN,aM,cN j p.fe hj,wn j (by omega),nh.1,nh.2];rfl
  ·have e2:HW p.en key=ah (el p.en i):=e2;rw[e1,e2];have Ai:GG.v (bw (ar (re p.en) i 0)) (bF (ar (re p.en) i 1)) (bF (ar (re p.en) i (1+1))) (bw (ar (re p.en) i (1+1+1))) p.now=mL (el p.en i) p.now:=by rw[oA hi,qw hi,qx hi,qy hi];rfl
   have g1:bF (ar (re p.en) i 1)=(el p.en i).st:=by rw[qw hi];rfl
   have g3:bw (ar (re p.en) i (1+1+1))=(el p.en i).bo:=by rw[qy hi];rfl
   dsimp only;cases Wt:mL (el p.en i) p.now with
   |true=>
    have g0:bw (ar (re p.en) i 0)=(el p.en i).k:=by rw[oA hi];rfl
    have g2:bF (ar (re p.en) i (1+1))=(el p.en i).li:=by rw[qx hi];rfl
    have Ai:GG.v (el p.en i).k (el p.en i).st (el p.en i).li (el p.en i).bo p.now=true:=Wt;have hw:=Bs (p:=p) hi ho;have nh:=P0 p.now (re p.en) (rs (e8.val p.w p.m p.s p.a key).1) (rs (e8.val p.w p.m p.s p.a key).2.1) (rr (e8.val p.w p.m p.s p.a key).2.2.1) (e8.val p.w p.m p.s p.a key).2.2.2.1 (rf p.fe) p.hits ⟨id,key,0,(el p.en i).st,2,(el p.en i).bo,p.now-(el p.en i).st⟩ rfl;dsimp only at nh;simp only[aE (show((i:aF):aw)≥0 by omega),Lib.cF,Lib.dn,hi,aN,aM,au,Lib.dY,g0,g1,g2,g3,Ai,h7.1,h7.2,hw,nh.1,nh.2,ajb,de];rfl
   |false=>rw[Wt]at Ai;unfold sM;rw[f2];dsimp only;have nh:=P0 p.now (re (fT p.en key)) (rs (without p.w key)) (rs (without p.m key)) (rr (dx.val p.s p.a key).1) (dx.val p.s p.a key).2 (rf p.fe) p.hits ⟨id,key,(j:aw)+1,0,1,(el p.fe j).t,0⟩ rfl;dsimp only at nh;simp only[aE (show((i:aF):aw)≥0 by omega),Lib.cF,de,hi,aN,aM,Ai,h9.1,h9.2,Qx.1,Qx.2,ax,h5.1,h5.2,au,nj,dN,h8.1,h8.2,Lib.dY,Lib.dn,hj,cN j p.fe hj,wn j (by omega),nh.1,nh.2];rfl
end R7

namespace wQ
open Lib (re el En)
open il (HW)
def res(o:az En):aq×aw×aw×aq×aX:=match o with|some e=>(e.k,e.st,e.li,e.bo,ai)|none=>(⟨#[]⟩,0,0,⟨#[]⟩,ak)
theorem ok(now:aw)(en:aA En)(q2 q3 q4:aQ)(q5:aw)(q6 q7:aQ)(q8:aw)(key:aq)(hl:en.length<=1048576):c now (re en) q2 q3 q4 q5 q6 q7 q8 key=ai/\v now (re en) q2 q3 q4 q5 q6 q7 q8 key=res (HW en key):=by
 refine out _ _ _ _ _ _ _ _ _ _ ?_;unfold vo b HW
 have go:∀(d i n:aF),en.length-i<=d->i<=en.length->d<n->
   l2 Lib.cW (λ(_:aq) (Dx:aX) (_ _:aw) (_ _ _ _:aQ) (_:aw) (_ _:aQ) (_:aw) (QN:aq) (QO QP:aw) (QQ:aq)=>ah (QN,QO,QP,QQ,Dx)) (λ(_:aq) (_:aX) (_ _:aw) (_ _ _ _:aQ) (_:aw) (_ _:aQ) (_:aw) (_:aq) (_ _:aw) (_:aq)=>ah (({data:= #[]}:aq),0,0,({data:= #[]}:aq),ak)) n key ak (i:aw) now (re en) q2 q3 q4 q5 q6 q7 q8 ({data:= #[]}) 0 0 ({data:= #[]})=ah (res ((en.drop i).find? λe=>decide (e.k=key))):=by
  intro d
  induction d with
  |zero=>
   intro i n h1 h2 h3;obtain⟨n,rfl⟩:∃n',n=n'+1:=⟨n-1,by omega⟩
   have:i=en.length:=by omega
   subst this;simp only[l2,r2,de,Lib.dn,bm,bj,ax,dm];rfl
  |succ d ih=>
   intro i n h1 h2 h3;obtain⟨n,rfl⟩:∃n',n=n'+1:=⟨n-1,by omega⟩
   by_cases hi:i<en.length
   ·rw[dF hi];have g:=ih (i+1) n (by omega) hi (by omega);simp only[l2,r2,de,Lib.dn,hi,aN,Lib.cF,aM,au,Lib.dY,oA hi,qw hi,qx hi,qy hi,bw,bF,Lib.fu,eN hi,Lib.c5 hi (by omega:en.length<=9223372036854775807)];cases hk:decide (en[i].k=key)with
    |true=>rw[au,List.find?_cons_of_pos (p:=λe:En=>decide (e.k=key)) hk];rfl
    |false=>rw[ax,Ko (p:=λe:En=>decide (e.k=key)) (by simp[hk])];exact g
   ·have:i=en.length:=by omega
    subst this;simp only[l2,r2,de,Lib.dn,bm,bj,ax,dm];rfl
 have:=go en.length 0 Lib.cW (by omega) (bI _) (cJ (by omega));rw[fa]at this;exact this
end wQ

namespace va
open Lib (rr rs)
open fm (without)
theorem ok(w m:aA aq)(s:aA (aA aw))(a:aw)(key:aq)(hw:w.length<=1048576)(hm:m.length<=1048576)(hf:jm.oN s):c (rs w) (rs m) (rr s) a key=ai/\v (rs w) (rs m) (rr s) a key=(rs (without w key),rs (without m key),rr s,a):=by have h1:=n8.ok s a hf;have h2:=pd.ok w key hw;have h3:=pd.ok m key hm;exact out _ _ _ _ _ (by unfold vo b;rw[h1.1,h1.2,h2.1,h2.2,h3.1,h3.2];rfl)
end va

namespace ql
open Lib (re el oA qw qx qy En)
open fZ (fT)
theorem ok(l:aA En)(k:aq)(hl:l.length<=2097152):c (re l) k=ai/\v (re l) k=re (fT l k):=by
 refine out _ _ ?_;unfold vo b;have key:=mb l.length (λn (i:aF) (x:aQ)=>l3 Lib.cW (λ(_:aQ) (_:aq) (_:aw) (y7:aQ)=>ah y7) n (re l) k (i:aw) x) (λi=>re (fT (l.take i) k)) (ah (re (fT l k))) (λn i hi=>by
  have hlen:(fT (l.take i) k).length<=i:=by refine di (eC ..) ?_;rw[eD];omega
  have e:fT (l.take (i+1)) k=fT (l.take i) k++(bif !decide ((el l i).k=k)then [el l i]else []):=by unfold fT;rw[cw hi,gz,eN hi];cases hd:decide (l[i].k=k)<;>simp[hd]
  rw[e];simp only[l3,r3,de,Lib.dn,hi,aN,Lib.cF,aM,au,Lib.dY,oA hi,qw hi,qx hi,qy hi,bw,bF,Lib.fu,pO,bA,Lib.c5 hi (by omega:l.length<=9223372036854775807)];rw[Lib.cj (by omega) (by omega),au];cases decide ((el l i).k=k)with
  |true=>rw[a_,ax,ax,dp]
  |false=>rw[bR,au,au];unfold Lib.re;rw[dj];rfl) (λn=>by
  simp only[l3,r3,de,Lib.dn,bm,bj,ax,dE]) Lib.cW 0 (bI _) (cJ (by omega))
 exact key
end ql

namespace lR
open Lib (rc el Cl)
open il (jn)
theorem tail(l:aA Cl)(x:Cl)(hl:l.length<=1048576)(c0:aA Cl)(hc:c0.length<=1048577):
  l9 Lib.cW (λ(_:aQ) (_ _:aw) (_:aq) (_ _ _:aw) (_:aq) (_:aw) (y:aQ)=>ah y) Lib.cW (rc l) 0 x.id x.k x.fe x.fr x.sta x.mM x.age (rc c0)=ah (rc (c0++l.filter λy=>decide (y.id>x.id))):=by
 refine Cn l (λy=>decide (y.id>x.id)) (λm (i:aF) acc=>l9 Lib.cW (λ(_:aQ) (_ _:aw) (_:aq) (_ _ _:aw) (_:aq) (_:aw) (y:aQ)=>ah y) m (rc l) (i:aw) x.id x.k x.fe x.fr x.sta x.mM x.age (rc acc)) (λacc=>ah (rc acc)) c0
  (λm i acc h ha hp=> ?_) (λm i acc h hp=> ?_) (λm acc=> ?_) Lib.cW (cJ (by omega))
 ·have mJ:decide (l[i].id>x.id)=true:=hp;simp only[l9,r9,fg,Lib.dn,h,aN,Lib.cF,aM,au,Lib.dY,rc0 h,rc1 h,rc2 h,rc3 h,rc4 h,rc5 h,rc6 h,bw,bF,mJ,pO,bA,Lib.c5 h (by omega:l.length<=9223372036854775807),Lib.cj (n:=acc.length+1) (b:=72) (by omega) (by omega)];unfold Lib.rc;rw[dj];rfl
 ·have mJ:decide (l[i].id>x.id)=false:=hp;simp only[l9,r9,fg,Lib.dn,h,aN,Lib.cF,aM,au,ax,Lib.dY,rc0 h,bF,mJ,Lib.c5 h (by omega:l.length<=9223372036854775807)]
 ·simp only[l9,r9,fg,Lib.dn,bm,bj,ax]
theorem ok(l:aA Cl)(x:Cl)(hl:l.length<=1048576):c (rc l) x.id x.k x.fe x.fr x.sta x.mM x.age=ai/\v (rc l) x.id x.k x.fe x.fr x.sta x.mM x.age=rc (jn l x):=by
 refine out _ _ _ _ _ _ _ _ ?_;unfold vo b
 have key:=Cn l (λy=>decide (y.id<x.id))
  (λm (i:aF) acc=>l3 Lib.cW (λ(Kc:aQ) (_ Md:aw) (HJ:aq) (Oz WJ QK:aw) (Dx:aq) (FA:aw) (Eg:aQ)=>bif(cy (bT Eg+bT (aD (aP [Ck.i ao,Ck.s,Ck.i ao,Ck.i ao,Ck.i ao,Ck.s,Ck.i ao] 1) 0 [CV.i ao Md,CV.s HJ,CV.i ao Oz,CV.i ao WJ,CV.i ao QK,CV.s Dx,CV.i ao FA])) 72)then(l9 Lib.cW (λ(_:aQ) (_ _:aw) (_:aq) (_ _ _:aw) (_:aq) (_:aw) (y39:aQ)=>ah y39) Lib.cW Kc 0 Md HJ Oz WJ QK Dx FA (Eg++aD (aP [Ck.i ao,Ck.s,Ck.i ao,Ck.i ao,Ck.i ao,Ck.s,Ck.i ao] 1) 0 [CV.i ao Md,CV.s HJ,CV.i ao Oz,CV.i ao WJ,CV.i ao QK,CV.s Dx,CV.i ao FA]))else(aj)) m (rc l) (i:aw) x.id x.k x.fe x.fr x.sta x.mM x.age (rc acc))
  (λacc=>bif cy (acc.length+1) 72 then l9 Lib.cW (λ(_:aQ) (_ _:aw) (_:aq) (_ _ _:aw) (_:aq) (_:aw) (y:aQ)=>ah y) Lib.cW (rc l) 0 x.id x.k x.fe x.fr x.sta x.mM x.age (rc (acc++[x]))else aj) []
  (λm i acc h ha hp=>by
   have mJ:decide (l[i].id<x.id)=true:=hp;have ha:acc.length<=i:=by simpa using ha
   simp only[l3,r3,fg,Lib.dn,h,aN,Lib.cF,aM,au,Lib.dY,rc0 h,rc1 h,rc2 h,rc3 h,rc4 h,rc5 h,rc6 h,bw,bF,mJ,pO,bA,Lib.c5 h (by omega:l.length<=9223372036854775807),Lib.cj (n:=acc.length+1) (b:=72) (by omega) (by omega)];unfold Lib.rc;rw[dj];rfl)
  (λm i acc h hp=>by have mJ:decide (l[i].id<x.id)=false:=hp;simp only[l3,r3,fg,Lib.dn,h,aN,Lib.cF,aM,au,ax,Lib.dY,rc0 h,bF,mJ,Lib.c5 h (by omega:l.length<=9223372036854775807)])
  (λm acc=>by simp only[l3,r3,fg,Lib.dn,bm,bj,ax,pO,bA];unfold Lib.rc;rw[dj];rfl) Lib.cW (cJ (by omega))
 refine key.trans ?_;have hf:=eC (λy:Cl=>decide (y.id<x.id)) l;rw[gD,Lib.cj (by omega) (by omega),au,tail l x hl _ (by simp;omega)];unfold jn;rw[cB]
end lR

namespace wM
open Lib (rr rs re rf rc Px Cl Fe En el)
open fm (without)
open jA (eS)
open pe (jb)
open ng (lD)
open il (hit sM put HW NW Fl lA jn rT mL)
open fZ (fT)
open qZ (g6 od)
open R7 (res Bs Au)
theorem find(k0 k1:aw->aq->aw->aw->aw->aQ->aQ->aQ->aQ->aw->aQ->aQ->aw->aw->aw->aw->aw->aw->aw->aQ->aQ->aQ->aQ->aQ->aQ->az R)(cl:aA Cl)(hl:cl.length<=1048576)(id:aw)(key:aq)(z4 z6:aw)(q7 q8 q9 D_:aQ)(V7:aw)(UL:aQ)(V8 z15 J0 z17 OA OB OC:aw)(UM UN UO UP UQ UR:aQ):
  (lA cl id=ak->l5 Lib.cW k0 k1 Lib.cW id key z4 0 z6 q7 q8 q9 D_ V7 UL (rc cl) V8 z15 J0 z17 OA OB OC UM UN UO UP UQ UR=k1 id key z4 (cl.length:aw) z6 q7 q8 q9 D_ V7 UL (rc cl) V8 z15 J0 z17 OA OB OC UM UN UO UP UQ UR)/\
  (lA cl id=ai->∃j:aw,l5 Lib.cW k0 k1 Lib.cW id key z4 0 z6 q7 q8 q9 D_ V7 UL (rc cl) V8 z15 J0 z17 OA OB OC UM UN UO UP UQ UR=k0 id key 1 j z6 q7 q8 q9 D_ V7 UL (rc cl) V8 OA OB OC OA OB OC UM UN UO UP UQ UR):=by
 have go:∀(d i n:aF),cl.length-i<=d->i<=cl.length->d<n->
   (((cl.drop i).any λx=>decide (x.id=id))=ak->l5 Lib.cW k0 k1 n id key z4 (i:aw) z6 q7 q8 q9 D_ V7 UL (rc cl) V8 z15 J0 z17 OA OB OC UM UN UO UP UQ UR=k1 id key z4 (cl.length:aw) z6 q7 q8 q9 D_ V7 UL (rc cl) V8 z15 J0 z17 OA OB OC UM UN UO UP UQ UR)/\
   (((cl.drop i).any λx=>decide (x.id=id))=ai->∃j:aw,l5 Lib.cW k0 k1 n id key z4 (i:aw) z6 q7 q8 q9 D_ V7 UL (rc cl) V8 z15 J0 z17 OA OB OC UM UN UO UP UQ UR=k0 id key 1 j z6 q7 q8 q9 D_ V7 UL (rc cl) V8 OA OB OC OA OB OC UM UN UO UP UQ UR):=by
  intro d
  induction d with
  |zero=>
   intro i n h1 h2 h3;obtain⟨n,rfl⟩:∃n',n=n'+1:=⟨n-1,by omega⟩
   have:i=cl.length:=by omega
   subst this;rw[dm];exact⟨λ_=>by simp only[l5,r5,fg,Lib.dn,bm,bj,ax],λh=>by cases h⟩
  |succ d ih=>
   intro i n h1 h2 h3;obtain⟨n,rfl⟩:∃n',n=n'+1:=⟨n-1,by omega⟩
   by_cases hi:i<cl.length
   ·rw[dF hi,List.any_cons];obtain⟨g1,g2⟩:=ih (i+1) n (by omega) hi (by omega);have e:l5 Lib.cW k0 k1 (n+1) id key z4 (i:aw) z6 q7 q8 q9 D_ V7 UL (rc cl) V8 z15 J0 z17 OA OB OC UM UN UO UP UQ UR=bif decide (cl[i].id=id)then k0 id key 1 (i:aw) z6 q7 q8 q9 D_ V7 UL (rc cl) V8 OA OB OC OA OB OC UM UN UO UP UQ UR else l5 Lib.cW k0 k1 n id key z4 ((i+1:aF):aw) z6 q7 q8 q9 D_ V7 UL (rc cl) V8 z15 J0 z17 OA OB OC UM UN UO UP UQ UR:=by simp only[l5,r5,fg,Lib.dn,hi,aN,Lib.cF,aM,au,Lib.dY,rc0 hi,bF,Lib.c5 hi (by omega:cl.length<=9223372036854775807)]
    rw[e];cases hc:decide (cl[i].id=id)with
    |true=>exact⟨λh=>by simp at h,λ_=>⟨i,rfl⟩⟩
    |false=>rw[ou,ax];exact⟨g1,g2⟩
   ·have:i=cl.length:=by omega
    subst this;rw[dm];exact⟨λ_=>by simp only[l5,r5,fg,Lib.dn,bm,bj,ax],λh=>by cases h⟩
 have:=go cl.length 0 Lib.cW (by omega) (bI _) (cJ (by omega));rw[fa]at this;exact this
def sc(key:aq):aA Fe->aF->aw×aq->aw×aq
 |[],_,s=>s|x::r,i,s=>sc key r (i+1) (bif Fl key x then((i:aw)+1,x.t)else s)
theorem scan(k0:aq->aX->aw->aw->aQ->aQ->aQ->aQ->aw->aQ->aQ->aw->aw->aw->aw->aw->aw->aw->aw->aq->aw->aw->aw->aq->aw->aQ->aQ->aQ->aQ->aQ->aQ->az R)(fe:aA Fe)(hl:fe.length<=1048576)(key:aq)(h0:aX)(z84:aw)(q85 q86 q87 q88:aQ)(z89:aw)(q91:aQ)(z92 z93 z94 z95 z96 z97 z98 z99:aw)(ZH:aq)(aaa aab aac:aw)(Zu Zv Zw Zx Zz ZA:aQ):
  Yd Lib.cW k0 Lib.cW key h0 0 z84 q85 q86 q87 q88 z89 (rf fe) q91 z92 z93 z94 z95 z96 z97 z98 z99 ZH 0 aaa aab ({data:= #[]}) aac Zu Zv Zw Zx Zz ZA=k0 key h0 (fe.length:aw) z84 q85 q86 q87 q88 z89 (rf fe) q91 z92 z93 z94 z95 z96 z97 z98 z99 ZH (sc key fe 0 (0,⟨#[]⟩)).1 aaa aab (sc key fe 0 (0,⟨#[]⟩)).2 aac Zu Zv Zw Zx Zz ZA:=by
 have go:∀(d i n:aF) (s:aw×aq),fe.length-i<=d->i<=fe.length->d<n->
   Yd Lib.cW k0 n key h0 (i:aw) z84 q85 q86 q87 q88 z89 (rf fe) q91 z92 z93 z94 z95 z96 z97 z98 z99 ZH s.1 aaa aab s.2 aac Zu Zv Zw Zx Zz ZA=k0 key h0 (fe.length:aw) z84 q85 q86 q87 q88 z89 (rf fe) q91 z92 z93 z94 z95 z96 z97 z98 z99 ZH (sc key (fe.drop i) i s).1 aaa aab (sc key (fe.drop i) i s).2 aac Zu Zv Zw Zx Zz ZA:=by
  intro d
  induction d with
  |zero=>
   intro i n s h1 h2 h3;obtain⟨n,rfl⟩:∃n',n=n'+1:=⟨n-1,by omega⟩
   have:i=fe.length:=by omega
   subst this;simp only[Yd,r22,dN,Lib.dn,bm,bj,ax,dm,sc]
  |succ d ih=>
   intro i n s h1 h2 h3;obtain⟨n,rfl⟩:∃n',n=n'+1:=⟨n-1,by omega⟩
   by_cases hi:i<fe.length
   ·rw[dF hi];unfold sc;rw[<-ih (i+1) n _ (by omega) hi (by omega)];have w:=Lib.c5 hi (by omega:fe.length<=9223372036854775807);have w2:((i+1:aF):aw)=(i:aw)+1:=by omega
    simp only[Yd,r22,dN,Lib.dn,hi,aN,Lib.cF,aM,au,Lib.dY,Dj hi,Dw hi,zW hi,bw,bF,Lib.fu,w,eN hi];unfold Fl;cases decide (fe[i].k=key)<;>cases decide (fe[i].sta=1)<;>simp only[js,wA,aM,lE,au,ax,w2]
   ·have:i=fe.length:=by omega
    subst this;simp only[Yd,r22,dN,Lib.dn,bm,bj,ax,dm,sc]
 have:=go fe.length 0 Lib.cW (0,⟨#[]⟩) (by omega) (bI _) (cJ (by omega));rw[fa]at this;exact this
theorem ZL(key:aq):∀(l:aA Fe) (i:aF) (s:aw×aq),(∀x∈l,Fl key x=ak)->sc key l i s=s:=by
 intro l;induction l with
 |nil=>intro i s _;rfl
 |cons x l ih=>intro i s h;unfold sc;rw[h x (by simp),ax];exact ih _ _ λy hy=>h y (by simp[hy])
theorem agz{fe:aA Fe}(hp:fe.Pairwise λf g=>lD g f=ak)(key:aq):sc key fe 0 (0,⟨#[]⟩)=match NW fe key with|some j=>((j:aw)+1,(el fe j).t)|none=>(0,⟨#[]⟩):=by
 have go:∀(l:aA Fe) (i:aF),l.Pairwise (λf g=>lD g f=ak)->sc key l i (0,⟨#[]⟩)=match l.findIdx? (Fl key)with|some j=>(((i+j:aF):aw)+1,(el l j).t)|none=>(0,⟨#[]⟩):=by
  intro l;induction l with
  |nil=>intro i _;rfl
  |cons x l ih=>
   intro i h;rw[qD]at h;unfold sc;rw[List.findIdx?_cons];cases hq:Fl key x with
   |true=>
    have hn:∀y∈l,Fl key y=false:=λy hy=>by
     have h2:=h.1 y hy;unfold Fl at hq⊢;unfold lD at h2;simp only[aL,bf]at hq;rw[hq.1,hq.2]at h2;simp only[Bool.and_eq_false_iff,fw]at h2⊢;rcases h2 with h2|h2
     ·exact .inr h2
     ·rcases h2 with h2|h2
      ·exact cK trivial h2
      ·exact .inl h2
    rw[au,ZL key l _ _ hn];rfl
   |false=>
    rw[ax,ih (i+1) h.2];cases l.findIdx? (Fl key)with
    |none=>rfl
    |some j=>simp only[dy,if_false,jf,show i+1+j=i+(j+1)by omega];rfl
 have:=go fe 0 hp;unfold NW;rw[this];cases fe.findIdx? (Fl key)with
 |none=>rfl
 |some j=>dsimp only;rw[bV]
theorem ok(p:Px)(id:aw)(key:aq)(hp:p.Fit 1048576)(hkz:key.size<=140737488355328):c p.now (re p.en) (rs p.w) (rs p.m) (rr p.s) p.a (rf p.fe) (rc p.cl) p.hits id key=ai/\v p.now (re p.en) (rs p.w) (rs p.m) (rr p.s) p.a (rf p.fe) (rc p.cl) p.hits id key=res (il.ask p id key):=by
 have h1:=fQ.ok p hp;have h2:=pe.ok p hp;have oc:=hp.cl;have HZ:=hp.fe;have hen:=hp.en;have K7:jm.oN p.s:=⟨hp.s.1,hp.s.2.1⟩
 refine out _ _ _ _ _ _ _ _ _ _ _ ?_;unfold vo b il.ask;simp only[Lib.lt,h1.1,h1.2,h2.1,h2.2,au];cases cg:jb p with
 |false=>rfl
 |true=>
 have ho:g6 p:=od.1 cg;rw[a_,ax,bc,show kl.v id 1 9=decide (1<=id/\id<=9)from fG.eO _ _ _];cases I_:decide (1<=id/\id<=9)with
 |false=>rfl
 |true=>
 rw[a_,ax,bc,show s8.v key=eS key from fG.eO _ _ _];cases hko:eS key with
 |false=>rfl
 |true=>
 have A1:=e8.kL hko;rw[a_,ax,bc,fg];have hc6:=ho.cll;by_cases h6:p.cl.length=6
 ·rw[aE (show(p.cl.length:aw)≥6 by omega),au,aK (show¬p.cl.length<6 by omega),wA];rfl
 rw[aK (show¬(p.cl.length:aw)≥6 by omega),ax,aE (show p.cl.length<6 by omega),js];cases hhi:lA p.cl id with
 |true=>obtain⟨j,hj⟩:=(find _ _ p.cl oc id key 0 p.now (re p.en) (rs p.w) (rs p.m) (rr p.s) p.a (rf p.fe) p.hits 0 0 0 p.now p.a p.hits (re p.en) (rs p.w) (rs p.m) (rr p.s) (rf p.fe) (rc p.cl)).2 hhi;refine hj.trans ?_;rfl
 |false=>
 refine((find _ _ p.cl oc id key 0 p.now (re p.en) (rs p.w) (rs p.m) (rr p.s) p.a (rf p.fe) p.hits 0 0 0 p.now p.a p.hits (re p.en) (rs p.w) (rs p.m) (rr p.s) (rf p.fe) (rc p.cl)).1 hhi).trans ?_;rw[bR,au];have h4:=wQ.ok p.now p.en (rs p.w) (rs p.m) (rr p.s) p.a (rf p.fe) (rc p.cl) p.hits key hen;have h7:=e8.ok p.w p.m p.s p.a key hp.w hp.m K7 (by omega);have h8:=dx.ok p.s p.a key K7 (by omega);have h9:=va.ok p.w p.m p.s p.a key hp.w hp.m K7;have Qx:=ql.ok p.en key (by omega);have Jo:=λx:Cl=>lR.ok p.cl x oc;have arZ:=ho.hits;have sV:=ho.fl;have yH:=agz ho.ap key;have Jh:cy (p.fe.length+1) 56=true:=Lib.cj (by omega) (by omega);have dL:∀key:aq,bT (aD (aP [Ck.s,Ck.s,Ck.i ao,Ck.i ao,Ck.i ao] 1) 0 [CV.s key,CV.s {data:= #[]},CV.i ao 1,CV.i ao 0,CV.i ao 0])=1:=λ_=>rfl;have Nu:(el (p.fe++[rT key]) p.fe.length).t=⟨#[]⟩:=by rw[eN (by simp),List.getElem_append_right (by omega)];simp[rT]
 rw[h4.1,h4.2,au];cases he:HW p.en key with
 |some e=>
  have afi:e∈p.en:=qC he;obtain⟨i,hi,hie⟩:=c7 afi;dsimp only[wQ.res];rw[au,<-vR.eq,show GG.v e.k e.st e.li e.bo p.now=mL e p.now from rfl];cases Ai:mL e p.now with
  |true=>
   have hw:bJ (p.now-e.st)=p.now-e.st:=by have:=Bs (p:=p) hi ho;rwa[eN hi,hie]at this
   have hj:=Jo ⟨id,key,0,e.st,2,e.bo,p.now-e.st⟩;dsimp only at hj;rw[au,h7.1,h7.2,au,au,hw,hj.1,hj.2,au,au];unfold res hit;cases hh:decide (p.hits<1000000000)with
   |true=>rw[bf]at hh;rw[au,dg (by omega) (by omega)];rfl
   |false=>rfl
  |false=>
   rw[ax,ax];refine(scan _ p.fe HZ key ai p.now (re p.en) (rs p.w) (rs p.m) (rr p.s) p.a (rc p.cl) p.hits 0 0 0 p.now p.a p.hits id key 0 1 0 (re p.en) (rs p.w) (rs p.m) (rr p.s) (rf p.fe) (rc p.cl)).trans ?_;rw[yH];unfold sM;cases hoi:NW p.fe key with
   |none=>
    dsimp only;by_cases Qy:p.fe.length=20
    ·rw[aK (show¬p.fe.length<20 by omega)];simp only[aN,au,dN,aE (show(p.fe.length:aw)≥20 by omega)];rfl
    ·rw[aE (show p.fe.length<20 by omega)];have hj:=Jo ⟨id,key,(p.fe.length:aw)+1,0,1,⟨#[]⟩,0⟩;dsimp only at hj;have hlen:((p.fe.length+1:aF):aw)=(p.fe.length:aw)+1:=by omega
     simp only[aN,au,ax,dN,aK (show¬(p.fe.length:aw)≥20 by omega),dL,Jh,Qx.1,Qx.2,h9.1,h9.2,h8.1,h8.2,Au,bP,bA,hlen,hj.1,hj.2];unfold res put;rw[Nu];rfl
   |some j=>dsimp only;have hj:=Jo ⟨id,key,(j:aw)+1,0,1,(el p.fe j).t,0⟩;dsimp only at hj;simp only[aK (show¬(j:aw)+1=0 by omega),au,ax,Qx.1,Qx.2,h9.1,h9.2,h8.1,h8.2,hj.1,hj.2];rfl
 |none=>
  dsimp only[wQ.res];rw[ax];refine(scan _ p.fe HZ key ak p.now (re p.en) (rs p.w) (rs p.m) (rr p.s) p.a (rc p.cl) p.hits 0 0 0 p.now p.a p.hits id key 0 1 0 (re p.en) (rs p.w) (rs p.m) (rr p.s) (rf p.fe) (rc p.cl)).trans ?_;rw[yH];unfold sM;cases hoi:NW p.fe key with
  |none=>
   dsimp only;by_cases Qy:p.fe.length=20
   ·rw[aK (show¬p.fe.length<20 by omega)];simp only[aN,au,dN,aE (show(p.fe.length:aw)≥20 by omega)];rfl
   ·rw[aE (show p.fe.length<20 by omega)];have hj:=Jo ⟨id,key,(p.fe.length:aw)+1,0,1,⟨#[]⟩,0⟩;dsimp only at hj;have hlen:((p.fe.length+1:aF):aw)=(p.fe.length:aw)+1:=by omega
    simp only[aN,au,ax,dN,aK (show¬(p.fe.length:aw)≥20 by omega),dL,Jh,h8.1,h8.2,Au,bP,bA,hlen,hj.1,hj.2];unfold res put;rw[Nu];rfl
  |some j=>dsimp only;have hj:=Jo ⟨id,key,(j:aw)+1,0,1,(el p.fe j).t,0⟩;dsimp only at hj;simp only[aK (show¬(j:aw)+1=0 by omega),au,ax,h8.1,h8.2,hj.1,hj.2];rfl
end wM

namespace vd
open Lib (rr rs re rf rc Px el)
open pe (jb)
theorem ok(p:Px)(f:aw)(hp:p.Fit 1048576):c p.now (re p.en) (rs p.w) (rs p.m) (rr p.s) p.a (rf p.fe) (rc p.cl) p.hits f=ai/\v p.now (re p.en) (rs p.w) (rs p.m) (rr p.s) p.a (rf p.fe) (rc p.cl) p.hits f=gu.sW p f:=by
 have h:=pe.ok p hp;have hf:=hp.fe;refine out _ _ _ _ _ _ _ _ _ _ ?_;unfold vo b gu.sW;rw[h.1,h.2,au,dN,dg (x:=(p.fe.length:aw)-1) (by omega) (by omega),show kl.v f 0 ((p.fe.length:aw)-1)=decide (0<=f/\f<=(p.fe.length:aw)-1)from fG.eO _ _ _];cases jb p with
 |false=>rfl
 |true=>
  cases hd:decide (0<=f/\f<=(p.fe.length:aw)-1)with
  |false=>rfl
  |true=>
   have:=cu hd;obtain⟨n,rfl⟩:∃n:aF,f=(n:aw):=⟨f.toNat,by omega⟩
   have hn:n<p.fe.length:=by omega
   simp only[au,bc,Lib.cF,Lib.dn,hn,aN,aM,Lib.dY,zW hn,bF]
end vd

namespace QR
theorem put(s:aw)(t q:aq)(ht:(t.size:aw)<=400)(hs:1<=s/\s<=3):DJ.v s t [] q=bif decide (s=1)&&(decide (1<=q.size/\q.size<=40)&&decide (t.size+q.size<=400))then(s,t++q,[],ai)else(s,t,[],ak):=by
 unfold DJ.v;have cg:lK.v s t []=true:=by unfold lK.v lK.rest;rw[aE hs,aE (show t.size<=400 by omega)];rfl
 by_cases h1:s=1
 ·by_cases h2:1<=q.size/\q.size<=40
  ·by_cases h3:t.size+q.size<=400
   ·rw[bz ⟨cg,h1,h2.1,h2.2,h3⟩,aE h1,aE h2,aE h3];rfl
   ·rw[bH (by omega),aK h3];simp
  ·rw[bH (by omega),aK h2];simp
 ·rw[bH (by simp[h1]),aK h1];rfl
end QR

namespace sI
open Lib (rr rs re rf rc Px Cl el)
open uQ (ec nU lr)
theorem ok(p:Px)(f:aF)(st:aw)(hf:f<p.fe.length)(hl:p.fe.length<=2097152)(hc:p.cl.length<=2097152):
  c p.now (re p.en) (rs p.w) (rs p.m) (rr p.s) p.a (rf p.fe) (rc p.cl) p.hits (f:aw) st=ai/\v p.now (re p.en) (rs p.w) (rs p.m) (rr p.s) p.a (rf p.fe) (rc p.cl) p.hits (f:aw) st=(p.now,re p.en,rs p.w,rs p.m,rr p.s,p.a,rf p.fe,rc (nU p.cl f st (el p.fe f).t),p.hits):=by
 refine out _ _ _ _ _ _ _ _ _ _ _ ?_;unfold vo b;have key:=nN Cl.row p.cl (λ_ c=>ec f st (el p.fe f).t c) (λn (i:aF) x=>l1 Lib.cW (λ(_ _ _ WJ QK Dx:aw) (FA Eg wy Kd Ke V4:aQ)=>ah (WJ,FA,Eg,wy,Kd,QK,Ke,V4,Dx)) n (f:aw) st (i:aw) p.now p.a p.hits (re p.en) (rs p.w) (rs p.m) (rr p.s) (rf p.fe) x) (λx=>ah (p.now,re p.en,rs p.w,rs p.m,rr p.s,p.a,rf p.fe,x,p.hits)) (λn i L h h2 hL wa=> ?_) (λn L hL=> ?_) Lib.cW (cJ (by omega))
 ·rw[lr]at key;exact key
 ·have e2:ar (L.map Cl.row) i 2=CV.i ao p.cl[i].fe:=by rw[eZ _ L i _ h2,wa];rfl
  have e4:ar (L.map Cl.row) i 4=CV.i ao p.cl[i].sta:=by rw[eZ _ L i _ h2,wa];rfl
  have s1:eJ (L.map Cl.row) i 5 [CV.s (el p.fe f).t]=(L.set i {p.cl[i]with mM:=(el p.fe f).t}).map Cl.row:=kS Cl.row L i 5 _ _ h2 (by rw[wa];rfl);have h3:i<(L.set i {p.cl[i]with mM:=(el p.fe f).t}).length:=by simpa using h2
  have s2:eJ ((L.set i {p.cl[i]with mM:=(el p.fe f).t}).map Cl.row) i 4 [CV.i ao st]=((L.set i {p.cl[i]with mM:=(el p.fe f).t}).set i {p.cl[i]with sta:=st,mM:=(el p.fe f).t}).map Cl.row:=kS Cl.row _ i 4 _ _ h3 (by rw[kI];rfl);simp only[l1,r1,Lib.dn,h2,hf,bU,cE,aN,Lib.cF,aM,au,Lib.dY,e2,e4,bF,s1,s2,pK,dN,Dw hf,bw,Lib.c5 h (by omega:p.cl.length<=9223372036854775807),dg (x:=(f:aw)+1) (by omega) (by omega)];unfold ec;cases decide (p.cl[i].fe=(f:aw)+1)with
  |false=>rw[lE,ax,ax,<-wa,fB]
  |true=>
   cases decide (p.cl[i].sta=1)with
   |false=>rw[bc,au,ax,ax,<-wa,fB]
   |true=>rw[bc,au,au,au]
 ·simp only[l1,r1,bU,hL,Lib.dn,bm,bj,ax]
end sI

namespace DM
open Lib (rr rs re rf rc Px el)
open gu (sW CY told iT nY iR yp)
theorem ok(p:Px)(f:aw)(q:aq)(hp:p.Fit 1048576):c p.now (re p.en) (rs p.w) (rs p.m) (rr p.s) p.a (rf p.fe) (rc p.cl) p.hits f q=ai/\v p.now (re p.en) (rs p.w) (rs p.m) (rr p.s) p.a (rf p.fe) (rc p.cl) p.hits f q=(p.now,re p.en,rs p.w,rs p.m,rr p.s,p.a,rf (CY p f q).1.fe,rc (CY p f q).1.cl,p.hits,(CY p f q).2):=by
 have h1:=fQ.ok p hp;have h2:=vd.ok p f hp;have hf:=hp.fe;have hc:=hp.cl;refine out _ _ _ _ _ _ _ _ _ _ _ ?_;unfold vo b CY;simp only[Lib.lt,h1.1,h1.2,h2.1,h2.2,au];cases ho:sW p f with
 |false=>rfl
 |true=>
  obtain⟨n,rfl,hn,cg,hs1⟩:=iT ho;have xG:=gu.Ni cg n hn;unfold ng.nJ at xG;simp only[aL,bf]at xG;have nh:GF.v 1 (el p.fe n).t [] q=_:=QR.put 1 (el p.fe n).t q xG.2.1 (by omega);rw[aE (show(1:aw)=1 from rfl),bc]at nh;simp only[a_,ax,au,Lib.cF,Lib.dn,dN,hn,aN,aM,Lib.dY,Dw hn,bw,nh,bc];cases hs:decide (1<=q.size/\q.size<=40)&&decide ((el p.fe n).t.size+q.size<=400)with
  |false=>rfl
  |true=>
   have e1:=yp p.fe n 1 [CV.s ((el p.fe n).t++q)] {el p.fe n with t:=(el p.fe n).t++q} hn rfl;have G6:n<(p.fe.set n {el p.fe n with t:=(el p.fe n).t++q}).length:=by rw[cE];exact hn
   have h3:=sI.ok {p with fe:=p.fe.set n {el p.fe n with t:=(el p.fe n).t++q}} n 1 G6 (by rw[cE];omega) (by dsimp only;omega);dsimp only at h3;rw[iR hn]at h3;simp only[a_,ax,au,e1,h3.1,h3.2];rfl
end DM

namespace OR
open Lib (rr rs re rf rc Px En el)
open fZ (So fT my)
open kB (yu)
theorem ok(p:Px)(e:En)(r6 r7:aQ)(hp:p.Fit 1048575)(hso:So p.en)(hk1:∀x∈p.en,1<=x.k.size)(hk:e.k.size<=140737488355328):
  c p.now (re p.en) (rs p.w) (rs p.m) (rr p.s) p.a r6 r7 p.hits e.k e.st e.li e.bo=ai/\v p.now (re p.en) (rs p.w) (rs p.m) (rr p.s) p.a r6 r7 p.hits e.k e.st e.li e.bo=(p.now,re (yu p e).en,rs (yu p e).w,rs (yu p e).m,rr (yu p e).s,(yu p e).a,r6,r7,p.hits):=by
 have he:=hp.en;have hw:=hp.w;have hm:=hp.m;obtain⟨b1,b2,b3⟩:=e8.L8 p.w p.m p.s p.a e.k;have h1:=e8.ok p.w p.m p.s p.a e.k (by omega) (by omega) ⟨di hp.s.1 (by omega),λq hq=>di (hp.s.2.1 q hq) (by omega)⟩ hk;refine out _ _ _ _ _ _ _ _ _ _ _ _ _ ?_;unfold vo b yu;generalize e8.val p.w p.m p.s p.a e.k=V at h1 b1 b2 b3;obtain⟨W,M,T,A,G⟩:=V;dsimp only at h1 b1 b2⊢;have h2:=ql.ok p.en G (by omega);have h3:=s9.ok W M (rr T) A e.k (by omega) (by omega);have hd:=fZ.wZ p.en G;have h4:=lM.ok (re (fT p.en G)) e.k e.st e.li e.bo (by rw[de];omega);rw[fZ.tT]at h4;simp only[Lib.lt,h1.1,h1.2,h2.1,h2.2,h3.1,h3.2,h4.1,h4.2,au,Lib.fu];by_cases hG:G=⟨#[]⟩
 ·subst hG;rw[fZ.drop_nil hk1]at h4⊢;rw[aE rfl];simp only[a_,ax,h4.1,h4.2,au];cases fm.has W e.k||fm.has M e.k<;>rfl
 ·rw[aK hG];simp only[bR,au];cases fm.has W e.k||fm.has M e.k<;>rfl
end OR

namespace DP
open Lib (rr rs re rf rc Px el)
open gu (sW told iT nY iR yp)
open sZ (cls kF)
theorem ok(p:Px)(f life:aw)(hp:p.Fit 1048576):c p.now (re p.en) (rs p.w) (rs p.m) (rr p.s) p.a (rf p.fe) (rc p.cl) p.hits f life=ai/\v p.now (re p.en) (rs p.w) (rs p.m) (rr p.s) p.a (rf p.fe) (rc p.cl) p.hits f life=(p.now,re (cls p f life).1.en,rs (cls p f life).1.w,rs (cls p f life).1.m,rr (cls p f life).1.s,(cls p f life).1.a,rf (cls p f life).1.fe,rc (cls p f life).1.cl,p.hits,(cls p f life).2):=by
 have h1:=fQ.ok p hp;have h2:=vd.ok p f hp;have hf:=hp.fe;have hc:=hp.cl;refine out _ _ _ _ _ _ _ _ _ _ _ ?_;unfold vo b cls;simp only[Lib.lt,h1.1,h1.2,h2.1,h2.2,au];cases ho:sW p f with
 |false=>rfl
 |true=>
  obtain⟨n,rfl,hn,cg,hs1⟩:=iT ho;obtain⟨so,ks,_,_,_,_,_,_,_,_,xG⟩:=kB.Bz cg;have xG:=xG n hn;unfold ng.nJ at xG;rw[aL]at xG;have A1:=e8.kL xG.1;rw[show kl.v life 0 999999=decide (0<=life/\life<=999999)from fG.eO _ _ _];cases hl:decide (0<=life/\life<=999999)with
  |false=>rfl
  |true=>
   generalize hg:({el p.fe n with sta:=2,li:=life,st:=p.now}:Lib.Fe)=g;have hk:g.k=(el p.fe n).k:=by rw[<-hg]
   have ht:g.t=(el p.fe n).t:=by rw[<-hg]
   have gl:g.li=life:=by rw[<-hg]
   have gs:g.st=p.now:=by rw[<-hg]
   have e3:=yp p.fe n 0 [CV.s (el p.fe n).k,CV.s (el p.fe n).t,CV.i ao 2,CV.i ao life,CV.i ao p.now] g hn (by rw[<-hg];rfl);have n3:n<(p.fe.set n g).length:=by rw[cE];exact hn
   have h3:=sI.ok {p with fe:=p.fe.set n g} n 2 n3 (by rw[cE];omega) (by dsimp only;omega);dsimp only at h3;rw[iR hn]at h3;have h4:=OR.ok (told p n g 2) (kF g) (rf (p.fe.set n g)) (rc (told p n g 2).cl) ((nY (kB.kA cg)).le (by omega)) so ks (by show g.k.size<=_;rw[hk];omega);unfold kF at h4;dsimp only[told]at h4;rw[gl,gs,hk,ht]at h4;unfold kF told;rw[ht]at h3;simp only[a_,ax,au,Lib.cF,Lib.dn,dN,hn,aN,aM,bc,Lib.dY,Dj hn,Dw hn,Qi hn,QI hn,QJ hn,bF,bw,e3,h3.1,h3.2,gl,gs,hk,ht];cases decide (life>0)with
   |true=>simp only[au,h4.1,h4.2];subst hg;rfl
   |false=>subst hg;rfl
end DP

namespace DQ
theorem ok(k:aq)(s l:aw)(b0:aq):c k s l b0=ai/\v k s l b0=u9.val k s l b0:=by
 refine out k s l b0 ?_;have hf:=fK.ok (jL.v k s l b0).1;unfold vo b u9.val;rw[hf.1,hf.2];unfold jL.v fK.val;by_cases h:nb.v k s l b0=ai
 ·have h1:=mU.t_ h;have h2:=mU.BF h;rw[bz h,bz h,bz (by dsimp only;omega)];rfl
 ·rw[bH h,bH h];rfl
end DQ

namespace eu
open Lib (rd el Fi)
open dJ (put)
theorem tail(l:aA Fi)(n t:aq)(k:aw)(hl:l.length<=1000000)(c0:aA Fi)(hc:c0.length<=1000001):
  l9 Lib.cW (λ(_:aw) (_:aQ) (_ _:aq) (_:aw) (y:aQ)=>ah y) Lib.cW 0 (rd l) n t k (rd c0)=ah (rd (c0++l.filter λx=> !(fZ.fA x.n n||decide (x.n=n)))):=by
 refine Cn l (λx=> !(fZ.fA x.n n||decide (x.n=n))) (λm (i:aF) acc=>l9 Lib.cW (λ(_:aw) (_:aQ) (_ _:aq) (_:aw) (y:aQ)=>ah y) m (i:aw) (rd l) n t k (rd acc)) (λacc=>ah (rd acc)) c0
  (λm i acc h ha hp=> ?_) (λm i acc h hp=> ?_) (λm acc=> ?_) Lib.cW (cJ (by omega))
 ·have mJ:(!(b7 (aC l[i].n) (aC n)||decide (l[i].n=n)))=true:=hp;simp only[l9,r9,eB,Lib.dn,h,aN,Lib.cF,aM,au,Lib.dY,JI h,WA h,WB h,bw,bF,Lib.fu,mJ,pO,bA,Lib.c5 h (by omega:l.length<=9223372036854775807),Lib.cj (n:=acc.length+1) (b:=40) (by omega) (by omega)];unfold Lib.rd;rw[dj];rfl
 ·have mJ:(!(b7 (aC l[i].n) (aC n)||decide (l[i].n=n)))=false:=hp;simp only[l9,r9,eB,Lib.dn,h,aN,Lib.cF,aM,au,ax,Lib.dY,JI h,bw,Lib.fu,mJ,Lib.c5 h (by omega:l.length<=9223372036854775807)]
 ·simp only[l9,r9,eB,Lib.dn,bm,bj,ax]
theorem ok(l:aA Fi)(n t:aq)(k:aw)(hl:l.length<=1000000):c (rd l) n t k=ai/\v (rd l) n t k=rd (put l ⟨n,t,k⟩):=by
 refine out _ _ _ _ ?_;unfold vo b
 have key:=Nl l (λx=>fZ.fA x.n n)
  (λm (i:aF)=>l3 Lib.cW (λ(_:aw) (y41:aQ) (y42 y43:aq) (V6:aw)=>l9 Lib.cW (λ(_:aw) (_:aQ) (_ _:aq) (_:aw) (y50:aQ)=>ah y50) Lib.cW 0 y41 y42 y43 V6 ([]++aD (aP [Ck.s,Ck.s,Ck.i ao] 1) 0 [CV.s y42,CV.s y43,CV.i ao V6])) (λ(_:aw) (y52:aQ) (y53 y54:aq) (y55:aw) (y56:aQ)=>bif(cy (bT y56+bT (aD (aP [Ck.s,Ck.s,Ck.i ao] 1) 0 [CV.s y53,CV.s y54,CV.i ao y55])) 40)then(l9 Lib.cW (λ(_:aw) (_:aQ) (_ _:aq) (_:aw) (y62:aQ)=>ah y62) Lib.cW 0 y52 y53 y54 y55 (y56++aD (aP [Ck.s,Ck.s,Ck.i ao] 1) 0 [CV.s y53,CV.s y54,CV.i ao y55]))else(aj)) m (i:aw) (rd l) n t k)
  (λm (i:aF) acc=>sL Lib.cW (λ(_:aw) (y41:aQ) (y42 y43:aq) (V6:aw)=>l9 Lib.cW (λ(_:aw) (_:aQ) (_ _:aq) (_:aw) (y50:aQ)=>ah y50) Lib.cW 0 y41 y42 y43 V6 ([]++aD (aP [Ck.s,Ck.s,Ck.i ao] 1) 0 [CV.s y42,CV.s y43,CV.i ao V6])) (λ(_:aw) (y52:aQ) (y53 y54:aq) (y55:aw) (y56:aQ)=>bif(cy (bT y56+bT (aD (aP [Ck.s,Ck.s,Ck.i ao] 1) 0 [CV.s y53,CV.s y54,CV.i ao y55])) 40)then(l9 Lib.cW (λ(_:aw) (_:aQ) (_ _:aq) (_:aw) (y62:aQ)=>ah y62) Lib.cW 0 y52 y53 y54 y55 (y56++aD (aP [Ck.s,Ck.s,Ck.i ao] 1) 0 [CV.s y53,CV.s y54,CV.i ao y55]))else(aj)) m (i:aw) (rd l) n t k (rd acc))
  (λacc=>bif cy (acc.length+1) 40 then l9 Lib.cW (λ(_:aw) (_:aQ) (_ _:aq) (_:aw) (y:aQ)=>ah y) Lib.cW 0 (rd l) n t k (rd (acc++[⟨n,t,k⟩]))else aj)
  (λm i h hp=>by have mJ:b7 (aC l[i].n) (aC n)=true:=hp;simp only[l3,r3,eB,Lib.dn,h,aN,Lib.cF,aM,au,Lib.dY,JI h,WA h,WB h,bw,bF,mJ,pO,Lib.c5 h (by omega:l.length<=9223372036854775807)];rfl)
  (λm i h hp=>by have mJ:b7 (aC l[i].n) (aC n)=false:=hp;simp only[l3,r3,eB,Lib.dn,h,aN,Lib.cF,aM,au,ax,Lib.dY,JI h,bw,mJ,Lib.c5 h (by omega:l.length<=9223372036854775807)])
  (λm=>by simp only[l3,r3,eB,Lib.dn,bm,bj,ax];rw[Lib.cj (by simp) (by simp),au];rfl)
  (λm i acc h ha hp=>by have mJ:b7 (aC l[i].n) (aC n)=true:=hp;simp only[sL,zM,eB,Lib.dn,h,aN,Lib.cF,aM,au,Lib.dY,JI h,WA h,WB h,bw,bF,mJ,pO,bA,Lib.c5 h (by omega:l.length<=9223372036854775807),Lib.cj (n:=acc.length+1) (b:=40) (by omega) (by omega)];unfold Lib.rd;rw[dj];rfl)
  (λm i acc h hp=>by have mJ:b7 (aC l[i].n) (aC n)=false:=hp;simp only[sL,zM,eB,Lib.dn,h,aN,Lib.cF,aM,au,ax,Lib.dY,JI h,bw,mJ,Lib.c5 h (by omega:l.length<=9223372036854775807)])
  (λm acc=>by simp only[sL,zM,eB,Lib.dn,bm,bj,ax,pO,bA];unfold Lib.rd;rw[dj];rfl) Lib.cW (cJ (by omega))
 refine key.trans ?_;have hf:=eC (λx:Fi=>fZ.fA x.n n) l;rw[Lib.cj (by omega) (by omega),au,tail l n t k hl _ (by simp;omega)];unfold put;rw[cB]
end eu

namespace eT
open Lib (rd el Fi)
open dJ (without)
theorem ok(l:aA Fi)(n:aq)(hl:l.length<=1000000):c (rd l) n=ai/\v (rd l) n=rd (without l n):=by
 refine out _ _ ?_;unfold vo b
 have key:=Nl l (λx=> !decide (x.n=n))
  (λm (i:aF)=>l3 Lib.cW (λ(_:aq) (_:aw) (_:aQ)=>ah ([]:aQ)) (λ(_:aq) (_:aw) (_:aQ) (wy:aQ)=>ah wy) m n (i:aw) (rd l))
  (λm (i:aF) acc=>sL Lib.cW (λ(_:aq) (_:aw) (_:aQ)=>ah ([]:aQ)) (λ(_:aq) (_:aw) (_:aQ) (wy:aQ)=>ah wy) m n (i:aw) (rd l) (rd acc)) (λacc=>ah (rd acc))
  (λm i h hp=>by simp only[l3,r3,eB,Lib.dn,h,aN,Lib.cF,aM,au,Lib.dY,JI h,WA h,WB h,bw,bF,Lib.fu,hp,pO,Lib.c5 h (by omega:l.length<=9223372036854775807)];rfl)
  (λm i h hp=>by simp only[l3,r3,eB,Lib.dn,h,aN,Lib.cF,aM,au,ax,Lib.dY,JI h,bw,Lib.fu,hp,Lib.c5 h (by omega:l.length<=9223372036854775807)])
  (λm=>by simp only[l3,r3,eB,Lib.dn,bm,bj,ax];rfl)
  (λm i acc h ha hp=>by simp only[sL,zM,eB,Lib.dn,h,aN,Lib.cF,aM,au,Lib.dY,JI h,WA h,WB h,bw,bF,Lib.fu,hp,pO,bA,Lib.c5 h (by omega:l.length<=9223372036854775807),Lib.cj (n:=acc.length+1) (b:=40) (by omega) (by omega)];unfold Lib.rd;rw[dj];rfl)
  (λm i acc h hp=>by simp only[sL,zM,eB,Lib.dn,h,aN,Lib.cF,aM,au,ax,Lib.dY,JI h,bw,Lib.fu,hp,Lib.c5 h (by omega:l.length<=9223372036854775807)])
  (λm acc=>by simp only[sL,zM,eB,Lib.dn,bm,bj,ax]) Lib.cW (cJ (by omega))
 exact key
end eT

namespace BZ
open Lib (rd el Fi)
open dJ (without put Wj sN act Hk j4)
open rI (res)
theorem Zm(d:aA Fi)(h:d.length<=1000000):gE.c (rd d)=ai/\gE.v (rd d)=sN d:=gE.ok (rd d) (by rw[eB];omega)
theorem nm(n:aq):qj.v n=decide (1<=(n.size:aw)/\(n.size:aw)<=8):=gE.mZ _ _ _
theorem TZ{l:aA Fi}{n t:aq}{k:aw}(h:¬(1<=(n.size:aw)/\(n.size:aw)<=8)):sN (put l ⟨n,t,k⟩)=false:=by
 cases hk:sN (put l ⟨n,t,k⟩)with
 |false=>rfl
 |true=>have:=(j4.1 hk).2.1 ⟨n,t,k⟩ (dJ.j5.2 (.inl rfl));unfold dJ.nJ at this;simp only[aL,bf]at this;exact cK this.1 h
theorem ok(l:aA Fi)(k:aw)(n t o:aq)(hl:l.length<=1000)(ht:t.size<=2305843009213693952):c (rd l) k n t o=ai/\v (rd l) k n t o=res (act l k n t o):=by
 refine out _ _ _ _ _ ?_;unfold vo b;have h1:=jz.ok (rd l) n (by rw[eB];omega);have h2:=Zm l (by omega);rw[h2.1,h2.2,au];unfold act;cases hk:sN l with
 |false=>rfl
 |true=>
 rw[a_,ax,bc,nm];obtain⟨q1,q2,q3⟩:=j4.1 hk;have rn:∀f∈l,(1<=(f.n.size:aw)/\(f.n.size:aw)<=8)/\(f.t.size:aw)<=20000/\f.kp<=(f.t.size:aw):=λf hf=>by have:=q2 f hf;unfold dJ.nJ at this;simp only[aL,bf,dt,fw]at this;omega
 by_cases hn:1<=(n.size:aw)/\(n.size:aw)<=8;case neg=>
  rw[aK hn,bR,au]
  have zA:l.find? (λx=>decide (x.n=n))=none:=by rw[W4];intro x hx;have:=(rn x hx).1;simp only[bf];intro e;rw[e]at this;exact hn this
  cases dJ.kg k t o with
  |false=>rfl
  |true=>
   rw[au];unfold Hk;rw[zA];by_cases k1:k=1
   ·rw[bz k1];dsimp only;rw[TZ hn];rfl
   ·rw[bH k1];rfl
 rw[aE hn,a_,ax,Lib.fu,Lib.fu,h1.1,h1.2,au,eB];unfold Lib.lt;by_cases ko:k=3\/o=⟨#[]⟩
 case neg=>
  rw[not_or]at ko
  have:dJ.kg k t o=false:=by unfold dJ.kg;rw[aK ko.1,aK ko.2];simp
  rw[this,show(k !=3)=ai from bne_iff_ne.2 ko.1,au,aK ko.2];rfl
 by_cases kt:k=1\/t=⟨#[]⟩
 case neg=>
  rw[not_or]at kt
  have:dJ.kg k t o=false:=by unfold dJ.kg;rw[aK kt.1,aK kt.2];simp
  rw[this,show(k !=1)=ai from bne_iff_ne.2 kt.1,au,aK kt.2]
  rcases ko with ko|ko
  ·subst ko;rfl
  ·rw[aE ko];cases (k !=3)<;>rfl
 have abe:∀x:az (aQ×aX),(bif k !=3 then(bif !decide (o=⟨#[]⟩)then ah (([]:aQ),ak)else(bif k !=1 then(bif !decide (t=⟨#[]⟩)then ah ([],ak)else x)else x))else(bif k !=1 then(bif !decide (t=⟨#[]⟩)then ah ([],ak)else x)else x))=x:=λx=>by
  rcases ko with ko|ko<;>rcases kt with kt|kt
  ·omega
  ·subst ko;rw[aE kt];rfl
  ·subst kt;rw[aE ko];rfl
  ·rw[aE ko,aE kt];cases (k !=3)<;>cases (k !=1)<;>rfl
 have wp:=λ(m:aA Fi) (hml:m.length<=1000) (n t:aq) (k:aw)=>eu.ok m n t k (by omega);have wo:=eT.ok l n (by omega);have wol:=dJ.Mb l n;have pl:=λ(m:aA Fi) (f:Fi) (hm:m.length<=1000)=>Zm (put m f) (di (dJ.rY f) (by omega));have fin:∀d:aA Fi,(bif !sN d then ah (([]:aQ),ak)else ah (rd d,ai))=ah (res (bif sN d then ah d else aj)):=λd=>by cases sN d<;>rfl
 by_cases hk4:1<=k/\k<=4;case neg=>
  have ha:dJ.kg k t o=false:=by unfold dJ.kg;rw[aK hk4];rfl
  rw[ha]
  refine(abe _).trans ?_
  rcases rI.find l n with ⟨e1,e2⟩|⟨i,hi,e1,e2⟩
  ·rw[e1,aK (show¬k=1 by omega)];rfl
  ·rw[e1];dsimp only;rw[aK (show¬k=1 by omega),aK (show¬k=2 by omega),aK (show¬k=3 by omega),aK (show¬k=4 by omega),aK (show¬((i:aF):aw)<0 by omega),aE (show((i:aF):aw)≥0 by omega)];simp only[Lib.dn,hi,aN,aM,bc,au,ax];rfl
 have ha:dJ.kg k t o=true:=by unfold dJ.kg;rw[aE hk4,bc,aL,dM,dM,bf,bf,bf,bf];exact⟨kt.symm,ko.symm⟩
 rw[ha,au];refine(abe _).trans ?_;unfold Hk;rcases rI.find l n with ⟨e1,e2⟩|⟨i,hi,e1,e2⟩
 ·rw[e1,e2];dsimp only;by_cases k1:k=1
  ·subst k1;have p:=wp l hl n (⟨#[]⟩++t) 0;have d:=pl l ⟨n,⟨#[]⟩++t,0⟩ hl;have et:(⟨#[]⟩:aq)++t=t:=lO;rw[show decide ((-1:aw)≥0)=ak from rfl,ax,aE (show(1:aw)=1 from rfl),au,aE (show(⟨#[]⟩:aq).size+t.size<=4611686018427387904 from by rw[show(⟨#[]⟩:aq).size=0 from rfl];omega),au,p.1,p.2,au,d.1,d.2,au,fin,et];rfl
  ·rw[show decide ((-1:aw)≥0)=ak from rfl,ax,aK k1,ax,bH k1];rfl
 ·have hf:(el l i).n=n:=by have:=vl e2;exact cu this
  have xG:=rn _ (kq hi);rw[e1,e2];dsimp only;rw[aK (show¬((i:aF):aw)<0 by omega),aE (show((i:aF):aw)≥0 by omega),au];simp only[Lib.dn,hi,aN,Lib.dY,wd0 hi,wd1 hi,wd2 hi,bw,bF,aM,bc,au,ax];by_cases k1:k=1
  ·subst k1;have p:=wp l hl (el l i).n ((el l i).t++t) (el l i).kp;have d:=pl l ⟨(el l i).n,(el l i).t++t,(el l i).kp⟩ hl;rw[aE (show(1:aw)=1 from rfl),au,aE (show(el l i).t.size+t.size<=4611686018427387904 by omega),au,p.1,p.2,au,d.1,d.2,au,fin];rfl
  rw[aK k1,ax,bH k1];by_cases k2:k=2
  ·subst k2;have p:=wp l hl (el l i).n (el l i).t ((el l i).t.size:aw);have d:=pl l ⟨(el l i).n,(el l i).t,((el l i).t.size:aw)⟩ hl;rw[aE (show(2:aw)=2 from rfl),au,p.1,p.2,au,d.1,d.2,au,fin];rfl
  rw[aK k2,ax,bH k2];by_cases k3:k=3
  ·subst k3;rw[aE (show(3:aw)=3 from rfl),au,bz rfl];by_cases b1:(el l i).kp=((el l i).t.size:aw)
   ·rw[aK (show¬(el l i).kp<((el l i).t.size:aw)by omega),ax,Lib.fu,nm];by_cases b2:o=n
    ·rw[aE b2,au,bz (.inr b2)];rfl
    ·rw[aK b2,ax,bH (by rintro (h|h);exact h b1;exact b2 h)];by_cases b3:1<=(o.size:aw)/\(o.size:aw)<=8
     ·have p:=wp (without l n) (by omega) o (el l i).t (el l i).kp;have d:=pl (without l n) ⟨o,(el l i).t,(el l i).kp⟩ (by omega);rw[aE b3,a_,ax,wo.1,wo.2,au,p.1,p.2,au,d.1,d.2,au,fin]
     ·rw[aK b3];dsimp only;rw[TZ b3];rfl
   ·rw[aE (show(el l i).kp<((el l i).t.size:aw)by omega),au,bz (.inl b1)];rfl
  rw[aK k3,ax,bH k3];have k4:k=4:=by omega
  subst k4;have d:=Zm (without l n) (by omega);rw[aE (show(4:aw)=4 from rfl),au,wo.1,wo.2,au,d.1,d.2,au,fin]
end BZ

namespace qm
open Lib (rd el Fi)
open dJ (kh act ra Ac wa0 wa1 wa2 wa3 rZ Bg)
theorem ok(l:aA Fi)(a:aA Ac)(hl:l.length<=1000)(ha:a.length<=1000000)(ht:∀x∈a,x.t.size<=2305843009213693952):c (rd l) (ra a)=ai/\v (rd l) (ra a)=(rd (kh l 0 a).1,((kh l 0 a).2:aw)):=by
 refine out _ _ ?_;unfold vo b;rw[Lib.rR,eB,Lib.cj (by omega) (by omega),au,show aP [Ck.s,Ck.s,Ck.i ao] 0++rd l=rd l from rfl]
 have key:∀(d i n:aF) (z:aw) (l:aA Fi),a.length-i<=d->i<=a.length->l.length<=1000->d<n->
   l3 Lib.cW (λ(_:aQ) (y5 _:aw) (y7:aQ)=>ah (y7,y5)) (λ(y8:aQ) (_ _:aw) (wx:aQ)=>ah (wx,(↑(bT y8):aw))) n (ra a) z (i:aw) (rd l)=ah (rd (kh l i (a.drop i)).1,((kh l i (a.drop i)).2:aw)):=by
  intro d
  induction d with
  |zero=>
   intro i n z l e1 e2 e3 e4;obtain⟨n,rfl⟩:∃n',n=n'+1:=⟨n-1,by omega⟩
   have:i=a.length:=by omega
   subst this;simp only[l3,r3,Lib.dn,bm,bj,ax,rZ,dm,kh]
  |succ d ih=>
   intro i n z l e1 e2 e3 e4;obtain⟨n,rfl⟩:∃n',n=n'+1:=⟨n-1,by omega⟩
   by_cases hi:i<a.length
   ·have hd:=BZ.ok l (el a i).k (el a i).n (el a i).t (el a i).o e3 (ht _ (kq hi));simp only[l3,r3,Lib.dn,rZ,hi,aN,Lib.cF,aM,au,Lib.dY,wa0 hi,wa1 hi,wa2 hi,wa3 hi,bw,bF,hd.1,hd.2,Lib.c5 hi (by omega:a.length<=9223372036854775807)];rw[dF hi,<-eN hi];unfold kh;cases hac:act l (el a i).k (el a i).n (el a i).t (el a i).o with
    |none=>rfl
    |some e=>have:=(Bg hac).2;exact ih (i+1) n z e (by omega) hi (by omega) (by omega)
   ·have:i=a.length:=by omega
    subst this;simp only[l3,r3,Lib.dn,bm,bj,ax,rZ,dm,kh]
 exact key a.length 0 Lib.cW 0 l (by omega) (bI _) hl (cJ (by omega))
end qm

namespace DN
open Lib (rr rs re rf rc rd Px En el Dj Dw QI QJ)
open gF (Wo Ev closed)
open jT (dk es)
open g_ (th)
open fV (ri v5 tX kA)
open sZ (cls kF)
theorem ok{i:aF}{w:Wo}(h:th i w)(hi:i<=71)(k id:aw)(t:aq)(nn:aw)(left:aQ)(h0:0<=nn):c w.p.now (re w.p.en) (rs w.p.w) (rs w.p.m) (rr w.p.s) w.p.a (rf w.p.fe) (rc w.p.cl) w.p.hits (rd (dk w.o)) (ri w.cd) (re w.bd) k id t nn left=ai/\v w.p.now (re w.p.en) (rs w.p.w) (rs w.p.m) (rr w.p.s) w.p.a (rf w.p.fe) (rc w.p.cl) w.p.hits (rd (dk w.o)) (ri w.cd) (re w.bd) k id t nn left=((closed w id (nn%1000000)).2,v5 (closed w id (nn%1000000)).1):=by
 refine out _ _ _ _ _ _ _ _ _ _ _ _ _ _ _ _ _ ?_;have hl:0<=nn%1000000/\nn%1000000<=999999:=by omega
 have hm:cz nn 1000000=nn%1000000:=iq h0;have XJ:=h.bd;have Wv:=h.tx hi;have hdl:=jT.Cd w.o;have A:=DP.ok w.p id (nn%1000000) (kA h.px);obtain⟨q1,q2⟩:=g_.KI (f:=id) h.px hl;obtain⟨s1,s2⟩:=sZ.IC (p:=w.p) (f:=id) (life:=nn%1000000);have mI:=kA q1;unfold vo b;rw[hm];generalize nn%1000000=life at*
 rw[A.1,au,A.2,fV.lt_eq];unfold closed v5;dsimp only;rw[<-s1,<-s2];generalize cls w.p id life=Q at q1 q2 s1 s2 mI;obtain⟨q,ok⟩:=Q;dsimp only at q1 q2 s1 s2 mI⊢;rcases q2 with ⟨r1,r2⟩|⟨r1,n,rn,hn,rf_,rs_,rl⟩
 ·subst r1;rfl
 subst r1;rw[au,bc];by_cases hz:life=0
 ·rw[aK (show¬life>0 by omega)];rfl
 rw[aE (show life>0 by omega),au,au];obtain⟨t1,t2⟩:=rl (by omega);have G6:n<q.fe.length:=by rw[rf_,cE];exact hn
 have Nu:el q.fe n={el w.p.fe n with sta:=2,li:=life,st:=w.p.now}:=by rw[rf_,gu.iR hn]
 subst rn;rw[dH];have C:=DQ.ok (el q.fe n).k (el q.fe n).st (el q.fe n).li (el q.fe n).t;have hE:nb.v (el q.fe n).k (el q.fe n).st (el q.fe n).li (el q.fe n).t=true:=by rw[Nu];exact t1
 have Ai:=g_.KW (e:=kF (el q.fe n)) hE;rw[u9.val,bz hE,show u9.kh (fK.fr (jL.sR (el q.fe n).k (el q.fe n).st (el q.fe n).li (el q.fe n).t))=dJ.ra (gT.sB (gT.HX (kF (el q.fe n))))from rfl]at C;have D:=qm.ok (dk w.o) (gT.sB (gT.HX (kF (el q.fe n)))) (by omega) (by unfold gT.sB;simp) (λx hx=>by
  unfold gT.sB at hx;simp only[cC,gG,or_false]at hx;rcases hx with rfl|rfl
  ·show(gT.HX (kF (el q.fe n))).size<=_;omega
  ·exact bI _)
 rw[jT.Nb (by omega)]at D;have room:∀y,cy ((re w.bd).length+(aD (aP [Ck.s,Ck.i ao,Ck.i ao,Ck.s] 1) 0 y).length) 48=true:=λy=>by rw[de,fV.m8];exact Lib.cj (by omega) (by omega)
 have sn:=tX w.bd (kF (el q.fe n));unfold kF at sn C D;dsimp only at sn;have alK:cy ((aP [Ck.s,Ck.i ao,Ck.i ao,Ck.s] 0).length+(re w.bd).length) 48=true:=by rw[de];exact Lib.cj (by show(0+w.bd.length)*48<=_;omega) (by show 0+w.bd.length<=_;omega)
 simp only[fV.lt_eq,fV.avM,alK,dN,Lib.dn,G6,aN,Lib.cF,aM,au,Lib.dY,Dj G6,Dw G6,QI G6,QJ G6,bw,bF,C.1,C.2,D.1,D.2,room,sn,show kF (el q.fe n)=⟨(el q.fe n).k,(el q.fe n).st,(el q.fe n).li,(el q.fe n).t⟩from rfl];rfl
end DN

namespace DO
open Lib (rr rs re rf rc Px el)
open gu (sW B9 told iT nY iR yp)
theorem ok(p:Px)(f:aw)(hp:p.Fit 1048576):c p.now (re p.en) (rs p.w) (rs p.m) (rr p.s) p.a (rf p.fe) (rc p.cl) p.hits f=ai/\v p.now (re p.en) (rs p.w) (rs p.m) (rr p.s) p.a (rf p.fe) (rc p.cl) p.hits f=(p.now,re p.en,rs p.w,rs p.m,rr p.s,p.a,rf (B9 p f).1.fe,rc (B9 p f).1.cl,p.hits,(B9 p f).2):=by
 have h1:=fQ.ok p hp;have h2:=vd.ok p f hp;have hf:=hp.fe;have hc:=hp.cl;refine out _ _ _ _ _ _ _ _ _ _ ?_;unfold vo b B9;simp only[Lib.lt,h1.1,h1.2,h2.1,h2.2,au];cases ho:sW p f with
 |false=>rfl
 |true=>
  obtain⟨n,rfl,hn,_,_⟩:=iT ho;have e1:=yp p.fe n 2 [CV.i ao 3] {el p.fe n with sta:=3} hn rfl;have G6:n<(p.fe.set n {el p.fe n with sta:=3}).length:=by rw[cE];exact hn
  have h3:=sI.ok {p with fe:=p.fe.set n {el p.fe n with sta:=3}} n 3 G6 (by rw[cE];omega) (by dsimp only;omega);dsimp only at h3;rw[iR hn]at h3;simp only[a_,ax,au,Lib.cF,Lib.dn,dN,hn,aN,aM,Lib.dY,e1,h3.1,h3.2];rfl
end DO

namespace wR
open Lib (rd Fi En el wd0 wd1 wd2)
open dJ (sN)
open jT (dk es)
open gT (tx base)
theorem one(f:Fi)(left:aQ)(h:sN [f]=ai)(hk:f.kp=(f.t.size:aw)):c (rd [f]) left=ai/\v (rd [f]) left=(rd [f],ai):=by
 have h1:=gE.ok (rd [f]) (by rw[eB];simp);refine out _ _ ?_;unfold vo b;rw[h1.1,au,h1.2,show gE.val (rd [f])=ai from h,a_,ax];have h0:0<[f].length:=by simp
 have c0:ar (rd [f]) 0 0=CV.s f.n:=wd0 (l:=[f]) h0;have c1:ar (rd [f]) 0 1=CV.s f.t:=wd1 (l:=[f]) h0;have c2:ar (rd [f]) 0 (1+1)=CV.i ao f.kp:=wd2 (l:=[f]) h0;have ib:g7 0 (f.t.size:aw) (f.t.size:aw)=true:=by simp[g7]
 have ex:bO f.t 0 (aW (f.t.size:aw))=f.t:=Lib.GS f.t;have w1:bJ (0+1)=1:=rfl;have L:(rd [f]).length=1:=rfl;have step:∀(N m:aF),l5 Lib.cW (λ_ _ _=>ah (([]:aQ),ai)) (λ_ _ _ wy=>ah (wy,ai)) (m+1) left 0 (rd [f])=l5a Lib.cW (λ_ _ _=>ah (([]:aQ),ai)) (λ_ _ _ wy=>ah (wy,ai)) m left 1 (rd [f]) (rd [f]):=by
  intro N m;have t0:aW 0=0:=rfl;simp only[l5,r5,L,t0];generalize bF (ar left 0 0)=z;simp only[c0,c1,c2,bw,bF,hk,ib,ex,w1];rw[show decide ((0:aw)<((1:aF):aw))=ai from rfl,au,show(decide ((0:aw)<=0)&&ai)=ai from rfl,au];have fin:([]++aD (aP [Ck.s,Ck.s,Ck.i ao] 1) 0 [CV.s f.n,CV.s f.t,CV.i ao (f.t.size:aw)]:aQ)=rd [f]:=by
   unfold Lib.rd;rw[gD];show [[CV.s f.n,CV.s f.t,CV.i ao (f.t.size:aw)]]=[Fi.row f]
   unfold Fi.row;rw[hk]
  simp only[fin];by_cases hl:(0:aw)<(left.length:aw)
  ·simp only[aE hl,au,show decide ((0:aw)<=0)=ai from rfl,aM];by_cases a:z>(f.t.size:aw)
   ·simp only[aE a,au,aK (show¬(f.t.size:aw)<(f.t.size:aw)by omega),ax]
   ·by_cases b:z<(f.t.size:aw)
    ·simp only[aK a,ax,aE b,au]
    ·have e:z=(f.t.size:aw):=by omega
     simp only[aK a,ax,aK b,e,ib,ex,fin,au,show decide ((f.t.size:aw)<(f.t.size:aw))=ak from aK (by omega),show decide ((f.t.size:aw)>(f.t.size:aw))=ak from aK (by omega)]
  ·simp only[aK hl,ax,au,aK (show¬(f.t.size:aw)<(f.t.size:aw)by omega)];try rw[aK (show¬(0:aw)>(f.t.size:aw)by omega),ax]
   by_cases b:(0:aw)<(f.t.size:aw)
   ·rw[aE b,au]
   ·rw[aK b,ax];have e:(f.t.size:aw)=0:=by omega
    rw[e]at ex fin;rw[show(0:aw).toNat=0 from rfl]at ex;rw[ex,fin]
 have last:∀(m:aF),l5a Lib.cW (λ_ _ _=>ah (([]:aQ),ai)) (λ_ _ _ wy=>ah (wy,ai)) (m+1) left 1 (rd [f]) (rd [f])=ah (rd [f],ai):=by intro m;simp only[l5a,r5a,L,show decide ((1:aw)<((1:aF):aw))=ak from rfl,ax]
 obtain⟨n,hn⟩:∃n,Lib.cW=n+2:=⟨Lib.cW-2,by have:=cJ (n:=2) (by omega);omega⟩
 have key:∀N,N=n+2->l5 Lib.cW (λ_ _ _=>ah (([]:aQ),ai)) (λ_ _ _ wy=>ah (wy,ai)) N left 0 (rd [f])=ah (rd [f],ai):=by rintro N rfl;rw[step Lib.cW (n+1),last n]
 exact key _ hn
theorem ok{o:az (aA En)}(h:(tx (es o)).size<=20000)(left:aQ):c (rd (dk o)) left=ai/\v (rd (dk o)) left=(rd (dk o),ai):=by
 cases o with
 |some l=>exact one _ left (jT.ER h) rfl
 |none=>
  have hd:sN []=true:=jT.ER (o:=aj) h;have h1:=gE.ok (rd []) (by rw[eB];simp);refine out _ _ ?_;unfold vo b;show(bif gE.c (rd [])then bif !gE.v (rd [])then _ else l5 Lib.cW _ _ Lib.cW left 0 (rd [])else aj)=_;rw[h1.1,au,h1.2,show gE.val (rd [])=ai from hd,a_,ax];obtain⟨n,hn⟩:∃n,Lib.cW=n+1:=⟨Lib.cW-1,by have:=cJ (n:=1) (by omega);omega⟩
  have key:∀N,N=n+1->l5 Lib.cW (λ_ _ _=>ah (([]:aQ),ai)) (λ_ _ _ wy=>ah (wy,ai)) N left 0 (rd [])=ah (rd [],ai):=by rintro N rfl;rfl
  exact key _ hn
end wR

namespace z8
open Lib (rr rs re rf rc Px En el oA qw qx qy)
open d_ (qa mL one rP xW zx p0)
theorem ok(now:aw)(l:aA En)(hl:l.length<=1048576):
  c now (re l)=ai/\v now (re l)=(now,re (qa now l).en,rs (qa now l).w,rs (qa now l).m,rr (qa now l).s,(qa now l).a,[],[],0):=by
 refine out _ _ ?_;unfold vo b;have key:=mb l.length (λn (i:aF) (p:Px)=>l4 Lib.cW (λ(_:aw) (_:aQ) (_ _ _ _ Ke V4 WK:aw) (QL QM H0 QN QO QP:aQ)=>ah (Ke,QL,QM,H0,QN,V4,QO,QP,WK)) n now (re l) (i:aw) 0 0 0 now p.a 0 (re p.en) (rs p.w) (rs p.m) (rr p.s) [] []) (λi=>qa now (l.take i)) (ah (now,re (qa now l).en,rs (qa now l).w,rs (qa now l).m,rr (qa now l).s,(qa now l).a,[],[],0)) (λn i hi=>by
  have I:=rP now l i (by omega);have hs:=xW now l i hi;generalize qa now (l.take i)=p at I hs;rw[hs];unfold one;have hw:bJ ((i:aw)+1)=((i+1:aF):aw):=Lib.c5 hi (by omega);have HZ:vR.v (el l i).k (el l i).st (el l i).li (el l i).bo now=mL (el l i) now:=(vR.eq _ _ _ _ _).symm;cases hf:mL (el l i) now with
  |false=>
   rw[hf]at HZ;cases hq:nb.v (el l i).k (el l i).st (el l i).li (el l i).bo with
   |false=>simp only[l4,r4,de,Lib.dn,hi,aN,Lib.cF,aM,au,Lib.dY,oA hi,qw hi,qx hi,qy hi,bw,bF,hq,ax,hw]
   |true=>simp only[l4,r4,de,Lib.dn,hi,aN,Lib.cF,aM,au,Lib.dY,oA hi,qw hi,qx hi,qy hi,bw,bF,hq,HZ,ax,hw]
  |true=>rw[hf]at HZ;have hq:=zx hf;have hk:=(nb.Ea hq).1;have h4:=OR.ok p (el l i) [] [] (I.fit (by omega) (by omega)) I.so I.ks (by omega);rw[I.now,I.hits]at h4;simp only[l4,r4,Lib.lt,de,Lib.dn,hi,aN,Lib.cF,aM,au,Lib.dY,oA hi,qw hi,qx hi,qy hi,bw,bF,hq,HZ,h4.1,h4.2,hw]) (λn=>by
  simp only[l4,r4,de,Lib.dn,bm,bj,ax,dE]) Lib.cW 0 (bI _) (cJ (by omega))
 exact key
end z8

namespace wN
open Lib (rr rs re rf rc rd Px En el oA qw qx qy)
open gF (Wo Ev tB jq)
open jT (dk es)
open g_ (th)
open fV (ri v5 tX kA)
theorem walk(N:aF)(L:aA En)(hL:L.length<=1048576)(hN:L.length<N)(K0 K1:aw->aw->aw->aw->aQ->aQ->aQ->aQ->aQ->aQ->aQ->aQ->aQ->aQ->aQ->az R)(now a5 a8:aw)(q1 q2 q3 q4 q6 q7 q9 D_ Zy:aQ):
  l7 N K0 K1 N 0 now a5 a8 (re L) (re []) q1 q2 q3 q4 q6 q7 q9 D_ Zy=K0 (L.length:aw) now a5 a8 (re L) (re (L.filter λe=>d_.mL e now)) q1 q2 q3 q4 q6 q7 q9 D_ Zy:=by
 have hw:∀i,i<L.length->bJ ((i:aw)+1)=((i+1:aF):aw):=λi h=>Lib.c5 h (by omega)
 have key:=Cn L (λe=>d_.mL e now) (λm (i:aF) acc=>l7 N K0 K1 m (i:aw) now a5 a8 (re L) (re acc) q1 q2 q3 q4 q6 q7 q9 D_ Zy) (λacc=>K0 (L.length:aw) now a5 a8 (re L) (re acc) q1 q2 q3 q4 q6 q7 q9 D_ Zy) []
  (λm i acc hi ha hp=>by rw[<-eN hi]at hp⊢;unfold d_.mL at hp;rw[vR.eq]at hp;simp only[l7,r7,de,Lib.dn,hi,aN,Lib.cF,aM,au,Lib.dY,oA hi,qw hi,qx hi,qy hi,bw,bF,hp,hw i hi,fV.m8,fV.tX];rw[Lib.cj (by simp at ha;omega) (by simp at ha;omega),au])
  (λm i acc hi hp=>by rw[<-eN hi]at hp;unfold d_.mL at hp;rw[vR.eq]at hp;simp only[l7,r7,de,Lib.dn,hi,aN,Lib.cF,aM,au,Lib.dY,oA hi,qw hi,qx hi,qy hi,bw,bF,hp,hw i hi,ax])
  (λm acc=>by simp only[l7,r7,de,Lib.dn,bm,bj,ax])
  N hN
 exact key
theorem ok{i:aF}{w:Wo}(h:th i w)(hi:i<=71)(k id:aw)(t:aq)(n:aw)(left:aQ):c w.p.now (re w.p.en) (rs w.p.w) (rs w.p.m) (rr w.p.s) w.p.a (rf w.p.fe) (rc w.p.cl) w.p.hits (rd (dk w.o)) (ri w.cd) (re w.bd) k id t n left=ai/\v w.p.now (re w.p.en) (rs w.p.w) (rs w.p.m) (rr w.p.s) w.p.a (rf w.p.fe) (rc w.p.cl) w.p.hits (rd (dk w.o)) (ri w.cd) (re w.bd) k id t n left=v5 (tB w):=by
 refine out _ _ _ _ _ _ _ _ _ _ _ _ _ _ _ _ _ ?_;have Wv:=h.tx hi;have hlen:=h.len hi;have hdl:=jT.Cd w.o;have A:=wR.ok (o:=w.o) (by omega) left;have B:=(jT.Su (o:=w.o) (by omega) h.eo).2;have D0:=gT.Hd (es w.o);have hf:=g_.G0 h.eo;have Po:=g_.Cr w;have htf:=g_.VS _ hf;have C:=jM.ok (rd (dk w.o)) (re (jq w)) (by rw[eB];omega) (by rw[de];omega);rw[jT.aa0 (by omega) hf]at C;have D:=qm.ok (dk w.o) (pQ.tl (gT.tx (jq w))) (by omega) (by unfold pQ.tl;simp) (λx hx=>by
  unfold pQ.tl at hx;simp only[cC,gG,or_false]at hx;rcases hx with rfl|rfl|rfl
  ·show(gT.tx (jq w)).size<=_;omega
  ·exact bI _
  ·exact bI _)
 rw[jT.Na (by omega) (by omega)]at D;have E:=z8.ok w.p.now (jq w) (by omega);unfold vo;generalize hN:Lib.cW=N;have jB:(gT.kp (es w.o)).length<N:=by rw[<-hN];exact cJ (by omega)
 clear hN;unfold b;rw[A.1,au,A.2,fV.lt_eq];rw[show(rd (dk w.o),ai).2=ai from rfl,au,show(rd (dk w.o),ai).1=rd (dk w.o)from rfl];rw[B.1,au,B.2,fV.lt_eq,show aP [Ck.s,Ck.i ao,Ck.i ao,Ck.s] 0=re []from rfl,walk N (gT.kp (es w.o)) (by omega) jB];have e:((kpp:aA En)->kpp=gT.kp (es w.o)->kpp.filter (λe=>d_.mL e w.p.now)=jq w):=λ_ h=>by subst h;rfl
 rw[e _ rfl];simp only[fV.lt_eq,C.1,C.2,D.1,D.2,E.1,E.2,au];have hinv:=d_.rP w.p.now (jq w) (jq w).length (cG _);rw[dE]at hinv;unfold v5 tB;dsimp only;rw[hinv.now,hinv.fe,hinv.cl,hinv.hits];rfl
end wN

namespace DI
open Lib (rr rs re rf rc rd Px En el)
open gF (Wo Ev closed tB jq iz flag)
open jT (dk es)
open g_ (th)
open fV (ri v5 tX kA)
theorem fl(b:aX):AP.v b=flag b:=by cases b<;>rfl
theorem left(l:aA Lib.Cl)(id:aw):decide ((((l.filter λc=> !decide (c.id=id)).length:aF):aw)<(l.length:aw))=il.lA l id:=by
 unfold il.lA;cases h:l.any λx=>decide (x.id=id)with
 |true=>
  obtain⟨x,hx,hp⟩:=FR.1 h;have:(l.filter λc=> !decide (c.id=id)).length<l.length:=by rw[List.length_filter_lt_length_iff_exists];exact⟨x,hx,by simpa using hp⟩
  exact aE (by omega)
 |false=>
  rw[List.any_eq_false]at h;have:l.filter (λc=> !decide (c.id=id))=l:=eK.2 λx hx=>by have:=h x hx;simpa using this
  rw[this];exact aK (by omega)
theorem ok{i:aF}{w:Wo}{e:Ev}(h:th i w)(hi:i<=71)(he:iz e=ai):c w.p.now (re w.p.en) (rs w.p.w) (rs w.p.m) (rr w.p.s) w.p.a (rf w.p.fe) (rc w.p.cl) w.p.hits (rd (dk w.o)) (ri w.cd) (re w.bd) e.k e.id e.t e.n e.l=ai/\v w.p.now (re w.p.en) (rs w.p.w) (rs w.p.m) (rr w.p.s) w.p.a (rf w.p.fe) (rc w.p.cl) w.p.hits (rd (dk w.o)) (ri w.cd) (re w.bd) e.k e.id e.t e.n e.l=((gF.act w e).2,v5 (gF.act w e).1):=by
 unfold iz at he;simp only[aL,bf]at he;obtain⟨hk,I_,ht,hn,hl⟩:=he;have hp:=kA h.px;refine out _ _ _ _ _ _ _ _ _ _ _ _ _ _ _ _ _ ?_;unfold vo b gF.act;by_cases k1:e.k=1
 ·rw[aE k1,au];have A:=wM.ok w.p e.id e.t hp (by omega);rw[A.1,au,A.2,fV.lt_eq];try rfl
 rw[aK k1,ax,ax];by_cases k2:e.k=2
 ·rw[aE k2,au];have A:=DM.ok w.p e.id e.t hp;rw[A.1,au,A.2,fV.lt_eq,fl];unfold v5 gu.CY;cases gu.sW w.p e.id&&(decide (1<=e.t.size/\e.t.size<=40)&&decide ((el w.p.fe e.id.toNat).t.size+e.t.size<=400))<;>rfl
 rw[aK k2,ax,ax];by_cases k3:e.k=3
 ·rw[aE k3,au];have A:=DN.ok h hi e.k e.id e.t e.n e.l hn;rw[k3]at A;rw[k3,A.1,au,A.2,fV.lt_eq];try rfl
 rw[aK k3,ax,ax];by_cases k4:e.k=4
 ·rw[aE k4,au];have A:=DO.ok w.p e.id hp;rw[A.1,au,A.2,fV.lt_eq,fl];unfold v5 gu.B9;cases gu.sW w.p e.id<;>rfl
 rw[aK k4,ax,ax];by_cases k5:e.k=5
 ·rw[aE k5,au];have A:=qH.ok w.p e.n hp;rw[A.1,au,A.2,fV.lt_eq];try rfl
 rw[aK k5,ax,ax];by_cases k6:e.k=6
 ·rw[aE k6,au];have A:=s_.ok w.p e.id hp;rw[A.1,au,A.2,fV.lt_eq,fl];dsimp only;rw[fg,fg,show(s_.val w.p e.id).cl=w.p.cl.filter (λc=> !decide (c.id=e.id))from rfl,left];try rfl
 rw[aK k6,ax,ax];have k7:e.k=7:=by omega
 rw[aE k7,au];have A:=wN.ok h hi e.k e.id e.t e.n e.l;rw[k7]at A;rw[k7,A.1,au,A.2,fV.lt_eq];try rfl
end DI

namespace J5
open Lib (rr rs re rf rc rd Px En el)
open gF (Wo Ev closed tB jq iz flag)
open jT (dk es)
open g_ (th)
open fV (ri v5 tX kA)
theorem R9(w:Wo)(e:Ev):(gF.act w e).1.cd=w.cd:=by
 unfold gF.act closed;cases decide (e.k=1)<;>cases decide (e.k=2)<;>cases decide (e.k=3)<;>cases decide (e.k=4)<;>cases decide (e.k=5)<;>cases decide (e.k=6)<;>(try rfl)
 all_goals
  dsimp only[au,ax]
  cases (sZ.cls w.p e.id (e.n%1000000)).2&&decide (e.n%1000000>0)<;>rfl
theorem ok{i:aF}{w:Wo}{e:Ev}(h:th i w)(hi:i<=71)(he:iz e=ai):c w.p.now (re w.p.en) (rs w.p.w) (rs w.p.m) (rr w.p.s) w.p.a (rf w.p.fe) (rc w.p.cl) w.p.hits (rd (dk w.o)) (ri w.cd) (re w.bd) e.k e.id e.t e.n e.l=ai/\v w.p.now (re w.p.en) (rs w.p.w) (rs w.p.m) (rr w.p.s) w.p.a (rf w.p.fe) (rc w.p.cl) w.p.hits (rd (dk w.o)) (ri w.cd) (re w.bd) e.k e.id e.t e.n e.l=v5 (gF.step w e):=by
 refine out _ _ _ _ _ _ _ _ _ _ _ _ _ _ _ _ _ ?_;have A:=DI.ok h hi he;have hcd:=h.cd;unfold vo b;rw[A.1,au,A.2,fV.lt_eq];have e1:(v5 (gF.act w e).1).2.2.2.2.2.2.2.2.2.2.1=ri w.cd:=by unfold v5;rw[R9]
 have r1:cy ((aP [Ck.i ao] 0).length+(ri w.cd).length) 8=true:=by rw[fV.gW];exact Lib.cj (by show(0+w.cd.length)*8<=_;omega) (by show 0+w.cd.length<=_;omega)
 have r2:cy ((ri w.cd).length+(aD (aP [Ck.i ao] 1) 0 [CV.i ao (gF.act w e).2]).length) 8=true:=by rw[fV.gW,fV.m8];exact Lib.cj (by omega) (by omega)
 show(bif cy ((aP [Ck.i ao] 0).length+((v5 (gF.act w e).1).2.2.2.2.2.2.2.2.2.2.1).length) 8 then _ else aj)=_;simp only[e1,fV.avN,r1,r2,au,fV.acM];rfl
end J5

namespace qd
open Lib (rr rs re rf rc rd Px En el)
open gF (Wo Ev iz)
open jT (dk es)
open g_ (th)
open fV (ri v5)
open qc (rv run)
open du (I)
open A_Post (ji)
theorem ids{p:Px}(h:qZ.g6 p):∀j,j<(rc p.cl).length->0<=bF (ar (rc p.cl) j 0)/\bF (ar (rc p.cl) j 0)<=30:=by
 intro j hj;have Cw:j<p.cl.length:=by rw[fg]at hj;exact hj
 have:=h.cl _ (kq Cw);unfold qZ.Iw at this;simp only[aL,bf]at this;rw[show ar (rc p.cl) j 0=CV.i ao (el p.cl j).id from fW _ p.cl j 0 Cw];show 0<=(el p.cl j).id/\(el p.cl j).id<=30;omega
theorem next{α:Type}{i:aF}{w:Wo}{q:aQ}{a s:aw}{X:aw×aw×aq×aw×aQ×aQ×aw×aw×aQ×aQ×aQ×aQ×aQ×aQ×aQ×aQ×aQ->az α}{P:α->Prop}(h:th i w)(hI:I q a)
  (hx:∀k id t n a' s',I q a'->iz ⟨k,id,t,n,[]⟩=ai->k<=6->ji (X (k,id,t,n,[],q,a',s',re w.p.en,rs w.p.w,rs w.p.m,rr w.p.s,rf w.p.fe,rc w.p.cl,rd (dk w.o),ri w.cd,re w.bd)) P):
  ji (bif Kz.c q a s w.p.now (re w.p.en) (rs w.p.w) (rs w.p.m) (rr w.p.s) w.p.a (rf w.p.fe) (rc w.p.cl) w.p.hits (rd (dk w.o)) (ri w.cd) (re w.bd)then Lib.lt (Kz.v q a s w.p.now (re w.p.en) (rs w.p.w) (rs w.p.m) (rr w.p.s) w.p.a (rf w.p.fe) (rc w.p.cl) w.p.hits (rd (dk w.o)) (ri w.cd) (re w.bd)) X else aj) P:=by obtain⟨x,e,k,id,t,n,a',s',rfl,h1,h2,h3⟩:=Kz.body q a s w.p.now (re w.p.en) (rs w.p.w) (rs w.p.m) (rr w.p.s) w.p.a (rf w.p.fe) (rc w.p.cl) w.p.hits (rd (dk w.o)) (ri w.cd) (re w.bd) hI (by rw[dN];exact h.px.fl) (ids h.px);obtain⟨c1,v1⟩:=Kz.out _ _ _ _ _ _ _ _ _ _ _ _ _ _ _ e;exact A_Post.call c1 v1 (hx k id t n a' s' h1 h2 h3)
theorem step{α:Type}{i:aF}{w:Wo}{X:aw×aQ×aQ×aQ×aQ×aw×aQ×aQ×aw×aQ×aQ×aQ->az α}{P:α->Prop}(e:Ev)(h:th i w)(hi:i<=71)(he:iz e=ai)(hx:ji (X (v5 (gF.step w e))) P):
  ji (bif J5.c w.p.now (re w.p.en) (rs w.p.w) (rs w.p.m) (rr w.p.s) w.p.a (rf w.p.fe) (rc w.p.cl) w.p.hits (rd (dk w.o)) (ri w.cd) (re w.bd) e.k e.id e.t e.n e.l then Lib.lt (J5.v w.p.now (re w.p.en) (rs w.p.w) (rs w.p.m) (rr w.p.s) w.p.a (rf w.p.fe) (rc w.p.cl) w.p.hits (rd (dk w.o)) (ri w.cd) (re w.bd) e.k e.id e.t e.n e.l) X else aj) P:=
 A_Post.call (J5.ok h hi he).1 (J5.ok h hi he).2 hx
theorem C6(l:aA Ev)(e:Ev):run (l++[e])=gF.step (run l) e:=by unfold run;rw[kU];rfl
theorem Hw(l:aA Ev)(e:Ev):rv l++aD (aP [Ck.i ao,Ck.i ao,Ck.s,Ck.i ao,Ck.l 3] 1) 0 [CV.i ao e.k,CV.i ao e.id,CV.s e.t,CV.i ao e.n,CV.l 3 e.l]=rv (l++[e]):=by unfold rv;rw[dj];rfl
theorem Nh(n:aw):iz ⟨7,0,⟨#[]⟩,0,aD (aP [Ck.i ao] 1) 0 [CV.i ao n]⟩=true:=rfl
theorem B0{l:aA Ev}{e:Ev}(h:∀x∈l,iz x=ai)(he:iz e=ai):∀x∈l++[e],iz x=true:=by
 intro x hx;rcases ba.1 hx with h1|h1
 ·exact h x h1
 ·rw[aZ.1 h1];exact he
end qd

namespace Kx
theorem ok(q:aQ)(hl:q.length<=1048576):∃h,c q=ai/\v q=(q,0,h):=by
 have key:=uF (λn (s:aF×aw)=>l3 Lib.cW (λ(y3:aQ) (y4 _:aw)=>ah (y3,(0:aw),y4)) n q s.2 (s.1:aw)) (λs=>q.length-s.1) (λs=>s.1<=q.length) (λr=>∃h,r=(q,0,h)) (λn s hs=>by
  obtain⟨i,h⟩:=s;dsimp only at hs⊢;by_cases hi:i<q.length
  ·by_cases h4:(i:aw)<4000
   ·right;have me:bJ ((i:aw)+1)=((i+1:aF):aw):=dg (by omega) (by omega)
    have e:∃h',l3 Lib.cW (λ(y3:aQ) (y4 _:aw)=>ah (y3,(0:aw),y4)) (n+1) q h (i:aw)=l3 Lib.cW (λ(y3:aQ) (y4 _:aw)=>ah (y3,(0:aw),y4)) n q h' ((i+1:aF):aw):=
     ⟨_,by simp only[l3,r3,Lib.dn,hi,h4,aN,Lib.cF,aM,au,Lib.dY,me];rfl⟩
    obtain⟨h',e⟩:=e;exact⟨(i+1,h'),hi,by dsimp only;omega,e⟩
   ·left;exact⟨_,by simp only[l3,r3,Lib.dn,hi,h4,aN,bj,au,ax];rfl,_,rfl⟩
  ·left;exact⟨_,by simp only[l3,r3,Lib.dn,hi,bj,ax];rfl,_,rfl⟩) Lib.cW (0,bJ (34901+(q.length:aw))) (bI _) (cJ (by omega))
 obtain⟨b',hb,h,rfl⟩:=key;obtain⟨e1,e2⟩:=out q (x:=(q,0,h)) hb;exact⟨h,e1,e2⟩
end Kx

namespace Qt
open Lib (rr rs re rf rc rd Px En el)
open gF (Wo Ev iz)
open jT (dk es)
open g_ (th)
open fV (ri v5)
open qc (rv run)
open qd (C6 Hw B0)
open du (I)
open A_Post (ji)
theorem rm{l:aA Ev}(h:l.length<=70)(y:aA CV):cy ((rv l).length+(aD (aP [Ck.i ao,Ck.i ao,Ck.s,Ck.i ao,Ck.l 3] 1) 0 y).length) 64=true:=by rw[qc.tW,fV.m8];exact Lib.cj (by omega) (by omega)
theorem walk{P:R->Prop}(N:aF)(q:aQ)(m:aF)(hm:m<=65)(K:aw->aw->aQ->aw->aw->aw->aw->aw->aQ->aQ->aQ->aQ->aQ->aQ->aQ->aQ->aQ->aQ->az R)
  (hK:∀(l:aA Ev) (a s:aw),l.length=m->(∀x∈l,iz x=ai)->I q a->ji (K (m:aw) (m:aw) q a s (run l).p.now (run l).p.a (run l).p.hits (rv l) (re (run l).p.en) (rs (run l).p.w) (rs (run l).p.m) (rr (run l).p.s) (rf (run l).p.fe) (rc (run l).p.cl) (rd (dk (run l).o)) (ri (run l).cd) (re (run l).bd)) P):
  ∀(d i n:aF) (l:aA Ev) (a s:aw),m-i<=d->l.length=i->i<=m->d<n->(∀x∈l,iz x=ai)->I q a->
   ji (l7 N K n (m:aw) (i:aw) q a s (run l).p.now (run l).p.a (run l).p.hits (rv l) (re (run l).p.en) (rs (run l).p.w) (rs (run l).p.m) (rr (run l).p.s) (rf (run l).p.fe) (rc (run l).p.cl) (rd (dk (run l).o)) (ri (run l).cd) (re (run l).bd)) P:=by
 have fin:∀(n:aF) (l:aA Ev) (a s:aw),l.length=m->(∀x∈l,iz x=ai)->I q a->ji (l7 N K (n+1) (m:aw) (m:aw) q a s (run l).p.now (run l).p.a (run l).p.hits (rv l) (re (run l).p.en) (rs (run l).p.w) (rs (run l).p.m) (rr (run l).p.s) (rf (run l).p.fe) (rc (run l).p.cl) (rd (dk (run l).o)) (ri (run l).cd) (re (run l).bd)) P:=λn l a s hl he hI=>by rw[show l7 N K (n+1)=r7 N (l7 N K n) K from rfl];unfold r7;exact A_Post.cn (aK (Km _)) (hK l a s hl he hI)
 intro d;induction d with
 |zero=>
  intro i n l a s h1 h2 h3 h4 h5 h6;obtain⟨n,rfl⟩:∃k,n=k+1:=⟨n-1,by omega⟩
  have:i=m:=by omega
  subst this;exact fin n l a s h2 h5 h6
 |succ d ih=>
  intro i n l a s h1 h2 h3 h4 h5 h6;obtain⟨n,rfl⟩:∃k,n=k+1:=⟨n-1,by omega⟩
  by_cases h:i<m
  ·have me:bJ ((i:aw)+1)=((i+1:aF):aw):=dg (by omega) (by omega);have hW:th l.length (run l):=qc.LL h5;have go:∀(e:Ev) (a s:aw),iz e=ai->I q a->ji (l7 N K n (m:aw) (bJ ((i:aw)+1)) q a s (gF.step (run l) e).p.now (gF.step (run l) e).p.a (gF.step (run l) e).p.hits (rv l++aD (aP [Ck.i ao,Ck.i ao,Ck.s,Ck.i ao,Ck.l 3] 1) 0 [CV.i ao e.k,CV.i ao e.id,CV.s e.t,CV.i ao e.n,CV.l 3 e.l]) (re (gF.step (run l) e).p.en) (rs (gF.step (run l) e).p.w) (rs (gF.step (run l) e).p.m) (rr (gF.step (run l) e).p.s) (rf (gF.step (run l) e).p.fe) (rc (gF.step (run l) e).p.cl) (rd (dk (gF.step (run l) e).o)) (ri (gF.step (run l) e).cd) (re (gF.step (run l) e).bd)) P:=λe a s he hI=>by have:=ih (i+1) n (l++[e]) a s (by omega) (by rw[bP,h2];rfl) h (by omega) (B0 h5 he) hI;rw[C6,<-Hw]at this;rw[me];exact this
   rw[show l7 N K (n+1)=r7 N (l7 N K n) K from rfl];unfold r7;refine A_Post.ck (aE (by omega)) ?_;refine qd.next hW h6 (λk id t n0 a1 s1 I1 he hk=> ?_);refine A_Post.once I1 (λx a2 s2 I2=> ?_);cases x with
   |true=>refine A_Post.ck rfl ?_;refine A_Post.below I2 (λn1 a3 s3 I3 _ _=> ?_);refine qd.step ⟨7,0,⟨#[]⟩,0,aD (aP [Ck.i ao] 1) 0 [CV.i ao n1]⟩ hW (by omega) (qd.Nh n1) ?_;refine A_Post.ck (rm (by omega) _) ?_;exact go ⟨7,0,⟨#[]⟩,0,aD (aP [Ck.i ao] 1) 0 [CV.i ao n1]⟩ a3 s3 (qd.Nh n1) I3
   |false=>refine A_Post.cn rfl ?_;refine qd.step ⟨k,id,t,n0,[]⟩ hW (by omega) he ?_;refine A_Post.ck (rm (by omega) _) ?_;exact go ⟨k,id,t,n0,[]⟩ a2 s2 he I2
  ·have:i=m:=by omega
   subst this;exact fin n l a s h2 h5 h6
theorem ok(q:aQ)(a s:aw)(code:aQ)(hI:I q a)(hc:code.length<=1048576):∃(l:aA Ev) (a' s':aw),c q a s code=ai/\v q a s code=(rv l,q,a',s')/\l.length<=65/\(∀e∈l,iz e=ai):=by
 have key:∃m:aF,m<=65/\(decide (bJ (20+bJ (cR (code.length:aw) 6))>65)=ai/\m=65\/decide (bJ (20+bJ (cR (code.length:aw) 6))>65)=ak/\bJ (20+bJ (cR (code.length:aw) 6))=(m:aw)):=by
  have h0:0<=cR (code.length:aw) 6/\cR (code.length:aw) 6<=1048576:=by rw[ic (by omega)];omega
  generalize cR (code.length:aw) 6=z at*
  rw[dg (x:=z) (by omega) (by omega),dg (x:=20+z) (by omega) (by omega)];by_cases h:20+z>65
  ·exact⟨65,by omega, .inl ⟨aE h,rfl⟩⟩
  ·exact⟨(20+z).toNat,by omega, .inr ⟨aK h,by omega⟩⟩
 have main:ji (vo q a s code) (λx=>∃(l:aA Ev) (a' s':aw),x=(rv l,q,a',s')/\l.length<=65/\(∀e∈l,iz e=ai)):=by
  obtain⟨m,hm,hk⟩:=key;unfold vo;generalize hN:Lib.cW=N;have hN1:65<N:=by rw[<-hN];exact cJ (by omega)
  clear hN;unfold b;rcases hk with ⟨h1,h2⟩|⟨h1,h2⟩
  ·subst h2;refine A_Post.ck h1 ?_;exact walk N q 65 (by omega) _ (λl a1 s1 hl he hI1=>A_Post.ret ⟨l,a1,s1,rfl,by omega,he⟩) 65 0 N [] a s (by omega) rfl (by omega) hN1 (λe h=>by cases h) hI
  ·refine A_Post.cn h1 ?_;rw[h2];exact walk N q m hm _ (λl a1 s1 hl he hI1=>A_Post.ret ⟨l,a1,s1,rfl,by omega,he⟩) m 0 N [] a s (by omega) rfl (by omega) (by omega) (λe h=>by cases h) hI
 obtain⟨x,hx,l,a',s',rfl,h1,h2⟩:=main;obtain⟨c1,v1⟩:=out _ _ _ _ hx;exact⟨l,a',s',c1,v1,h1,h2⟩
end Qt

namespace U9
open gF (Ev iz)
open qc (rv)
theorem ok(code:aQ)(hc:code.length<=1048576):∃l:aA Ev,c code=ai/\v code=rv l/\l.length<=65/\(∀e∈l,iz e=ai):=by obtain⟨h,c0,v0⟩:=Kx.ok code hc;obtain⟨l,a',s',c1,v1,h1,h2⟩:=Qt.ok code 0 h code ⟨by omega,by omega,hc⟩ hc;obtain⟨c2,v2⟩:=out code (x:=rv l) (by unfold vo b;simp only[c0,v0,au,fV.lt_eq,c1,v1]);exact⟨l,c2,v2,h1,h2⟩
end U9

namespace MV
theorem ok(q:aQ)(hl:q.length<=1048576):∃p,c q=ai/\v q=p/\p.length=12/\∀i,i<12->0<=bF (ar p i 0)/\bF (ar p i 0)<10000:=by
 obtain⟨h,c1,v1⟩:=Kx.ok q hl;obtain⟨n0,a0,s0,c0,v0,I0,g0,u0⟩:=du.ok q 0 h ⟨by omega,by omega,hl⟩;have key:=uF (λn (z:aF×aw×aw×aQ)=>l5 Lib.cW (λ(_:aw) (_:aQ) (_ _:aw) (y9:aQ)=>ah y9) n (z.1:aw) q z.2.1 z.2.2.1 z.2.2.2) (λz=>12-z.1) (λz=>z.1<=12/\du.I q z.2.1/\z.2.2.2.length=z.1/\∀i,i<z.1->0<=bF (ar z.2.2.2 i 0)/\bF (ar z.2.2.2 i 0)<10000) (λp=>p.length=12/\∀i,i<12->0<=bF (ar p i 0)/\bF (ar p i 0)<10000) (λn z hz=>by
  obtain⟨i,a,s,p⟩:=z;obtain⟨h1,h2,h3,h4⟩:=hz;dsimp only at h1 h2 h3 h4⊢;by_cases hi:(i:aw)<12
  ·right;have me:bJ ((i:aw)+1)=((i+1:aF):aw):=dg (by omega) (by omega);obtain⟨n1,a1,s1,c1,v1,I1,g1,u1⟩:=nA.ok q a s 10000 h2;have u1':=u1 (by omega);refine⟨(i+1,a1,s1,p++[[CV.i ao n1]]),⟨by dsimp only;omega,I1,by simp[h3],λj hj=> ?_⟩,by dsimp only;omega, ?_⟩
   ·dsimp only at hj⊢;by_cases K8:j<i
    ·have:=h4 j K8;rw[show ar (p++[[CV.i ao n1]]) j 0=ar p j 0 from by unfold ar;congr 1;rw[cT,cT,dI (by omega)]];exact this
    ·have Cw:j=p.length:=by omega
     rw[show ar (p++[[CV.i ao n1]]) j 0=CV.i ao n1 from by rw[v8 p [CV.i ao n1] [] j 0 Cw.symm];rfl];exact⟨g1,u1'⟩
   ·simp only[Lib.lt,l5,r5,c1,v1,me,aE hi,au,Lib.iM,bA,Lib.cj (n:=p.length+1) (b:=8) (by omega) (by omega)]
  ·left;have:i=12:=by omega
   subst this;exact⟨p,by simp only[l5,r5,aK hi,ax],h3,h4⟩) Lib.cW (0,a0,s0,[]) ⟨by omega,I0,rfl,λi hi=>cK hi (Nat.not_lt_zero i)⟩ (cJ (by dsimp only;omega))
 obtain⟨p,hb,h1,h2⟩:=key;obtain⟨e1,e2⟩:=out q (x:=p) (by unfold vo b;simp only[Lib.lt,c1,v1,c0,v0,au];exact hb);exact⟨p,e1,e2,h1,h2⟩
end MV

namespace Bf
def p(s:aQ)(k:aq)(a l:aw)(t:aq)(i:aF):aX:=bZ (aC (bw (ar s i 0))) (aC k)&&(decide (bF (ar s i 1)=a)&&(decide (bF (ar s i (1+1))=l)&&(bZ (aC (bw (ar s i (1+1+1)))) (aC t)&&ai)))
def val(s:aQ)(k:aq)(a l:aw)(t:aq):aX:=decide (Lib.fi (p s k a l t) s.length 0≥0)
theorem ok(s:aQ)(k:aq)(a l:aw)(t:aq)(hl:s.length<=4294967296):c s k a l t=ai/\v s k a l t=val s k a l t:=by
 refine out s k a l t ?_;unfold vo b;refine mW (p s k a l t) s.length (λm (i:aF)=>l2 Lib.cW (λ(_:aQ) (y8:aX) (_:aw) (_:aq) (_ _:aw) (_:aq)=>ah y8) (λ(_:aQ) (_:aX) (_:aw) (_:aq) (_ _:aw) (_:aq)=>ah ak) m s ak (i:aw) k a l t) (λx=>ah (decide (x≥0))) (λm i hi hp=> ?_) (λm i hi hp=> ?_) (λm=> ?_) Lib.cW (cJ (by omega))
 ·unfold p at hp;rw[show decide ((i:aw)≥0)=ai from aE (by omega)];simp only[l2,r2,Lib.dn,Lib.cF,Lib.dY,hi,aN,aM,au];rw[hp,au]
 ·unfold p at hp;simp only[l2,r2,Lib.dn,Lib.cF,Lib.dY,hi,aN,aM,au];rw[hp,ax,Lib.c5 hi (by omega:s.length<=9223372036854775807)]
 ·simp only[l2,r2,Lib.dn,bm,bj,ax];rfl
end Bf

namespace j9
open Lib (Cl Fe el)
def hb(bd:aQ)(k:aq)(fr:aw)(mM:aq)(age:aw)(i:aF):aX:=bZ (aC (bw (ar bd i 0))) (aC k)&&(decide (bF (ar bd i 1)=fr)&&(bZ (aC (bw (ar bd i (1+1+1)))) (aC mM)&&decide (bF (ar bd i (1+1))>age)))
def has(bd:aQ)(k:aq)(fr:aw)(mM:aq)(age:aw):aX:=decide (Lib.fi (hb bd k fr mM age) bd.length 0≥0)
def bg(t mM:aq):aX:=decide (((t.size:aF):aw)≥((mM.size:aF):aw))&&bZ (aC (bO t (aW 0) (aW (↑(cq mM):aw)))) (aC mM)
def wt(f:Fe)(c:Cl):aX:=bZ (aC f.k) (aC c.k)&&(bif decide (c.sta=1)then bZ (aC c.mM) (aC f.t)&&decide (f.sta=1)else bif decide (c.sta=2)then bZ (aC c.mM) (aC f.t)&&decide (f.sta=2)else decide (c.sta=3)&&(bg f.t c.mM&&decide (f.sta=3)))
def gOk(fe:aA Fe)(bd:aQ)(c:Cl):aX:=bif decide (c.fe=0)then has bd c.k c.fr c.mM c.age&&decide (c.sta=2)else wt (el fe (c.fe-1).toNat) c
def Pg(fe:aA Fe)(cl:aA Cl)(bd:aQ):aX:=(b9 cl.length).all λi=>gOk fe bd (el cl i)
end j9

namespace Ic
def q(a s:aQ)(i:aF):aX:=Bf.val s (bw (ar a i 0)) (bF (ar a i 1)) (bF (ar a i (1+1))) (bw (ar a i (1+1+1)))
def val(a s:aQ):aX:=bif(b9 a.length).all (q a s)then ai else ak
theorem ok(i0:aw)(p1 p2 p3 p4:aQ)(i5:aw)(p6 p7:aQ)(i8:aw)(p9 p10 p11:aQ)(hl:p1.length<=4294967296)(E4:p11.length<=4294967296):c i0 p1 p2 p3 p4 i5 p6 p7 i8 p9 p10 p11=ai/\v i0 p1 p2 p3 p4 i5 p6 p7 i8 p9 p10 p11=val p1 p11:=by
 refine out _ _ _ _ _ _ _ _ _ _ _ _ ?_;unfold vo b;have hw:∀i,i<p1.length->bJ ((i:aw)+1)=((i+1:aF):aw):=λi h=>Lib.c5 h (by omega);have ho:=λk a l t=>Bf.ok p11 k a l t E4
 have key:=iC (q p1 p11) p1.length (λm (i:aF)=>l2 Lib.cW (λ(Oz:aX) (_ _:aw) (_ _ _ _:aQ) (_:aw) (_ _:aQ) (_:aw) (_ _ _:aQ)=>ah Oz) (λ(_:aX) (_ _:aw) (_ _ _ _:aQ) (_:aw) (_ _:aQ) (_:aw) (_ _ _:aQ)=>ah ai) m ak (i:aw) i0 p1 p2 p3 p4 i5 p6 p7 i8 p9 p10 p11) (ah ak) (ah ai)
  (λm i hi hp=>by unfold q at hp;simp only[l2,r2,Lib.dn,hi,aN,Lib.cF,aM,au,Lib.dY,(ho _ _ _ _).1,(ho _ _ _ _).2,hp,a_,ax,hw i hi])
  (λm i hi hp=>by unfold q at hp;simp only[l2,r2,Lib.dn,hi,aN,Lib.cF,aM,au,Lib.dY,(ho _ _ _ _).1,(ho _ _ _ _).2,hp,bR])
  (λm=>by simp only[l2,r2,Lib.dn,bm,bj,ax]) Lib.cW (cJ (by omega))
 refine key.trans ?_;unfold val;cases (b9 p1.length).all (q p1 p11)<;>rfl
end Ic

namespace ue
open Lib (rr rs re rf rc Px)
def qe(a:aQ)(now:aw)(kp:aQ)(i:aF):aX:=bif vR.v (bw (ar a i 0)) (bF (ar a i 1)) (bF (ar a i (1+1))) (bw (ar a i (1+1+1))) now then Bf.val kp (bw (ar a i 0)) (bF (ar a i 1)) (bF (ar a i (1+1))) (bw (ar a i (1+1+1)))else ai
def sw(p:Px)(kp bd:aQ):aX:=(b9 p.en.length).all (qe (re p.en) p.now kp)&&(pe.jb p&&(eg.val (rf p.fe)&&(j9.Pg p.fe p.cl bd&&Ic.val (re p.en) bd)))
theorem cls{p:Px}(h:pe.jb p=ai):∀i,i<p.cl.length->0<=(Lib.el p.cl i).fe/\(Lib.el p.cl i).fe<=p.fe.length:=by intro i hi;have:=(qZ.od.1 h).cl _ (kq hi);unfold qZ.Iw at this;simp only[aL,bf]at this;exact this.2.2.2.1
end ue

namespace ahI
open Lib (Px Cl Fe En el re rf rc)
open Eh (uW Gp xF)
open qZ (g6)
open gF (Wo)
open jT (es)
open gT (kp)
theorem S9{l:aA En}{e:En}(h:e∈l):Bf.val (re l) e.k e.st e.li e.bo=true:=by
 unfold Bf.val;rw[de,il.Cm l (λx=>bZ (aC x.k) (aC e.k)&&(decide (x.st=e.st)&&(decide (x.li=e.li)&&(bZ (aC x.bo) (aC e.bo)&&ai)))) (Bf.p (re l) e.k e.st e.li e.bo) (λi hi=> ?_),FR]
 ·exact⟨e,h,by simp[jV]⟩
 ·unfold Bf.p;rw[oA hi,qw hi,qx hi,qy hi,eN hi];rfl
theorem stored{en bd:aA En}(h:∀e∈en,e∈bd):Ic.val (re en) (re bd)=true:=by
 unfold Ic.val;have:(b9 (re en).length).all (Ic.q (re en) (re bd))=true:=by
  rw[bu];intro i hi;have sr:i<en.length:=by rw[de]at hi;exact gV.1 hi
  unfold Ic.q;rw[oA sr,qw sr,qx sr,qy sr];exact S9 (h _ (kq sr))
 rw[this];rfl
theorem one{fe:aA Fe}(h:fe.Pairwise λf g=>ng.lD g f=ak):eg.val (rf fe)=true:=by
 unfold eg.val;rw[bu];intro i hi;rw[bu];intro j hj;have sr:i<fe.length:=by rw[dN]at hi;exact gV.1 hi
 have Cw:j<i:=gV.1 hj;have:=dC.1 h j i (by omega) sr Cw;unfold ng.lD at this;unfold eg.g eg.op;rw[Dj sr,Qi sr,Dj (by omega:j<fe.length),Qi (by omega:j<fe.length),eN sr,eN (by omega:j<fe.length)];show(!(decide ((fe[i]).sta=1)&&(decide ((fe[j]).sta=1)&&bZ (aC (fe[i]).k) (aC (fe[j]).k))))=ai;rw[Lib.fu,this];rfl
theorem Xh(t:aq):j9.bg t t=true:=by
 unfold j9.bg;rw[aE (Int.le_refl _),bc];have:bO t (aW 0) (aW (t.size:aw))=t:=by rw[dH];show t.extract 0 t.size=t;exact ByteArray.extract_zero_size
 rw[this];exact jV _
theorem mM{fe:aA Fe}{cl:aA Cl}{bd:aA En}(h:∀c∈cl,Gp fe bd c):j9.Pg fe cl (re bd)=true:=by
 unfold j9.Pg;rw[bu];intro i hi;have sr:=gV.1 hi;have hc:=h _ (kq sr);generalize el cl i=c at hc;unfold j9.gOk;rcases hc with ⟨h1,h2,e,he,h3,h4,h5,h6⟩|⟨n,h1,h2,h3,h4,h5,h6⟩
 ·rw[aE h1,au,aE h2,js];unfold j9.has;rw[de,il.Cm bd (λx=>bZ (aC x.k) (aC c.k)&&(decide (x.st=c.fr)&&(bZ (aC x.bo) (aC c.mM)&&decide (x.li>c.age)))) (j9.hb (re bd) c.k c.fr c.mM c.age) (λi hi=> ?_),FR]
  ·exact⟨e,he,by simp[h3,h4,h5,h6,jV]⟩
  ·unfold j9.hb;rw[oA hi,qw hi,qx hi,qy hi,eN hi];rfl
 ·rw[aK (show¬c.fe=0 by omega),ax,show(c.fe-1).toNat=n by omega];unfold j9.wt;rw[h3,h4,h5,jV,bc];have:c.sta=1\/c.sta=2\/c.sta=3:=by omega
  rcases this with q|q|q
  ·rw[q];simp[jV]
  ·rw[q];simp[jV]
  ·rw[q];simp[Xh]
theorem aml{w:Wo}(ho:g6 w.p)(h:uW w):ue.sw w.p (re (kp (es w.o))) (re w.bd)=true:=by
 unfold ue.sw;rw[qZ.od.2 ho,one ho.ap,mM h.cl,stored h.bd];simp only[js];rw[bu];intro i hi;have sr:=gV.1 hi;unfold ue.qe;rw[oA sr,qw sr,qx sr,qy sr];show(bif vR.v (el w.p.en i).k (el w.p.en i).st (el w.p.en i).li (el w.p.en i).bo w.p.now then Bf.val (re (kp (es w.o))) (el w.p.en i).k (el w.p.en i).st (el w.p.en i).li (el w.p.en i).bo else ai)=ai;cases hf:vR.v (el w.p.en i).k (el w.p.en i).st (el w.p.en i).li (el w.p.en i).bo w.p.now with
 |false=>rfl
 |true=>refine S9 (h.fr _ (kq sr) ?_);unfold d_.mL;rw[vR.eq];exact hf
end ahI

namespace WL
open Lib (rr rs re rf rc rd Px En el)
open gF (Wo Ev iz)
open jT (dk es)
open qc (rv run life I5 W13)
open fV (ri)
open gT (kp)
open Eh (uW)
theorem runs{l:aA Ev}(hl:l.length<=70)(he:∀e∈l,iz e=ai):life l=W13 (run l) ai/\g_.th l.length (run l)/\uW (run l):=by
 refine⟨?_,qc.LL he,Eh.ZG he⟩
 unfold life;rw[qc.Ct.2 ⟨hl,he⟩,au]
theorem sound{l:aA Ev}(hl:l.length<=70)(he:∀e∈l,iz e=ai):
  (yF.c (rd (dk (run l).o))=ai/\yF.v (rd (dk (run l).o))=re (kp (es (run l).o)))/\(U61.c (rd (dk (run l).o))=ai/\U61.v (rd (dk (run l).o))=re (kp (es (run l).o)))/\(re (kp (es (run l).o))).length<=1048576/\(re (run l).bd).length<=1048576/\ue.sw (run l).p (re (kp (es (run l).o))) (re (run l).bd)=true:=by obtain⟨_,hW,hS⟩:=runs hl he;have t:=hW.tx (by omega);have f:=jT.Su (by omega) hW.eo;have h1:=hW.len (by omega);have h2:=gT.Hd (es (run l).o);have h3:=hW.bd;exact⟨f.2,f.1,by rw[de];omega,by rw[de];omega,ahI.aml hW.px hS⟩
end WL

namespace u6
open Lib (rr rs re rf rc Px)
open pe (jb)
theorem ok(p:Px)(f:aw)(hp:p.Fit 1048576):c p.now (re p.en) (rs p.w) (rs p.m) (rr p.s) p.a (rf p.fe) (rc p.cl) p.hits f=ai/\v p.now (re p.en) (rs p.w) (rs p.m) (rr p.s) p.a (rf p.fe) (rc p.cl) p.hits f=(jb p&&decide (0<=f/\f<=(p.fe.length:aw)-1)):=by have h:=OO.ok p hp;have hf:=hp.fe;refine out _ _ _ _ _ _ _ _ _ _ ?_;unfold vo b;rw[h.1,h.2,au,dN,dg (x:=(p.fe.length:aw)-1) (by omega) (by omega),show lz.v f 0 ((p.fe.length:aw)-1)=decide (0<=f/\f<=(p.fe.length:aw)-1)from fG.eO _ _ _];cases jb p<;>rfl
end u6

namespace AJ
open Lib (rr rs re rf rc Px Cl el)
open uQ (ec nU lr)
theorem ok(p:Px)(f:aF)(hf:f<p.fe.length)(hl:p.fe.length<=2097152)(hc:p.cl.length<=2097152):
  c p.now (re p.en) (rs p.w) (rs p.m) (rr p.s) p.a (rf p.fe) (rc p.cl) p.hits (f:aw)=ai/\v p.now (re p.en) (rs p.w) (rs p.m) (rr p.s) p.a (rf p.fe) (rc p.cl) p.hits (f:aw)=(p.now,re p.en,rs p.w,rs p.m,rr p.s,p.a,rf p.fe,rc (nU p.cl f 1 (el p.fe f).t),p.hits):=by
 refine out _ _ _ _ _ _ _ _ _ _ ?_;unfold vo b;rw[fg];have key:=nN Cl.row p.cl (λ_ c=>ec f 1 (el p.fe f).t c) (λn (i:aF) x=>l1 Lib.cW (λ(_ _ _ WJ QK Dx:aw) (FA Eg wy Kd Ke V4:aQ)=>ah (WJ,Eg,wy,Kd,Ke,QK,V4,FA,Dx)) n (f:aw) (p.cl.length:aw) (i:aw) p.now p.a p.hits x (re p.en) (rs p.w) (rs p.m) (rr p.s) (rf p.fe)) (λx=>ah (p.now,re p.en,rs p.w,rs p.m,rr p.s,p.a,rf p.fe,x,p.hits)) (λn i L h h2 hL wa=> ?_) (λn L hL=> ?_) Lib.cW (cJ (by omega))
 ·rw[lr]at key;exact key
 ·have e2:ar (L.map Cl.row) i (1+1)=CV.i ao p.cl[i].fe:=by rw[eZ _ L i _ h2,wa];rfl
  have e4:ar (L.map Cl.row) i (1+1+1+1)=CV.i ao p.cl[i].sta:=by rw[eZ _ L i _ h2,wa];rfl
  have s1:eJ (L.map Cl.row) i 5 [CV.s (el p.fe f).t]=(L.set i {p.cl[i]with mM:=(el p.fe f).t}).map Cl.row:=kS Cl.row L i 5 _ _ h2 (by rw[wa];rfl);simp only[l1,r1,Lib.dn,h,h2,hf,bU,cE,aN,Lib.cF,aM,au,Lib.dY,e2,e4,bF,s1,pK,dN,Dw hf,bw,Lib.c5 h (by omega:p.cl.length<=9223372036854775807),dg (x:=(f:aw)+1) (by omega) (by omega)];unfold ec;cases decide (p.cl[i].fe=(f:aw)+1)with
  |false=>rw[lE,ax,ax,<-wa,fB]
  |true=>
   cases hd:decide (p.cl[i].sta=1)with
   |false=>rw[bc,au,ax,ax,<-wa,fB]
   |true=>have e:=cu hd;rw[bc,au,au,au];rw[show({p.cl[i]with sta:=1,mM:=(el p.fe f).t}:Cl)={p.cl[i]with mM:=(el p.fe f).t}by rw[<-e]]
 ·simp only[l1,r1,Lib.dn,bm,bj,ax]
end AJ

namespace Wl
open Lib (rr rs re rf rc Px el)
open gu (sW CY told iT nY iR yp)
theorem ok(p:Px)(f:aw)(q:aq)(hp:p.Fit 1048576):c p.now (re p.en) (rs p.w) (rs p.m) (rr p.s) p.a (rf p.fe) (rc p.cl) p.hits f q=ai/\v p.now (re p.en) (rs p.w) (rs p.m) (rr p.s) p.a (rf p.fe) (rc p.cl) p.hits f q=(p.now,re p.en,rs p.w,rs p.m,rr p.s,p.a,rf (CY p f q).1.fe,rc (CY p f q).1.cl,p.hits,(CY p f q).2):=by
 have h1:=iP.ok p hp;have h2:=u6.ok p f hp;have hf:=hp.fe;have hc:=hp.cl;refine out _ _ _ _ _ _ _ _ _ _ _ ?_;unfold vo b CY;simp only[Lib.lt,h1.1,h1.2,h2.1,h2.2,au];unfold sW;cases cg:pe.jb p&&decide (0<=f/\f<=(p.fe.length:aw)-1)with
 |false=>rw[<-nO (pe.jb p),cg];rfl
 |true=>
  rw[<-nO (pe.jb p),cg,bc];rw[aL,bf]at cg;obtain⟨n,rfl⟩:∃n:aF,f=(n:aw):=⟨f.toNat,by omega⟩
  have hn:n<p.fe.length:=by omega
  have xG:=gu.Ni cg.1 n hn;unfold ng.nJ at xG;simp only[aL,bf]at xG;have nh:=QR.put (el p.fe n).sta (el p.fe n).t q xG.2.1 xG.2.2.1;simp only[a_,ax,au,Lib.cF,Lib.dn,dN,hn,aN,aM,Lib.dY,zW hn,Dw hn,bF,bw,nh];cases hs:decide ((el p.fe n).sta=1)&&(decide (1<=q.size/\q.size<=40)&&decide ((el p.fe n).t.size+q.size<=400))with
  |false=>rfl
  |true=>
   have e1:=yp p.fe n 1 [CV.s ((el p.fe n).t++q)] {el p.fe n with t:=(el p.fe n).t++q} hn rfl;have G6:n<(p.fe.set n {el p.fe n with t:=(el p.fe n).t++q}).length:=by rw[cE];exact hn
   have h3:=AJ.ok {p with fe:=p.fe.set n {el p.fe n with t:=(el p.fe n).t++q}} n G6 (by rw[cE];omega) (by dsimp only;omega);dsimp only at h3;rw[iR hn]at h3;simp only[a_,ax,au,e1,h3.1,h3.2];rfl
end Wl

namespace vT
open Lib (rr rs re rf rc Px Cl el)
open uQ (ec nU lr)
theorem ok(p:Px)(f:aF)(st:aw)(hf:f<p.fe.length)(hl:p.fe.length<=2097152)(hc:p.cl.length<=2097152):
  c p.now (re p.en) (rs p.w) (rs p.m) (rr p.s) p.a (rf p.fe) (rc p.cl) p.hits (f:aw) st=ai/\v p.now (re p.en) (rs p.w) (rs p.m) (rr p.s) p.a (rf p.fe) (rc p.cl) p.hits (f:aw) st=(p.now,re p.en,rs p.w,rs p.m,rr p.s,p.a,rf p.fe,rc (nU p.cl f st (el p.fe f).t),p.hits):=by
 refine out _ _ _ _ _ _ _ _ _ _ _ ?_;unfold vo b;rw[fg];have key:=nN Cl.row p.cl (λ_ c=>ec f st (el p.fe f).t c) (λn (i:aF) x=>l1 Lib.cW (λ(_ _ _ _ Dx FA Eg:aw) (wy Kd Ke V4 WK QL:aQ)=>ah (Dx,Kd,Ke,V4,WK,FA,QL,wy,Eg)) n (f:aw) st (p.cl.length:aw) (i:aw) p.now p.a p.hits x (re p.en) (rs p.w) (rs p.m) (rr p.s) (rf p.fe)) (λx=>ah (p.now,re p.en,rs p.w,rs p.m,rr p.s,p.a,rf p.fe,x,p.hits)) (λn i L h h2 hL wa=> ?_) (λn L hL=> ?_) Lib.cW (cJ (by omega))
 ·rw[lr]at key;exact key
 ·have e2:ar (L.map Cl.row) i (1+1)=CV.i ao p.cl[i].fe:=by rw[eZ _ L i _ h2,wa];rfl
  have e4:ar (L.map Cl.row) i (1+1+1+1)=CV.i ao p.cl[i].sta:=by rw[eZ _ L i _ h2,wa];rfl
  have s1:eJ (L.map Cl.row) i 4 [CV.i ao st]=(L.set i {p.cl[i]with sta:=st}).map Cl.row:=kS Cl.row L i 4 _ _ h2 (by rw[wa];rfl);have h3:i<(L.set i {p.cl[i]with sta:=st}).length:=by simpa using h2
  have s2:eJ ((L.set i {p.cl[i]with sta:=st}).map Cl.row) i 5 [CV.s (el p.fe f).t]=((L.set i {p.cl[i]with sta:=st}).set i {p.cl[i]with sta:=st,mM:=(el p.fe f).t}).map Cl.row:=kS Cl.row _ i 5 _ _ h3 (by rw[kI];rfl);simp only[l1,r1,Lib.dn,h,h2,hf,bU,cE,aN,Lib.cF,aM,au,Lib.dY,e2,e4,bF,s1,s2,pK,dN,Dw hf,bw,Lib.c5 h (by omega:p.cl.length<=9223372036854775807),dg (x:=(f:aw)+1) (by omega) (by omega)];unfold ec;cases decide (p.cl[i].fe=(f:aw)+1)with
  |false=>rw[lE,ax,ax,<-wa,fB]
  |true=>
   cases decide (p.cl[i].sta=1)with
   |false=>rw[bc,au,ax,ax,<-wa,fB]
   |true=>rw[bc,au,au,au]
 ·simp only[l1,r1,Lib.dn,bm,bj,ax]
end vT

namespace OQ
open Lib (rr rs re rf rc Px En el)
open fZ (So fT my)
open kB (yu)
theorem ok(p:Px)(e:En)(r6 r7:aQ)(hp:p.Fit 1048575)(hso:So p.en)(hk:e.k.size<=140737488355328):
  c p.now (re p.en) (rs p.w) (rs p.m) (rr p.s) p.a r6 r7 p.hits e.k e.st e.li e.bo=ai/\v p.now (re p.en) (rs p.w) (rs p.m) (rr p.s) p.a r6 r7 p.hits e.k e.st e.li e.bo=(p.now,re (yu p e).en,rs (yu p e).w,rs (yu p e).m,rr (yu p e).s,(yu p e).a,r6,r7,p.hits):=by have he:=hp.en;have hw:=hp.w;have hm:=hp.m;obtain⟨b1,b2,b3⟩:=e8.L8 p.w p.m p.s p.a e.k;have h1:=zr.ok p.w p.m p.s p.a e.k (by omega) (by omega) ⟨di hp.s.1 (by omega),λq hq=>di (hp.s.2.1 q hq) (by omega)⟩ hk;refine out _ _ _ _ _ _ _ _ _ _ _ _ _ ?_;unfold vo b yu;generalize e8.val p.w p.m p.s p.a e.k=V at h1 b1 b2 b3;obtain⟨W,M,T,A,G⟩:=V;dsimp only at h1 b1 b2⊢;have h2:=pM.ok (re p.en) G (fZ.Ss _) (by rw[de];omega);rw[fZ.GR]at h2;have h3:=sG.ok W M (rr T) A e.k (by omega) (by omega);have hd:=fZ.wZ p.en G;have h4:=uY.ok (re (fT p.en G)) e.k e.st e.li e.bo (fZ.CO (hso.drop G)) (by rw[de];omega);rw[fZ.tT]at h4;simp only[Lib.lt,h1.1,h1.2,h2.1,h2.2,h3.1,h3.2,h4.1,h4.2,au];cases fm.has W e.k||fm.has M e.k<;>rfl
end OQ

namespace DK
open Lib (rr rs re rf rc Px el)
open gu (sW told iT nY iR yp)
open sZ (cls kF)
theorem ok(p:Px)(f life:aw)(hp:p.Fit 1048576):c p.now (re p.en) (rs p.w) (rs p.m) (rr p.s) p.a (rf p.fe) (rc p.cl) p.hits f life=ai/\v p.now (re p.en) (rs p.w) (rs p.m) (rr p.s) p.a (rf p.fe) (rc p.cl) p.hits f life=(p.now,re (cls p f life).1.en,rs (cls p f life).1.w,rs (cls p f life).1.m,rr (cls p f life).1.s,(cls p f life).1.a,rf (cls p f life).1.fe,rc (cls p f life).1.cl,p.hits,(cls p f life).2):=by
 have h1:=iP.ok p hp;have h2:=u6.ok p f hp;have hf:=hp.fe;have hc:=hp.cl;refine out _ _ _ _ _ _ _ _ _ _ _ ?_;unfold vo b cls;simp only[Lib.lt,h1.1,h1.2,h2.1,h2.2,au];unfold sW;cases cg:pe.jb p&&decide (0<=f/\f<=(p.fe.length:aw)-1)with
 |false=>rw[<-nO (pe.jb p),cg];rfl
 |true=>
  rw[<-nO (pe.jb p),cg,bc];rw[aL,bf]at cg;obtain⟨n,rfl⟩:∃n:aF,f=(n:aw):=⟨f.toNat,by omega⟩
  have hn:n<p.fe.length:=by omega
  obtain⟨so,_,_,_,_,_,_,_,_,_,xG⟩:=kB.Bz cg.1;have xG:=xG n hn;unfold ng.nJ at xG;rw[aL]at xG;have A1:=e8.kL xG.1;simp only[a_,ax,au,Lib.cF,Lib.dn,dN,hn,aN,aM,Lib.dY,zW hn,bF];rw[show((el p.fe n).sta !=1)= !decide ((el p.fe n).sta=1)from rfl,show lz.v life 0 999999=decide (0<=life/\life<=999999)from fG.eO _ _ _];cases hs:decide ((el p.fe n).sta=1)with
  |false=>rfl
  |true=>
   cases hl:decide (0<=life/\life<=999999)with
   |false=>rfl
   |true=>
    have e1:=yp p.fe n 2 [CV.i ao 2] {el p.fe n with sta:=2} hn rfl;have n1:n<(p.fe.set n {el p.fe n with sta:=2}).length:=by rw[cE];exact hn
    have e2:=yp (p.fe.set n {el p.fe n with sta:=2}) n 3 [CV.i ao life] {el p.fe n with sta:=2,li:=life} n1 (by rw[iR hn];rfl);rw[pK]at e2;have n2:n<(p.fe.set n {el p.fe n with sta:=2,li:=life}).length:=by rw[cE];exact hn
    have e3:=yp (p.fe.set n {el p.fe n with sta:=2,li:=life}) n 4 [CV.i ao p.now] {el p.fe n with sta:=2,li:=life,st:=p.now} n2 (by rw[iR hn];rfl);rw[pK]at e3;generalize hg:({el p.fe n with sta:=2,li:=life,st:=p.now}:Lib.Fe)=g at e3;have n3:n<(p.fe.set n g).length:=by rw[cE];exact hn
    have h3:=vT.ok {p with fe:=p.fe.set n g} n 2 n3 (by rw[cE];omega) (by dsimp only;omega);dsimp only at h3;rw[iR hn]at h3;have hk:g.k=(el p.fe n).k:=by rw[<-hg]
    have h4:=OQ.ok (told p n g 2) (kF g) (rf (p.fe.set n g)) (rc (told p n g 2).cl) ((nY (kB.kA cg.1)).le (by omega)) so (by show g.k.size<=_;rw[hk];omega);have z0:bw (ar (rf (p.fe.set n g)) n 0)=g.k:=by rw[Dj n3,iR hn];rfl
    have z1:bw (ar (rf (p.fe.set n g)) n 1)=g.t:=by rw[Dw n3,iR hn];rfl
    have gl:g.li=life:=by rw[<-hg]
    have gs:g.st=p.now:=by rw[<-hg]
    unfold kF at h4;dsimp only[told]at h4;rw[gl,gs]at h4;unfold kF told;simp only[a_,ax,au,e1,e2,e3,h3.1,h3.2,z0,z1,gl,gs];cases decide (life>0)with
    |true=>simp only[au,h4.1,h4.2];rfl
    |false=>rfl
end DK

namespace vS
open Lib (rd el Fi)
open dJ (kh act ra Ac wa0 wa1 wa2 wa3 rZ Bg)
theorem ok(l:aA Fi)(a:aA Ac)(hl:l.length<=1000)(ha:a.length<=1000000)(ht:∀x∈a,x.t.size<=2305843009213693952):c (rd l) (ra a)=ai/\v (rd l) (ra a)=(rd (kh l 0 a).1,((kh l 0 a).2:aw)):=by
 refine out _ _ ?_;unfold vo b;have h1:=td.ok (rd l) (by rw[eB];omega);rw[h1.1,h1.2,au,rZ]
 have key:∀(d i n:aF) (l:aA Fi),a.length-i<=d->i<=a.length->l.length<=1000->d<n->
   l3 Lib.cW (λ(_:aQ) (y7:aw) (_:aQ) (_ _:aw) (wx:aQ)=>ah (wx,y7)) (λ(Md:aQ) (_:aw) (_:aQ) (_ _:aw) (Dx:aQ)=>ah (Dx,(↑(bT Md):aw))) n (ra a) 0 (ra a) (a.length:aw) (i:aw) (rd l)=ah (rd (kh l i (a.drop i)).1,((kh l i (a.drop i)).2:aw)):=by
  intro d
  induction d with
  |zero=>
   intro i n l e1 e2 e3 e4;obtain⟨n,rfl⟩:∃n',n=n'+1:=⟨n-1,by omega⟩
   have:i=a.length:=by omega
   subst this;simp only[l3,r3,Lib.dn,bm,bj,ax,rZ,dm,kh]
  |succ d ih=>
   intro i n l e1 e2 e3 e4;obtain⟨n,rfl⟩:∃n',n=n'+1:=⟨n-1,by omega⟩
   by_cases hi:i<a.length
   ·have hd:=rI.ok l (el a i).k (el a i).n (el a i).t (el a i).o e3 (ht _ (kq hi));simp only[l3,r3,Lib.dn,rZ,hi,aN,Lib.cF,aM,au,Lib.dY,wa0 hi,wa1 hi,wa2 hi,wa3 hi,bw,bF,hd.1,hd.2,Lib.c5 hi (by omega:a.length<=9223372036854775807)];rw[dF hi,<-eN hi];unfold kh;cases hac:act l (el a i).k (el a i).n (el a i).t (el a i).o with
    |none=>rfl
    |some e=>have:=(Bg hac).2;exact ih (i+1) n e (by omega) hi (by omega) (by omega)
   ·have:i=a.length:=by omega
    subst this;simp only[l3,r3,Lib.dn,bm,bj,ax,rZ,dm,kh]
 exact key a.length 0 Lib.cW l (by omega) (bI _) hl (cJ (by omega))
end vS

namespace Wm
open Lib (rr rs re rf rc rd Px En el Dj Dw QI QJ)
open gF (Wo Ev closed)
open jT (dk es)
open g_ (th)
open fV (ri v5 tX kA)
open sZ (cls kF)
theorem ok{i:aF}{w:Wo}(h:th i w)(hi:i<=71)(id life:aw)(hl:0<=life/\life<=999999):c w.p.now (re w.p.en) (rs w.p.w) (rs w.p.m) (rr w.p.s) w.p.a (rf w.p.fe) (rc w.p.cl) w.p.hits (rd (dk w.o)) (ri w.cd) (re w.bd) id life=ai/\v w.p.now (re w.p.en) (rs w.p.w) (rs w.p.m) (rr w.p.s) w.p.a (rf w.p.fe) (rc w.p.cl) w.p.hits (rd (dk w.o)) (ri w.cd) (re w.bd) id life=((cls w.p id life).2,v5 (closed w id life).1):=by
 refine out _ _ _ _ _ _ _ _ _ _ _ _ _ _ ?_;have XJ:=h.bd;have Wv:=h.tx hi;have hdl:=jT.Cd w.o;have A:=DK.ok w.p id life (kA h.px);obtain⟨q1,q2⟩:=g_.KI (f:=id) h.px hl;obtain⟨s1,s2⟩:=sZ.IC (p:=w.p) (f:=id) (life:=life);have mI:=kA q1;unfold vo b;rw[A.1,au,A.2,fV.lt_eq];unfold closed v5;dsimp only;rw[<-s1,<-s2];generalize cls w.p id life=Q at q1 q2 s1 s2 mI;obtain⟨q,ok⟩:=Q;dsimp only at q1 q2 s1 s2 mI⊢;rcases q2 with ⟨r1,r2⟩|⟨r1,n,rn,hn,rf_,rs_,rl⟩
 ·subst r1;rfl
 subst r1;rw[a_,ax];by_cases hz:life=0
 ·rw[aE hz,au,bc,aK (show¬life>0 by omega)];rfl
 rw[aK hz,ax,bc,aE (show life>0 by omega),au];obtain⟨t1,t2⟩:=rl (by omega);have G6:n<q.fe.length:=by rw[rf_,cE];exact hn
 have Nu:el q.fe n={el w.p.fe n with sta:=2,li:=life,st:=w.p.now}:=by rw[rf_,gu.iR hn]
 subst rn;rw[dH];have B:=sG.ok q.w q.m (rr q.s) q.a (el q.fe n).k mI.w mI.m;have C:=u9.ok (el q.fe n).k (el q.fe n).st (el q.fe n).li (el q.fe n).t;have hE:nb.v (el q.fe n).k (el q.fe n).st (el q.fe n).li (el q.fe n).t=true:=by rw[Nu];exact t1
 have Ai:=g_.KW (e:=kF (el q.fe n)) hE;rw[u9.val,bz hE,show u9.kh (fK.fr (jL.sR (el q.fe n).k (el q.fe n).st (el q.fe n).li (el q.fe n).t))=dJ.ra (gT.sB (gT.HX (kF (el q.fe n))))from rfl]at C;have D:=vS.ok (dk w.o) (gT.sB (gT.HX (kF (el q.fe n)))) (by omega) (by unfold gT.sB;simp) (λx hx=>by
  unfold gT.sB at hx;simp only[cC,gG,or_false]at hx;rcases hx with rfl|rfl
  ·show(gT.HX (kF (el q.fe n))).size<=_;omega
  ·exact bI _)
 rw[jT.Nb (by omega)]at D;have hP:(fm.has q.w (el q.fe n).k||fm.has q.m (el q.fe n).k)=true:=by rw[Nu];exact t2
 rw[hP]at B;have room:∀y,cy ((re w.bd).length+(aD (aP [Ck.s,Ck.i ao,Ck.i ao,Ck.s] 1) 0 y).length) 48=true:=λy=>by rw[de,fV.m8];exact Lib.cj (by omega) (by omega)
 have sn:=tX w.bd (kF (el q.fe n));unfold kF at sn C D;dsimp only at sn;simp only[fV.lt_eq,dN,Lib.dn,G6,aN,Lib.cF,aM,au,Lib.dY,Dj G6,Dw G6,QI G6,QJ G6,bw,bF,B.1,B.2,C.1,C.2,D.1,D.2,room,sn,show kF (el q.fe n)=⟨(el q.fe n).k,(el q.fe n).st,(el q.fe n).li,(el q.fe n).t⟩from rfl]
end Wm

namespace Wn
open Lib (rr rs re rf rc Px el)
open gu (sW B9 told iT nY iR yp)
theorem ok(p:Px)(f:aw)(hp:p.Fit 1048576):c p.now (re p.en) (rs p.w) (rs p.m) (rr p.s) p.a (rf p.fe) (rc p.cl) p.hits f=ai/\v p.now (re p.en) (rs p.w) (rs p.m) (rr p.s) p.a (rf p.fe) (rc p.cl) p.hits f=(p.now,re p.en,rs p.w,rs p.m,rr p.s,p.a,rf (B9 p f).1.fe,rc (B9 p f).1.cl,p.hits,(B9 p f).2):=by
 have h1:=iP.ok p hp;have h2:=u6.ok p f hp;have hf:=hp.fe;have hc:=hp.cl;refine out _ _ _ _ _ _ _ _ _ _ ?_;unfold vo b B9;simp only[Lib.lt,h1.1,h1.2,h2.1,h2.2,au];unfold sW;cases cg:pe.jb p&&decide (0<=f/\f<=(p.fe.length:aw)-1)with
 |false=>rw[<-nO,cg];rfl
 |true=>
  rw[<-nO,cg,bc];rw[aL,bf]at cg;obtain⟨n,rfl⟩:∃n:aF,f=(n:aw):=⟨f.toNat,by omega⟩
  have hn:n<p.fe.length:=by omega
  simp only[a_,ax,au,Lib.cF,Lib.dn,dN,hn,aN,aM,Lib.dY,zW hn,bF];cases hs:decide ((el p.fe n).sta=1)with
  |false=>rw[show((el p.fe n).sta !=1)= !decide ((el p.fe n).sta=1)from rfl,hs];rfl
  |true=>
   have e1:=yp p.fe n 2 [CV.i ao 3] {el p.fe n with sta:=3} hn rfl;have G6:n<(p.fe.set n {el p.fe n with sta:=3}).length:=by rw[cE];exact hn
   have h3:=vT.ok {p with fe:=p.fe.set n {el p.fe n with sta:=3}} n 3 G6 (by rw[cE];omega) (by dsimp only;omega);dsimp only at h3;rw[iR hn]at h3;rw[show((el p.fe n).sta !=1)= !decide ((el p.fe n).sta=1)from rfl,hs];simp only[a_,ax,au,e1,h3.1,h3.2];rfl
end Wn

namespace DF
open Lib (rr rs re rf rc Px)
open qH (tm later)
theorem md(n:aw):AL.c n 1000=ai/\AL.v n 1000=n%1000:=by
 refine AL.out _ _ ?_;unfold AL.vo AL.b;have t:=tm n;rw[show(!decide ((1000:aw)=0))=ai from rfl,au,au];congr 1;by_cases hn:cz n 1000<0
 ·have e:=t.2 hn;rw[e,dg (x:=n%1000) (by omega) (by omega),iq (by omega)];omega
 ·have e:=t.1 (by omega);rw[e,dg (x:=n%1000+1000) (by omega) (by omega),iq (by omega)];omega
theorem ok(p:Px)(n:aw)(hp:p.Fit 1048576):c p.now (re p.en) (rs p.w) (rs p.m) (rr p.s) p.a (rf p.fe) (rc p.cl) p.hits n=ai/\v p.now (re p.en) (rs p.w) (rs p.m) (rr p.s) p.a (rf p.fe) (rc p.cl) p.hits n=((qH.val p n).now,re p.en,rs p.w,rs p.m,rr p.s,p.a,rf p.fe,rc p.cl,p.hits):=by have h:=iP.ok p hp;have hm:=md n;refine out _ _ _ _ _ _ _ _ _ _ ?_;unfold vo b qH.val later;simp only[Lib.lt,h.1,h.2,hm.1,hm.2,au];rw[dg (x:=1000000000-n%1000) (by omega) (by omega)];cases decide (p.now>1000000000-n%1000)<;>rfl
end DF

namespace nr
def p(s:aQ)(k:aw)(i:aF):aX:=decide (bF (ar s i 0)=k)
theorem ok(d:aQ)(n:aw)(hl:d.length<=4294967296):c d n=ai/\v d n=Lib.fi (p d n) d.length 0:=by
 refine out d n ?_;unfold vo b;refine mW (p d n) d.length (λm (i:aF)=>l2 Lib.cW (λ(_:aQ) (_:aw) (y7 _ _:aw)=>ah y7) (λ(_:aQ) (_:aw) (_ _ _:aw)=>ah (-1)) m d n 0 (d.length:aw) (i:aw)) ah (λm i hi hp=> ?_) (λm i hi hp=> ?_) (λm=> ?_) Lib.cW (cJ (by omega))
 ·unfold p at hp;simp only[l2,r2,Lib.dn,Lib.cF,Lib.dY,hi,aN,aM,au,AM.v,hp]
 ·unfold p at hp;simp only[l2,r2,Lib.dn,Lib.cF,Lib.dY,hi,aN,aM,au,AM.v,hp,ax,Lib.c5 hi (by omega:d.length<=9223372036854775807)]
 ·simp only[l2,r2,Lib.dn,bm,bj,ax]
end nr

namespace wK
def cn(y:aA CV):aX:=match y with|[.i .i64 _, .s _, .i .i64 _, .i .i64 _, .i .i64 _, .s _, .i .i64 _]=>ai|_=>ak
def cr(y:aA CV):aA CV:=[CV.i ao (bF (y.getD 0 (.b ak))),CV.s (bw (y.getD 1 (.b ak))),CV.i ao (bF (y.getD 2 (.b ak))),CV.i ao (bF (y.getD 3 (.b ak))),CV.i ao (bF (y.getD 4 (.b ak))),CV.s (bw (y.getD 5 (.b ak))),CV.i ao (bF (y.getD 6 (.b ak)))]
theorem tw{y:aA CV}(h:cn y=ai):cr y=y:=by
 unfold cn at h;split at h
 ·rfl
 ·cases h
theorem mr{y:aA CV}(h:cn y=ai):y.length=7:=by rw[<-tw h];rfl
def keep(d:aw)(y:aA CV):aX:= !decide (bF (y.getD 0 (.b ak))=d)
theorem ir(d:aw){s:aQ}{i:aF}(h:i<s.length):(s.take (i+1)).filter (keep d)=(s.take i).filter (keep d)++(bif keep d s[i]then [s[i]]else []):=by rw[cw h,gz];cases hk:keep d s[i]<;>simp[hk]
theorem run(N:aF)(s0:aQ)(d:aw)(hc:s0.all cn=ai)(hn:s0.length<=9223372036854775807)(K:aw->aw->aw->aQ->az R)(kr:aQ->az R)
  (hK:∀(j:aF) x,x.length=s0.length->j<=s0.length->K d j s0.length x=kr (x.take j)) (m j i:aF) (x:aQ)
  (hi:j<i/\i<=s0.length/\x.length=s0.length/\(∀y∈x,y.length=7)/\x.take j=(s0.take i).filter (keep d)/\x.drop i=s0.drop i) (hm:s0.length-i<m):
  l5 N K m d j i x=kr (s0.filter (keep d)):=by
 have K4:∀y∈s0,cn y=true:=bu.1 hc
 refine Lib.g8 (λm (s:aF×aF×aQ)=>l5 N K m d s.1 s.2.1 s.2.2) (λs=>s0.length-s.2.1)
  (λs=>s.1<s.2.1/\s.2.1<=s0.length/\s.2.2.length=s0.length/\(∀y∈s.2.2,y.length=7)/\s.2.2.take s.1=(s0.take s.2.1).filter (keep d)/\s.2.2.drop s.2.1=s0.drop s.2.1)
  (λ_=>kr (s0.filter (keep d))) (λm s hs=> ?_) m (j,i,x) hi hm
 obtain⟨j,i,x⟩:=s;obtain⟨h1,h2,h3,h4,h5,h6⟩:=hs;simp only at h1 h2 h3 h4 h5 h6⊢;by_cases gh:i<s0.length
 ·right;have oz:i<x.length:=by omega
  have G5:j<x.length:=by omega
  have hx:x[i]=s0[i]:=by have e1:=Lib.eL oz;have e2:=Lib.eL gh;rw[h6,e2]at e1;exact(kC e1).1.symm
  have hd:x.drop (i+1)=s0.drop (i+1):=by have e1:=Lib.eL oz;have e2:=Lib.eL gh;rw[h6,e2]at e1;exact(kC e1).2.symm
  have K6:=K4 _ (bC gh);have hf:=ir d gh;cases hk:keep d s0[i]with
  |true=>
   refine⟨(j+1,i+1,x.set j s0[i]), ?_,by simp only;omega,trivial, ?_⟩
   ·rw[hk,au,<-h5]at hf;refine⟨by simp only;omega,by simp only;omega,by simpa using h3, ?_, ?_, ?_⟩
    ·intro y hy;rcases jK hy with h|h
     ·exact h4 y h
     ·rw[h];exact mr K6
    ·rw[hf];rw[cw (by simpa using G5)];simp[wH]
    ·simp only;rw[wG (by omega)];exact hd
   ·have e:AM.v (bF (ar x i 0)) (bw (ar x i 1)) (bF (ar x i (1+1))) (bF (ar x i (1+1+1))) (bF (ar x i (1+1+1+1))) (bw (ar x i (1+1+1+1+1))) (bF (ar x i (1+1+1+1+1+1))) d=false:=by
     have:(!AM.v (bF (ar x i 0)) (bw (ar x i 1)) (bF (ar x i (1+1))) (bF (ar x i (1+1+1))) (bF (ar x i (1+1+1+1))) (bw (ar x i (1+1+1+1+1))) (bF (ar x i (1+1+1+1+1+1))) d)=true:=by rw[Lib.cL oz,hx];exact hk
     simpa using this
    have es:eJ x j 0 [CV.i ao (bF (ar x i 0)),CV.s (bw (ar x i 1)),CV.i ao (bF (ar x i (1+1))),CV.i ao (bF (ar x i (1+1+1))),CV.i ao (bF (ar x i (1+1+1+1))),CV.s (bw (ar x i (1+1+1+1+1))),CV.i ao (bF (ar x i (1+1+1+1+1+1)))]=x.set j s0[i]:=by
     have hl:=h4 _ (bC G5);rw[Lib.BB G5,Lib.cL oz,Lib.cL oz,Lib.cL oz,Lib.cL oz,Lib.cL oz,Lib.cL oz,Lib.cL oz,hx];have:iH x[j] 0 (cr s0[i])=s0[i]:=by rw[tw K6];unfold iH;have:=mr K6;simp[hl,this,gU]
     unfold cr at this;rw[this]
    have b1:(j:aw)<(x.length:aw):=by omega
    simp only[l5,r5,Lib.dn,Lib.cF,Lib.dY,oz,G5,aN,bc,au,e,bR,es,Lib.c5 gh hn,Lib.c5 (show j<s0.length by omega) hn]
  |false=>
   refine⟨(j,i+1,x), ?_,by simp only;omega,trivial, ?_⟩
   ·rw[hk,ax,dp,<-h5]at hf;exact⟨by simp only;omega,by simp only;omega,h3,h4,hf.symm,hd⟩
   ·have e:AM.v (bF (ar x i 0)) (bw (ar x i 1)) (bF (ar x i (1+1))) (bF (ar x i (1+1+1))) (bF (ar x i (1+1+1+1))) (bw (ar x i (1+1+1+1+1))) (bF (ar x i (1+1+1+1+1+1))) d=true:=by
     have:(!AM.v (bF (ar x i 0)) (bw (ar x i 1)) (bF (ar x i (1+1))) (bF (ar x i (1+1+1))) (bF (ar x i (1+1+1+1))) (bw (ar x i (1+1+1+1+1))) (bF (ar x i (1+1+1+1+1+1))) d)=false:=by rw[Lib.cL oz,hx];exact hk
     simpa using this
    simp only[l5,r5,Lib.dn,Lib.cF,Lib.dY,oz,aN,bc,au,e,a_,ax,Lib.c5 gh hn]
 ·left;have:i=s0.length:=by omega
  subst this;rw[dE]at h5;have e:=hK j x h3 (by omega);rw[h5]at e;have oz:¬s0.length<x.length:=by omega
  simp only[l5,r5,Lib.dn,oz,bj,ax,e]
theorem ok(s0:aQ)(iZ:aw)(hc:s0.all cn=ai)(hn:s0.length<=4294967296):c s0 iZ=ai/\v s0 iZ=s0.filter (keep iZ):=by
 refine out s0 iZ ?_;have hv:=nr.ok s0 iZ hn;unfold vo b;rw[hv.1,hv.2,au];rcases Lib.pr (nr.p s0 iZ) s0.length 0 with ⟨h,nW⟩|⟨k,_,Aj,hk,K9,K3⟩
 ·rw[h];have:s0.filter (keep iZ)=s0:=by rw[eK];intro y hy;obtain⟨i,hi,rfl⟩:=c7 hy;have:=nW i (bI _) (by omega);unfold nr.p at this;rw[Lib.cL hi]at this;unfold keep;rw[this];rfl
  rw[this];rfl
 ·rw[hk];have D0:k<s0.length:=by omega
  have iA:decide ((k:aw)=Kn 1)=false:=aK (by show¬(k:aw)= -1;omega);rw[iA,ax,Lib.c5 D0 (by omega)];have K4:∀y∈s0,cn y=true:=bu.1 hc;refine run _ s0 iZ hc (by omega) _ ah (λj x hx hj=> ?_) _ k (k+1) s0 ⟨by omega,by omega,rfl,λy hy=>mr (K4 y hy), ?_,rfl⟩ (cJ (by omega))
  ·have b1:g7 (j:aw) (s0.length:aw) (s0.length:aw)=true:=by simp[g7];omega
   have e:g9 j x++aP [Ck.i ao,Ck.s,Ck.i ao,Ck.i ao,Ck.i ao,Ck.s,Ck.i ao] (s0.length-j)++nk s0.length x=g9 j x++aP [Ck.i ao,Ck.s,Ck.i ao,Ck.i ao,Ck.i ao,Ck.s,Ck.i ao] (s0.length-j):=by rw[gU (by omega),dp]
   have hl:(g9 j x).length=j:=by simp;omega
   simp only[hx,Lib.dY,b1,au,e];rw[Lib.tp (by simp[g7];omega)];unfold eA;rw[show aW 0=0 from rfl,fa,si,o8 (by omega),je (by omega)]
  ·rw[ir iZ D0];have e1:keep iZ s0[k]=false:=by unfold nr.p at K9;rw[Lib.cL D0]at K9;unfold keep;rw[K9];rfl
   have e2:(s0.take k).filter (keep iZ)=s0.take k:=by
    rw[eK];intro y hy;obtain⟨i,hi,rfl⟩:=c7 hy;have Wu:i<k:=by simp at hi;omega
    have:=K3 i (bI _) Wu;unfold nr.p at this;rw[Lib.cL (by omega)]at this;rw[ny];unfold keep;rw[this];rfl
   rw[e1,e2,ax,dp]
end wK

namespace DG
open Lib (rr rs re rf rc Px Cl)
theorem aiC(l:aA Cl):(rc l).all wK.cn=true:=by rw[bu];intro y hy;unfold Lib.rc at hy;obtain⟨z,_,rfl⟩:=cX.1 hy;rfl
theorem aeY(l:aA Cl)(id:aw):(rc l).filter (wK.keep id)=rc (l.filter λc=> !decide (c.id=id)):=by unfold Lib.rc;rw[o7];rfl
theorem ok(p:Px)(id:aw)(hp:p.Fit 1048576):c p.now (re p.en) (rs p.w) (rs p.m) (rr p.s) p.a (rf p.fe) (rc p.cl) p.hits id=ai/\v p.now (re p.en) (rs p.w) (rs p.m) (rr p.s) p.a (rf p.fe) (rc p.cl) p.hits id=(p.now,re p.en,rs p.w,rs p.m,rr p.s,p.a,rf p.fe,rc (s_.val p id).cl,p.hits):=by have h:=iP.ok p hp;have hc:=hp.cl;have h2:=wK.ok (rc p.cl) id (aiC _) (by rw[fg];omega);rw[aeY]at h2;exact out _ _ _ _ _ _ _ _ _ _ (by unfold vo b;simp only[Lib.lt,h.1,h.2,h2.1,h2.2,au];rfl)
end DG

namespace AO
theorem ok(d l:aQ)(hd:d.length<=1048576)(hl:l.length<=1048576):c d l=ai/\v d l=jM.val d l:=by
 refine out d l ?_;have k1:=ik.ok d (by omega);have k2:=uX.ok d {data:= #[ay 110,ay 101,ay 119]} (by omega);have e2:vZ.val d {data:= #[ay 110,ay 101,ay 119]}=vZ.val d jM.nm:=rfl;unfold vo b jM.val;rw[k1.1,k1.2,au];cases gE.val d with
 |false=>rfl
 |true=>
  rw[a_,ax,au];have tr:∀(K0 K1:aX->aq->aQ->aw->aw->aQ->az (aQ×aX)) (kt:aq->az (aQ×aX)) (h0:∀x i,K0 ak x l l.length i d=ah ([],ak)) (h1:∀x i,K1 ak x l l.length i d=kt x),l5 Lib.cW K0 K1 Lib.cW ak ⟨#[]⟩ l l.length 0 d=jM.fin (jM.fs l l.length 0 ⟨#[]⟩) (ah ([],ak)) kt:=by
   intro K0 K1 kt h0 h1;refine jM.M8 l hl (λm i acc=>l5 Lib.cW K0 K1 m ak acc l l.length (i:aw) d) _ kt (λm i acc hi ha hf ho=> ?_) (λm i acc hi ho=> ?_) (λm acc=> ?_)
   ·have me:bJ ((i:aw)+1)=((i+1:aF):aw):=dg (by omega) (by omega);have f1:=mU.ok (bw (ar l i 0)) (bF (ar l i 1)) (bF (ar l i (1+1))) (bw (ar l i (1+1+1)));have f2:mU.val (bw (ar l i 0)) (bF (ar l i 1)) (bF (ar l i (1+1))) (bw (ar l i (1+1+1)))=(fK.fr (jM.tx l i),ai):=by unfold mU.val;exact bz ho
    simp only[l5,r5,Lib.dn,Lib.cF,Lib.dY,hi,aN,aM,au,ax,f1.1,f1.2,f2,a_,aE (show acc.size+(fK.fr (jM.tx l i)).size<=4611686018427387904 by omega),me]
   ·have f1:=mU.ok (bw (ar l i 0)) (bF (ar l i 1)) (bF (ar l i (1+1))) (bw (ar l i (1+1+1)));have f2:mU.val (bw (ar l i 0)) (bF (ar l i 1)) (bF (ar l i (1+1))) (bw (ar l i (1+1+1)))=(⟨#[]⟩,ak):=by unfold mU.val;rw[bH (by intro h;have h':jM.eo l i=true:=h;rw[ho]at h';cases h')]
    simp only[l5,r5,Lib.dn,Lib.cF,Lib.dY,hi,aN,aM,au,f1.1,f1.2,f2,bR];exact h0 acc i
   ·simp only[l5,r5,Lib.dn,bm,bj,ax];exact h1 acc _
  refine(tr _ _ (λx=>ah (jM.kh (vZ.val d jM.nm).2 x,ai)) (λ_ _=>rfl) (λx _=> ?_)).trans ?_
  ·rw[k2.1,au,k2.2,e2];cases (vZ.val d jM.nm).2<;>rfl
  ·cases jM.fs l l.length 0 ⟨#[]⟩<;>rfl
end AO

namespace Qs
open Lib (rr rs re rf rc Px En el oA qw qx qy)
open d_ (qa mL one rP xW zx p0)
theorem ok(now:aw)(l:aA En)(hl:l.length<=1048576):
  c now (re l)=ai/\v now (re l)=(now,re (qa now l).en,rs (qa now l).w,rs (qa now l).m,rr (qa now l).s,(qa now l).a,[],[],0):=by
 refine out _ _ ?_;unfold vo b;rw[de];have key:=mb l.length (λn (i:aF) (p:Px)=>l4 Lib.cW (λ(_:aw) (_:aQ) (_ _ _ _ _ WK QL QM:aw) (H0 QN QO QP QQ Qk:aQ)=>ah (WK,H0,QN,QO,QP,QL,QQ,Qk,QM)) n now (re l) (l.length:aw) (i:aw) 0 0 0 now p.a 0 (re p.en) (rs p.w) (rs p.m) (rr p.s) [] []) (λi=>qa now (l.take i)) (ah (now,re (qa now l).en,rs (qa now l).w,rs (qa now l).m,rr (qa now l).s,(qa now l).a,[],[],0)) (λn i hi=>by
  have I:=rP now l i (by omega);have hs:=xW now l i hi;generalize qa now (l.take i)=p at I hs;rw[hs];unfold one;have hw:bJ ((i:aw)+1)=((i+1:aF):aw):=Lib.c5 hi (by omega);cases hf:mL (el l i) now with
  |false=>have vp:GG.v (el l i).k (el l i).st (el l i).li (el l i).bo now=false:=hf;simp only[l4,r4,de,Lib.dn,hi,aN,Lib.cF,aM,au,Lib.dY,oA hi,qw hi,qx hi,qy hi,bw,bF,vp,ax,hw]
  |true=>have vp:GG.v (el l i).k (el l i).st (el l i).li (el l i).bo now=true:=hf;have hk:=(nb.Ea (zx hf)).1;have h4:=OQ.ok p (el l i) [] [] (I.fit (by omega) (by omega)) I.so (by omega);rw[I.now,I.hits]at h4;simp only[l4,r4,Lib.lt,de,Lib.dn,hi,aN,Lib.cF,aM,au,Lib.dY,oA hi,qw hi,qx hi,qy hi,bw,bF,vp,h4.1,h4.2,hw]) (λn=>by
  simp only[l4,r4,Lib.dn,bm,bj,ax,dE]) Lib.cW 0 (bI _) (cJ (by omega))
 exact key
end Qs

namespace AG
open Lib (rr rs re rf rc rd Px En el oA qw qx qy)
open gF (Wo Ev tB jq)
open jT (dk es)
open g_ (th)
open fV (ri v5 tX kA)
theorem walk(N:aF)(L:aA En)(hL:L.length<=1048576)(hN:L.length<N)(K0:aw->aw->aw->aw->aw->aQ->aQ->aQ->aQ->aQ->aQ->aQ->aQ->aQ->aQ->aQ->az R)(now a5 a8:aw)(q1 q2 q3 q4 q6 q7 q9 D_ Zy:aQ):
  l3 N K0 N (L.length:aw) 0 now a5 a8 (re []) (re L) q1 q2 q3 q4 q6 q7 q9 D_ Zy=K0 (L.length:aw) (L.length:aw) now a5 a8 (re (L.filter λe=>d_.mL e now)) (re L) q1 q2 q3 q4 q6 q7 q9 D_ Zy:=by
 have hw:∀i,i<L.length->bJ ((i:aw)+1)=((i+1:aF):aw):=λi h=>Lib.c5 h (by omega)
 have key:=Cn L (λe=>d_.mL e now) (λm (i:aF) acc=>l3 N K0 m (L.length:aw) (i:aw) now a5 a8 (re acc) (re L) q1 q2 q3 q4 q6 q7 q9 D_ Zy) (λacc=>K0 (L.length:aw) (L.length:aw) now a5 a8 (re acc) (re L) q1 q2 q3 q4 q6 q7 q9 D_ Zy) []
  (λm i acc hi ha hp=>by rw[<-eN hi]at hp⊢;unfold d_.mL at hp;simp only[l3,r3,de,Lib.dn,hi,aN,Lib.cF,aM,au,Lib.dY,oA hi,qw hi,qx hi,qy hi,bw,bF,hp,hw i hi,fV.m8,fV.tX];rw[Lib.cj (by simp at ha;omega) (by simp at ha;omega),au])
  (λm i acc hi hp=>by rw[<-eN hi]at hp;unfold d_.mL at hp;simp only[l3,r3,de,Lib.dn,hi,aN,Lib.cF,aM,au,Lib.dY,oA hi,qw hi,qx hi,qy hi,bw,bF,hp,hw i hi,ax])
  (λm acc=>by simp only[l3,r3,Lib.dn,bm,bj,ax])
  N hN
 exact key
theorem ok{i:aF}{w:Wo}(h:th i w)(hi:i<=71)(left:aQ):c w.p.now (re w.p.en) (rs w.p.w) (rs w.p.m) (rr w.p.s) w.p.a (rf w.p.fe) (rc w.p.cl) w.p.hits (rd (dk w.o)) (ri w.cd) (re w.bd) left=ai/\v w.p.now (re w.p.en) (rs w.p.w) (rs w.p.m) (rr w.p.s) w.p.a (rf w.p.fe) (rc w.p.cl) w.p.hits (rd (dk w.o)) (ri w.cd) (re w.bd) left=v5 (tB w):=by
 refine out _ _ _ _ _ _ _ _ _ _ _ _ _ ?_;have Wv:=h.tx hi;have hlen:=h.len hi;have hdl:=jT.Cd w.o;have A:=wL.ok (dk w.o) left (by omega);rw[jT.Xn (by omega) left,show rI.res (ah (dk w.o))=(rd (dk w.o),ai)from rfl]at A;have B:=(jT.Su (o:=w.o) (by omega) h.eo).1;have D0:=gT.Hd (es w.o);have hf:=g_.G0 h.eo;have Po:=g_.Cr w;have htf:=g_.VS _ hf;have C:=AO.ok (rd (dk w.o)) (re (jq w)) (by rw[eB];omega) (by rw[de];omega);rw[jT.aa0 (by omega) hf]at C;have D:=vS.ok (dk w.o) (pQ.tl (gT.tx (jq w))) (by omega) (by unfold pQ.tl;simp) (λx hx=>by
  unfold pQ.tl at hx;simp only[cC,gG,or_false]at hx;rcases hx with rfl|rfl|rfl
  ·show(gT.tx (jq w)).size<=_;omega
  ·exact bI _
  ·exact bI _)
 rw[jT.Na (by omega) (by omega)]at D;have E:=Qs.ok w.p.now (jq w) (by omega);unfold vo;generalize hN:Lib.cW=N;have jB:(gT.kp (es w.o)).length<N:=by rw[<-hN];exact cJ (by omega)
 clear hN;unfold b;rw[A.1,au,A.2,fV.lt_eq];show(bif U61.c (rd (dk w.o))then Lib.lt (U61.v (rd (dk w.o))) _ else aj)=_;rw[B.1,au,B.2,fV.lt_eq,de,show aP [Ck.s,Ck.i ao,Ck.i ao,Ck.s] 0=re []from rfl,walk N (gT.kp (es w.o)) (by omega) jB];have e:((kpp:aA En)->kpp=gT.kp (es w.o)->kpp.filter (λe=>d_.mL e w.p.now)=jq w):=λ_ h=>by subst h;rfl
 rw[e _ rfl];simp only[fV.lt_eq,C.1,C.2,D.1,D.2,E.1,E.2,au];have hinv:=d_.rP w.p.now (jq w) (jq w).length (cG _);rw[dE]at hinv;unfold v5 tB;dsimp only;rw[hinv.now,hinv.fe,hinv.cl,hinv.hits];rfl
end AG

namespace Wk
open Lib (rr rs re rf rc rd Px En el)
open gF (Wo Ev closed tB jq iz flag)
open jT (dk es)
open g_ (th)
open fV (ri v5 tX kA)
theorem fl(b:aX):GA.v b=flag b:=by cases b<;>rfl
theorem ok{i:aF}{w:Wo}{e:Ev}(h:th i w)(hi:i<=71)(he:iz e=ai):c w.p.now (re w.p.en) (rs w.p.w) (rs w.p.m) (rr w.p.s) w.p.a (rf w.p.fe) (rc w.p.cl) w.p.hits (rd (dk w.o)) (ri w.cd) (re w.bd) e.k e.id e.t e.n e.l=ai/\v w.p.now (re w.p.en) (rs w.p.w) (rs w.p.m) (rr w.p.s) w.p.a (rf w.p.fe) (rc w.p.cl) w.p.hits (rd (dk w.o)) (ri w.cd) (re w.bd) e.k e.id e.t e.n e.l=((gF.act w e).2,v5 (gF.act w e).1):=by
 unfold iz at he;simp only[aL,bf]at he;obtain⟨hk,I_,ht,hn,hl⟩:=he;have hp:=kA h.px;refine out _ _ _ _ _ _ _ _ _ _ _ _ _ _ _ _ _ ?_;unfold vo b gF.act;by_cases k1:e.k=1
 ·rw[aE k1,au];have A:=R7.ok w.p e.id e.t hp (by omega);rw[A.1,au,A.2,fV.lt_eq];try rfl
 rw[aK k1,ax,ax];by_cases k2:e.k=2
 ·rw[aE k2,au];have A:=Wl.ok w.p e.id e.t hp;rw[A.1,au,A.2,fV.lt_eq,fl];unfold v5 gu.CY;cases gu.sW w.p e.id&&(decide (1<=e.t.size/\e.t.size<=40)&&decide ((el w.p.fe e.id.toNat).t.size+e.t.size<=400))<;>rfl
 rw[aK k2,ax,ax];by_cases k3:e.k=3
 ·rw[aE k3,au,iq hn];have A:=Wm.ok h hi e.id (e.n%1000000) (by omega);rw[A.1,au,A.2,fV.lt_eq,fl];try rfl
 rw[aK k3,ax,ax];by_cases k4:e.k=4
 ·rw[aE k4,au];have A:=Wn.ok w.p e.id hp;rw[A.1,au,A.2,fV.lt_eq,fl];unfold v5 gu.B9;cases gu.sW w.p e.id<;>rfl
 rw[aK k4,ax,ax];by_cases k5:e.k=5
 ·rw[aE k5,au];have A:=DF.ok w.p e.n hp;rw[A.1,au,A.2,fV.lt_eq];try rfl
 rw[aK k5,ax,ax];by_cases k6:e.k=6
 ·rw[aE k6,au];have A:=DG.ok w.p e.id hp;have B:=zp.ok w.p.now (re w.p.en) (rs w.p.w) (rs w.p.m) (rr w.p.s) w.p.a (rf w.p.fe) w.p.cl w.p.hits e.id hp.cl;rw[B.1,au,fV.lt_eq,A.1,au,A.2,fV.lt_eq,fl,B.2];try rfl
 rw[aK k6,ax,ax];have A:=AG.ok h hi e.l;rw[A.1,au,A.2,fV.lt_eq];try rfl
end Wk

namespace DH
open Lib (rr rs re rf rc rd Px En el)
open gF (Wo Ev iz)
open jT (dk es)
open g_ (th)
open fV (ri v5)
open qc (rv tW wv0 wv1 wv2 wv3 wv4 run LK C7 I5 life W13 Ct)
theorem chk(N n:aF)(l:aA Ev)(hl:l.length<=1048576)(hn:l.length<n)(K0 K1:aQ->aX->aQ->aw->aw->aw->aw->aw->az R)(kf:az R)(hK:∀i:aw,K0 (rv l) ak (rv l) (l.length:aw) i 0 0 0=kf):
  l4 N K0 K1 n (rv l) ak (rv l) (l.length:aw) 0 0 0 0=bif(b9 l.length).all λi=>iz (el l i)then K1 (rv l) ak (rv l) (l.length:aw) (l.length:aw) 0 0 0 else kf:=by
 have hw:∀i,i<l.length->bJ ((i:aw)+1)=((i+1:aF):aw):=λi h=>Lib.c5 h (by omega)
 have key:=iC (λi=>iz (el l i)) l.length (λm (i:aF)=>l4 N K0 K1 m (rv l) ak (rv l) (l.length:aw) (i:aw) 0 0 0) kf (K1 (rv l) ak (rv l) (l.length:aw) (l.length:aw) 0 0 0)
  (λm i hi hp=>by simp only[l4,r4,tW,Lib.dn,hi,aN,Lib.cF,aM,au,Lib.dY,wv0 hi,wv1 hi,wv2 hi,wv3 hi,wv4 hi,bF,bw,jx,qc.NU,hp,a_,ax,hw i hi])
  (λm i hi hp=>by simp only[l4,r4,tW,Lib.dn,hi,aN,Lib.cF,aM,au,Lib.dY,wv0 hi,wv1 hi,wv2 hi,wv3 hi,wv4 hi,bF,bw,jx,qc.NU,hp,bR,hK])
  (λm=>by simp only[l4,r4,Lib.dn,bm,bj,ax]) n hn
 exact key
theorem go(N:aF)(l:aA Ev)(hl:l.length<=70)(he:∀e∈l,iz e=ai)(K:aQ->aw->aw->aw->aw->aw->aw->aw->aw->aQ->aQ->aQ->aQ->aQ->aQ->aQ->aQ->aQ->az R):∀(d i n:aF) (w:Wo),w=run (l.take i)->l.length-i<=d->i<=l.length->d<n->
  PD N K n (rv l) (l.length:aw) (i:aw) 0 0 0 w.p.now w.p.a w.p.hits (re w.p.en) (rs w.p.w) (rs w.p.m) (rr w.p.s) (rf w.p.fe) (rc w.p.cl) (rd (dk w.o)) (ri w.cd) (re w.bd)=K (rv l) (l.length:aw) (l.length:aw) 0 0 0 (run l).p.now (run l).p.a (run l).p.hits (re (run l).p.en) (rs (run l).p.w) (rs (run l).p.m) (rr (run l).p.s) (rf (run l).p.fe) (rc (run l).p.cl) (rd (dk (run l).o)) (ri (run l).cd) (re (run l).bd):=by
 have fin:∀(n:aF) (w:Wo),w=run (l.take l.length)->PD N K (n+1) (rv l) (l.length:aw) (l.length:aw) 0 0 0 w.p.now w.p.a w.p.hits (re w.p.en) (rs w.p.w) (rs w.p.m) (rr w.p.s) (rf w.p.fe) (rc w.p.cl) (rd (dk w.o)) (ri w.cd) (re w.bd)=K (rv l) (l.length:aw) (l.length:aw) 0 0 0 (run l).p.now (run l).p.a (run l).p.hits (re (run l).p.en) (rs (run l).p.w) (rs (run l).p.m) (rr (run l).p.s) (rf (run l).p.fe) (rc (run l).p.cl) (rd (dk (run l).o)) (ri (run l).cd) (re (run l).bd):=by intro n w hw;rw[dE]at hw;subst hw;simp only[PD,Ap,Lib.dn,bm,bj,ax]
 intro d;induction d with
 |zero=>
  intro i n w hw h1 h2 h3;obtain⟨n,rfl⟩:∃m,n=m+1:=⟨n-1,by omega⟩
  have:i=l.length:=by omega
  subst this;exact fin n w hw
 |succ d ih=>
  intro i n w hw h1 h2 h3;obtain⟨n,rfl⟩:∃m,n=m+1:=⟨n-1,by omega⟩
  by_cases hi:i<l.length
  ·have hW:th i w:=by rw[hw];exact LK he i h2
   have hE:=he _ (kq hi);have A:=Wk.ok hW (by omega) hE;have hcd:=hW.cd;have e1:(gF.act w (el l i)).1.cd=w.cd:=J5.R9 w _;have rm:cy ((ri w.cd).length+(aD (aP [Ck.i ao] 1) 0 [CV.i ao (gF.act w (el l i)).2]).length) 8=true:=by rw[fV.gW,fV.m8];exact Lib.cj (by omega) (by omega)
   have nx:=ih (i+1) n (gF.step w (el l i)) (by rw[C7 l i hi,hw]) (by omega) hi (by omega);refine Eq.trans ?_ nx;have asr:bJ ((i:aw)+1)=((i+1:aF):aw):=Lib.c5 hi (by omega);simp only[PD,Ap,tW,Lib.dn,hi,aN,Lib.cF,aM,au,Lib.dY,wv0 hi,wv1 hi,wv2 hi,wv3 hi,wv4 hi,bF,bw,jx,asr];rw[A.1,au,A.2,fV.lt_eq];unfold v5;dsimp only;rw[e1,rm,au,fV.acM];rfl
  ·have:i=l.length:=by omega
   subst this;exact fin n w hw
theorem ok(l:aA Ev)(hl:l.length<=1048576):c (rv l)=ai/\v (rv l)=life l:=by
 refine out _ ?_;unfold vo;generalize hN:Lib.cW=N;have jB:l.length<N:=by rw[<-hN];exact cJ (by omega)
 clear hN;unfold b life I5;rw[tW];by_cases h:l.length<=70
 ·rw[aE h,bc,aK (show¬(l.length:aw)>70 by omega),ax];rw[chk N N l hl jB _ _ (ah (0,[],[],[],[],0,[],[],0,[],[],[],ak)) (λ_=>rfl)];cases ha:(b9 l.length).all λi=>iz (el l i)with
  |false=>rfl
  |true=>have he:∀e∈l,iz e=true:=(Ct.1 (by unfold I5;rw[ha,aE h];rfl)).2;rw[au,au];simp only[tW];exact(go N l h he _ l.length 0 N qc.w0 rfl (by omega) (by omega) jB).trans rfl
 ·rw[aK h,lE,aE (show(l.length:aw)>70 by omega),au,ax]
end DH

namespace MZ
open eg (op g val)
theorem ok(i0:aw)(p1 p2 p3 p4:aQ)(i5:aw)(p6 p7:aQ)(i8:aw)(hl:p6.length<=4294967296):c i0 p1 p2 p3 p4 i5 p6 p7 i8=ai/\v i0 p1 p2 p3 p4 i5 p6 p7 i8=eg.val p6:=by
 refine out _ _ _ _ _ _ _ _ _ ?_;unfold vo b;have hw:∀i,i<p6.length->bJ ((i:aw)+1)=((i+1:aF):aw):=λi h=>Lib.c5 h (by omega);have inner:∀(i:aF) (hi:i<p6.length) (K0 K1:aX->aw->aw->aw->aQ->aQ->aQ->aQ->aw->aQ->aQ->aw->az aX) (kf kt:az aX) (h0:∀j:aw,K0 ak i j i0 p1 p2 p3 p4 i5 p6 p7 i8=kf) (h1:∀j:aw,K1 ak i j i0 p1 p2 p3 p4 i5 p6 p7 i8=kt),l5 Lib.cW K0 K1 Lib.cW ak i 0 i0 p1 p2 p3 p4 i5 p6 p7 i8=bif(b9 i).all (g p6 i)then kt else kf:=λi hi K0 K1 kf kt h0 h1=>
  iC (g p6 i) i (λm (j:aF)=>l5 Lib.cW K0 K1 m ak i j i0 p1 p2 p3 p4 i5 p6 p7 i8) kf kt
  (λm j hj hp=>by
   have Cw:j<p6.length:=by omega
   unfold g op at hp;cases e1:decide (bF (ar p6 i 2)=1)with
   |false=>simp only[l5,r5,Lib.dn,hj,Cw,hi,aN,Lib.cF,aM,au,Lib.dY,e1,ax,hw j Cw]
   |true=>
    cases e2:decide (bF (ar p6 j 2)=1)with
    |false=>simp only[l5,r5,Lib.dn,hj,Cw,hi,aN,Lib.cF,aM,au,Lib.dY,e1,e2,ax,hw j Cw]
    |true=>rw[e1,e2,bc,bc,dt]at hp;simp only[l5,r5,Lib.dn,hj,Cw,hi,aN,Lib.cF,aM,au,Lib.dY,e1,e2,hp,ax,hw j Cw])
  (λm j hj hp=>by
   have Cw:j<p6.length:=by omega
   unfold g op at hp;rw[nc]at hp;simp only[aL]at hp;obtain⟨e1,e2,e3⟩:=hp;simp only[l5,r5,Lib.dn,hj,Cw,hi,aN,Lib.cF,aM,au,Lib.dY,e1,e2,e3,h0])
  (λm=>by simp only[l5,r5,Lib.dn,bm,bj,ax,h1]) Lib.cW (cJ (by omega))
 have st:∀(m i:aF) (hi:i<p6.length),l2 Lib.cW (λ(y47:aX) (_ _:aw) (_ _ _ _:aQ) (_:aw) (_ _:aQ) (_:aw)=>ah y47) (λ(_:aX) (_ _:aw) (_ _ _ _:aQ) (_:aw) (_ _:aQ) (_:aw)=>ah ai) (m+1) ak (i:aw) i0 p1 p2 p3 p4 i5 p6 p7 i8=bif(b9 i).all (g p6 i)then l2 Lib.cW (λ(y47:aX) (_ _:aw) (_ _ _ _:aQ) (_:aw) (_ _:aQ) (_:aw)=>ah y47) (λ(_:aX) (_ _:aw) (_ _ _ _:aQ) (_:aw) (_ _:aQ) (_:aw)=>ah ai) m ak ((i+1:aF):aw) i0 p1 p2 p3 p4 i5 p6 p7 i8 else ah false:=by
  intro m i hi;simp only[l2,r2,Lib.dn,hi,aN,au];refine inner i hi _ _ _ _ ?_ ?_
  ·intro _;rfl
  ·intro _;rw[hw i hi]
 have key:=iC (λi=>(b9 i).all (g p6 i)) p6.length (λm (i:aF)=>l2 Lib.cW (λ(y47:aX) (_ _:aw) (_ _ _ _:aQ) (_:aw) (_ _:aQ) (_:aw)=>ah y47) (λ(_:aX) (_ _:aw) (_ _ _ _:aQ) (_:aw) (_ _:aQ) (_:aw)=>ah ai) m ak (i:aw) i0 p1 p2 p3 p4 i5 p6 p7 i8) (ah ak) (ah ai)
  (λm i hi hp=>by rw[st m i hi,hp,au])
  (λm i hi hp=>by rw[st m i hi,hp,ax])
  (λm=>by simp only[l2,r2,Lib.dn,bm,bj,ax]) Lib.cW (cJ (by omega))
 refine key.trans ?_;unfold eg.val;cases (b9 p6.length).all λi=>(b9 i).all (g p6 i)<;>rfl
end MZ

namespace DL
theorem ok(a0 a1:aq):c a0 a1=ai/\v a0 a1=j9.bg a0 a1:=by
 refine out _ _ ?_;unfold vo b j9.bg;by_cases h:((a0.size:aF):aw)≥((a1.size:aF):aw)
 ·rw[aE h,au,show g7 0 (a1.size:aw) (a0.size:aw)=ai by simp[g7];omega,au,bc]
 ·rw[aK h,ax,lE]
end DL

namespace AH
open Lib (rf Dj Dw Qi)
theorem ok(a0:aw)(a1 a2 a3 a4:aQ)(a5:aw)(fe:aA Lib.Fe)(a7:aQ)(a8:aw)(a9 a10 bd:aQ)(x:Lib.Cl)(h1:0<=x.fe)(h2:x.fe<=fe.length)(hl:fe.length<=1048576)(hb:bd.length<=1048576):c a0 a1 a2 a3 a4 a5 (rf fe) a7 a8 a9 a10 bd x.id x.k x.fe x.fr x.sta x.mM x.age=ai/\v a0 a1 a2 a3 a4 a5 (rf fe) a7 a8 a9 a10 bd x.id x.k x.fe x.fr x.sta x.mM x.age=j9.gOk fe bd x:=by
 refine out _ _ _ _ _ _ _ _ _ _ _ _ _ _ _ _ _ _ _ ?_;unfold vo b j9.gOk;cases h0:decide (x.fe=0)with
 |true=>
  rw[au,au];refine(mW (j9.hb bd x.k x.fr x.mM x.age) bd.length (λm (i:aF)=>l3 Lib.cW (λ(y:aX) (_ _:aw) (_ _ _ _:aQ) (_:aw) (_ _:aQ) (_:aw) (_ _ _:aQ) (_:aw) (_:aq) (_ _ _:aw) (_:aq) (_:aw)=>ah y) (λ(_:aX) (_ _:aw) (_ _ _ _:aQ) (_:aw) (_ _:aQ) (_:aw) (_ _ _:aQ) (_:aw) (_:aq) (_ _ _:aw) (_:aq) (_:aw)=>ah ak) m ak (i:aw) a0 a1 a2 a3 a4 a5 (rf fe) a7 a8 a9 a10 bd x.id x.k x.fe x.fr x.sta x.mM x.age) (λj=>ah (decide (j≥0)&&decide (x.sta=2))) (λm i hi hp=> ?_) (λm i hi hp=> ?_) (λm=> ?_) Lib.cW (cJ (by omega))).trans rfl
  ·unfold j9.hb at hp;simp only[aL]at hp;obtain⟨e1,e2,e3,e4⟩:=hp;simp only[l3,r3,Lib.dn,Lib.cF,Lib.dY,hi,aN,aM,au,e1,e2,e3,e4,aE (show(i:aw)≥0 by omega),bc]
  ·unfold j9.hb at hp;have hw:=Lib.c5 hi (by omega:bd.length<=9223372036854775807);simp only[l3,r3,Lib.dn,Lib.cF,Lib.dY,hi,aN,aM,au,hw];revert hp;cases bZ (aC (bw (ar bd i 0))) (aC x.k)<;>cases decide (bF (ar bd i 1)=x.fr)<;>cases bZ (aC (bw (ar bd i (1+1+1)))) (aC x.mM)<;>cases decide (bF (ar bd i (1+1))>x.age)<;>intro hp<;>first|rfl|cases hp
  ·simp only[l3,r3,Lib.dn,bm,bj,ax];rfl
 |false=>
  have h0:=lX h0;have hw:bJ (x.fe-1)=(((x.fe-1).toNat:aF):aw):=by rw[dg (by omega) (by omega)];omega
  have hi:(x.fe-1).toNat<fe.length:=by omega
  have hp:=DL.ok;rw[ax,ax];unfold j9.wt;simp only[Lib.lt,kl.v,dN,aE (show x.fe≥1 by omega),aE h2,a_,ax,hw,Lib.dn,hi,aN,Lib.cF,aM,au,Lib.dY,Dj hi,Dw hi,Qi hi,bw,bF,(hp _ _).1,(hp _ _).2];generalize bZ (aC (Lib.el fe (x.fe-1).toNat).k) (aC x.k)=u;generalize bZ (aC x.mM) (aC (Lib.el fe (x.fe-1).toNat).t)=u2;generalize j9.bg _ _=u3;cases u<;>cases decide (x.sta=1)<;>cases decide (x.sta=2)<;>cases decide (x.sta=3)<;>cases u2<;>cases u3<;>cases decide ((Lib.el fe (x.fe-1).toNat).sta=3)<;>rfl
end AH

namespace Qu
open Lib (rf rc el Kb VV VW VX VY VZ V0)
theorem ok(i0:aw)(p1 p2 p3 p4:aQ)(i5:aw)(fe:aA Lib.Fe)(cl:aA Lib.Cl)(i8:aw)(p9 p10 bd:aQ)(hc:∀i,i<cl.length->0<=(el cl i).fe/\(el cl i).fe<=fe.length)(hl:fe.length<=1048576)(oc:cl.length<=1048576)(XJ:bd.length<=1048576):c i0 p1 p2 p3 p4 i5 (rf fe) (rc cl) i8 p9 p10 bd=ai/\v i0 p1 p2 p3 p4 i5 (rf fe) (rc cl) i8 p9 p10 bd=j9.Pg fe cl bd:=by
 refine out _ _ _ _ _ _ _ _ _ _ _ _ ?_;unfold vo b;have hw:∀i,i<cl.length->bJ ((i:aw)+1)=((i+1:aF):aw):=λi h=>Lib.c5 h (by omega);have hk:=λi hi=>AH.ok i0 p1 p2 p3 p4 i5 fe (rc cl) i8 p9 p10 bd (el cl i) (hc i hi).1 (hc i hi).2 hl XJ
 have key:=iC (λi=>j9.gOk fe bd (el cl i)) cl.length (λm (i:aF)=>l2 Lib.cW (λ(Oz:aX) (_ _:aw) (_ _ _ _:aQ) (_:aw) (_ _:aQ) (_:aw) (_ _ _:aQ)=>ah Oz) (λ(_:aX) (_ _:aw) (_ _ _ _:aQ) (_:aw) (_ _:aQ) (_:aw) (_ _ _:aQ)=>ah ai) m ak (i:aw) i0 p1 p2 p3 p4 i5 (rf fe) (rc cl) i8 p9 p10 bd) (ah ak) (ah ai)
  (λm i hi hp=>by simp only[l2,r2,fg,Lib.dn,hi,aN,Lib.cF,aM,au,Lib.dY,Kb hi,VV hi,VW hi,VX hi,VY hi,VZ hi,V0 hi,bw,bF,hw i hi,(hk i hi).1,(hk i hi).2,hp,a_,ax])
  (λm i hi hp=>by simp only[l2,r2,fg,Lib.dn,hi,aN,Lib.cF,aM,au,Lib.dY,Kb hi,VV hi,VW hi,VX hi,VY hi,VZ hi,V0 hi,bw,bF,hw i hi,(hk i hi).1,(hk i hi).2,hp,bR])
  (λm=>by simp only[l2,r2,fg,Lib.dn,bm,bj,ax]) Lib.cW (cJ (by omega))
 refine key.trans ?_;unfold j9.Pg;cases (b9 cl.length).all λi=>j9.gOk fe bd (el cl i)<;>rfl
end Qu

namespace MW
open Lib (rr rs re rf rc Px)
open ue (qe sw cls)
theorem walk(K1:aX->aw->aw->aQ->aQ->aQ->aQ->aw->aQ->aQ->aw->aQ->aQ->aQ->aQ->az aX)(p:Px)(d Wy bd L:aQ)(hen:p.en.length<=1048576)(hL:L.length<=1048576):l3 Lib.cW (λ(y:aX) (_ _:aw) (_ _ _ _:aQ) (_:aw) (_ _:aQ) (_:aw) (_ _ _ _:aQ)=>ah y) K1 Lib.cW ak 0 p.now (re p.en) (rs p.w) (rs p.m) (rr p.s) p.a (rf p.fe) (rc p.cl) p.hits d Wy bd L=bif(b9 p.en.length).all (qe (re p.en) p.now L)then K1 ak (p.en.length:aw) p.now (re p.en) (rs p.w) (rs p.m) (rr p.s) p.a (rf p.fe) (rc p.cl) p.hits d Wy bd L else ah false:=by
 have hw:∀i,i<p.en.length->bJ ((i:aw)+1)=((i+1:aF):aw):=λi h=>Lib.c5 h (by omega);have ho:=λk a l t=>Bf.ok L k a l t (by omega)
 exact iC (qe (re p.en) p.now L) p.en.length (λm (i:aF)=>l3 Lib.cW (λ(y:aX) (_ _:aw) (_ _ _ _:aQ) (_:aw) (_ _:aQ) (_:aw) (_ _ _ _:aQ)=>ah y) K1 m ak (i:aw) p.now (re p.en) (rs p.w) (rs p.m) (rr p.s) p.a (rf p.fe) (rc p.cl) p.hits d Wy bd L) (ah ak) (K1 ak (p.en.length:aw) p.now (re p.en) (rs p.w) (rs p.m) (rr p.s) p.a (rf p.fe) (rc p.cl) p.hits d Wy bd L)
  (λm i hi hq=>by unfold qe at hq;simp only[l3,r3,de,Lib.dn,hi,aN,Lib.cF,aM,au,Lib.dY,(ho _ _ _ _).1,(ho _ _ _ _).2,hw i hi];revert hq;generalize vR.v _ _ _ _ _=u1;generalize Bf.val _ _ _ _ _=u2;cases u1<;>cases u2<;>intro hq<;>first|rfl|cases hq)
  (λm i hi hq=>by unfold qe at hq;simp only[l3,r3,de,Lib.dn,hi,aN,Lib.cF,aM,au,Lib.dY,(ho _ _ _ _).1,(ho _ _ _ _).2,hw i hi];revert hq;generalize vR.v _ _ _ _ _=u1;generalize Bf.val _ _ _ _ _=u2;cases u1<;>cases u2<;>intro hq<;>first|rfl|cases hq)
  (λm=>by simp only[l3,r3,de,Lib.dn,bm,bj,ax]) Lib.cW (cJ (by omega))
theorem ok(p:Px)(d Wy bd L:aQ)(hp:p.Fit 1048576)(XJ:bd.length<=1048576)(hL:L.length<=1048576)(hk:yF.c d=ai/\yF.v d=L):c p.now (re p.en) (rs p.w) (rs p.m) (rr p.s) p.a (rf p.fe) (rc p.cl) p.hits d Wy bd=ai/\v p.now (re p.en) (rs p.w) (rs p.m) (rr p.s) p.a (rf p.fe) (rc p.cl) p.hits d Wy bd=sw p L bd:=by
 refine out _ _ _ _ _ _ _ _ _ _ _ _ ?_;have hen:=hp.en;have HZ:=hp.fe;have oc:=hp.cl;unfold vo b;rw[hk.1,hk.2,au];refine(walk _ p d Wy bd L hen hL).trans ?_;unfold sw;cases (b9 p.en.length).all (qe (re p.en) p.now L)with
 |false=>rfl
 |true=>
 rw[au,bc];have I1:=pe.ok p hp;have I2:=MZ.ok p.now (re p.en) (rs p.w) (rs p.m) (rr p.s) p.a (rf p.fe) (rc p.cl) p.hits (by rw[dN];omega);dsimp only;rw[I1.1,au,I1.2];cases cg:pe.jb p with
 |false=>rfl
 |true=>
 rw[au,bc,I2.1,au,I2.2];cases eg.val (rf p.fe)with
 |false=>rfl
 |true=>
 have I3:=Qu.ok p.now (re p.en) (rs p.w) (rs p.m) (rr p.s) p.a p.fe p.cl p.hits d Wy bd (cls cg) HZ oc XJ;rw[au,bc,I3.1,au,I3.2];cases j9.Pg p.fe p.cl bd with
 |false=>rfl
 |true=>
 have I4:=Ic.ok p.now (re p.en) (rs p.w) (rs p.m) (rr p.s) p.a (rf p.fe) (rc p.cl) p.hits d Wy bd (by rw[de];omega) (by omega);rw[au,bc,I4.1,au,I4.2]
end MW

namespace MX
open Lib (rd En)
open jT (dk es)
open gT (tx base)
theorem ok(o:az (aA En))(h:(tx (es o)).size<=20000):c (rd (dk o))=ai/\v (rd (dk o))=true:=by
 refine out _ ?_;have D:=gE.ok (rd (dk o)) (by rw[eB];have:=jT.Cd o;omega);rw[show gE.val (rd (dk o))=ai from jT.ER h]at D;unfold vo;generalize hN:Lib.cW=N
 obtain⟨n,rfl⟩:∃n,N=n+1+1:=⟨N-2,by have:2<N:=by rw[<-hN];exact cJ (by omega)
                                   omega⟩
 clear hN;unfold b;rw[D.1,au,D.2,a_,ax];cases o with
 |none=>rfl
 |some l=>show l4 (n+1+1) _ _ (n+1+1) ak 0 [[CV.s gT.qs,CV.s (tx l),CV.i ao ((tx l).size:aw)]]=ah ai;rw[show l4 (n+1+1) (λy3 y4 y5=>ah y3) (λy6 y7 y8=>ah ai) (n+1+1)=r4 (n+1+1) (l4 (n+1+1) (λy3 y4 y5=>ah y3) (λy6 y7 y8=>ah ai) (n+1)) (λy3 y4 y5=>ah y3) (λy6 y7 y8=>ah ai)from rfl];generalize tx l=t;unfold r4;have e1:bF (ar [[CV.s gT.qs,CV.s t,CV.i ao (t.size:aw)]] (aW 0) 2)=(t.size:aw):=rfl;have e2:bw (ar [[CV.s gT.qs,CV.s t,CV.i ao (t.size:aw)]] (aW 0) 1)=t:=rfl;rw[e1,e2,aK (Km _)];rfl
end MX

namespace Kf
open Lib (Px Cl Fe En el)
open Eh (uW uB Hc xV)
open d_ (mL qa)
open gF (Wo tB jq)
open jT (es)
open gT (kp)
theorem TB{α:Type}:∀(A B:aA α),A.Nodup->(∀x∈A,x∈B)->A.length<=B.length:=by
 classical;intro A;induction A with
 |nil=>intro B _ _;exact bI _
 |cons a A ih=>intro B h1 h2;rw[la]at h1;have ha:a∈B:=h2 a dr;have:=ih (B.erase a) h1.2 λx hx=>(List.mem_erase_of_ne (λe=>h1.1 (by rw[<-e];exact hx))).2 (h2 x (c8 _ hx));rw[List.length_erase_of_mem ha]at this;have:=List.length_pos_of_mem ha;rw[dc];omega
theorem IJ{l:aA En}(h:fZ.So l):l.Nodup:=by have:=zZ.yt h;exact(jy.1 (lJ.1 this)).imp λ{a b} XH e=>XH (by rw[e])
theorem SL{w:Wo}(ho:qZ.g6 w.p)(h:uW w):(w.p.en.filter λe=>mL e w.p.now).length<=(kp (jq w)).length:=by refine TB _ _ (oD _ (IJ ho.so)) λx hx=> ?_;obtain⟨h1,h2⟩:=c_.1 hx;exact Hc _ (uB w) x (c_.2 ⟨h.fr x h1 h2,h2⟩)
theorem Xg{w:Wo}(ho:qZ.g6 w.p):(tB w).p.en.length<=(kp (jq w)).length:=by have hp:=g_.LJ ho.now (jq w);exact TB _ _ (IJ hp.so) λx hx=>Hc _ (uB w) x (xV _ x hx).1
end Kf

namespace U3
open Lib (rr rs re rf rc rd Px En Cl Fe el)
open gF (Wo Ev iz tB jq)
open jT (dk es)
open qc (rv run life I5 W13)
open fV (ri)
open A_Post (ji)
open Eh (uW Gp)
open gT (kp)
def fe(n:aw):Ev:=⟨7,0,⟨#[]⟩,0,aD (aP [Ck.i ao] 1) 0 [CV.i ao n]⟩
theorem Ni(n:aw):iz (fe n)=true:=rfl
theorem Au(l:aA Ev)(n:aw):aP [Ck.i ao,Ck.i ao,Ck.s,Ck.i ao,Ck.l 3] 0++rv l++aD (aP [Ck.i ao,Ck.i ao,Ck.s,Ck.i ao,Ck.l 3] 1) 0 [CV.i ao 7,CV.i ao 0,CV.s {data:= #[]},CV.i ao 0,CV.l 3 (aD (aP [Ck.i ao] 1) 0 [CV.i ao n])]=rv (l++[fe n]):=by rw[<-qd.Hw];rfl
theorem vw(r:aQ):eA r (aW 0) (aW (r.length:aw))=r:=by rw[dH];show(r.drop 0).take (r.length-0)=r;rw[fa,si,dE]
theorem walk{P:R->Prop}(N:aF)(K:aX->aw->aw->aw->aw->aw->aw->aw->aw->aQ->aQ->aQ->aQ->aQ->aQ->aQ->aQ->aQ->aQ->aQ->aQ->aQ->aQ->aQ->aQ->aQ->aQ->az R)(en:aA En)(hl:en.length<=1000)(x8 x9 WD WE HH WG:aw)(WH WI ZZ Z0 Z1 Z2 Z3 Z4 Z5 Z6 Z7 Z8 Z9 x28 x29 x30 x31:aQ)
  (hK:ji (K ak ((en.filter λe=>d_.mL e x8).length:aw) (en.length:aw) x8 x9 WD WE HH WG (re en) WH WI ZZ Z0 Z1 Z2 Z3 Z4 Z5 Z6 Z7 Z8 Z9 x28 x29 x30 x31) P):
  ∀(d i n:aF),en.length-i<=d->i<=en.length->d<n->
   ji (Jp N K n ak (((en.take i).filter λe=>d_.mL e x8).length:aw) (i:aw) x8 x9 WD WE HH WG (re en) WH WI ZZ Z0 Z1 Z2 Z3 Z4 Z5 Z6 Z7 Z8 Z9 x28 x29 x30 x31) P:=by
 have fin:∀n:aF,ji (Jp N K (n+1) ak (((en.take en.length).filter λe=>d_.mL e x8).length:aw) (en.length:aw) x8 x9 WD WE HH WG (re en) WH WI ZZ Z0 Z1 Z2 Z3 Z4 Z5 Z6 Z7 Z8 Z9 x28 x29 x30 x31) P:=λn=>by rw[dE];refine A_Post.eq ?_ hK;simp only[Jp,QF,de,Lib.dn,bm,bj,ax]
 intro d;induction d with
 |zero=>
  intro i n h1 h2 h3;obtain⟨n,rfl⟩:∃k,n=k+1:=⟨n-1,by omega⟩
  have:i=en.length:=by omega
  subst this;exact fin n
 |succ d ih=>
  intro i n h1 h2 h3;obtain⟨n,rfl⟩:∃k,n=k+1:=⟨n-1,by omega⟩
  by_cases hi:i<en.length
  ·have me:bJ ((i:aw)+1)=((i+1:aF):aw):=dg (by omega) (by omega);have nx:=ih (i+1) n (by omega) hi (by omega);rw[cw hi,gz,bP]at nx;refine A_Post.eq ?_ nx;have hb:((en.take i).filter λe=>d_.mL e x8).length<=1000:=by have:=eC (λe=>d_.mL e x8) (en.take i);rw[eD]at this;omega
   have Ai:vR.v (bw (ar (re en) i 0)) (bF (ar (re en) i 1)) (bF (ar (re en) i (1+1))) (bw (ar (re en) i (1+1+1))) x8=d_.mL en[i] x8:=by rw[re0 hi,re1 hi,re2 hi,re3 hi];unfold d_.mL;rw[vR.eq];rfl
   cases hf:d_.mL en[i] x8 with
   |true=>
    have e:([en[i]].filter λe=>d_.mL e x8).length=1:=by simp[hf]
    rw[e];have hw:bJ ((((en.take i).filter λe=>d_.mL e x8).length:aw)+1)=((((en.take i).filter λe=>d_.mL e x8).length+1:aF):aw):=dg (by omega) (by omega);simp only[Jp,QF,de,Lib.dn,hi,aN,Lib.cF,aM,au,Lib.dY,Ai,hf,me,hw]
   |false=>
    have e:([en[i]].filter λe=>d_.mL e x8).length=0:=by simp[hf]
    rw[e];simp only[Jp,QF,de,Lib.dn,hi,aN,Lib.cF,aM,au,ax,Lib.dY,Ai,hf,me];rfl
  ·have:i=en.length:=by omega
   subst this;exact fin n
theorem alM(a:aQ)(ha:vJ a):vo a=ah true:=by
 have hb:∀x:aX,U8.v a=x->vo a=ah true:=λx hx=>by
  cases x with
  |true=>unfold vo b;rw[hx,au]
  |false=>
   have hlen:a.length<=1048576:=by unfold U8.v at hx;have:=lX hx;omega
   obtain⟨l,c0,v0,hl,he⟩:=U9.ok a hlen;obtain⟨p,c1,v1,hp,_⟩:=MV.ok a hlen;obtain⟨el,hW,hS⟩:=WL.runs (by omega) he;have A:=DH.ok l (by omega);rw[el]at A;generalize hn:cz (bF (ar p (aW 0) 0)) 50=m;have he2:∀e∈l++[fe m],iz e=true:=qd.B0 he (Ni m);have E4:(l++[fe m]).length<=70:=by rw[bP];show l.length+1<=70;omega
   obtain⟨el2,hW2,hS2⟩:=WL.runs E4 he2;obtain⟨k1,k2,k3,k4,sw⟩:=WL.sound E4 he2;have B:=DH.ok (l++[fe m]) (by omega);rw[el2]at B;have er:run (l++[fe m])={tB (run l)with cd:=(run l).cd++[0]}:=by rw[qd.C6];rfl
   have S2:=MW.ok (run (l++[fe m])).p (rd (dk (run (l++[fe m])).o)) (ri (run (l++[fe m])).cd) (re (run (l++[fe m])).bd) _ (fV.kA hW2.px) k4 k3 k1;rw[sw]at S2;have t2:=hW2.tx (by omega);have AK:=MX.ok (run (l++[fe m])).o (by omega);have V:=d_.rP (run l).p.now (jq (run l)) (jq (run l)).length (cG _);rw[dE]at V;have XP:(run (l++[fe m])).p.now=(run l).p.now:=by rw[er];exact V.now
   have oc:(run (l++[fe m])).p.cl=[]:=by rw[er];exact V.cl
   have aiX:es (run (l++[fe m])).o=jq (run l):=by rw[er];rfl
   have hen:(run (l++[fe m])).p.en.length<=(kp (es (run (l++[fe m])).o)).length:=by rw[aiX,er];exact Kf.Xg hW.px
   have Ai:((run l).p.en.filter λe=>d_.mL e (run l).p.now).length<=(kp (es (run (l++[fe m])).o)).length:=by rw[aiX];exact Kf.SL hW.px hS
   have Ww:eA (rv l) (aW 0) (aW ((rv l).length:aw))=rv l:=vw (rv l);have hrl:(rv l).length=l.length:=qc.tW l;have gh:g7 0 ((rv l).length:aw) ((rv l).length:aw)=true:=by unfold g7;simp
   have r1:cy ((aP [Ck.i ao,Ck.i ao,Ck.s,Ck.i ao,Ck.l 3] 0).length+(rv l).length) 64=true:=by rw[hrl];exact Lib.cj (by show(0+l.length)*64<=_;omega) (by show 0+l.length<=_;omega)
   have r2:∀y:aA CV,cy ((aP [Ck.i ao,Ck.i ao,Ck.s,Ck.i ao,Ck.l 3] 0++rv l).length+(aD (aP [Ck.i ao,Ck.i ao,Ck.s,Ck.i ao,Ck.l 3] 1) 0 y).length) 64=true:=λy=>by rw[fV.m8,show(aP [Ck.i ao,Ck.i ao,Ck.s,Ck.i ao,Ck.l 3] 0++rv l)=rv l from rfl,hrl];exact Lib.cj (by omega) (by omega)
   generalize hw2:run (l++[fe m])=w2 at*
   have Nu:=hW.px;have ay6:=(kB.Bz (qZ.od.2 hW.px)).2.2.1;have main:ji (vo a) (λx=>x=ai):=by
    unfold vo;generalize hN:Lib.cW=N;have hN1:6<N:=by rw[<-hN];exact cJ (by omega)
    clear hN;unfold b;refine A_Post.cn hx ?_;refine A_Post.call c0 v0 ?_;refine A_Post.cn (aK (by rw[hrl];omega)) ?_;refine A_Post.call c1 v1 ?_;refine A_Post.ck gh ?_;refine A_Post.ck (by rw[Ww];exact r1) ?_;refine A_Post.ck (aE (by rw[hp];omega)) ?_;refine A_Post.ck (by rw[Ww];exact r2 _) ?_;refine A_Post.ck gh ?_;refine A_Post.call (u:=W13 (run l) ai) (by rw[Ww];exact A.1) (by rw[Ww];exact A.2) ?_;refine A_Post.call (u:=W13 w2 ai) (by rw[Ww,hn,Au];exact B.1) (by rw[Ww,hn,Au];exact B.2) ?_;refine A_Post.cn rfl ?_;refine A_Post.cn rfl ?_;refine A_Post.cn ?_ ?_
    ·show((((ri w2.cd).length:aF):aw) !=bJ (((rv l).length:aw)+1))=ak;have:=hW2.cd;rw[bP]at this;rw[fV.gW,this,hrl,dg (x:=(l.length:aw)+1) (by omega) (by omega)];exact bne_self_eq_false _
    refine A_Post.call S2.1 S2.2 ?_;refine A_Post.cn rfl ?_;refine A_Post.cn ?_ ?_
    ·show(w2.p.now !=(run l).p.now)=ak;rw[XP];exact bne_self_eq_false _
    refine A_Post.cn ?_ ?_
    ·show decide ((((rc w2.p.cl).length:aF):aw)>0)=ak;rw[oc];rfl
    refine walk N _ (run l).p.en (by omega) _ _ _ _ _ _ _ _ _ _ _ _ _ _ _ _ _ _ _ _ _ _ _ ?_ (run l).p.en.length 0 N (by omega) (bI _) (by omega);refine A_Post.call k1.1 k1.2 ?_;refine A_Post.ck (aE ?_) ?_
    ·show(((re w2.p.en).length:aF):aw)<=((re (kp (es w2.o))).length:aw)
     rw[de,de];omega
    refine A_Post.ck (aE ?_) ?_
    ·show((re (kp (es w2.o))).length:aw)≥((((run l).p.en.filter λe=>d_.mL e (run l).p.now).length:aF):aw);rw[de];omega
    refine A_Post.call AK.1 AK.2 ?_;exact A_Post.ret rfl
   obtain⟨x,h1,h2⟩:=main;rw[h1,h2]
 exact hb _ rfl
theorem law(a:aQ)(ha:vJ a):v a=true:=(out a (alM a ha)).2
theorem auP(a:aQ)(ha:vJ a):c a=true:=(out a (alM a ha)).1
end U3

end Go.FG
