/- What the functions come to, in plain numbers, texts and lists; last the law itself. No condition but those that each states. -/
import Derived.Test.YtilcgpcemjeaeaaGreatPGotb
import Derived.Test.YtilcgpcemjeaeaaGreatFGota
set_option linter.unusedVariables false
set_option linter.unusedSimpArgs false
set_option maxRecDepth 100000
open Bool renaming and_self->aM,true->ai,not_true->a_,false->ak,true_and->bh,not_false->bR,and_true->j4,false_or->oi,and_false->wm,false_and->lE,and_eq_true->aL,false_eq_true->dv,not_eq_true'->dx,or_eq_true->dM,and_assoc->nL
open ByteArray renaming toList->aC,empty_append->lN,extract->bK,size->cj,extract_zero_size->yz
open Go.IntKind renaming i64->ao
open Go.Op renaming bytesLess->b7
open Int renaming tdiv->cQ,le_trans->BD,neg->Kc,toNat->aY,tmod->cO,tmod_eq_emod_of_nonneg->ig,toNat_natCast->dG,tdiv_eq_ediv_of_nonneg->g7
open List renaming getElem_mem->bB,length_map->bU,ext_getElem->lP,set_getElem_self->fw,getElem_set_self->kG,length_set->cB,set_set->pH,beq->bZ,take_succ_eq_append_getElem->cE,filter_append->ij,all_eq_true->bn,mem_or_eq_of_mem_set->jG,take_set_of_le->wA,drop_set_of_lt->wz,drop_eq_nil_of_le->gO,append_nil->dm,take_length->dY,filter_eq_self->eE,getElem_of_mem->c8,take->gW,drop->nb,drop_zero->fu,take_append_of_le_length->o0,take_of_length_le->jc,getElem_take->nt,mem_map->cU,filter_map->oZ,filter_congr->kS,drop_length->di,length_singleton->bA,nodup_append->eL,length_append->bT,mem_append->ba,mem_append_left->bN,mem_singleton->aZ,mem_append_right->bO,length_tail->WM,length->bS,set->aD,map_append->dh,drop_eq_getElem_cons->dE,find?_cons_of_neg->Kd,length_filter_le->eW,length_take->eK,nil_append->gz,append_assoc->cu,pairwise_cons->qB,mem_of_find?_eq_some->qA,find?_eq_none->WK,find?_some->u_,mem_cons->cy,not_mem_nil->gA,any_eq_true->Fw,foldl_append->kT,range->cw,mem_range->iA,pairwise_iff_getElem->dC
open List.cons renaming inj->kj
open Nat renaming zero_le->bI,lt_irrefl->bm,sub_zero->yv,le_trans->dg,zero_add->bV,le_refl->cD
open Option renaming some->ah,none->aj,map_some->je
open UInt8 renaming ofNat->ay
open _root_ renaming ByteArray->aq,Int->aw,Option->az,List->aA,Nat->aF,decide_eq_true->aE,decide_true->aN,cond_true->au,cond_false->ax,if_neg->bH,if_pos->bz,decide_eq_false->aK,Bool->aW,decide_false->bj,decide_eq_decide->ca,of_decide_eq_false->oL,decide_eq_true_eq->bc,decide_eq_false_iff_not->fg,absurd->cJ,of_decide_eq_true->cm,eq_comm->V6
namespace Go.FG
open Lib (Gm all_congr jl o_ BN jQ fF wT eH fU kh mT B_ M1 w7 ma zy cS lW rc0 rc1 rc2 rc3 rc4 rc5 rc6 eU Jx Wf Wg eA dy dL Qp JZ gQ Wh eV pL kR CU tT oV xY E5 oe C5 xZ qQ qR tW nK dj LW Ob PW PX wd0 wd1 wd2 oM qx qy qz C8 C9 PY zQ Qr Qs)
variable {R:Type}
namespace iI
open Lib (rr ri)
open du (fR bq DK half B1 PR PS oI uB td)
theorem afQ(K:aq->aw->aw->aw->aw->aQ->az R)(s:aA (aA aw))(key:aq)(y a:aw)(hs:s.length=3)(hq:∀q∈s,q.length=16/\∀n∈q,0<=n/\n<=15)(hk:key.size<=140737488355328):
  l5 Lib.cZ K Lib.cZ key 3 0 y a (rr s)=K key 3 3 y a (rr (DK s key)):=by
 refine(nK fR s (λi q=>bq (gj.pl i key) q) (λm (i:aF) x=>l5 Lib.cZ K m key 3 (i:aw) y a x) (λx=>K key 3 3 y a x) (λm i L h h2 hL vU=> ?_) (λm L hL=> ?_) Lib.cZ (cS (by omega)))
 ·have hp:=qG.ok i key (by omega) hk;have sO:=gj.CJ i key;obtain⟨JV,hn⟩:=hq _ (bB h);have e0:ar (L.map fR) i 0=CV.l 3 (ri s[i]):=by rw[B1 L i h2,vU]
  have hb:gj.pl i key<s[i].length:=by omega
  have hx:=hn _ (bB hb);have e3:decide ((i:aw)<3)=true:=aE (by omega);simp only[l5,r5,bU,Lib.dq,h2,e3,aN,au,hp.1,hp.2,Lib.cF,aM,Lib.dZ,e0,jv,Lib.gP,JV,sO,Qp hb,bE];unfold bq im;rw[oI hb,ax,dj (x:=s[i][gj.pl i key]+1) (by omega) (by omega)];by_cases hd:s[i][gj.pl i key]<15
  ·rw[bH (by omega),aE hd,au,PR _ _ _ hb,PS _ _ _ h2,Lib.c6 h2 (by omega)]
  ·have e15:s[i][gj.pl i key]=15:=by omega
   rw[bz (by omega),aK hd,ax,e15,PR _ _ _ hb,PS _ _ _ h2,Lib.c6 h2 (by omega)]
 ·have e3:decide ((s.length:aw)<3)=false:=aK (by omega);simp only[l5,r5,e3,ax,hs];rfl
theorem ak9(K:aF->aw->aw->aw->aw->aw->aw->aQ->az R)(L:aA (aA aw))(i:aF)(h:i<L.length)(u w y a:aw)(hl:L.length<=1048576)(hq:L[i].length=16)(hn:∀n∈L[i],0<=n/\n<=15):
  l18 Lib.cZ K Lib.cZ i u w 16 0 y a (L.map fR)=K i u w 16 16 y a ((L.set i (L[i].map λn=>cQ n 2)).map fR):=by
 have hmi:L[i].mapIdx (λ_ n=>cQ n 2)=L[i].map λn=>cQ n 2:=by apply lP<;>simp
 have key:=ma (L[i].length) (λm (k:aF) x=>l18 Lib.cZ K m i u w 16 (k:aw) y a x) (λk=>(L.set i (oe L[i] (λ_ n=>cQ n 2) k)).map fR) (K i u w 16 16 y a ((L.set i (L[i].map λn=>cQ n 2)).map fR)) (λm k hk=> ?_) (λm=> ?_) Lib.cZ 0 (bI _) (cS (by omega))
 ·rw[C5,fw]at key;exact key
 ·have hu:=qR L[i] (λ_ n=>cQ n 2) k (by omega);generalize hU:oe L[i] (λ_ n=>cQ n 2) k=U at hu;have hku:k<U.length:=by omega
  have gd:U[k]=L[i][k]:=by subst hU;exact xZ _ _ _ hk _
  have aeS:U.set k (cQ L[i][k] 2)=oe L[i] (λ_ n=>cQ n 2) (k+1):=by subst hU;exact tW L[i] (λ_ n=>cQ n 2) k hk
  have h2:i<(L.set i U).length:=by simpa using h
  have e0:ar ((L.set i U).map fR) i 0=CV.l 3 (ri U):=by rw[B1 _ _ h2,kG]
  have hx:=hn _ (bB hk);have ht:0<=cQ L[i][k] 2:=Int.tdiv_nonneg hx.1 (by omega);have GW:cQ L[i][k] 2<=15:=BD (Int.tdiv_le_self _ hx.1) hx.2;have e3:decide ((k:aw)<16)=true:=aE (by omega);simp only[l18,r18,bU,cB,Lib.dq,h,hku,e3,aN,au,Lib.cF,aM,Lib.dZ,e0,jv,Lib.gP,Qp hku,bE,gd];rw[dj (x:=cQ L[i][k] 2) (by omega) (by omega),PR _ _ _ hku,PS _ _ _ h2,aeS,pH,Lib.c6 hk (by omega)]
 ·have e3:decide ((L[i].length:aw)<16)=false:=aK (by omega);simp only[l18,r18,e3,ax];rw[qQ,hmi,hq];rfl
theorem ak7(K:aw->aw->aw->aw->aQ->az R)(s:aA (aA aw))(y a:aw)(hs:s.length=3)(hq:∀q∈s,q.length=16/\∀n∈q,0<=n/\n<=15):
  l15 Lib.cZ K Lib.cZ 3 0 y a (rr s)=K 3 3 y a (rr (half s)):=by
 have hmi:s.mapIdx (λ_ q=>q.map λn=>cQ n 2)=half s:=by unfold half;apply lP<;>simp
 rw[<-hmi];refine(nK fR s (λ_ q=>q.map λn=>cQ n 2) (λm (i:aF) x=>l15 Lib.cZ K m 3 (i:aw) y a x) (λx=>K 3 3 y a x) (λm i L h h2 hL vU=> ?_) (λm L hL=> ?_) Lib.cZ (cS (by omega)))
 ·obtain⟨JV,hn⟩:=hq _ (bB h);have e3:decide ((i:aw)<3)=true:=aE (by omega);have e0:ar (L.map fR) i 0=CV.l 3 (ri s[i]):=by rw[B1 L i h2,vU]
  simp only[l15,r15,bU,Lib.dq,h2,e3,aN,au,Lib.cF,aM,Lib.dZ,e0,jv,Lib.gP,JV];rw[show((16:aF):aw)=16 from rfl,ak9 _ L i h2 3 i y a (by omega) (by rw[vU];exact JV) (by rw[vU];exact hn),Lib.c6 h2 (by omega),vU]
 ·have e3:decide ((s.length:aw)<3)=false:=aK (by omega);simp only[l15,r15,e3,ax,hs];rfl
theorem ok(s:aA (aA aw))(a:aw)(key:aq)(hf:jk.oH s)(hk:key.size<=140737488355328):c (rr s) a key=ai/\v (rr s) a key=(rr (du.val s a key).1,(du.val s a key).2):=by
 refine out _ _ _ ?_;have h1:=jk.ok s a hf;have h2:=pK.ok s a hf;unfold vo b du.val;rw[h1.1,h1.2,h2.1,h2.2,au,au];cases cf:fD.od s a with
 |false=>rfl
 |true=>
  obtain⟨hs,ha,hq⟩:=uB cf;obtain⟨b1,b2⟩:=td (key:=key) hs hq;rw[a_,ax,au,gQ,hs,show((3:aF):aw)=3 from rfl,afQ _ s key _ _ hs hq hk,dj (x:=a+1) (by omega) (by omega)];by_cases hd:a+1=64
  ·rw[aK (show¬a+1<64 by omega),aE hd,au,ax,gQ,b1,show((3:aF):aw)=3 from rfl,ak7 _ _ _ _ b1 b2]
  ·rw[aE (show a+1<64 by omega),aK hd];rfl
end iI

namespace sE
def p(s:aQ)(k:aq)(i:aF):aW:=bZ (aC (bu (ar s i 0))) (aC k)
theorem ok(d:aQ)(n:aq)(hl:d.length<=4294967296):c d n=ai/\v d n=Lib.fi (p d n) d.length 0:=by
 refine out d n ?_;unfold vo b;refine mT (p d n) d.length (λm (i:aF)=>l2 Lib.cZ (λ(_:aQ) (_:aq) (y7 _ _:aw)=>ah y7) (λ(_:aQ) (_:aq) (_ _ _:aw)=>ah (-1)) m d n 0 (d.length:aw) (i:aw)) ah (λm i hi hp=> ?_) (λm i hi hp=> ?_) (λm=> ?_) Lib.cZ (cS (by omega))
 ·unfold p at hp;simp only[l2,r2,Lib.dq,Lib.cF,Lib.dZ,hi,aN,aM,au,AG.v,hp]
 ·unfold p at hp;simp only[l2,r2,Lib.dq,Lib.cF,Lib.dZ,hi,aN,aM,au,AG.v,hp,ax,Lib.c6 hi (by omega:d.length<=9223372036854775807)]
 ·simp only[l2,r2,Lib.dq,bm,bj,ax]
end sE

namespace wL
def cn(y:aA CV):aW:=match y with|[.s _]=>ai|_=>ak
def cr(y:aA CV):aA CV:=[CV.s (bu (y.getD 0 (.b ak)))]
theorem tl{y:aA CV}(h:cn y=ai):cr y=y:=by
 unfold cn at h;split at h
 ·rfl
 ·cases h
theorem mo{y:aA CV}(h:cn y=ai):y.length=1:=by rw[<-tl h];rfl
def keep(d:aq)(y:aA CV):aW:= !List.beq (aC (bu (y.getD 0 (.b ak)))) (aC d)
theorem il(d:aq){s:aQ}{i:aF}(h:i<s.length):(s.take (i+1)).filter (keep d)=(s.take i).filter (keep d)++(bif keep d s[i]then [s[i]]else []):=by rw[cE h,ij];cases hk:keep d s[i]<;>simp[hk]
theorem run(N:aF)(s0:aQ)(d:aq)(hc:s0.all cn=ai)(hn:s0.length<=9223372036854775807)(K:aq->aw->aw->aQ->az R)(kr:aQ->az R)
  (hK:∀(j:aF) x,x.length=s0.length->j<=s0.length->K d j s0.length x=kr (x.take j)) (m j i:aF) (x:aQ)
  (hi:j<i/\i<=s0.length/\x.length=s0.length/\(∀y∈x,y.length=1)/\x.take j=(s0.take i).filter (keep d)/\x.drop i=s0.drop i) (hm:s0.length-i<m):
  l5 N K m d j i x=kr (s0.filter (keep d)):=by
 have KQ:∀y∈s0,cn y=true:=bn.1 hc
 refine Lib.gV (λm (s:aF×aF×aQ)=>l5 N K m d s.1 s.2.1 s.2.2) (λs=>s0.length-s.2.1)
  (λs=>s.1<s.2.1/\s.2.1<=s0.length/\s.2.2.length=s0.length/\(∀y∈s.2.2,y.length=1)/\s.2.2.take s.1=(s0.take s.2.1).filter (keep d)/\s.2.2.drop s.2.1=s0.drop s.2.1)
  (λ_=>kr (s0.filter (keep d))) (λm s hs=> ?_) m (j,i,x) hi hm
 obtain⟨j,i,x⟩:=s;obtain⟨h1,h2,h3,h4,h5,h6⟩:=hs;simp only at h1 h2 h3 h4 h5 h6⊢;by_cases gq:i<s0.length
 ·right;have ou:i<x.length:=by omega
  have GR:j<x.length:=by omega
  have hx:x[i]=s0[i]:=by have e1:=Lib.eF ou;have e2:=Lib.eF gq;rw[h6,e2]at e1;exact(kj e1).1.symm
  have hd:x.drop (i+1)=s0.drop (i+1):=by have e1:=Lib.eF ou;have e2:=Lib.eF gq;rw[h6,e2]at e1;exact(kj e1).2.symm
  have KS:=KQ _ (bB gq);have hf:=il d gq;cases hk:keep d s0[i]with
  |true=>
   refine⟨(j+1,i+1,x.set j s0[i]), ?_,by simp only;omega,trivial, ?_⟩
   ·rw[hk,au,<-h5]at hf;refine⟨by simp only;omega,by simp only;omega,by simpa using h3, ?_, ?_, ?_⟩
    ·intro y hy;rcases jG hy with h|h
     ·exact h4 y h
     ·rw[h];exact mo KS
    ·rw[hf];rw[cE (by simpa using GR)];simp[wA]
    ·simp only;rw[wz (by omega)];exact hd
   ·have e:AG.v (bu (ar x i 0)) d=false:=by
     have:(!AG.v (bu (ar x i 0)) d)=true:=by rw[Lib.cG ou,hx];exact hk
     simpa using this
    have es:eD x j 0 [CV.s (bu (ar x i 0))]=x.set j s0[i]:=by
     have hl:=h4 _ (bB GR);rw[Lib.Bn GR,Lib.cG ou,hx];have:iD x[j] 0 (cr s0[i])=s0[i]:=by rw[tl KS];unfold iD;have:=mo KS;simp[hl,this,gO]
     unfold cr at this;rw[this]
    have b1:(j:aw)<(x.length:aw):=by omega
    simp only[l5,r5,Lib.dq,Lib.cF,Lib.dZ,ou,GR,aN,bh,au,e,bR,es,Lib.c6 gq hn,Lib.c6 (show j<s0.length by omega) hn]
  |false=>
   refine⟨(j,i+1,x), ?_,by simp only;omega,trivial, ?_⟩
   ·rw[hk,ax,dm,<-h5]at hf;exact⟨by simp only;omega,by simp only;omega,h3,h4,hf.symm,hd⟩
   ·have e:AG.v (bu (ar x i 0)) d=true:=by
     have:(!AG.v (bu (ar x i 0)) d)=false:=by rw[Lib.cG ou,hx];exact hk
     simpa using this
    simp only[l5,r5,Lib.dq,Lib.cF,Lib.dZ,ou,aN,bh,au,e,a_,ax,Lib.c6 gq hn]
 ·left;have:i=s0.length:=by omega
  subst this;rw[dY]at h5;have e:=hK j x h3 (by omega);rw[h5]at e;have ou:¬s0.length<x.length:=by omega
  simp only[l5,r5,Lib.dq,ou,bj,ax,e]
theorem ok(s0:aQ)(iV:aq)(hc:s0.all cn=ai)(hn:s0.length<=4294967296):c s0 iV=ai/\v s0 iV=s0.filter (keep iV):=by
 refine out s0 iV ?_;have hv:=sE.ok s0 iV hn;unfold vo b;rw[hv.1,hv.2,au];rcases Lib.pj (sE.p s0 iV) s0.length 0 with ⟨h,nT⟩|⟨k,_,Aa,hk,KU,KP⟩
 ·rw[h];have:s0.filter (keep iV)=s0:=by rw[eE];intro y hy;obtain⟨i,hi,rfl⟩:=c8 hy;have:=nT i (bI _) (by omega);unfold sE.p at this;rw[Lib.cG hi]at this;unfold keep;rw[this];rfl
  rw[this];rfl
 ·rw[hk];have DQ:k<s0.length:=by omega
  have iw:decide ((k:aw)=Kc 1)=false:=aK (by show¬(k:aw)= -1;omega);rw[iw,ax,Lib.c6 DQ (by omega)];have KQ:∀y∈s0,cn y=true:=bn.1 hc;refine run _ s0 iV hc (by omega) _ ah (λj x hx hj=> ?_) _ k (k+1) s0 ⟨by omega,by omega,rfl,λy hy=>mo (KQ y hy), ?_,rfl⟩ (cS (by omega))
  ·have b1:g9 (j:aw) (s0.length:aw) (s0.length:aw)=true:=by simp[g9];omega
   have e:gW j x++aP [Ck.s] (s0.length-j)++nb s0.length x=gW j x++aP [Ck.s] (s0.length-j):=by rw[gO (by omega),dm]
   have hl:(gW j x).length=j:=by simp;omega
   simp only[hx,Lib.dZ,b1,au,e];rw[Lib.tc (by simp[g9];omega)];unfold e8;rw[show aY 0=0 from rfl,fu,yv,o0 (by omega),jc (by omega)]
  ·rw[il iV DQ];have e1:keep iV s0[k]=false:=by unfold sE.p at KU;rw[Lib.cG DQ]at KU;unfold keep;rw[KU];rfl
   have e2:(s0.take k).filter (keep iV)=s0.take k:=by
    rw[eE];intro y hy;obtain⟨i,hi,rfl⟩:=c8 hy;have Wb:i<k:=by simp at hi;omega
    have:=KP i (bI _) Wb;unfold sE.p at this;rw[Lib.cG (by omega)]at this;rw[nt];unfold keep;rw[this];rfl
   rw[e1,e2,ax,dm]
end wL

namespace j6
theorem ah1(l:aA aq):(Lib.rs l).all wL.cn=true:=by rw[bn];intro y hy;unfold Lib.rs at hy;obtain⟨z,_,rfl⟩:=cU.1 hy;rfl
theorem aen(l:aA aq)(k:aq):(Lib.rs l).filter (wL.keep k)=Lib.rs (fc.without l k):=by unfold Lib.rs fc.without;rw[oZ];congr 1;apply kS;intro x _;show(!List.beq (aC x) (aC k))=_;rw[Lib.eM]
theorem ok(l:aA aq)(k:aq)(hl:l.length<=1048576):c (Lib.rs l) k=ai/\v (Lib.rs l) k=Lib.rs (fc.without l k):=by have h1:=s7.ok (Lib.rs l) (by rw[eV];omega);have h2:=wL.ok (Lib.rs l) k (ah1 l) (by rw[eV];omega);rw[aen]at h2;exact out _ _ (by unfold vo b;rw[h1.1,h1.2,h2.1,h2.2,au,au])
end j6

namespace vN
open Lib (rr ri)
open mG (gs GP)
theorem ok(s:aA (aA aw))(a:aw)(key:aq)(hf:jk.oH s)(hk:key.size<=140737488355328):c (rr s) a key=ai/\v (rr s) a key=mG.val s a key:=by
 refine out _ _ _ ?_;have h2:=pK.ok s a hf;unfold vo b mG.val;rw[h2.1,h2.2,au];cases cf:fD.od s a with
 |false=>rfl
 |true=>
  obtain⟨hs,ha,hq⟩:=du.uB cf;rw[a_,ax,au,gQ];have:=Lib.gV (λm (t:aF×aw)=>l5 Lib.cZ (λ(_:aq) (y6:aw) (_:aQ) (_ _:aw)=>ah y6) m key t.2 (rr s) s.length (t.1:aw)) (λt=>s.length-t.1) (λt=>t.1<=s.length) (λt=>ah (gs key t.1 (s.drop t.1) t.2)) (λm t ht=>by
   obtain⟨i,x⟩:=t;dsimp only at ht⊢;by_cases h:i<s.length
   ·right;have hp:=qG.ok i key (by omega) hk;have sO:=gj.CJ i key;obtain⟨JV,hn⟩:=hq _ (bB h);have hb:gj.pl i key<s[i].length:=by omega
    refine⟨(i+1,bif decide (s[i].getD (gj.pl i key) 0<x)then s[i].getD (gj.pl i key) 0 else x),by dsimp only;omega,by dsimp only;omega,by rw[<-GP key s i h x], ?_⟩
    simp only[l5,r5,gQ,Lib.dq,h,aN,au,hp.1,hp.2,Lib.cF,aM,Lib.dZ,JZ h,jv,Lib.gP,JV,sO,Qp hb,bE,Lib.c6 h (by omega:s.length<=9223372036854775807)];rw[du.oI hb];unfold im;rw[ax];by_cases hd:s[i][gj.pl i key]<x
    ·rw[bz hd,aE hd,au]
    ·rw[bH hd,aK hd,ax]
   ·left;have:i=s.length:=by omega
    subst this;simp only[l5,r5,gQ,Lib.dq,bm,bj,ax,di,gs]) Lib.cZ (0,15) (bI _) (cS (by dsimp only;omega))
  simpa using this
end vN

namespace zj
open Lib (rr rs)
open fc (has without gE lK we ir pB)
open jx (eO K5 nA sJ)
open eZ (CX zer SA Vw nB v5 kK LF tq CG)
theorem ok(w m:aA aq)(s:aA (aA aw))(a:aw)(key:aq)(hw:w.length<=1048576)(hm:m.length<=1048576)(hf:jk.oH s)(hk:key.size<=140737488355328):
  c (rs w) (rs m) (rr s) a key=ai/\v (rs w) (rs m) (rr s) a key=(rs (eZ.val w m s a key).1,rs (eZ.val w m s a key).2.1,rr (eZ.val w m s a key).2.2.1,(eZ.val w m s a key).2.2.2.1,(eZ.val w m s a key).2.2.2.2):=by
 refine out _ _ _ _ _ ?_;have h1:=js.ok w m s a hw hm hf;have h2:=o6.ok w m s a hw hm hf;have h3:=iI.ok s a key hf hk;have h5:=sC.ok m key (by omega);have h6:=j6.ok w key hw;have h7:=j6.ok m key hm;have sf:=LF (a:=a) (key:=key) hf;unfold vo b;simp only[Lib.lt,h1.1,h1.2,h2.1,h2.2,au];unfold eZ.val;cases hp:sJ w m s a with
 |false=>rfl
 |true=>
  obtain⟨p1,p2,p3,p4⟩:=CG hp;rw[o6.iP,bh];cases Aa:eO key with
  |false=>rfl
  |true=>
   have AO:=kK Aa;have l6:=ir (l:=w) (k:=key);have l7:=ir (l:=m) (k:=key);simp only[a_,ax,au,h3.1,h3.2,h5.1,h5.2,h6.1,h6.2,h7.1,h7.2,CX,zer,eV,pL,bA];rw[Lib.cq (n:=(without w key).length+1) (by omega) (by omega),Lib.cq (n:=(without m key).length+1) (by omega) (by omega)];simp only[au];cases hA:has w key with
   |true=>
    have hB:has m key=false:=by rw[lK];intro Xq;have:=(v5.1 p1).2;rw[eL]at this;exact this.2.2 key (gE.1 hA) key Xq rfl
    have jy:=pB hA;rw[hB,ax,au,aE (show((without w key++[key]).length:aw)<=2 by rw[bT,bA];omega)];rfl
   |false=>
    rw[we hA];cases hB:has m key with
    |true=>rfl
    |false=>
     simp only[ax];rw[show decide (((w++[key]).length:aw)<=2)=decide ((w++[key]).length<=2)by rw[ca];omega];cases hC:decide ((w++[key]).length<=2)with
     |true=>rfl
     |false=>
      have hlw:(w++[key]).length=3:=by have:=oL hC;rw[bT,bA]at this⊢;omega
      have hfm:(w++[key]).getD 0 ⟨#[]⟩∈w++[key]:=tq (by omega);have KT:((w++[key]).getD 0 ⟨#[]⟩).size<=30:=by
       rcases ba.1 hfm with h|h
       ·exact(kK (nB p1 (bN _ h))).2
       ·rw[aZ]at h;rw[h];exact AO.2
      have g1:=vN.ok (du.val s a key).1 (du.val s a key).2 ((w++[key]).getD 0 ⟨#[]⟩) sf (by omega);have i1:g9 1 ((w++[key]).length:aw) ((w++[key]).length:aw)=true:=by rw[hlw];rfl
      simp only[ax,aE (show(0:aw)<((w++[key]).length:aw)by omega),i1,au,SA,Vw,zer,CX,eV,Lib.cq (n:=m.length+1) (b:=16) (by omega) (by omega),g1.1,g1.2];rw[show decide ((m.length:aw)<4)=decide (m.length<4)by rw[ca];omega];cases hD:decide (m.length<4)with
      |true=>rfl
      |false=>
       have hm4:m.length=4:=by have:=oL hD;omega
       have hmm:m.getD 0 ⟨#[]⟩∈m:=tq (by omega);have hms:=(kK (nB p1 (bO _ hmm))).2;have g2:=vN.ok (du.val s a key).1 (du.val s a key).2 (m.getD 0 ⟨#[]⟩) sf (by omega);have i2:g9 1 (m.length:aw) (m.length:aw)=true:=by simp[g9];omega
       have GW:m.tail.length=3:=by rw[WM];omega
       simp only[ax,aE (show(0:aw)<(m.length:aw)by omega),i2,au,CX,Lib.cq (n:=m.tail.length+1) (b:=16) (by omega) (by omega),g2.1,g2.2];cases decide (mG.val (du.val s a key).1 (du.val s a key).2 ((w++[key]).getD 0 ⟨#[]⟩)>mG.val (du.val s a key).1 (du.val s a key).2 (m.getD 0 ⟨#[]⟩))<;>rfl
end zj

namespace uS
open Lib (rr rs)
open fc (without)
theorem ok(w m:aA aq)(s:aA (aA aw))(a:aw)(key:aq)(hw:w.length<=1048576)(hm:m.length<=1048576)(hf:jk.oH s):c (rs w) (rs m) (rr s) a key=ai/\v (rs w) (rs m) (rr s) a key=(rs (without w key),rs (without m key),rr s,a):=by have h1:=js.ok w m s a hw hm hf;have h2:=j6.ok w key hw;have h3:=j6.ok m key hm;exact out _ _ _ _ _ (by unfold vo b;rw[h1.1,h1.2,h2.1,h2.2,h3.1,h3.2];rfl)
end uS

namespace jj
open Lib (rc Cl)
open ic (lA jn lid S_)
theorem ok(i0:aw)(q1 q2 q3 q4:aQ)(i5:aw)(q6:aQ)(cl:aA Cl)(i8:aw)(x:Cl)(cs:cl.Pairwise λa b=>a.id<b.id)(hn:lA cl x.id=ak)(hl:cl.length<=1048576):
  c i0 q1 q2 q3 q4 i5 q6 (rc cl) i8 x.id x.k x.fe x.fr x.sta x.km x.age=ai/\v i0 q1 q2 q3 q4 i5 q6 (rc cl) i8 x.id x.k x.fe x.fr x.sta x.km x.age=(i0,q1,q2,q3,q4,i5,q6,rc (jn cl x),i8):=by
 refine out _ _ _ _ _ _ _ _ _ _ _ _ _ _ _ _ ?_;unfold vo b;have hrl:=eU cl
 have:=tT (lid x.id) (rc cl) (λm (i:aF)=>l2 Lib.cZ (λDl Fc D7 wh J5 J6 VI Wp Qu Qv HR Qw Qx Qy Qz P0 VJ=>bif(decide (0<=Dl)&&decide (Dl<=(↑(bS VJ):aw))&&cC (bS VJ+bS (aD (aP [Ck.i ao,Ck.s,Ck.i ao,Ck.i ao,Ck.i ao,Ck.s,Ck.i ao] 1) 0 [CV.i ao J5,CV.s J6,CV.i ao VI,CV.i ao Wp,CV.i ao Qu,CV.s Qv,CV.i ao HR])) 72)then(ah (Fc,Qw,Qx,Qy,Qz,D7,P0,(Pu.tB VJ (aY Dl) (aD (aP [Ck.i ao,Ck.s,Ck.i ao,Ck.i ao,Ck.i ao,Ck.s,Ck.i ao] 1) 0 [CV.i ao J5,CV.s J6,CV.i ao VI,CV.i ao Wp,CV.i ao Qu,CV.s Qv,CV.i ao HR])),wh))else(aj)) m (i:aw) i0 i5 i8 x.id x.k x.fe x.fr x.sta x.km x.age q1 q2 q3 q4 q6 (rc cl))
  (λa=>bif decide ((a:aw)<=((rc cl).length:aw))then ah (i0,q1,q2,q3,q4,i5,q6,Pu.tB (rc cl) a [Cl.row x],i8)else aj)
  (λm i h hp=>by
   have mI:decide (bE (ar (rc cl) i 0)<x.id)=true:=by rw[Lib.cG h];exact hp
   simp only[l2,r2,Lib.dq,h,aN,Lib.cF,aM,au,Lib.dZ,mI,Lib.c6 h (by omega:(rc cl).length<=9223372036854775807)])
  (λm i h hp=>by
   have mI:decide (bE (ar (rc cl) i 0)<x.id)=false:=by rw[Lib.cG h];exact hp
   simp only[l2,r2,Lib.dq,h,aN,Lib.cF,aM,bh,j4,au,ax,Lib.dZ,mI,Lib.iX,bA,Lib.cq (n:=(rc cl).length+1) (b:=72) (by omega) (by omega)];rfl)
  (λm=>by simp only[l2,r2,Lib.dq,bm,bj,aN,Lib.cF,aM,bh,j4,au,ax,Lib.dZ,Lib.iX,bA,Lib.cq (n:=(rc cl).length+1) (b:=72) (by omega) (by omega)];rfl) Lib.cZ (cS (by omega))
 refine this.trans ?_;have hle:=E5 (lid x.id) (rc cl);rw[aE (by omega),au];unfold Pu.tB;rw[S_ cs hn]
end jj

namespace RS
open Lib (rr rs re rf rc Px Cl Fe En el)
open fc (without)
open jx (eO)
open qi (jd)
open ic (hit sH put HM NB EX lA jn rP qm Bd)
open fZ (fP)
open uI (ik pw)
def res(q:Px×aw):aw×aQ×aQ×aQ×aQ×aw×aQ×aQ×aw×aw:=(q.1.now,re q.1.en,rs q.1.w,rs q.1.m,rr q.1.s,q.1.a,rf q.1.fe,rc q.1.cl,q.1.hits,q.2)
theorem JJ(fe:aA Fe)(key:aq):rf fe++aD (aP [Ck.s,Ck.s,Ck.i ao,Ck.i ao,Ck.i ao] 1) 0 [CV.s key,CV.s {data:= #[]},CV.i ao 1,CV.i ao 0,CV.i ao 0]=rf (fe++[rP key]):=by unfold Lib.rf;rw[dh];rfl
theorem Bg{p:Px}{i:aF}(hi:i<p.en.length)(ho:ik p):bJ (p.now-(el p.en i).st)=p.now-(el p.en i).st:=by have h1:=ho.now;have h2:=(m8.D0 (ho.en _ (kh hi))).2.1;exact dj (by omega) (by omega)
theorem ok(p:Px)(id:aw)(key:aq)(hp:p.Fit 1048576)(hkz:key.size<=140737488355328):c p.now (re p.en) (rs p.w) (rs p.m) (rr p.s) p.a (rf p.fe) (rc p.cl) p.hits id key=ai/\v p.now (re p.en) (rs p.w) (rs p.m) (rr p.s) p.a (rf p.fe) (rc p.cl) p.hits id key=res (ic.ask p id key):=by
 have h1:=iL.ok p hp;have h2:=Ov.ok p hp;have oU:=hp.cl;have JW:=hp.fe;have hen:=hp.en;have KT:jk.oH p.s:=⟨hp.s.1,hp.s.2.1⟩
 have h3:=zh.ok p.now (re p.en) (rs p.w) (rs p.m) (rr p.s) p.a (rf p.fe) p.cl p.hits id oU;refine out _ _ _ _ _ _ _ _ _ _ _ ?_;unfold vo b ic.ask;simp only[Lib.lt,h1.1,h1.2,h2.1,h2.2,au];cases cf:jd p with
 |false=>rfl
 |true=>
 have ho:ik p:=pw.1 cf;rw[a_,ax,bh,show lz.v id 1 9=decide (1<=id/\id<=9)from fD.eI _ _ _];cases IV:decide (1<=id/\id<=9)with
 |false=>rfl
 |true=>
 rw[a_,ax,bh,o6.iP];cases hko:eO key with
 |false=>rfl
 |true=>
 have AO:=eZ.kK hko;rw[a_,ax,bh,h3.1,au,h3.2];cases hhi:lA p.cl id with
 |true=>rfl
 |false=>
 rw[ax,bR,bh,eU];by_cases h6:p.cl.length=6
 ·rw[aE (show(p.cl.length:aw)=6 by omega),au,aK (show¬p.cl.length<6 by omega)];rfl
 have hc6:=ho.cll;rw[aK (show¬(p.cl.length:aw)=6 by omega),ax,aE (show p.cl.length<6 by omega),au];have h4:=pR.ok (re p.en) key (by rw[dy];omega);have h5:=Kl.ok p.now (re p.en) (rs p.w) (rs p.m) (rr p.s) p.a (rf p.fe) (rc p.cl) p.hits key (by rw[dL];omega);have h7:=zj.ok p.w p.m p.s p.a key hp.w hp.m KT (by omega);have h8:=iI.ok p.s p.a key KT (by omega);have h9:=uS.ok p.w p.m p.s p.a key hp.w hp.m KT;have Qg:=pJ.ok (re p.en) key (fZ.Sa _) (by rw[dy];omega);rw[fZ.GD]at Qg;have PD:=λ(i0:aw) (q1 q2 q3 q4:aQ) (i5:aw) (q6:aQ) (i8:aw) (x:Cl) (hx:x.id=id)=>jj.ok i0 q1 q2 q3 q4 i5 q6 p.cl i8 x ho.cs (by rw[hx];exact hhi) oU;rw[h4.1,au,h4.2,dy];have ayD:p.hits<=1000000000:=ho.hits.2;have aru:0<=p.hits:=ho.hits.1;have sO:=ho.fl;have aiy:im ak (bJ (p.hits+1)) 1000000000=bif decide (p.hits<1000000000)then p.hits+1 else p.hits:=by
  rw[dj (by omega) (by omega)];unfold im;rw[ax];by_cases h:p.hits<1000000000
  ·rw[aE h,au,bH (by omega)]
  ·rw[aK h,ax,bz (by omega)];omega
 have hfp:∀i (hi:i<p.fe.length),qD.p (rf p.fe) key i=EX key p.fe[i]:=λi hi=>by unfold qD.p EX H4.v;rw[C8 hi,PY hi,eH hi];simp only[bu,bE,Lib.eM];cases decide (p.fe[i].k=key)<;>rfl
 have hep:∀i (hi:i<p.en.length),pR.p (re p.en) key i=decide (p.en[i].k=key):=λi hi=>by unfold pR.p;rw[oM hi,eH hi];exact Lib.eM
 have wn:∀n:aF,n<=1048576->bJ ((n:aw)+1)=(n:aw)+1:=λn hn=>dj (by omega) (by omega);have cN:∀(n:aF) (fe:aA Fe),n<fe.length->bu (ar (rf fe) n 1)=(el fe n).t:=λn fe hn=>by rw[C9 hn];rfl
 have I8:cC (p.fe.length+1) 56=true:=Lib.cq (by omega) (by omega);have dK:∀key:aq,bS (aD (aP [Ck.s,Ck.s,Ck.i ao,Ck.i ao,Ck.i ao] 1) 0 [CV.s key,CV.s {data:= #[]},CV.i ao 1,CV.i ao 0,CV.i ao 0])=1:=λ_=>rfl;rcases Bd p.fe (EX key) _ hfp with ⟨f1,_,f2⟩|⟨j,hj,f1,_,f2⟩
 ·have f2:NB p.fe key=none:=f2;rw[dL,f1]at h5;rcases Bd p.en (λe=>decide (e.k=key)) _ hep with ⟨e1,e2,_⟩|⟨i,hi,e1,e2,_⟩
  ·have e2:HM p.en key=none:=e2;rw[e1,e2];unfold sH;rw[f2];dsimp only;by_cases Qh:p.fe.length=20
   ·rw[aK (show¬p.fe.length<20 by omega)];simp only[show decide ((-1:aw)≥0)=ak from rfl,ax,h5.1,h5.2,au,show decide ((-1:aw)<0)=ai from rfl,dL,aE (show(p.fe.length:aw)=20 by omega)];rfl
   ·have m_:=PD p.now (re p.en) (rs p.w) (rs p.m) (rr (du.val p.s p.a key).1) (du.val p.s p.a key).2 (rf (p.fe++[rP key])) p.hits ⟨id,key,(p.fe.length:aw)+1,0,1,(el (p.fe++[rP key]) p.fe.length).t,0⟩ rfl;dsimp only at m_;rw[aE (show p.fe.length<20 by omega)];simp only[show decide ((-1:aw)≥0)=ak from rfl,ax,h5.1,h5.2,au,show decide ((-1:aw)<0)=ai from rfl,dL,aK (show¬(p.fe.length:aw)=20 by omega),h8.1,h8.2,dK,I8,JJ,bT,bA,Lib.dZ,Lib.dq,aE (show p.fe.length<p.fe.length+1 by omega),cN p.fe.length (p.fe++[rP key]) (by simp),wn _ JW,m_.1,m_.2];rfl
  ·have e2:HM p.en key=ah (el p.en i):=e2;rw[e1,e2];have Di:Gl.v (bu (ar (re p.en) i 0)) (bE (ar (re p.en) i 1)) (bE (ar (re p.en) i (1+1))) (bu (ar (re p.en) i (1+1+1))) p.now=qm (el p.en i) p.now:=by rw[oM hi,qx hi,qy hi,qz hi];rfl
   have g1:bE (ar (re p.en) i 1)=(el p.en i).st:=by rw[qx hi];rfl
   have g3:bu (ar (re p.en) i (1+1+1))=(el p.en i).bo:=by rw[qz hi];rfl
   dsimp only;cases Wa:qm (el p.en i) p.now with
   |true=>
    have g0:bu (ar (re p.en) i 0)=(el p.en i).k:=by rw[oM hi];rfl
    have g2:bE (ar (re p.en) i (1+1))=(el p.en i).li:=by rw[qy hi];rfl
    have Di:Gl.v (el p.en i).k (el p.en i).st (el p.en i).li (el p.en i).bo p.now=true:=Wa;have hw:=Bg (p:=p) hi ho;have m_:=PD p.now (re p.en) (rs (eZ.val p.w p.m p.s p.a key).1) (rs (eZ.val p.w p.m p.s p.a key).2.1) (rr (eZ.val p.w p.m p.s p.a key).2.2.1) (eZ.val p.w p.m p.s p.a key).2.2.2.1 (rf p.fe) p.hits ⟨id,key,0,(el p.en i).st,2,(el p.en i).bo,p.now-(el p.en i).st⟩ rfl;dsimp only at m_;simp only[aE (show((i:aF):aw)≥0 by omega),Lib.cF,Lib.dq,hi,aN,aM,au,Lib.dZ,g0,g1,g2,g3,Di,h7.1,h7.2,hw,m_.1,m_.2,aiy,dy];rfl
   |false=>
    rw[Wa]at Di;unfold sH;rw[f2];dsimp only;by_cases Qh:p.fe.length=20
    ·rw[aK (show¬p.fe.length<20 by omega)];simp only[aE (show((i:aF):aw)≥0 by omega),Lib.cF,Lib.dq,hi,aN,aM,au,ax,Lib.dZ,dy,Di,h5.1,h5.2,show decide ((-1:aw)<0)=ai from rfl,dL,aE (show(p.fe.length:aw)=20 by omega)];rfl
    ·have m_:=PD p.now (re (fP p.en key)) (rs (without p.w key)) (rs (without p.m key)) (rr (du.val p.s p.a key).1) (du.val p.s p.a key).2 (rf (p.fe++[rP key])) p.hits ⟨id,key,(p.fe.length:aw)+1,0,1,(el (p.fe++[rP key]) p.fe.length).t,0⟩ rfl;dsimp only at m_;rw[aE (show p.fe.length<20 by omega)];simp only[aE (show((i:aF):aw)≥0 by omega),Lib.cF,dy,hi,aN,aM,Di,h9.1,h9.2,Qg.1,Qg.2,ax,h5.1,h5.2,au,show decide ((-1:aw)<0)=ai from rfl,dL,aK (show¬(p.fe.length:aw)=20 by omega),h8.1,h8.2,dK,I8,JJ,bT,bA,Lib.dZ,Lib.dq,aE (show p.fe.length<p.fe.length+1 by omega),cN p.fe.length (p.fe++[rP key]) (by simp),wn _ JW,m_.1,m_.2];rfl
 ·have f2:NB p.fe key=ah j:=f2;rw[dL,f1]at h5;have nj:decide (((j:aF):aw)<0)=false:=aK (by omega);rcases Bd p.en (λe=>decide (e.k=key)) _ hep with ⟨e1,e2,_⟩|⟨i,hi,e1,e2,_⟩
  ·have e2:HM p.en key=none:=e2;rw[e1,e2];unfold sH;rw[f2];dsimp only;have m_:=PD p.now (re p.en) (rs p.w) (rs p.m) (rr (du.val p.s p.a key).1) (du.val p.s p.a key).2 (rf p.fe) p.hits ⟨id,key,(j:aw)+1,0,1,(el p.fe j).t,0⟩ rfl;dsimp only at m_;simp only[show decide ((-1:aw)≥0)=ak from rfl,ax,h5.1,h5.2,au,nj,dL,h8.1,h8.2,Lib.dZ,Lib.cF,Lib.dq,hj,aN,aM,cN j p.fe hj,wn j (by omega),m_.1,m_.2];rfl
  ·have e2:HM p.en key=ah (el p.en i):=e2;rw[e1,e2];have Di:Gl.v (bu (ar (re p.en) i 0)) (bE (ar (re p.en) i 1)) (bE (ar (re p.en) i (1+1))) (bu (ar (re p.en) i (1+1+1))) p.now=qm (el p.en i) p.now:=by rw[oM hi,qx hi,qy hi,qz hi];rfl
   have g1:bE (ar (re p.en) i 1)=(el p.en i).st:=by rw[qx hi];rfl
   have g3:bu (ar (re p.en) i (1+1+1))=(el p.en i).bo:=by rw[qz hi];rfl
   dsimp only;cases Wa:qm (el p.en i) p.now with
   |true=>
    have g0:bu (ar (re p.en) i 0)=(el p.en i).k:=by rw[oM hi];rfl
    have g2:bE (ar (re p.en) i (1+1))=(el p.en i).li:=by rw[qy hi];rfl
    have Di:Gl.v (el p.en i).k (el p.en i).st (el p.en i).li (el p.en i).bo p.now=true:=Wa;have hw:=Bg (p:=p) hi ho;have m_:=PD p.now (re p.en) (rs (eZ.val p.w p.m p.s p.a key).1) (rs (eZ.val p.w p.m p.s p.a key).2.1) (rr (eZ.val p.w p.m p.s p.a key).2.2.1) (eZ.val p.w p.m p.s p.a key).2.2.2.1 (rf p.fe) p.hits ⟨id,key,0,(el p.en i).st,2,(el p.en i).bo,p.now-(el p.en i).st⟩ rfl;dsimp only at m_;simp only[aE (show((i:aF):aw)≥0 by omega),Lib.cF,Lib.dq,hi,aN,aM,au,Lib.dZ,g0,g1,g2,g3,Di,h7.1,h7.2,hw,m_.1,m_.2,aiy,dy];rfl
   |false=>rw[Wa]at Di;unfold sH;rw[f2];dsimp only;have m_:=PD p.now (re (fP p.en key)) (rs (without p.w key)) (rs (without p.m key)) (rr (du.val p.s p.a key).1) (du.val p.s p.a key).2 (rf p.fe) p.hits ⟨id,key,(j:aw)+1,0,1,(el p.fe j).t,0⟩ rfl;dsimp only at m_;simp only[aE (show((i:aF):aw)≥0 by omega),Lib.cF,dy,hi,aN,aM,Di,h9.1,h9.2,Qg.1,Qg.2,ax,h5.1,h5.2,au,nj,dL,h8.1,h8.2,Lib.dZ,Lib.dq,hj,cN j p.fe hj,wn j (by omega),m_.1,m_.2];rfl
end RS

namespace wJ
open Lib (re el En)
open ic (HM)
def res(o:az En):aq×aw×aw×aq×aW:=match o with|some e=>(e.k,e.st,e.li,e.bo,ai)|none=>(⟨#[]⟩,0,0,⟨#[]⟩,ak)
theorem ok(now:aw)(en:aA En)(q2 q3 q4:aQ)(q5:aw)(q6 q7:aQ)(q8:aw)(key:aq)(hl:en.length<=1048576):c now (re en) q2 q3 q4 q5 q6 q7 q8 key=ai/\v now (re en) q2 q3 q4 q5 q6 q7 q8 key=res (HM en key):=by
 refine out _ _ _ _ _ _ _ _ _ _ ?_;unfold vo b HM
 have go:∀(d i n:aF),en.length-i<=d->i<=en.length->d<n->
   l2 Lib.cZ (λ(_:aq) (Dl:aW) (_ _:aw) (_ _ _ _:aQ) (_:aw) (_ _:aQ) (_:aw) (Qw:aq) (Qx Qy:aw) (Qz:aq)=>ah (Qw,Qx,Qy,Qz,Dl)) (λ(_:aq) (_:aW) (_ _:aw) (_ _ _ _:aQ) (_:aw) (_ _:aQ) (_:aw) (_:aq) (_ _:aw) (_:aq)=>ah (({data:= #[]}:aq),0,0,({data:= #[]}:aq),ak)) n key ak (i:aw) now (re en) q2 q3 q4 q5 q6 q7 q8 ({data:= #[]}) 0 0 ({data:= #[]})=ah (res ((en.drop i).find? λe=>decide (e.k=key))):=by
  intro d
  induction d with
  |zero=>
   intro i n h1 h2 h3;obtain⟨n,rfl⟩:∃n',n=n'+1:=⟨n-1,by omega⟩
   have:i=en.length:=by omega
   subst this;simp only[l2,r2,dy,Lib.dq,bm,bj,ax,di];rfl
  |succ d ih=>
   intro i n h1 h2 h3;obtain⟨n,rfl⟩:∃n',n=n'+1:=⟨n-1,by omega⟩
   by_cases hi:i<en.length
   ·rw[dE hi];have g:=ih (i+1) n (by omega) hi (by omega);simp only[l2,r2,dy,Lib.dq,hi,aN,Lib.cF,aM,au,Lib.dZ,oM hi,qx hi,qy hi,qz hi,bu,bE,Lib.eM,eH hi,Lib.c6 hi (by omega:en.length<=9223372036854775807)];cases hk:decide (en[i].k=key)with
    |true=>rw[au,List.find?_cons_of_pos (p:=λe:En=>decide (e.k=key)) hk];rfl
    |false=>rw[ax,Kd (p:=λe:En=>decide (e.k=key)) (by simp[hk])];exact g
   ·have:i=en.length:=by omega
    subst this;simp only[l2,r2,dy,Lib.dq,bm,bj,ax,di];rfl
 have:=go en.length 0 Lib.cZ (by omega) (bI _) (cS (by omega));rw[fu]at this;exact this
end wJ

namespace uW
open Lib (rr rs)
open fc (without)
theorem ok(w m:aA aq)(s:aA (aA aw))(a:aw)(key:aq)(hw:w.length<=1048576)(hm:m.length<=1048576)(hf:jk.oH s):c (rs w) (rs m) (rr s) a key=ai/\v (rs w) (rs m) (rr s) a key=(rs (without w key),rs (without m key),rr s,a):=by have h1:=n6.ok s a hf;have h2:=o9.ok w key hw;have h3:=o9.ok m key hm;exact out _ _ _ _ _ (by unfold vo b;rw[h1.1,h1.2,h2.1,h2.2,h3.1,h3.2];rfl)
end uW

namespace qg
open Lib (re el oM qx qy qz En)
open fZ (fP)
theorem ok(l:aA En)(k:aq)(hl:l.length<=2097152):c (re l) k=ai/\v (re l) k=re (fP l k):=by
 refine out _ _ ?_;unfold vo b;have key:=ma l.length (λn (i:aF) (x:aQ)=>l3 Lib.cZ (λ(_:aQ) (_:aq) (_:aw) (y7:aQ)=>ah y7) n (re l) k (i:aw) x) (λi=>re (fP (l.take i) k)) (ah (re (fP l k))) (λn i hi=>by
  have hlen:(fP (l.take i) k).length<=i:=by refine dg (eW ..) ?_;rw[eK];omega
  have e:fP (l.take (i+1)) k=fP (l.take i) k++(bif !decide ((el l i).k=k)then [el l i]else []):=by unfold fP;rw[cE hi,ij,eH hi];cases hd:decide (l[i].k=k)<;>simp[hd]
  rw[e];simp only[l3,r3,dy,Lib.dq,hi,aN,Lib.cF,aM,au,Lib.dZ,oM hi,qx hi,qy hi,qz hi,bu,bE,Lib.eM,pL,bA,Lib.c6 hi (by omega:l.length<=9223372036854775807)];rw[Lib.cq (by omega) (by omega),au];cases decide ((el l i).k=k)with
  |true=>rw[a_,ax,ax,dm]
  |false=>rw[bR,au,au];unfold Lib.re;rw[dh];rfl) (λn=>by
  simp only[l3,r3,dy,Lib.dq,bm,bj,ax,dY]) Lib.cZ 0 (bI _) (cS (by omega))
 exact key
end qg

namespace lQ
open Lib (rc el Cl)
open ic (jn)
theorem tail(l:aA Cl)(x:Cl)(hl:l.length<=1048576)(c0:aA Cl)(hc:c0.length<=1048577):
  l9 Lib.cZ (λ(_:aQ) (_ _:aw) (_:aq) (_ _ _:aw) (_:aq) (_:aw) (y:aQ)=>ah y) Lib.cZ (rc l) 0 x.id x.k x.fe x.fr x.sta x.km x.age (rc c0)=ah (rc (c0++l.filter λy=>decide (y.id>x.id))):=by
 refine B_ l (λy=>decide (y.id>x.id)) (λm (i:aF) acc=>l9 Lib.cZ (λ(_:aQ) (_ _:aw) (_:aq) (_ _ _:aw) (_:aq) (_:aw) (y:aQ)=>ah y) m (rc l) (i:aw) x.id x.k x.fe x.fr x.sta x.km x.age (rc acc)) (λacc=>ah (rc acc)) c0
  (λm i acc h ha hp=> ?_) (λm i acc h hp=> ?_) (λm acc=> ?_) Lib.cZ (cS (by omega))
 ·have mI:decide (l[i].id>x.id)=true:=hp;simp only[l9,r9,eU,Lib.dq,h,aN,Lib.cF,aM,au,Lib.dZ,rc0 h,rc1 h,rc2 h,rc3 h,rc4 h,rc5 h,rc6 h,bu,bE,mI,pL,bA,Lib.c6 h (by omega:l.length<=9223372036854775807),Lib.cq (n:=acc.length+1) (b:=72) (by omega) (by omega)];unfold Lib.rc;rw[dh];rfl
 ·have mI:decide (l[i].id>x.id)=false:=hp;simp only[l9,r9,eU,Lib.dq,h,aN,Lib.cF,aM,au,ax,Lib.dZ,rc0 h,bE,mI,Lib.c6 h (by omega:l.length<=9223372036854775807)]
 ·simp only[l9,r9,eU,Lib.dq,bm,bj,ax]
theorem ok(l:aA Cl)(x:Cl)(hl:l.length<=1048576):c (rc l) x.id x.k x.fe x.fr x.sta x.km x.age=ai/\v (rc l) x.id x.k x.fe x.fr x.sta x.km x.age=rc (jn l x):=by
 refine out _ _ _ _ _ _ _ _ ?_;unfold vo b
 have key:=B_ l (λy=>decide (y.id<x.id))
  (λm (i:aF) acc=>l3 Lib.cZ (λ(J4:aQ) (_ LZ:aw) (HA:aq) (HQ Wn Qt:aw) (Dl:aq) (Fc:aw) (D7:aQ)=>bif(cC (bS D7+bS (aD (aP [Ck.i ao,Ck.s,Ck.i ao,Ck.i ao,Ck.i ao,Ck.s,Ck.i ao] 1) 0 [CV.i ao LZ,CV.s HA,CV.i ao HQ,CV.i ao Wn,CV.i ao Qt,CV.s Dl,CV.i ao Fc])) 72)then(l9 Lib.cZ (λ(_:aQ) (_ _:aw) (_:aq) (_ _ _:aw) (_:aq) (_:aw) (y39:aQ)=>ah y39) Lib.cZ J4 0 LZ HA HQ Wn Qt Dl Fc (D7++aD (aP [Ck.i ao,Ck.s,Ck.i ao,Ck.i ao,Ck.i ao,Ck.s,Ck.i ao] 1) 0 [CV.i ao LZ,CV.s HA,CV.i ao HQ,CV.i ao Wn,CV.i ao Qt,CV.s Dl,CV.i ao Fc]))else(aj)) m (rc l) (i:aw) x.id x.k x.fe x.fr x.sta x.km x.age (rc acc))
  (λacc=>bif cC (acc.length+1) 72 then l9 Lib.cZ (λ(_:aQ) (_ _:aw) (_:aq) (_ _ _:aw) (_:aq) (_:aw) (y:aQ)=>ah y) Lib.cZ (rc l) 0 x.id x.k x.fe x.fr x.sta x.km x.age (rc (acc++[x]))else aj) []
  (λm i acc h ha hp=>by
   have mI:decide (l[i].id<x.id)=true:=hp;have ha:acc.length<=i:=by simpa using ha
   simp only[l3,r3,eU,Lib.dq,h,aN,Lib.cF,aM,au,Lib.dZ,rc0 h,rc1 h,rc2 h,rc3 h,rc4 h,rc5 h,rc6 h,bu,bE,mI,pL,bA,Lib.c6 h (by omega:l.length<=9223372036854775807),Lib.cq (n:=acc.length+1) (b:=72) (by omega) (by omega)];unfold Lib.rc;rw[dh];rfl)
  (λm i acc h hp=>by have mI:decide (l[i].id<x.id)=false:=hp;simp only[l3,r3,eU,Lib.dq,h,aN,Lib.cF,aM,au,ax,Lib.dZ,rc0 h,bE,mI,Lib.c6 h (by omega:l.length<=9223372036854775807)])
  (λm acc=>by simp only[l3,r3,eU,Lib.dq,bm,bj,ax,pL,bA];unfold Lib.rc;rw[dh];rfl) Lib.cZ (cS (by omega))
 refine key.trans ?_;have hf:=eW (λy:Cl=>decide (y.id<x.id)) l;rw[gz,Lib.cq (by omega) (by omega),au,tail l x hl _ (by simp;omega)];unfold jn;rw[cu]
end lQ

namespace wF
open Lib (rr rs re rf rc Px Cl Fe En el)
open fc (without)
open jx (eO)
open qi (jd)
open m9 (lD)
open ic (hit sH put HM NB EX lA jn rP qm)
open fZ (fP)
open uI (ik pw)
open RS (res Bg JJ)
theorem find(k0 k1:aw->aq->aw->aw->aw->aQ->aQ->aQ->aQ->aw->aQ->aQ->aw->aw->aw->aw->aw->aw->aw->aQ->aQ->aQ->aQ->aQ->aQ->az R)(cl:aA Cl)(hl:cl.length<=1048576)(id:aw)(key:aq)(z4 z6:aw)(q7 q8 q9 DZ:aQ)(VL:aw)(Up:aQ)(VM z15 JR z17 Od Oe Of:aw)(Uq Ur Us Ut Uu Uv:aQ):
  (lA cl id=ak->l5 Lib.cZ k0 k1 Lib.cZ id key z4 0 z6 q7 q8 q9 DZ VL Up (rc cl) VM z15 JR z17 Od Oe Of Uq Ur Us Ut Uu Uv=k1 id key z4 (cl.length:aw) z6 q7 q8 q9 DZ VL Up (rc cl) VM z15 JR z17 Od Oe Of Uq Ur Us Ut Uu Uv)/\
  (lA cl id=ai->∃j:aw,l5 Lib.cZ k0 k1 Lib.cZ id key z4 0 z6 q7 q8 q9 DZ VL Up (rc cl) VM z15 JR z17 Od Oe Of Uq Ur Us Ut Uu Uv=k0 id key 1 j z6 q7 q8 q9 DZ VL Up (rc cl) VM Od Oe Of Od Oe Of Uq Ur Us Ut Uu Uv):=by
 have go:∀(d i n:aF),cl.length-i<=d->i<=cl.length->d<n->
   (((cl.drop i).any λx=>decide (x.id=id))=ak->l5 Lib.cZ k0 k1 n id key z4 (i:aw) z6 q7 q8 q9 DZ VL Up (rc cl) VM z15 JR z17 Od Oe Of Uq Ur Us Ut Uu Uv=k1 id key z4 (cl.length:aw) z6 q7 q8 q9 DZ VL Up (rc cl) VM z15 JR z17 Od Oe Of Uq Ur Us Ut Uu Uv)/\
   (((cl.drop i).any λx=>decide (x.id=id))=ai->∃j:aw,l5 Lib.cZ k0 k1 n id key z4 (i:aw) z6 q7 q8 q9 DZ VL Up (rc cl) VM z15 JR z17 Od Oe Of Uq Ur Us Ut Uu Uv=k0 id key 1 j z6 q7 q8 q9 DZ VL Up (rc cl) VM Od Oe Of Od Oe Of Uq Ur Us Ut Uu Uv):=by
  intro d
  induction d with
  |zero=>
   intro i n h1 h2 h3;obtain⟨n,rfl⟩:∃n',n=n'+1:=⟨n-1,by omega⟩
   have:i=cl.length:=by omega
   subst this;rw[di];exact⟨λ_=>by simp only[l5,r5,eU,Lib.dq,bm,bj,ax],λh=>by cases h⟩
  |succ d ih=>
   intro i n h1 h2 h3;obtain⟨n,rfl⟩:∃n',n=n'+1:=⟨n-1,by omega⟩
   by_cases hi:i<cl.length
   ·rw[dE hi,List.any_cons];obtain⟨g1,g2⟩:=ih (i+1) n (by omega) hi (by omega);have e:l5 Lib.cZ k0 k1 (n+1) id key z4 (i:aw) z6 q7 q8 q9 DZ VL Up (rc cl) VM z15 JR z17 Od Oe Of Uq Ur Us Ut Uu Uv=bif decide (cl[i].id=id)then k0 id key 1 (i:aw) z6 q7 q8 q9 DZ VL Up (rc cl) VM Od Oe Of Od Oe Of Uq Ur Us Ut Uu Uv else l5 Lib.cZ k0 k1 n id key z4 ((i+1:aF):aw) z6 q7 q8 q9 DZ VL Up (rc cl) VM z15 JR z17 Od Oe Of Uq Ur Us Ut Uu Uv:=by simp only[l5,r5,eU,Lib.dq,hi,aN,Lib.cF,aM,au,Lib.dZ,rc0 hi,bE,Lib.c6 hi (by omega:cl.length<=9223372036854775807)]
    rw[e];cases hc:decide (cl[i].id=id)with
    |true=>exact⟨λh=>by simp at h,λ_=>⟨i,rfl⟩⟩
    |false=>rw[oi,ax];exact⟨g1,g2⟩
   ·have:i=cl.length:=by omega
    subst this;rw[di];exact⟨λ_=>by simp only[l5,r5,eU,Lib.dq,bm,bj,ax],λh=>by cases h⟩
 have:=go cl.length 0 Lib.cZ (by omega) (bI _) (cS (by omega));rw[fu]at this;exact this
def sc(key:aq):aA Fe->aF->aw×aq->aw×aq
 |[],_,s=>s|x::r,i,s=>sc key r (i+1) (bif EX key x then((i:aw)+1,x.t)else s)
theorem scan(k0:aq->aW->aw->aw->aQ->aQ->aQ->aQ->aw->aQ->aQ->aw->aw->aw->aw->aw->aw->aw->aw->aq->aw->aw->aw->aq->aw->aQ->aQ->aQ->aQ->aQ->aQ->az R)(fe:aA Fe)(hl:fe.length<=1048576)(key:aq)(h0:aW)(z84:aw)(q85 q86 q87 q88:aQ)(z89:aw)(q91:aQ)(z92 z93 z94 z95 z96 z97 z98 z99:aw)(Zo:aq)(ZG ZH ZI:aw)(Zb Zc Zd Ze Zg Zh:aQ):
  XS Lib.cZ k0 Lib.cZ key h0 0 z84 q85 q86 q87 q88 z89 (rf fe) q91 z92 z93 z94 z95 z96 z97 z98 z99 Zo 0 ZG ZH ({data:= #[]}) ZI Zb Zc Zd Ze Zg Zh=k0 key h0 (fe.length:aw) z84 q85 q86 q87 q88 z89 (rf fe) q91 z92 z93 z94 z95 z96 z97 z98 z99 Zo (sc key fe 0 (0,⟨#[]⟩)).1 ZG ZH (sc key fe 0 (0,⟨#[]⟩)).2 ZI Zb Zc Zd Ze Zg Zh:=by
 have go:∀(d i n:aF) (s:aw×aq),fe.length-i<=d->i<=fe.length->d<n->
   XS Lib.cZ k0 n key h0 (i:aw) z84 q85 q86 q87 q88 z89 (rf fe) q91 z92 z93 z94 z95 z96 z97 z98 z99 Zo s.1 ZG ZH s.2 ZI Zb Zc Zd Ze Zg Zh=k0 key h0 (fe.length:aw) z84 q85 q86 q87 q88 z89 (rf fe) q91 z92 z93 z94 z95 z96 z97 z98 z99 Zo (sc key (fe.drop i) i s).1 ZG ZH (sc key (fe.drop i) i s).2 ZI Zb Zc Zd Ze Zg Zh:=by
  intro d
  induction d with
  |zero=>
   intro i n s h1 h2 h3;obtain⟨n,rfl⟩:∃n',n=n'+1:=⟨n-1,by omega⟩
   have:i=fe.length:=by omega
   subst this;simp only[XS,r22,dL,Lib.dq,bm,bj,ax,di,sc]
  |succ d ih=>
   intro i n s h1 h2 h3;obtain⟨n,rfl⟩:∃n',n=n'+1:=⟨n-1,by omega⟩
   by_cases hi:i<fe.length
   ·rw[dE hi];unfold sc;rw[<-ih (i+1) n _ (by omega) hi (by omega)];have w:=Lib.c6 hi (by omega:fe.length<=9223372036854775807);have w2:((i+1:aF):aw)=(i:aw)+1:=by omega
    simp only[XS,r22,dL,Lib.dq,hi,aN,Lib.cF,aM,au,Lib.dZ,C8 hi,C9 hi,zQ hi,bu,bE,Lib.eM,w,eH hi];unfold EX;cases decide (fe[i].k=key)<;>cases decide (fe[i].sta=1)<;>simp only[j4,wm,aM,lE,au,ax,w2]
   ·have:i=fe.length:=by omega
    subst this;simp only[XS,r22,dL,Lib.dq,bm,bj,ax,di,sc]
 have:=go fe.length 0 Lib.cZ (0,⟨#[]⟩) (by omega) (bI _) (cS (by omega));rw[fu]at this;exact this
theorem Zs(key:aq):∀(l:aA Fe) (i:aF) (s:aw×aq),(∀x∈l,EX key x=ak)->sc key l i s=s:=by
 intro l;induction l with
 |nil=>intro i s _;rfl
 |cons x l ih=>intro i s h;unfold sc;rw[h x (by simp),ax];exact ih _ _ λy hy=>h y (by simp[hy])
theorem afR{fe:aA Fe}(hp:fe.Pairwise λf g=>lD g f=ak)(key:aq):sc key fe 0 (0,⟨#[]⟩)=match NB fe key with|some j=>((j:aw)+1,(el fe j).t)|none=>(0,⟨#[]⟩):=by
 have go:∀(l:aA Fe) (i:aF),l.Pairwise (λf g=>lD g f=ak)->sc key l i (0,⟨#[]⟩)=match l.findIdx? (EX key)with|some j=>(((i+j:aF):aw)+1,(el l j).t)|none=>(0,⟨#[]⟩):=by
  intro l;induction l with
  |nil=>intro i _;rfl
  |cons x l ih=>
   intro i h;rw[qB]at h;unfold sc;rw[List.findIdx?_cons];cases hq:EX key x with
   |true=>
    have hn:∀y∈l,EX key y=false:=λy hy=>by
     have h2:=h.1 y hy;unfold EX at hq⊢;unfold lD at h2;simp only[aL,bc]at hq;rw[hq.1,hq.2]at h2;simp only[Bool.and_eq_false_iff,fg]at h2⊢;rcases h2 with h2|h2
     ·exact .inr h2
     ·rcases h2 with h2|h2
      ·exact cJ trivial h2
      ·exact .inl h2
    rw[au,Zs key l _ _ hn];rfl
   |false=>
    rw[ax,ih (i+1) h.2];cases l.findIdx? (EX key)with
    |none=>rfl
    |some j=>simp only[dv,if_false,je,show i+1+j=i+(j+1)by omega];rfl
 have:=go fe 0 hp;unfold NB;rw[this];cases fe.findIdx? (EX key)with
 |none=>rfl
 |some j=>dsimp only;rw[bV]
theorem ok(p:Px)(id:aw)(key:aq)(hp:p.Fit 1048576)(hkz:key.size<=140737488355328):c p.now (re p.en) (rs p.w) (rs p.m) (rr p.s) p.a (rf p.fe) (rc p.cl) p.hits id key=ai/\v p.now (re p.en) (rs p.w) (rs p.m) (rr p.s) p.a (rf p.fe) (rc p.cl) p.hits id key=res (ic.ask p id key):=by
 have h1:=fN.ok p hp;have h2:=qi.ok p hp;have oU:=hp.cl;have JW:=hp.fe;have hen:=hp.en;have KT:jk.oH p.s:=⟨hp.s.1,hp.s.2.1⟩
 refine out _ _ _ _ _ _ _ _ _ _ _ ?_;unfold vo b ic.ask;simp only[Lib.lt,h1.1,h1.2,h2.1,h2.2,au];cases cf:jd p with
 |false=>rfl
 |true=>
 have ho:ik p:=pw.1 cf;rw[a_,ax,bh,show kl.v id 1 9=decide (1<=id/\id<=9)from fD.eI _ _ _];cases IV:decide (1<=id/\id<=9)with
 |false=>rfl
 |true=>
 rw[a_,ax,bh,show sV.v key=eO key from fD.eI _ _ _];cases hko:eO key with
 |false=>rfl
 |true=>
 have AO:=eZ.kK hko;rw[a_,ax,bh,eU];have hc6:=ho.cll;by_cases h6:p.cl.length=6
 ·rw[aE (show(p.cl.length:aw)≥6 by omega),au,aK (show¬p.cl.length<6 by omega),wm];rfl
 rw[aK (show¬(p.cl.length:aw)≥6 by omega),ax,aE (show p.cl.length<6 by omega),j4];cases hhi:lA p.cl id with
 |true=>obtain⟨j,hj⟩:=(find _ _ p.cl oU id key 0 p.now (re p.en) (rs p.w) (rs p.m) (rr p.s) p.a (rf p.fe) p.hits 0 0 0 p.now p.a p.hits (re p.en) (rs p.w) (rs p.m) (rr p.s) (rf p.fe) (rc p.cl)).2 hhi;refine hj.trans ?_;rfl
 |false=>
 refine((find _ _ p.cl oU id key 0 p.now (re p.en) (rs p.w) (rs p.m) (rr p.s) p.a (rf p.fe) p.hits 0 0 0 p.now p.a p.hits (re p.en) (rs p.w) (rs p.m) (rr p.s) (rf p.fe) (rc p.cl)).1 hhi).trans ?_;rw[bR,au];have h4:=wJ.ok p.now p.en (rs p.w) (rs p.m) (rr p.s) p.a (rf p.fe) (rc p.cl) p.hits key hen;have h7:=eZ.ok p.w p.m p.s p.a key hp.w hp.m KT (by omega);have h8:=du.ok p.s p.a key KT (by omega);have h9:=uW.ok p.w p.m p.s p.a key hp.w hp.m KT;have Qg:=qg.ok p.en key (by omega);have Je:=λx:Cl=>lQ.ok p.cl x oU;have aru:=ho.hits;have sO:=ho.fl;have yx:=afR ho.ap key;have I8:cC (p.fe.length+1) 56=true:=Lib.cq (by omega) (by omega);have dK:∀key:aq,bS (aD (aP [Ck.s,Ck.s,Ck.i ao,Ck.i ao,Ck.i ao] 1) 0 [CV.s key,CV.s {data:= #[]},CV.i ao 1,CV.i ao 0,CV.i ao 0])=1:=λ_=>rfl;have OY:(el (p.fe++[rP key]) p.fe.length).t=⟨#[]⟩:=by rw[eH (by simp),List.getElem_append_right (by omega)];simp[rP]
 rw[h4.1,h4.2,au];cases he:HM p.en key with
 |some e=>
  have aeK:e∈p.en:=qA he;obtain⟨i,hi,hie⟩:=c8 aeK;dsimp only[wJ.res];rw[au,<-Dg.eq,show Gl.v e.k e.st e.li e.bo p.now=qm e p.now from rfl];cases Di:qm e p.now with
  |true=>
   have hw:bJ (p.now-e.st)=p.now-e.st:=by have:=Bg (p:=p) hi ho;rwa[eH hi,hie]at this
   have hj:=Je ⟨id,key,0,e.st,2,e.bo,p.now-e.st⟩;dsimp only at hj;rw[au,h7.1,h7.2,au,au,hw,hj.1,hj.2,au,au];unfold res hit;cases hh:decide (p.hits<1000000000)with
   |true=>rw[bc]at hh;rw[au,dj (by omega) (by omega)];rfl
   |false=>rfl
  |false=>
   rw[ax,ax];refine(scan _ p.fe JW key ai p.now (re p.en) (rs p.w) (rs p.m) (rr p.s) p.a (rc p.cl) p.hits 0 0 0 p.now p.a p.hits id key 0 1 0 (re p.en) (rs p.w) (rs p.m) (rr p.s) (rf p.fe) (rc p.cl)).trans ?_;rw[yx];unfold sH;cases hoi:NB p.fe key with
   |none=>
    dsimp only;by_cases Qh:p.fe.length=20
    ·rw[aK (show¬p.fe.length<20 by omega)];simp only[aN,au,dL,aE (show(p.fe.length:aw)≥20 by omega)];rfl
    ·rw[aE (show p.fe.length<20 by omega)];have hj:=Je ⟨id,key,(p.fe.length:aw)+1,0,1,⟨#[]⟩,0⟩;dsimp only at hj;have hlen:((p.fe.length+1:aF):aw)=(p.fe.length:aw)+1:=by omega
     simp only[aN,au,ax,dL,aK (show¬(p.fe.length:aw)≥20 by omega),dK,I8,Qg.1,Qg.2,h9.1,h9.2,h8.1,h8.2,JJ,bT,bA,hlen,hj.1,hj.2];unfold res put;rw[OY];rfl
   |some j=>dsimp only;have hj:=Je ⟨id,key,(j:aw)+1,0,1,(el p.fe j).t,0⟩;dsimp only at hj;simp only[aK (show¬(j:aw)+1=0 by omega),au,ax,Qg.1,Qg.2,h9.1,h9.2,h8.1,h8.2,hj.1,hj.2];rfl
 |none=>
  dsimp only[wJ.res];rw[ax];refine(scan _ p.fe JW key ak p.now (re p.en) (rs p.w) (rs p.m) (rr p.s) p.a (rc p.cl) p.hits 0 0 0 p.now p.a p.hits id key 0 1 0 (re p.en) (rs p.w) (rs p.m) (rr p.s) (rf p.fe) (rc p.cl)).trans ?_;rw[yx];unfold sH;cases hoi:NB p.fe key with
  |none=>
   dsimp only;by_cases Qh:p.fe.length=20
   ·rw[aK (show¬p.fe.length<20 by omega)];simp only[aN,au,dL,aE (show(p.fe.length:aw)≥20 by omega)];rfl
   ·rw[aE (show p.fe.length<20 by omega)];have hj:=Je ⟨id,key,(p.fe.length:aw)+1,0,1,⟨#[]⟩,0⟩;dsimp only at hj;have hlen:((p.fe.length+1:aF):aw)=(p.fe.length:aw)+1:=by omega
    simp only[aN,au,ax,dL,aK (show¬(p.fe.length:aw)≥20 by omega),dK,I8,h8.1,h8.2,JJ,bT,bA,hlen,hj.1,hj.2];unfold res put;rw[OY];rfl
  |some j=>dsimp only;have hj:=Je ⟨id,key,(j:aw)+1,0,1,(el p.fe j).t,0⟩;dsimp only at hj;simp only[aK (show¬(j:aw)+1=0 by omega),au,ax,h8.1,h8.2,hj.1,hj.2];rfl
end wF

namespace uX
open Lib (rr rs re rf rc Px el)
open qi (jd)
theorem ok(p:Px)(f:aw)(hp:p.Fit 1048576):c p.now (re p.en) (rs p.w) (rs p.m) (rr p.s) p.a (rf p.fe) (rc p.cl) p.hits f=ai/\v p.now (re p.en) (rs p.w) (rs p.m) (rr p.s) p.a (rf p.fe) (rc p.cl) p.hits f=gn.sP p f:=by
 have h:=qi.ok p hp;have hf:=hp.fe;refine out _ _ _ _ _ _ _ _ _ _ ?_;unfold vo b gn.sP;rw[h.1,h.2,au,dL,dj (x:=(p.fe.length:aw)-1) (by omega) (by omega),show kl.v f 0 ((p.fe.length:aw)-1)=decide (0<=f/\f<=(p.fe.length:aw)-1)from fD.eI _ _ _];cases jd p with
 |false=>rfl
 |true=>
  cases hd:decide (0<=f/\f<=(p.fe.length:aw)-1)with
  |false=>rfl
  |true=>
   have:=cm hd;obtain⟨n,rfl⟩:∃n:aF,f=(n:aw):=⟨f.toNat,by omega⟩
   have hn:n<p.fe.length:=by omega
   simp only[au,bh,Lib.cF,Lib.dq,hn,aN,aM,Lib.dZ,zQ hn,bE]
end uX

namespace QA
theorem put(s:aw)(t q:aq)(ht:(t.size:aw)<=400)(hs:1<=s/\s<=3):Dz.v s t [] q=bif decide (s=1)&&(decide (1<=q.size/\q.size<=40)&&decide (t.size+q.size<=400))then(s,t++q,[],ai)else(s,t,[],ak):=by
 unfold Dz.v;have cf:lJ.v s t []=true:=by unfold lJ.v lJ.rest;rw[aE hs,aE (show t.size<=400 by omega)];rfl
 by_cases h1:s=1
 ·by_cases h2:1<=q.size/\q.size<=40
  ·by_cases h3:t.size+q.size<=400
   ·rw[bz ⟨cf,h1,h2.1,h2.2,h3⟩,aE h1,aE h2,aE h3];rfl
   ·rw[bH (by omega),aK h3];simp
  ·rw[bH (by omega),aK h2];simp
 ·rw[bH (by simp[h1]),aK h1];rfl
end QA

namespace sD
open Lib (rr rs re rf rc Px Cl el)
open uJ (ec nR lr)
theorem ok(p:Px)(f:aF)(st:aw)(hf:f<p.fe.length)(hl:p.fe.length<=2097152)(hc:p.cl.length<=2097152):
  c p.now (re p.en) (rs p.w) (rs p.m) (rr p.s) p.a (rf p.fe) (rc p.cl) p.hits (f:aw) st=ai/\v p.now (re p.en) (rs p.w) (rs p.m) (rr p.s) p.a (rf p.fe) (rc p.cl) p.hits (f:aw) st=(p.now,re p.en,rs p.w,rs p.m,rr p.s,p.a,rf p.fe,rc (nR p.cl f st (el p.fe f).t),p.hits):=by
 refine out _ _ _ _ _ _ _ _ _ _ _ ?_;unfold vo b;have key:=nK Cl.row p.cl (λ_ c=>ec f st (el p.fe f).t c) (λn (i:aF) x=>l1 Lib.cZ (λ(_ _ _ Wn Qt Dl:aw) (Fc D7 wh J5 J6 VI:aQ)=>ah (Wn,Fc,D7,wh,J5,Qt,J6,VI,Dl)) n (f:aw) st (i:aw) p.now p.a p.hits (re p.en) (rs p.w) (rs p.m) (rr p.s) (rf p.fe) x) (λx=>ah (p.now,re p.en,rs p.w,rs p.m,rr p.s,p.a,rf p.fe,x,p.hits)) (λn i L h h2 hL vU=> ?_) (λn L hL=> ?_) Lib.cZ (cS (by omega))
 ·rw[lr]at key;exact key
 ·have e2:ar (L.map Cl.row) i 2=CV.i ao p.cl[i].fe:=by rw[fF _ L i _ h2,vU];rfl
  have e4:ar (L.map Cl.row) i 4=CV.i ao p.cl[i].sta:=by rw[fF _ L i _ h2,vU];rfl
  have s1:eD (L.map Cl.row) i 5 [CV.s (el p.fe f).t]=(L.set i {p.cl[i]with km:=(el p.fe f).t}).map Cl.row:=kR Cl.row L i 5 _ _ h2 (by rw[vU];rfl);have h3:i<(L.set i {p.cl[i]with km:=(el p.fe f).t}).length:=by simpa using h2
  have s2:eD ((L.set i {p.cl[i]with km:=(el p.fe f).t}).map Cl.row) i 4 [CV.i ao st]=((L.set i {p.cl[i]with km:=(el p.fe f).t}).set i {p.cl[i]with sta:=st,km:=(el p.fe f).t}).map Cl.row:=kR Cl.row _ i 4 _ _ h3 (by rw[kG];rfl);simp only[l1,r1,Lib.dq,h2,hf,bU,cB,aN,Lib.cF,aM,au,Lib.dZ,e2,e4,bE,s1,s2,pH,dL,C9 hf,bu,Lib.c6 h (by omega:p.cl.length<=9223372036854775807),dj (x:=(f:aw)+1) (by omega) (by omega)];unfold ec;cases decide (p.cl[i].fe=(f:aw)+1)with
  |false=>rw[lE,ax,ax,<-vU,fw]
  |true=>
   cases decide (p.cl[i].sta=1)with
   |false=>rw[bh,au,ax,ax,<-vU,fw]
   |true=>rw[bh,au,au,au]
 ·simp only[l1,r1,bU,hL,Lib.dq,bm,bj,ax]
end sD

namespace DB
open Lib (rr rs re rf rc Px el)
open gn (sP CL told iQ nV iN xU)
theorem ok(p:Px)(f:aw)(q:aq)(hp:p.Fit 1048576):c p.now (re p.en) (rs p.w) (rs p.m) (rr p.s) p.a (rf p.fe) (rc p.cl) p.hits f q=ai/\v p.now (re p.en) (rs p.w) (rs p.m) (rr p.s) p.a (rf p.fe) (rc p.cl) p.hits f q=(p.now,re p.en,rs p.w,rs p.m,rr p.s,p.a,rf (CL p f q).1.fe,rc (CL p f q).1.cl,p.hits,(CL p f q).2):=by
 have h1:=fN.ok p hp;have h2:=uX.ok p f hp;have hf:=hp.fe;have hc:=hp.cl;refine out _ _ _ _ _ _ _ _ _ _ _ ?_;unfold vo b CL;simp only[Lib.lt,h1.1,h1.2,h2.1,h2.2,au];cases ho:sP p f with
 |false=>rfl
 |true=>
  obtain⟨n,rfl,hn,cf,hs1⟩:=iQ ho;have w_:=gn.aar cf n hn;unfold m9.nF at w_;simp only[aL,bc]at w_;have m_:Gj.v 1 (el p.fe n).t [] q=_:=QA.put 1 (el p.fe n).t q w_.2.1 (by omega);rw[aE (show(1:aw)=1 from rfl),bh]at m_;simp only[a_,ax,au,Lib.cF,Lib.dq,dL,hn,aN,aM,Lib.dZ,C9 hn,bu,m_,bh];cases hs:decide (1<=q.size/\q.size<=40)&&decide ((el p.fe n).t.size+q.size<=400)with
  |false=>rfl
  |true=>
   have e1:=xU p.fe n 1 [CV.s ((el p.fe n).t++q)] {el p.fe n with t:=(el p.fe n).t++q} hn rfl;have GS:n<(p.fe.set n {el p.fe n with t:=(el p.fe n).t++q}).length:=by rw[cB];exact hn
   have h3:=sD.ok {p with fe:=p.fe.set n {el p.fe n with t:=(el p.fe n).t++q}} n 1 GS (by rw[cB];omega) (by dsimp only;omega);dsimp only at h3;rw[iN hn]at h3;simp only[a_,ax,au,e1,h3.1,h3.2];rfl
end DB

namespace Oy
open Lib (rr rs re rf rc Px En el)
open fZ (So fP mv)
open kU (xX)
theorem ok(p:Px)(e:En)(r6 r7:aQ)(hp:p.Fit 1048575)(hso:So p.en)(hk1:∀x∈p.en,1<=x.k.size)(hk:e.k.size<=140737488355328):
  c p.now (re p.en) (rs p.w) (rs p.m) (rr p.s) p.a r6 r7 p.hits e.k e.st e.li e.bo=ai/\v p.now (re p.en) (rs p.w) (rs p.m) (rr p.s) p.a r6 r7 p.hits e.k e.st e.li e.bo=(p.now,re (xX p e).en,rs (xX p e).w,rs (xX p e).m,rr (xX p e).s,(xX p e).a,r6,r7,p.hits):=by
 have he:=hp.en;have hw:=hp.w;have hm:=hp.m;obtain⟨b1,b2,b3⟩:=eZ.LR p.w p.m p.s p.a e.k;have h1:=eZ.ok p.w p.m p.s p.a e.k (by omega) (by omega) ⟨dg hp.s.1 (by omega),λq hq=>dg (hp.s.2.1 q hq) (by omega)⟩ hk;refine out _ _ _ _ _ _ _ _ _ _ _ _ _ ?_;unfold vo b xX;generalize eZ.val p.w p.m p.s p.a e.k=V at h1 b1 b2 b3;obtain⟨W,M,T,A,G⟩:=V;dsimp only at h1 b1 b2⊢;have h2:=qg.ok p.en G (by omega);have h3:=sW.ok W M (rr T) A e.k (by omega) (by omega);have hd:=fZ.wS p.en G;have h4:=lL.ok (re (fP p.en G)) e.k e.st e.li e.bo (by rw[dy];omega);rw[fZ.tL]at h4;simp only[Lib.lt,h1.1,h1.2,h2.1,h2.2,h3.1,h3.2,h4.1,h4.2,au,Lib.eM];by_cases hG:G=⟨#[]⟩
 ·subst hG;rw[fZ.drop_nil hk1]at h4⊢;rw[aE rfl];simp only[a_,ax,h4.1,h4.2,au];cases fc.has W e.k||fc.has M e.k<;>rfl
 ·rw[aK hG];simp only[bR,au];cases fc.has W e.k||fc.has M e.k<;>rfl
end Oy

namespace DF
open Lib (rr rs re rf rc Px el)
open gn (sP told iQ nV iN xU)
open sQ (cls kB)
theorem ok(p:Px)(f life:aw)(hp:p.Fit 1048576):c p.now (re p.en) (rs p.w) (rs p.m) (rr p.s) p.a (rf p.fe) (rc p.cl) p.hits f life=ai/\v p.now (re p.en) (rs p.w) (rs p.m) (rr p.s) p.a (rf p.fe) (rc p.cl) p.hits f life=(p.now,re (cls p f life).1.en,rs (cls p f life).1.w,rs (cls p f life).1.m,rr (cls p f life).1.s,(cls p f life).1.a,rf (cls p f life).1.fe,rc (cls p f life).1.cl,p.hits,(cls p f life).2):=by
 have h1:=fN.ok p hp;have h2:=uX.ok p f hp;have hf:=hp.fe;have hc:=hp.cl;refine out _ _ _ _ _ _ _ _ _ _ _ ?_;unfold vo b cls;simp only[Lib.lt,h1.1,h1.2,h2.1,h2.2,au];cases ho:sP p f with
 |false=>rfl
 |true=>
  obtain⟨n,rfl,hn,cf,hs1⟩:=iQ ho;obtain⟨so,ks,_,_,_,_,_,_,_,_,w_⟩:=kU.Hg cf;have w_:=w_ n hn;unfold m9.nF at w_;rw[aL]at w_;have AO:=eZ.kK w_.1;rw[show kl.v life 0 999999=decide (0<=life/\life<=999999)from fD.eI _ _ _];cases hl:decide (0<=life/\life<=999999)with
  |false=>rfl
  |true=>
   generalize hg:({el p.fe n with sta:=2,li:=life,st:=p.now}:Lib.Fe)=g;have hk:g.k=(el p.fe n).k:=by rw[<-hg]
   have ht:g.t=(el p.fe n).t:=by rw[<-hg]
   have gl:g.li=life:=by rw[<-hg]
   have gs:g.st=p.now:=by rw[<-hg]
   have e3:=xU p.fe n 0 [CV.s (el p.fe n).k,CV.s (el p.fe n).t,CV.i ao 2,CV.i ao life,CV.i ao p.now] g hn (by rw[<-hg];rfl);have n3:n<(p.fe.set n g).length:=by rw[cB];exact hn
   have h3:=sD.ok {p with fe:=p.fe.set n g} n 2 n3 (by rw[cB];omega) (by dsimp only;omega);dsimp only at h3;rw[iN hn]at h3;have h4:=Oy.ok (told p n g 2) (kB g) (rf (p.fe.set n g)) (rc (told p n g 2).cl) ((nV (kU.ki cf)).le (by omega)) so ks (by show g.k.size<=_;rw[hk];omega);unfold kB at h4;dsimp only[told]at h4;rw[gl,gs,hk,ht]at h4;unfold kB told;rw[ht]at h3;simp only[a_,ax,au,Lib.cF,Lib.dq,dL,hn,aN,aM,bh,Lib.dZ,C8 hn,C9 hn,PY hn,Qr hn,Qs hn,bE,bu,e3,h3.1,h3.2,gl,gs,hk,ht];cases decide (life>0)with
   |true=>simp only[au,h4.1,h4.2];subst hg;rfl
   |false=>subst hg;rfl
end DF

namespace DG
theorem ok(k:aq)(s l:aw)(b0:aq):c k s l b0=ai/\v k s l b0=uU.val k s l b0:=by
 refine out k s l b0 ?_;have hf:=fH.ok (jI.v k s l b0).1;unfold vo b uU.val;rw[hf.1,hf.2];unfold jI.v fH.val;by_cases h:m8.v k s l b0=ai
 ·have h1:=mR.tV h;have h2:=mR.Bq h;rw[bz h,bz h,bz (by dsimp only;omega)];rfl
 ·rw[bH h,bH h];rfl
end DG

namespace eg
open Lib (rd el Fi)
open dI (put)
theorem tail(l:aA Fi)(n t:aq)(k:aw)(hl:l.length<=1000000)(c0:aA Fi)(hc:c0.length<=1000001):
  l9 Lib.cZ (λ(_:aw) (_:aQ) (_ _:aq) (_:aw) (y:aQ)=>ah y) Lib.cZ 0 (rd l) n t k (rd c0)=ah (rd (c0++l.filter λx=> !(fZ.fm x.n n||decide (x.n=n)))):=by
 refine B_ l (λx=> !(fZ.fm x.n n||decide (x.n=n))) (λm (i:aF) acc=>l9 Lib.cZ (λ(_:aw) (_:aQ) (_ _:aq) (_:aw) (y:aQ)=>ah y) m (i:aw) (rd l) n t k (rd acc)) (λacc=>ah (rd acc)) c0
  (λm i acc h ha hp=> ?_) (λm i acc h hp=> ?_) (λm acc=> ?_) Lib.cZ (cS (by omega))
 ·have mI:(!(b7 (aC l[i].n) (aC n)||decide (l[i].n=n)))=true:=hp;simp only[l9,r9,eA,Lib.dq,h,aN,Lib.cF,aM,au,Lib.dZ,Jx h,Wf h,Wg h,bu,bE,Lib.eM,mI,pL,bA,Lib.c6 h (by omega:l.length<=9223372036854775807),Lib.cq (n:=acc.length+1) (b:=40) (by omega) (by omega)];unfold Lib.rd;rw[dh];rfl
 ·have mI:(!(b7 (aC l[i].n) (aC n)||decide (l[i].n=n)))=false:=hp;simp only[l9,r9,eA,Lib.dq,h,aN,Lib.cF,aM,au,ax,Lib.dZ,Jx h,bu,Lib.eM,mI,Lib.c6 h (by omega:l.length<=9223372036854775807)]
 ·simp only[l9,r9,eA,Lib.dq,bm,bj,ax]
theorem ok(l:aA Fi)(n t:aq)(k:aw)(hl:l.length<=1000000):c (rd l) n t k=ai/\v (rd l) n t k=rd (put l ⟨n,t,k⟩):=by
 refine out _ _ _ _ ?_;unfold vo b
 have key:=M1 l (λx=>fZ.fm x.n n)
  (λm (i:aF)=>l3 Lib.cZ (λ(_:aw) (y41:aQ) (y42 y43:aq) (VK:aw)=>l9 Lib.cZ (λ(_:aw) (_:aQ) (_ _:aq) (_:aw) (y50:aQ)=>ah y50) Lib.cZ 0 y41 y42 y43 VK ([]++aD (aP [Ck.s,Ck.s,Ck.i ao] 1) 0 [CV.s y42,CV.s y43,CV.i ao VK])) (λ(_:aw) (y52:aQ) (y53 y54:aq) (y55:aw) (y56:aQ)=>bif(cC (bS y56+bS (aD (aP [Ck.s,Ck.s,Ck.i ao] 1) 0 [CV.s y53,CV.s y54,CV.i ao y55])) 40)then(l9 Lib.cZ (λ(_:aw) (_:aQ) (_ _:aq) (_:aw) (y62:aQ)=>ah y62) Lib.cZ 0 y52 y53 y54 y55 (y56++aD (aP [Ck.s,Ck.s,Ck.i ao] 1) 0 [CV.s y53,CV.s y54,CV.i ao y55]))else(aj)) m (i:aw) (rd l) n t k)
  (λm (i:aF) acc=>sG Lib.cZ (λ(_:aw) (y41:aQ) (y42 y43:aq) (VK:aw)=>l9 Lib.cZ (λ(_:aw) (_:aQ) (_ _:aq) (_:aw) (y50:aQ)=>ah y50) Lib.cZ 0 y41 y42 y43 VK ([]++aD (aP [Ck.s,Ck.s,Ck.i ao] 1) 0 [CV.s y42,CV.s y43,CV.i ao VK])) (λ(_:aw) (y52:aQ) (y53 y54:aq) (y55:aw) (y56:aQ)=>bif(cC (bS y56+bS (aD (aP [Ck.s,Ck.s,Ck.i ao] 1) 0 [CV.s y53,CV.s y54,CV.i ao y55])) 40)then(l9 Lib.cZ (λ(_:aw) (_:aQ) (_ _:aq) (_:aw) (y62:aQ)=>ah y62) Lib.cZ 0 y52 y53 y54 y55 (y56++aD (aP [Ck.s,Ck.s,Ck.i ao] 1) 0 [CV.s y53,CV.s y54,CV.i ao y55]))else(aj)) m (i:aw) (rd l) n t k (rd acc))
  (λacc=>bif cC (acc.length+1) 40 then l9 Lib.cZ (λ(_:aw) (_:aQ) (_ _:aq) (_:aw) (y:aQ)=>ah y) Lib.cZ 0 (rd l) n t k (rd (acc++[⟨n,t,k⟩]))else aj)
  (λm i h hp=>by have mI:b7 (aC l[i].n) (aC n)=true:=hp;simp only[l3,r3,eA,Lib.dq,h,aN,Lib.cF,aM,au,Lib.dZ,Jx h,Wf h,Wg h,bu,bE,mI,pL,Lib.c6 h (by omega:l.length<=9223372036854775807)];rfl)
  (λm i h hp=>by have mI:b7 (aC l[i].n) (aC n)=false:=hp;simp only[l3,r3,eA,Lib.dq,h,aN,Lib.cF,aM,au,ax,Lib.dZ,Jx h,bu,mI,Lib.c6 h (by omega:l.length<=9223372036854775807)])
  (λm=>by simp only[l3,r3,eA,Lib.dq,bm,bj,ax];rw[Lib.cq (by simp) (by simp),au];rfl)
  (λm i acc h ha hp=>by have mI:b7 (aC l[i].n) (aC n)=true:=hp;simp only[sG,zG,eA,Lib.dq,h,aN,Lib.cF,aM,au,Lib.dZ,Jx h,Wf h,Wg h,bu,bE,mI,pL,bA,Lib.c6 h (by omega:l.length<=9223372036854775807),Lib.cq (n:=acc.length+1) (b:=40) (by omega) (by omega)];unfold Lib.rd;rw[dh];rfl)
  (λm i acc h hp=>by have mI:b7 (aC l[i].n) (aC n)=false:=hp;simp only[sG,zG,eA,Lib.dq,h,aN,Lib.cF,aM,au,ax,Lib.dZ,Jx h,bu,mI,Lib.c6 h (by omega:l.length<=9223372036854775807)])
  (λm acc=>by simp only[sG,zG,eA,Lib.dq,bm,bj,ax,pL,bA];unfold Lib.rd;rw[dh];rfl) Lib.cZ (cS (by omega))
 refine key.trans ?_;have hf:=eW (λx:Fi=>fZ.fm x.n n) l;rw[Lib.cq (by omega) (by omega),au,tail l n t k hl _ (by simp;omega)];unfold put;rw[cu]
end eg

namespace eP
open Lib (rd el Fi)
open dI (without)
theorem ok(l:aA Fi)(n:aq)(hl:l.length<=1000000):c (rd l) n=ai/\v (rd l) n=rd (without l n):=by
 refine out _ _ ?_;unfold vo b
 have key:=M1 l (λx=> !decide (x.n=n))
  (λm (i:aF)=>l3 Lib.cZ (λ(_:aq) (_:aw) (_:aQ)=>ah ([]:aQ)) (λ(_:aq) (_:aw) (_:aQ) (wh:aQ)=>ah wh) m n (i:aw) (rd l))
  (λm (i:aF) acc=>sG Lib.cZ (λ(_:aq) (_:aw) (_:aQ)=>ah ([]:aQ)) (λ(_:aq) (_:aw) (_:aQ) (wh:aQ)=>ah wh) m n (i:aw) (rd l) (rd acc)) (λacc=>ah (rd acc))
  (λm i h hp=>by simp only[l3,r3,eA,Lib.dq,h,aN,Lib.cF,aM,au,Lib.dZ,Jx h,Wf h,Wg h,bu,bE,Lib.eM,hp,pL,Lib.c6 h (by omega:l.length<=9223372036854775807)];rfl)
  (λm i h hp=>by simp only[l3,r3,eA,Lib.dq,h,aN,Lib.cF,aM,au,ax,Lib.dZ,Jx h,bu,Lib.eM,hp,Lib.c6 h (by omega:l.length<=9223372036854775807)])
  (λm=>by simp only[l3,r3,eA,Lib.dq,bm,bj,ax];rfl)
  (λm i acc h ha hp=>by simp only[sG,zG,eA,Lib.dq,h,aN,Lib.cF,aM,au,Lib.dZ,Jx h,Wf h,Wg h,bu,bE,Lib.eM,hp,pL,bA,Lib.c6 h (by omega:l.length<=9223372036854775807),Lib.cq (n:=acc.length+1) (b:=40) (by omega) (by omega)];unfold Lib.rd;rw[dh];rfl)
  (λm i acc h hp=>by simp only[sG,zG,eA,Lib.dq,h,aN,Lib.cF,aM,au,ax,Lib.dZ,Jx h,bu,Lib.eM,hp,Lib.c6 h (by omega:l.length<=9223372036854775807)])
  (λm acc=>by simp only[sG,zG,eA,Lib.dq,bm,bj,ax]) Lib.cZ (cS (by omega))
 exact key
end eP

namespace BL
open Lib (rd el Fi)
open dI (without put VX sI act G9 jV)
open rF (res)
theorem Y3(d:aA Fi)(h:d.length<=1000000):gK.c (rd d)=ai/\gK.v (rd d)=sI d:=gK.ok (rd d) (by rw[eA];omega)
theorem nm(n:aq):qd.v n=decide (1<=(n.size:aw)/\(n.size:aw)<=8):=gK.mW _ _ _
theorem TF{l:aA Fi}{n t:aq}{k:aw}(h:¬(1<=(n.size:aw)/\(n.size:aw)<=8)):sI (put l ⟨n,t,k⟩)=false:=by
 cases hk:sI (put l ⟨n,t,k⟩)with
 |false=>rfl
 |true=>have:=(jV.1 hk).2.1 ⟨n,t,k⟩ (dI.jW.2 (.inl rfl));unfold dI.nF at this;simp only[aL,bc]at this;exact cJ this.1 h
theorem ok(l:aA Fi)(k:aw)(n t o:aq)(hl:l.length<=1000)(ht:t.size<=2305843009213693952):c (rd l) k n t o=ai/\v (rd l) k n t o=res (act l k n t o):=by
 refine out _ _ _ _ _ ?_;unfold vo b;have h1:=jw.ok (rd l) n (by rw[eA];omega);have h2:=Y3 l (by omega);rw[h2.1,h2.2,au];unfold act;cases hk:sI l with
 |false=>rfl
 |true=>
 rw[a_,ax,bh,nm];obtain⟨q1,q2,q3⟩:=jV.1 hk;have rn:∀f∈l,(1<=(f.n.size:aw)/\(f.n.size:aw)<=8)/\(f.t.size:aw)<=20000/\f.kp<=(f.t.size:aw):=λf hf=>by have:=q2 f hf;unfold dI.nF at this;simp only[aL,bc,dx,fg]at this;omega
 by_cases hn:1<=(n.size:aw)/\(n.size:aw)<=8;case neg=>
  rw[aK hn,bR,au];have zr:l.find? (λx=>decide (x.n=n))=none:=by rw[WK];intro x hx;have:=(rn x hx).1;simp only[bc];intro e;rw[e]at this;exact hn this
  cases dI.j7 k t o with
  |false=>rfl
  |true=>
   rw[au];unfold G9;rw[zr];by_cases k1:k=1
   ·rw[bz k1];dsimp only;rw[TF hn];rfl
   ·rw[bH k1];rfl
 rw[aE hn,a_,ax,Lib.eM,Lib.eM,h1.1,h1.2,au,eA];unfold Lib.lt;by_cases ko:k=3\/o=⟨#[]⟩
 case neg=>
  rw[not_or]at ko;have:dI.j7 k t o=false:=by unfold dI.j7;rw[aK ko.1,aK ko.2];simp
  rw[this,show(k !=3)=ai from bne_iff_ne.2 ko.1,au,aK ko.2];rfl
 by_cases kt:k=1\/t=⟨#[]⟩
 case neg=>
  rw[not_or]at kt;have:dI.j7 k t o=false:=by unfold dI.j7;rw[aK kt.1,aK kt.2];simp
  rw[this,show(k !=1)=ai from bne_iff_ne.2 kt.1,au,aK kt.2];rcases ko with ko|ko
  ·subst ko;rfl
  ·rw[aE ko];cases (k !=3)<;>rfl
 have aaF:∀x:az (aQ×aW),(bif k !=3 then(bif !decide (o=⟨#[]⟩)then ah (([]:aQ),ak)else(bif k !=1 then(bif !decide (t=⟨#[]⟩)then ah ([],ak)else x)else x))else(bif k !=1 then(bif !decide (t=⟨#[]⟩)then ah ([],ak)else x)else x))=x:=λx=>by
  rcases ko with ko|ko<;>rcases kt with kt|kt
  ·omega
  ·subst ko;rw[aE kt];rfl
  ·subst kt;rw[aE ko];rfl
  ·rw[aE ko,aE kt];cases (k !=3)<;>cases (k !=1)<;>rfl
 have wp:=λ(m:aA Fi) (hml:m.length<=1000) (n t:aq) (k:aw)=>eg.ok m n t k (by omega);have wo:=eP.ok l n (by omega);have wol:=dI.LX l n;have pl:=λ(m:aA Fi) (f:Fi) (hm:m.length<=1000)=>Y3 (put m f) (dg (dI.rU f) (by omega));have fin:∀d:aA Fi,(bif !sI d then ah (([]:aQ),ak)else ah (rd d,ai))=ah (res (bif sI d then ah d else aj)):=λd=>by cases sI d<;>rfl
 by_cases hk4:1<=k/\k<=4;case neg=>
  have ha:dI.j7 k t o=false:=by unfold dI.j7;rw[aK hk4];rfl
  rw[ha];refine(aaF _).trans ?_;rcases rF.find l n with ⟨e1,e2⟩|⟨i,hi,e1,e2⟩
  ·rw[e1,aK (show¬k=1 by omega)];rfl
  ·rw[e1];dsimp only;rw[aK (show¬k=1 by omega),aK (show¬k=2 by omega),aK (show¬k=3 by omega),aK (show¬k=4 by omega),aK (show¬((i:aF):aw)<0 by omega),aE (show((i:aF):aw)≥0 by omega)];simp only[Lib.dq,hi,aN,aM,bh,au,ax];rfl
 have ha:dI.j7 k t o=true:=by unfold dI.j7;rw[aE hk4,bh,aL,dM,dM,bc,bc,bc,bc];exact⟨kt.symm,ko.symm⟩
 rw[ha,au];refine(aaF _).trans ?_;unfold G9;rcases rF.find l n with ⟨e1,e2⟩|⟨i,hi,e1,e2⟩
 ·rw[e1,e2];dsimp only;by_cases k1:k=1
  ·subst k1;have p:=wp l hl n (⟨#[]⟩++t) 0;have d:=pl l ⟨n,⟨#[]⟩++t,0⟩ hl;have et:(⟨#[]⟩:aq)++t=t:=lN;rw[show decide ((-1:aw)≥0)=ak from rfl,ax,aE (show(1:aw)=1 from rfl),au,aE (show(⟨#[]⟩:aq).size+t.size<=4611686018427387904 from by rw[show(⟨#[]⟩:aq).size=0 from rfl];omega),au,p.1,p.2,au,d.1,d.2,au,fin,et];rfl
  ·rw[show decide ((-1:aw)≥0)=ak from rfl,ax,aK k1,ax,bH k1];rfl
 ·have hf:(el l i).n=n:=by have:=u_ e2;exact cm this
  have w_:=rn _ (kh hi);rw[e1,e2];dsimp only;rw[aK (show¬((i:aF):aw)<0 by omega),aE (show((i:aF):aw)≥0 by omega),au];simp only[Lib.dq,hi,aN,Lib.dZ,wd0 hi,wd1 hi,wd2 hi,bu,bE,aM,bh,au,ax];by_cases k1:k=1
  ·subst k1;have p:=wp l hl (el l i).n ((el l i).t++t) (el l i).kp;have d:=pl l ⟨(el l i).n,(el l i).t++t,(el l i).kp⟩ hl;rw[aE (show(1:aw)=1 from rfl),au,aE (show(el l i).t.size+t.size<=4611686018427387904 by omega),au,p.1,p.2,au,d.1,d.2,au,fin];rfl
  rw[aK k1,ax,bH k1];by_cases k2:k=2
  ·subst k2;have p:=wp l hl (el l i).n (el l i).t ((el l i).t.size:aw);have d:=pl l ⟨(el l i).n,(el l i).t,((el l i).t.size:aw)⟩ hl;rw[aE (show(2:aw)=2 from rfl),au,p.1,p.2,au,d.1,d.2,au,fin];rfl
  rw[aK k2,ax,bH k2];by_cases k3:k=3
  ·subst k3;rw[aE (show(3:aw)=3 from rfl),au,bz rfl];by_cases b1:(el l i).kp=((el l i).t.size:aw)
   ·rw[aK (show¬(el l i).kp<((el l i).t.size:aw)by omega),ax,Lib.eM,nm];by_cases b2:o=n
    ·rw[aE b2,au,bz (.inr b2)];rfl
    ·rw[aK b2,ax,bH (by rintro (h|h);exact h b1;exact b2 h)];by_cases b3:1<=(o.size:aw)/\(o.size:aw)<=8
     ·have p:=wp (without l n) (by omega) o (el l i).t (el l i).kp;have d:=pl (without l n) ⟨o,(el l i).t,(el l i).kp⟩ (by omega);rw[aE b3,a_,ax,wo.1,wo.2,au,p.1,p.2,au,d.1,d.2,au,fin]
     ·rw[aK b3];dsimp only;rw[TF b3];rfl
   ·rw[aE (show(el l i).kp<((el l i).t.size:aw)by omega),au,bz (.inl b1)];rfl
  rw[aK k3,ax,bH k3];have k4:k=4:=by omega
  subst k4;have d:=Y3 (without l n) (by omega);rw[aE (show(4:aw)=4 from rfl),au,wo.1,wo.2,au,d.1,d.2,au,fin]
end BL

namespace qh
open Lib (rd el Fi)
open dI (j8 act ra Ac wa0 wa1 wa2 wa3 rV A2)
theorem ok(l:aA Fi)(a:aA Ac)(hl:l.length<=1000)(ha:a.length<=1000000)(ht:∀x∈a,x.t.size<=2305843009213693952):c (rd l) (ra a)=ai/\v (rd l) (ra a)=(rd (j8 l 0 a).1,((j8 l 0 a).2:aw)):=by
 refine out _ _ ?_;unfold vo b;rw[Lib.rN,eA,Lib.cq (by omega) (by omega),au,show aP [Ck.s,Ck.s,Ck.i ao] 0++rd l=rd l from rfl]
 have key:∀(d i n:aF) (z:aw) (l:aA Fi),a.length-i<=d->i<=a.length->l.length<=1000->d<n->
   l3 Lib.cZ (λ(_:aQ) (y5 _:aw) (y7:aQ)=>ah (y7,y5)) (λ(y8:aQ) (_ _:aw) (wg:aQ)=>ah (wg,(↑(bS y8):aw))) n (ra a) z (i:aw) (rd l)=ah (rd (j8 l i (a.drop i)).1,((j8 l i (a.drop i)).2:aw)):=by
  intro d
  induction d with
  |zero=>
   intro i n z l e1 e2 e3 e4;obtain⟨n,rfl⟩:∃n',n=n'+1:=⟨n-1,by omega⟩
   have:i=a.length:=by omega
   subst this;simp only[l3,r3,Lib.dq,bm,bj,ax,rV,di,j8]
  |succ d ih=>
   intro i n z l e1 e2 e3 e4;obtain⟨n,rfl⟩:∃n',n=n'+1:=⟨n-1,by omega⟩
   by_cases hi:i<a.length
   ·have hd:=BL.ok l (el a i).k (el a i).n (el a i).t (el a i).o e3 (ht _ (kh hi));simp only[l3,r3,Lib.dq,rV,hi,aN,Lib.cF,aM,au,Lib.dZ,wa0 hi,wa1 hi,wa2 hi,wa3 hi,bu,bE,hd.1,hd.2,Lib.c6 hi (by omega:a.length<=9223372036854775807)];rw[dE hi,<-eH hi];unfold j8;cases hac:act l (el a i).k (el a i).n (el a i).t (el a i).o with
    |none=>rfl
    |some e=>have:=(A2 hac).2;exact ih (i+1) n z e (by omega) hi (by omega) (by omega)
   ·have:i=a.length:=by omega
    subst this;simp only[l3,r3,Lib.dq,bm,bj,ax,rV,di,j8]
 exact key a.length 0 Lib.cZ 0 l (by omega) (bI _) hl (cS (by omega))
end qh

namespace DC
open Lib (rr rs re rf rc rd Px En el C8 C9 Qr Qs)
open gF (Wo Ev closed)
open kD (dk es)
open ie (s8)
open fT (ri vQ tP ki)
open sQ (cls kB)
theorem ok{i:aF}{w:Wo}(h:s8 i w)(hi:i<=71)(k id:aw)(t:aq)(nn:aw)(left:aQ)(h0:0<=nn):c w.p.now (re w.p.en) (rs w.p.w) (rs w.p.m) (rr w.p.s) w.p.a (rf w.p.fe) (rc w.p.cl) w.p.hits (rd (dk w.o)) (ri w.cd) (re w.bd) k id t nn left=ai/\v w.p.now (re w.p.en) (rs w.p.w) (rs w.p.m) (rr w.p.s) w.p.a (rf w.p.fe) (rc w.p.cl) w.p.hits (rd (dk w.o)) (ri w.cd) (re w.bd) k id t nn left=((closed w id (nn%1000000)).2,vQ (closed w id (nn%1000000)).1):=by
 refine out _ _ _ _ _ _ _ _ _ _ _ _ _ _ _ _ _ ?_;have hl:0<=nn%1000000/\nn%1000000<=999999:=by omega
 have hm:cO nn 1000000=nn%1000000:=ig h0;have hbd:=h.bd;have Wc:=h.tx hi;have hdl:=kD.GC w.o;have A:=DF.ok w.p id (nn%1000000) (ki h.px);obtain⟨q1,q2⟩:=ie.Kw (f:=id) h.px hl;obtain⟨s1,s2⟩:=sQ.Is (p:=w.p) (f:=id) (life:=nn%1000000);have mH:=ki q1;unfold vo b;rw[hm];generalize nn%1000000=life at*
 rw[A.1,au,A.2,fT.lt_eq];unfold closed vQ;dsimp only;rw[<-s1,<-s2];generalize cls w.p id life=Q at q1 q2 s1 s2 mH;obtain⟨q,ok⟩:=Q;dsimp only at q1 q2 s1 s2 mH⊢;rcases q2 with ⟨r1,r2⟩|⟨r1,n,rn,hn,rf_,rs_,rl⟩
 ·subst r1;rfl
 subst r1;rw[au,bh];by_cases hz:life=0
 ·rw[aK (show¬life>0 by omega)];rfl
 rw[aE (show life>0 by omega),au,au];obtain⟨t1,t2⟩:=rl (by omega);have GS:n<q.fe.length:=by rw[rf_,cB];exact hn
 have OY:el q.fe n={el w.p.fe n with sta:=2,li:=life,st:=w.p.now}:=by rw[rf_,gn.iN hn]
 subst rn;rw[dG];have C:=DG.ok (el q.fe n).k (el q.fe n).st (el q.fe n).li (el q.fe n).t;have hE:m8.v (el q.fe n).k (el q.fe n).st (el q.fe n).li (el q.fe n).t=true:=by rw[OY];exact t1
 have Di:=ie.KK (e:=kB (el q.fe n)) hE;rw[uU.val,bz hE,show uU.j8 (fH.fr (jI.sL (el q.fe n).k (el q.fe n).st (el q.fe n).li (el q.fe n).t))=dI.ra (iF.si (iF.HN (kB (el q.fe n))))from rfl]at C;have D:=qh.ok (dk w.o) (iF.si (iF.HN (kB (el q.fe n)))) (by omega) (by unfold iF.si;simp) (λx hx=>by
  unfold iF.si at hx;simp only[cy,gA,or_false]at hx;rcases hx with rfl|rfl
  ·show(iF.HN (kB (el q.fe n))).size<=_;omega
  ·exact bI _)
 rw[kD.MT (by omega)]at D;have room:∀y,cC ((re w.bd).length+(aD (aP [Ck.s,Ck.i ao,Ck.i ao,Ck.s] 1) 0 y).length) 48=true:=λy=>by rw[dy,fT.nH];exact Lib.cq (by omega) (by omega)
 have sn:=tP w.bd (kB (el q.fe n));unfold kB at sn C D;dsimp only at sn;have ak3:cC ((aP [Ck.s,Ck.i ao,Ck.i ao,Ck.s] 0).length+(re w.bd).length) 48=true:=by rw[dy];exact Lib.cq (by show(0+w.bd.length)*48<=_;omega) (by show 0+w.bd.length<=_;omega)
 simp only[fT.lt_eq,fT.ave,ak3,dL,Lib.dq,GS,aN,Lib.cF,aM,au,Lib.dZ,C8 GS,C9 GS,Qr GS,Qs GS,bu,bE,C.1,C.2,D.1,D.2,room,sn,show kB (el q.fe n)=⟨(el q.fe n).k,(el q.fe n).st,(el q.fe n).li,(el q.fe n).t⟩from rfl];rfl
end DC

namespace DD
open Lib (rr rs re rf rc Px el)
open gn (sP BU told iQ nV iN xU)
theorem ok(p:Px)(f:aw)(hp:p.Fit 1048576):c p.now (re p.en) (rs p.w) (rs p.m) (rr p.s) p.a (rf p.fe) (rc p.cl) p.hits f=ai/\v p.now (re p.en) (rs p.w) (rs p.m) (rr p.s) p.a (rf p.fe) (rc p.cl) p.hits f=(p.now,re p.en,rs p.w,rs p.m,rr p.s,p.a,rf (BU p f).1.fe,rc (BU p f).1.cl,p.hits,(BU p f).2):=by
 have h1:=fN.ok p hp;have h2:=uX.ok p f hp;have hf:=hp.fe;have hc:=hp.cl;refine out _ _ _ _ _ _ _ _ _ _ ?_;unfold vo b BU;simp only[Lib.lt,h1.1,h1.2,h2.1,h2.2,au];cases ho:sP p f with
 |false=>rfl
 |true=>
  obtain⟨n,rfl,hn,_,_⟩:=iQ ho;have e1:=xU p.fe n 2 [CV.i ao 3] {el p.fe n with sta:=3} hn rfl;have GS:n<(p.fe.set n {el p.fe n with sta:=3}).length:=by rw[cB];exact hn
  have h3:=sD.ok {p with fe:=p.fe.set n {el p.fe n with sta:=3}} n 3 GS (by rw[cB];omega) (by dsimp only;omega);dsimp only at h3;rw[iN hn]at h3;simp only[a_,ax,au,Lib.cF,Lib.dq,dL,hn,aN,aM,Lib.dZ,e1,h3.1,h3.2];rfl
end DD

namespace wK
open Lib (rd Fi En el wd0 wd1 wd2)
open dI (sI)
open kD (dk es)
open iF (tx base)
theorem one(f:Fi)(left:aQ)(h:sI [f]=ai)(hk:f.kp=(f.t.size:aw)):c (rd [f]) left=ai/\v (rd [f]) left=(rd [f],ai):=by
 have h1:=gK.ok (rd [f]) (by rw[eA];simp);refine out _ _ ?_;unfold vo b;rw[h1.1,au,h1.2,show gK.val (rd [f])=ai from h,a_,ax];have h0:0<[f].length:=by simp
 have c0:ar (rd [f]) 0 0=CV.s f.n:=wd0 (l:=[f]) h0;have c1:ar (rd [f]) 0 1=CV.s f.t:=wd1 (l:=[f]) h0;have c2:ar (rd [f]) 0 (1+1)=CV.i ao f.kp:=wd2 (l:=[f]) h0;have ib:g9 0 (f.t.size:aw) (f.t.size:aw)=true:=by simp[g9]
 have ex:bK f.t 0 (aY (f.t.size:aw))=f.t:=Lib.GF f.t;have w1:bJ (0+1)=1:=rfl;have L:(rd [f]).length=1:=rfl;have step:∀(N m:aF),l5 Lib.cZ (λ_ _ _=>ah (([]:aQ),ai)) (λ_ _ _ wh=>ah (wh,ai)) (m+1) left 0 (rd [f])=l5a Lib.cZ (λ_ _ _=>ah (([]:aQ),ai)) (λ_ _ _ wh=>ah (wh,ai)) m left 1 (rd [f]) (rd [f]):=by
  intro N m;have t0:aY 0=0:=rfl;simp only[l5,r5,L,t0];generalize bE (ar left 0 0)=z;simp only[c0,c1,c2,bu,bE,hk,ib,ex,w1];rw[show decide ((0:aw)<((1:aF):aw))=ai from rfl,au,show(decide ((0:aw)<=0)&&ai)=ai from rfl,au];have fin:([]++aD (aP [Ck.s,Ck.s,Ck.i ao] 1) 0 [CV.s f.n,CV.s f.t,CV.i ao (f.t.size:aw)]:aQ)=rd [f]:=by
   unfold Lib.rd;rw[gz];show [[CV.s f.n,CV.s f.t,CV.i ao (f.t.size:aw)]]=[Fi.row f]
   unfold Fi.row;rw[hk]
  simp only[fin];by_cases hl:(0:aw)<(left.length:aw)
  ·simp only[aE hl,au,show decide ((0:aw)<=0)=ai from rfl,aM];by_cases a:z>(f.t.size:aw)
   ·simp only[aE a,au,aK (show¬(f.t.size:aw)<(f.t.size:aw)by omega),ax]
   ·by_cases b:z<(f.t.size:aw)
    ·simp only[aK a,ax,aE b,au]
    ·have e:z=(f.t.size:aw):=by omega
     simp only[aK a,ax,aK b,e,ib,ex,fin,au,show decide ((f.t.size:aw)<(f.t.size:aw))=ak from aK (by omega),show decide ((f.t.size:aw)>(f.t.size:aw))=ak from aK (by omega)]
  ·simp only[aK hl,ax,au,aK (show¬(f.t.size:aw)<(f.t.size:aw)by omega)];try rw[aK (show¬(0:aw)>(f.t.size:aw)by omega),ax]
   by_cases b:(0:aw)<(f.t.size:aw)
   ·rw[aE b,au]
   ·rw[aK b,ax];have e:(f.t.size:aw)=0:=by omega
    rw[e]at ex fin;rw[show(0:aw).toNat=0 from rfl]at ex;rw[ex,fin]
 have last:∀(m:aF),l5a Lib.cZ (λ_ _ _=>ah (([]:aQ),ai)) (λ_ _ _ wh=>ah (wh,ai)) (m+1) left 1 (rd [f]) (rd [f])=ah (rd [f],ai):=by intro m;simp only[l5a,r5a,L,show decide ((1:aw)<((1:aF):aw))=ak from rfl,ax]
 obtain⟨n,hn⟩:∃n,Lib.cZ=n+2:=⟨Lib.cZ-2,by have:=cS (n:=2) (by omega);omega⟩
 have key:∀N,N=n+2->l5 Lib.cZ (λ_ _ _=>ah (([]:aQ),ai)) (λ_ _ _ wh=>ah (wh,ai)) N left 0 (rd [f])=ah (rd [f],ai):=by rintro N rfl;rw[step Lib.cZ (n+1),last n]
 exact key _ hn
theorem ok{o:az (aA En)}(h:(tx (es o)).size<=20000)(left:aQ):c (rd (dk o)) left=ai/\v (rd (dk o)) left=(rd (dk o),ai):=by
 cases o with
 |some l=>exact one _ left (kD.Ix h) rfl
 |none=>
  have hd:sI []=true:=kD.Ix (o:=aj) h;have h1:=gK.ok (rd []) (by rw[eA];simp);refine out _ _ ?_;unfold vo b;show(bif gK.c (rd [])then bif !gK.v (rd [])then _ else l5 Lib.cZ _ _ Lib.cZ left 0 (rd [])else aj)=_;rw[h1.1,au,h1.2,show gK.val (rd [])=ai from hd,a_,ax];obtain⟨n,hn⟩:∃n,Lib.cZ=n+1:=⟨Lib.cZ-1,by have:=cS (n:=1) (by omega);omega⟩
  have key:∀N,N=n+1->l5 Lib.cZ (λ_ _ _=>ah (([]:aQ),ai)) (λ_ _ _ wh=>ah (wh,ai)) N left 0 (rd [])=ah (rd [],ai):=by rintro N rfl;rfl
  exact key _ hn
end wK

namespace zV
open Lib (rr rs re rf rc Px En el oM qx qy qz)
open fS (qp qm one tC xO zp p0)
theorem ok(now:aw)(l:aA En)(hl:l.length<=1048576):
  c now (re l)=ai/\v now (re l)=(now,re (qp now l).en,rs (qp now l).w,rs (qp now l).m,rr (qp now l).s,(qp now l).a,[],[],0):=by
 refine out _ _ ?_;unfold vo b;have key:=ma l.length (λn (i:aF) (p:Px)=>l4 Lib.cZ (λ(_:aw) (_:aQ) (_ _ _ _ J6 VI Wp:aw) (Qu Qv HR Qw Qx Qy:aQ)=>ah (J6,Qu,Qv,HR,Qw,VI,Qx,Qy,Wp)) n now (re l) (i:aw) 0 0 0 now p.a 0 (re p.en) (rs p.w) (rs p.m) (rr p.s) [] []) (λi=>qp now (l.take i)) (ah (now,re (qp now l).en,rs (qp now l).w,rs (qp now l).m,rr (qp now l).s,(qp now l).a,[],[],0)) (λn i hi=>by
  have I:=tC now l i (by omega);have hs:=xO now l i hi;generalize qp now (l.take i)=p at I hs;rw[hs];unfold one;have hw:bJ ((i:aw)+1)=((i+1:aF):aw):=Lib.c6 hi (by omega);have JW:Dg.v (el l i).k (el l i).st (el l i).li (el l i).bo now=qm (el l i) now:=(Dg.eq _ _ _ _ _).symm;cases hf:qm (el l i) now with
  |false=>
   rw[hf]at JW;cases hq:m8.v (el l i).k (el l i).st (el l i).li (el l i).bo with
   |false=>simp only[l4,r4,dy,Lib.dq,hi,aN,Lib.cF,aM,au,Lib.dZ,oM hi,qx hi,qy hi,qz hi,bu,bE,hq,ax,hw]
   |true=>simp only[l4,r4,dy,Lib.dq,hi,aN,Lib.cF,aM,au,Lib.dZ,oM hi,qx hi,qy hi,qz hi,bu,bE,hq,JW,ax,hw]
  |true=>rw[hf]at JW;have hq:=zp hf;have hk:=(m8.D0 hq).1;have h4:=Oy.ok p (el l i) [] [] (I.fit (by omega) (by omega)) I.so I.ks (by omega);rw[I.now,I.hits]at h4;simp only[l4,r4,Lib.lt,dy,Lib.dq,hi,aN,Lib.cF,aM,au,Lib.dZ,oM hi,qx hi,qy hi,qz hi,bu,bE,hq,JW,h4.1,h4.2,hw]) (λn=>by
  simp only[l4,r4,dy,Lib.dq,bm,bj,ax,dY]) Lib.cZ 0 (bI _) (cS (by omega))
 exact key
end zV

namespace wG
open Lib (rr rs re rf rc rd Px En el oM qx qy qz)
open gF (Wo Ev zn kC)
open kD (dk es)
open ie (s8)
open fT (ri vQ tP ki)
theorem walk(N:aF)(L:aA En)(hL:L.length<=1048576)(hN:L.length<N)(K0 K1:aw->aw->aw->aw->aQ->aQ->aQ->aQ->aQ->aQ->aQ->aQ->aQ->aQ->aQ->az R)(now a5 a8:aw)(q1 q2 q3 q4 q6 q7 q9 DZ Zf:aQ):
  l7 N K0 K1 N 0 now a5 a8 (re L) (re []) q1 q2 q3 q4 q6 q7 q9 DZ Zf=K0 (L.length:aw) now a5 a8 (re L) (re (L.filter λe=>fS.qm e now)) q1 q2 q3 q4 q6 q7 q9 DZ Zf:=by
 have hw:∀i,i<L.length->bJ ((i:aw)+1)=((i+1:aF):aw):=λi h=>Lib.c6 h (by omega)
 have key:=B_ L (λe=>fS.qm e now) (λm (i:aF) acc=>l7 N K0 K1 m (i:aw) now a5 a8 (re L) (re acc) q1 q2 q3 q4 q6 q7 q9 DZ Zf) (λacc=>K0 (L.length:aw) now a5 a8 (re L) (re acc) q1 q2 q3 q4 q6 q7 q9 DZ Zf) []
  (λm i acc hi ha hp=>by rw[<-eH hi]at hp⊢;unfold fS.qm at hp;rw[Dg.eq]at hp;simp only[l7,r7,dy,Lib.dq,hi,aN,Lib.cF,aM,au,Lib.dZ,oM hi,qx hi,qy hi,qz hi,bu,bE,hp,hw i hi,fT.nH,fT.tP];rw[Lib.cq (by simp at ha;omega) (by simp at ha;omega),au])
  (λm i acc hi hp=>by rw[<-eH hi]at hp;unfold fS.qm at hp;rw[Dg.eq]at hp;simp only[l7,r7,dy,Lib.dq,hi,aN,Lib.cF,aM,au,Lib.dZ,oM hi,qx hi,qy hi,qz hi,bu,bE,hp,hw i hi,ax])
  (λm acc=>by simp only[l7,r7,dy,Lib.dq,bm,bj,ax])
  N hN
 exact key
theorem ok{i:aF}{w:Wo}(h:s8 i w)(hi:i<=71)(k id:aw)(t:aq)(n:aw)(left:aQ):c w.p.now (re w.p.en) (rs w.p.w) (rs w.p.m) (rr w.p.s) w.p.a (rf w.p.fe) (rc w.p.cl) w.p.hits (rd (dk w.o)) (ri w.cd) (re w.bd) k id t n left=ai/\v w.p.now (re w.p.en) (rs w.p.w) (rs w.p.m) (rr w.p.s) w.p.a (rf w.p.fe) (rc w.p.cl) w.p.hits (rd (dk w.o)) (ri w.cd) (re w.bd) k id t n left=vQ (zn w):=by
 refine out _ _ _ _ _ _ _ _ _ _ _ _ _ _ _ _ _ ?_;have Wc:=h.tx hi;have hlen:=h.len hi;have hdl:=kD.GC w.o;have A:=wK.ok (o:=w.o) (by omega) left;have B:=(kD.aap (o:=w.o) (by omega) h.eo).2;have DQ:=iF.K7 (es w.o);have hf:=ie.GM h.eo;have M_:=ie.Cd w;have htf:=ie.Vy _ hf;have C:=jJ.ok (rd (dk w.o)) (re (kC w)) (by rw[eA];omega) (by rw[dy];omega);rw[kD.aao (by omega) hf]at C;have D:=qh.ok (dk w.o) (pN.s9 (iF.tx (kC w))) (by omega) (by unfold pN.s9;simp) (λx hx=>by
  unfold pN.s9 at hx;simp only[cy,gA,or_false]at hx;rcases hx with rfl|rfl|rfl
  ·show(iF.tx (kC w)).size<=_;omega
  ·exact bI _
  ·exact bI _)
 rw[kD.MS (by omega) (by omega)]at D;have E:=zV.ok w.p.now (kC w) (by omega);unfold vo;generalize hN:Lib.cZ=N;have jy:(iF.kp (es w.o)).length<N:=by rw[<-hN];exact cS (by omega)
 clear hN;unfold b;rw[A.1,au,A.2,fT.lt_eq];rw[show(rd (dk w.o),ai).2=ai from rfl,au,show(rd (dk w.o),ai).1=rd (dk w.o)from rfl];rw[B.1,au,B.2,fT.lt_eq,show aP [Ck.s,Ck.i ao,Ck.i ao,Ck.s] 0=re []from rfl,walk N (iF.kp (es w.o)) (by omega) jy];have e:((kpp:aA En)->kpp=iF.kp (es w.o)->kpp.filter (λe=>fS.qm e w.p.now)=kC w):=λ_ h=>by subst h;rfl
 rw[e _ rfl];simp only[fT.lt_eq,C.1,C.2,D.1,D.2,E.1,E.2,au];have hinv:=fS.tC w.p.now (kC w) (kC w).length (cD _);rw[dY]at hinv;unfold vQ zn;dsimp only;rw[hinv.now,hinv.fe,hinv.cl,hinv.hits];rfl
end wG

namespace Dx
open Lib (rr rs re rf rc rd Px En el)
open gF (Wo Ev closed zn kC iO flag)
open kD (dk es)
open ie (s8)
open fT (ri vQ tP ki)
theorem fl(b:aW):AD.v b=flag b:=by cases b<;>rfl
theorem left(l:aA Lib.Cl)(id:aw):decide ((((l.filter λc=> !decide (c.id=id)).length:aF):aw)<(l.length:aw))=ic.lA l id:=by
 unfold ic.lA;cases h:l.any λx=>decide (x.id=id)with
 |true=>
  obtain⟨x,hx,hp⟩:=Fw.1 h;have:(l.filter λc=> !decide (c.id=id)).length<l.length:=by rw[List.length_filter_lt_length_iff_exists];exact⟨x,hx,by simpa using hp⟩
  exact aE (by omega)
 |false=>
  rw[List.any_eq_false]at h;have:l.filter (λc=> !decide (c.id=id))=l:=eE.2 λx hx=>by have:=h x hx;simpa using this
  rw[this];exact aK (by omega)
theorem ok{i:aF}{w:Wo}{e:Ev}(h:s8 i w)(hi:i<=71)(he:iO e=ai):c w.p.now (re w.p.en) (rs w.p.w) (rs w.p.m) (rr w.p.s) w.p.a (rf w.p.fe) (rc w.p.cl) w.p.hits (rd (dk w.o)) (ri w.cd) (re w.bd) e.k e.id e.t e.n e.l=ai/\v w.p.now (re w.p.en) (rs w.p.w) (rs w.p.m) (rr w.p.s) w.p.a (rf w.p.fe) (rc w.p.cl) w.p.hits (rd (dk w.o)) (ri w.cd) (re w.bd) e.k e.id e.t e.n e.l=((gF.act w e).2,vQ (gF.act w e).1):=by
 unfold iO at he;simp only[aL,bc]at he;obtain⟨hk,IV,ht,hn,hl⟩:=he;have hp:=ki h.px;refine out _ _ _ _ _ _ _ _ _ _ _ _ _ _ _ _ _ ?_;unfold vo b gF.act;by_cases k1:e.k=1
 ·rw[aE k1,au];have A:=wF.ok w.p e.id e.t hp (by omega);rw[A.1,au,A.2,fT.lt_eq];try rfl
 rw[aK k1,ax,ax];by_cases k2:e.k=2
 ·rw[aE k2,au];have A:=DB.ok w.p e.id e.t hp;rw[A.1,au,A.2,fT.lt_eq,fl];unfold vQ gn.CL;cases gn.sP w.p e.id&&(decide (1<=e.t.size/\e.t.size<=40)&&decide ((el w.p.fe e.id.toNat).t.size+e.t.size<=400))<;>rfl
 rw[aK k2,ax,ax];by_cases k3:e.k=3
 ·rw[aE k3,au];have A:=DC.ok h hi e.k e.id e.t e.n e.l hn;rw[k3]at A;rw[k3,A.1,au,A.2,fT.lt_eq];try rfl
 rw[aK k3,ax,ax];by_cases k4:e.k=4
 ·rw[aE k4,au];have A:=DD.ok w.p e.id hp;rw[A.1,au,A.2,fT.lt_eq,fl];unfold vQ gn.BU;cases gn.sP w.p e.id<;>rfl
 rw[aK k4,ax,ax];by_cases k5:e.k=5
 ·rw[aE k5,au];have A:=qF.ok w.p e.n hp;rw[A.1,au,A.2,fT.lt_eq];try rfl
 rw[aK k5,ax,ax];by_cases k6:e.k=6
 ·rw[aE k6,au];have A:=sZ.ok w.p e.id hp;rw[A.1,au,A.2,fT.lt_eq,fl];dsimp only;rw[eU,eU,show(sZ.val w.p e.id).cl=w.p.cl.filter (λc=> !decide (c.id=e.id))from rfl,left];try rfl
 rw[aK k6,ax,ax];have k7:e.k=7:=by omega
 rw[aE k7,au];have A:=wG.ok h hi e.k e.id e.t e.n e.l;rw[k7]at A;rw[k7,A.1,au,A.2,fT.lt_eq];try rfl
end Dx

namespace JU
open Lib (rr rs re rf rc rd Px En el)
open gF (Wo Ev closed zn kC iO flag)
open kD (dk es)
open ie (s8)
open fT (ri vQ tP ki)
theorem RU(w:Wo)(e:Ev):(gF.act w e).1.cd=w.cd:=by
 unfold gF.act closed;cases decide (e.k=1)<;>cases decide (e.k=2)<;>cases decide (e.k=3)<;>cases decide (e.k=4)<;>cases decide (e.k=5)<;>cases decide (e.k=6)<;>(try rfl)
 all_goals
  dsimp only[au,ax]
  cases (sQ.cls w.p e.id (e.n%1000000)).2&&decide (e.n%1000000>0)<;>rfl
theorem ok{i:aF}{w:Wo}{e:Ev}(h:s8 i w)(hi:i<=71)(he:iO e=ai):c w.p.now (re w.p.en) (rs w.p.w) (rs w.p.m) (rr w.p.s) w.p.a (rf w.p.fe) (rc w.p.cl) w.p.hits (rd (dk w.o)) (ri w.cd) (re w.bd) e.k e.id e.t e.n e.l=ai/\v w.p.now (re w.p.en) (rs w.p.w) (rs w.p.m) (rr w.p.s) w.p.a (rf w.p.fe) (rc w.p.cl) w.p.hits (rd (dk w.o)) (ri w.cd) (re w.bd) e.k e.id e.t e.n e.l=vQ (gF.step w e):=by
 refine out _ _ _ _ _ _ _ _ _ _ _ _ _ _ _ _ _ ?_;have A:=Dx.ok h hi he;have hcd:=h.cd;unfold vo b;rw[A.1,au,A.2,fT.lt_eq];have e1:(vQ (gF.act w e).1).2.2.2.2.2.2.2.2.2.2.1=ri w.cd:=by unfold vQ;rw[RU]
 have r1:cC ((aP [Ck.i ao] 0).length+(ri w.cd).length) 8=true:=by rw[fT.gP];exact Lib.cq (by show(0+w.cd.length)*8<=_;omega) (by show 0+w.cd.length<=_;omega)
 have r2:cC ((ri w.cd).length+(aD (aP [Ck.i ao] 1) 0 [CV.i ao (gF.act w e).2]).length) 8=true:=by rw[fT.gP,fT.nH];exact Lib.cq (by omega) (by omega)
 show(bif cC ((aP [Ck.i ao] 0).length+((vQ (gF.act w e).1).2.2.2.2.2.2.2.2.2.2.1).length) 8 then _ else aj)=_;simp only[e1,fT.avf,r1,r2,au,fT.ab9];rfl
end JU

namespace vn
open Lib (rr rs re rf rc rd Px En el)
open gF (Wo Ev iO)
open kD (dk es)
open ie (s8)
open fT (ri vQ)
open p8 (rv run)
open dr (I)
open A_Post (jH)
theorem ids{p:Px}(h:uI.ik p):∀j,j<(rc p.cl).length->0<=bE (ar (rc p.cl) j 0)/\bE (ar (rc p.cl) j 0)<=30:=by
 intro j hj;have Qj:j<p.cl.length:=by rw[eU]at hj;exact hj
 have:=h.cl _ (kh Qj);unfold uI.Il at this;simp only[aL,bc]at this;rw[show ar (rc p.cl) j 0=CV.i ao (el p.cl j).id from fU _ p.cl j 0 Qj];show 0<=(el p.cl j).id/\(el p.cl j).id<=30;omega
theorem next{α:Type}{i:aF}{w:Wo}{q:aQ}{a s:aw}{X:aw×aw×aq×aw×aQ×aQ×aw×aw×aQ×aQ×aQ×aQ×aQ×aQ×aQ×aQ×aQ->az α}{P:α->Prop}(h:s8 i w)(hI:I q a)
  (hx:∀k id t n a' s',I q a'->iO ⟨k,id,t,n,[]⟩=ai->k<=6->jH (X (k,id,t,n,[],q,a',s',re w.p.en,rs w.p.w,rs w.p.m,rr w.p.s,rf w.p.fe,rc w.p.cl,rd (dk w.o),ri w.cd,re w.bd)) P):
  jH (bif Km.c q a s w.p.now (re w.p.en) (rs w.p.w) (rs w.p.m) (rr w.p.s) w.p.a (rf w.p.fe) (rc w.p.cl) w.p.hits (rd (dk w.o)) (ri w.cd) (re w.bd)then Lib.lt (Km.v q a s w.p.now (re w.p.en) (rs w.p.w) (rs w.p.m) (rr w.p.s) w.p.a (rf w.p.fe) (rc w.p.cl) w.p.hits (rd (dk w.o)) (ri w.cd) (re w.bd)) X else aj) P:=by obtain⟨x,e,k,id,t,n,a',s',rfl,h1,h2,h3⟩:=Km.body q a s w.p.now (re w.p.en) (rs w.p.w) (rs w.p.m) (rr w.p.s) w.p.a (rf w.p.fe) (rc w.p.cl) w.p.hits (rd (dk w.o)) (ri w.cd) (re w.bd) hI (by rw[dL];exact h.px.fl) (ids h.px);obtain⟨c1,v1⟩:=Km.out _ _ _ _ _ _ _ _ _ _ _ _ _ _ _ e;exact A_Post.call c1 v1 (hx k id t n a' s' h1 h2 h3)
theorem step{α:Type}{i:aF}{w:Wo}{X:aw×aQ×aQ×aQ×aQ×aw×aQ×aQ×aw×aQ×aQ×aQ->az α}{P:α->Prop}(e:Ev)(h:s8 i w)(hi:i<=71)(he:iO e=ai)(hx:jH (X (vQ (gF.step w e))) P):
  jH (bif JU.c w.p.now (re w.p.en) (rs w.p.w) (rs w.p.m) (rr w.p.s) w.p.a (rf w.p.fe) (rc w.p.cl) w.p.hits (rd (dk w.o)) (ri w.cd) (re w.bd) e.k e.id e.t e.n e.l then Lib.lt (JU.v w.p.now (re w.p.en) (rs w.p.w) (rs w.p.m) (rr w.p.s) w.p.a (rf w.p.fe) (rc w.p.cl) w.p.hits (rd (dk w.o)) (ri w.cd) (re w.bd) e.k e.id e.t e.n e.l) X else aj) P:=
 A_Post.call (JU.ok h hi he).1 (JU.ok h hi he).2 hx
theorem JE(l:aA Ev)(e:Ev):run (l++[e])=gF.step (run l) e:=by unfold run;rw[kT];rfl
theorem NI(l:aA Ev)(e:Ev):rv l++aD (aP [Ck.i ao,Ck.i ao,Ck.s,Ck.i ao,Ck.l 3] 1) 0 [CV.i ao e.k,CV.i ao e.id,CV.s e.t,CV.i ao e.n,CV.l 3 e.l]=rv (l++[e]):=by unfold rv;rw[dh];rfl
theorem MY(n:aw):iO ⟨7,0,⟨#[]⟩,0,aD (aP [Ck.i ao] 1) 0 [CV.i ao n]⟩=true:=rfl
theorem Ie{l:aA Ev}{e:Ev}(h:∀x∈l,iO x=ai)(he:iO e=ai):∀x∈l++[e],iO x=true:=by
 intro x hx;rcases ba.1 hx with h1|h1
 ·exact h x h1
 ·rw[aZ.1 h1];exact he
end vn

namespace Qc
open Lib (rr rs re rf rc rd Px En el)
open gF (Wo Ev iO)
open kD (dk es)
open ie (s8)
open fT (ri vQ)
open p8 (rv run)
open vn (JE NI Ie)
open dr (I)
open A_Post (jH)
theorem rm{l:aA Ev}(h:l.length<=70)(y:aA CV):cC ((rv l).length+(aD (aP [Ck.i ao,Ck.i ao,Ck.s,Ck.i ao,Ck.l 3] 1) 0 y).length) 64=true:=by rw[p8.tO,fT.nH];exact Lib.cq (by omega) (by omega)
theorem walk{P:R->Prop}(N:aF)(q:aQ)(m:aF)(hm:m<=65)(K:aw->aw->aQ->aw->aw->aw->aw->aw->aQ->aQ->aQ->aQ->aQ->aQ->aQ->aQ->aQ->aQ->az R)
  (hK:∀(l:aA Ev) (a s:aw),l.length=m->(∀x∈l,iO x=ai)->I q a->jH (K (m:aw) (m:aw) q a s (run l).p.now (run l).p.a (run l).p.hits (rv l) (re (run l).p.en) (rs (run l).p.w) (rs (run l).p.m) (rr (run l).p.s) (rf (run l).p.fe) (rc (run l).p.cl) (rd (dk (run l).o)) (ri (run l).cd) (re (run l).bd)) P):
  ∀(d i n:aF) (l:aA Ev) (a s:aw),m-i<=d->l.length=i->i<=m->d<n->(∀x∈l,iO x=ai)->I q a->
   jH (l7 N K n (m:aw) (i:aw) q a s (run l).p.now (run l).p.a (run l).p.hits (rv l) (re (run l).p.en) (rs (run l).p.w) (rs (run l).p.m) (rr (run l).p.s) (rf (run l).p.fe) (rc (run l).p.cl) (rd (dk (run l).o)) (ri (run l).cd) (re (run l).bd)) P:=by
 have fin:∀(n:aF) (l:aA Ev) (a s:aw),l.length=m->(∀x∈l,iO x=ai)->I q a->jH (l7 N K (n+1) (m:aw) (m:aw) q a s (run l).p.now (run l).p.a (run l).p.hits (rv l) (re (run l).p.en) (rs (run l).p.w) (rs (run l).p.m) (rr (run l).p.s) (rf (run l).p.fe) (rc (run l).p.cl) (rd (dk (run l).o)) (ri (run l).cd) (re (run l).bd)) P:=λn l a s hl he hI=>by rw[show l7 N K (n+1)=r7 N (l7 N K n) K from rfl];unfold r7;exact A_Post.cn (aK (Int.lt_irrefl _)) (hK l a s hl he hI)
 intro d;induction d with
 |zero=>
  intro i n l a s h1 h2 h3 h4 h5 h6;obtain⟨n,rfl⟩:∃k,n=k+1:=⟨n-1,by omega⟩
  have:i=m:=by omega
  subst this;exact fin n l a s h2 h5 h6
 |succ d ih=>
  intro i n l a s h1 h2 h3 h4 h5 h6;obtain⟨n,rfl⟩:∃k,n=k+1:=⟨n-1,by omega⟩
  by_cases h:i<m
  ·have mA:bJ ((i:aw)+1)=((i+1:aF):aw):=dj (by omega) (by omega);have hW:s8 l.length (run l):=p8.LA h5;have go:∀(e:Ev) (a s:aw),iO e=ai->I q a->jH (l7 N K n (m:aw) (bJ ((i:aw)+1)) q a s (gF.step (run l) e).p.now (gF.step (run l) e).p.a (gF.step (run l) e).p.hits (rv l++aD (aP [Ck.i ao,Ck.i ao,Ck.s,Ck.i ao,Ck.l 3] 1) 0 [CV.i ao e.k,CV.i ao e.id,CV.s e.t,CV.i ao e.n,CV.l 3 e.l]) (re (gF.step (run l) e).p.en) (rs (gF.step (run l) e).p.w) (rs (gF.step (run l) e).p.m) (rr (gF.step (run l) e).p.s) (rf (gF.step (run l) e).p.fe) (rc (gF.step (run l) e).p.cl) (rd (dk (gF.step (run l) e).o)) (ri (gF.step (run l) e).cd) (re (gF.step (run l) e).bd)) P:=λe a s he hI=>by have:=ih (i+1) n (l++[e]) a s (by omega) (by rw[bT,h2];rfl) h (by omega) (Ie h5 he) hI;rw[JE,<-NI]at this;rw[mA];exact this
   rw[show l7 N K (n+1)=r7 N (l7 N K n) K from rfl];unfold r7;refine A_Post.ck (aE (by omega)) ?_;refine vn.next hW h6 (λk id t n0 a1 s1 I1 he hk=> ?_);refine A_Post.once I1 (λx a2 s2 I2=> ?_);cases x with
   |true=>refine A_Post.ck rfl ?_;refine A_Post.below I2 (λn1 a3 s3 I3 _ _=> ?_);refine vn.step ⟨7,0,⟨#[]⟩,0,aD (aP [Ck.i ao] 1) 0 [CV.i ao n1]⟩ hW (by omega) (vn.MY n1) ?_;refine A_Post.ck (rm (by omega) _) ?_;exact go ⟨7,0,⟨#[]⟩,0,aD (aP [Ck.i ao] 1) 0 [CV.i ao n1]⟩ a3 s3 (vn.MY n1) I3
   |false=>refine A_Post.cn rfl ?_;refine vn.step ⟨k,id,t,n0,[]⟩ hW (by omega) he ?_;refine A_Post.ck (rm (by omega) _) ?_;exact go ⟨k,id,t,n0,[]⟩ a2 s2 he I2
  ·have:i=m:=by omega
   subst this;exact fin n l a s h2 h5 h6
theorem ok(q:aQ)(a s:aw)(code:aQ)(hI:I q a)(hc:code.length<=1048576):∃(l:aA Ev) (a' s':aw),c q a s code=ai/\v q a s code=(rv l,q,a',s')/\l.length<=65/\(∀e∈l,iO e=ai):=by
 have key:∃m:aF,m<=65/\(decide (bJ (20+bJ (cQ (code.length:aw) 6))>65)=ai/\m=65\/decide (bJ (20+bJ (cQ (code.length:aw) 6))>65)=ak/\bJ (20+bJ (cQ (code.length:aw) 6))=(m:aw)):=by
  have h0:0<=cQ (code.length:aw) 6/\cQ (code.length:aw) 6<=1048576:=by rw[g7 (by omega)];omega
  generalize cQ (code.length:aw) 6=z at*
  rw[dj (x:=z) (by omega) (by omega),dj (x:=20+z) (by omega) (by omega)];by_cases h:20+z>65
  ·exact⟨65,by omega, .inl ⟨aE h,rfl⟩⟩
  ·exact⟨(20+z).toNat,by omega, .inr ⟨aK h,by omega⟩⟩
 have main:jH (vo q a s code) (λx=>∃(l:aA Ev) (a' s':aw),x=(rv l,q,a',s')/\l.length<=65/\(∀e∈l,iO e=ai)):=by
  obtain⟨m,hm,hk⟩:=key;unfold vo;generalize hN:Lib.cZ=N;have hN1:65<N:=by rw[<-hN];exact cS (by omega)
  clear hN;unfold b;rcases hk with ⟨h1,h2⟩|⟨h1,h2⟩
  ·subst h2;refine A_Post.ck h1 ?_;exact walk N q 65 (by omega) _ (λl a1 s1 hl he hI1=>A_Post.ret ⟨l,a1,s1,rfl,by omega,he⟩) 65 0 N [] a s (by omega) rfl (by omega) hN1 (λe h=>by cases h) hI
  ·refine A_Post.cn h1 ?_;rw[h2];exact walk N q m hm _ (λl a1 s1 hl he hI1=>A_Post.ret ⟨l,a1,s1,rfl,by omega,he⟩) m 0 N [] a s (by omega) rfl (by omega) (by omega) (λe h=>by cases h) hI
 obtain⟨x,hx,l,a',s',rfl,h1,h2⟩:=main;obtain⟨c1,v1⟩:=out _ _ _ _ hx;exact⟨l,a',s',c1,v1,h1,h2⟩
end Qc

namespace U9
open gF (Ev iO)
open p8 (rv)
theorem ok(code:aQ)(hc:code.length<=1048576):∃l:aA Ev,c code=ai/\v code=rv l/\l.length<=65/\(∀e∈l,iO e=ai):=by obtain⟨h,c0,v0⟩:=Qd.ok code hc;obtain⟨l,a',s',c1,v1,h1,h2⟩:=Qc.ok code 0 h code ⟨by omega,by omega,hc⟩ hc;obtain⟨c2,v2⟩:=out code (x:=rv l) (by unfold vo b;simp only[c0,v0,au,fT.lt_eq,c1,v1]);exact⟨l,c2,v2,h1,h2⟩
end U9

namespace Gk
def p(s:aQ)(k:aq)(a l:aw)(t:aq)(i:aF):aW:=bZ (aC (bu (ar s i 0))) (aC k)&&(decide (bE (ar s i 1)=a)&&(decide (bE (ar s i (1+1))=l)&&(bZ (aC (bu (ar s i (1+1+1)))) (aC t)&&ai)))
def val(s:aQ)(k:aq)(a l:aw)(t:aq):aW:=decide (Lib.fi (p s k a l t) s.length 0≥0)
end Gk

namespace i_
open Lib (Cl Fe el)
def hb(bd:aQ)(k:aq)(fr:aw)(km:aq)(age:aw)(i:aF):aW:=bZ (aC (bu (ar bd i 0))) (aC k)&&(decide (bE (ar bd i 1)=fr)&&(bZ (aC (bu (ar bd i (1+1+1)))) (aC km)&&decide (bE (ar bd i (1+1))>age)))
def has(bd:aQ)(k:aq)(fr:aw)(km:aq)(age:aw):aW:=decide (Lib.fi (hb bd k fr km age) bd.length 0≥0)
def bg(t km:aq):aW:=decide (((t.size:aF):aw)≥((km.size:aF):aw))&&bZ (aC (bK t (aY 0) (aY (↑(cj km):aw)))) (aC km)
def wt(f:Fe)(c:Cl):aW:=bZ (aC f.k) (aC c.k)&&(bif decide (c.sta=1)then bZ (aC c.km) (aC f.t)&&decide (f.sta=1)else bif decide (c.sta=2)then bZ (aC c.km) (aC f.t)&&decide (f.sta=2)else decide (c.sta=3)&&(bg f.t c.km&&decide (f.sta=3)))
def gOk(fe:aA Fe)(bd:aQ)(c:Cl):aW:=bif decide (c.fe=0)then has bd c.k c.fr c.km c.age&&decide (c.sta=2)else wt (el fe (c.fe-1).toNat) c
def Sx(fe:aA Fe)(cl:aA Cl)(bd:aQ):aW:=(cw cl.length).all λi=>gOk fe bd (el cl i)
end i_

namespace H7
def q(a s:aQ)(i:aF):aW:=Gk.val s (bu (ar a i 0)) (bE (ar a i 1)) (bE (ar a i (1+1))) (bu (ar a i (1+1+1)))
def val(a s:aQ):aW:=bif(cw a.length).all (q a s)then ai else ak
end H7

namespace L3
open Lib (rr rs re rf rc Px)
def qe(a:aQ)(now:aw)(kp:aQ)(i:aF):aW:=bif Dg.v (bu (ar a i 0)) (bE (ar a i 1)) (bE (ar a i (1+1))) (bu (ar a i (1+1+1))) now then Gk.val kp (bu (ar a i 0)) (bE (ar a i 1)) (bE (ar a i (1+1))) (bu (ar a i (1+1+1)))else ai
def sw(p:Px)(kp bd:aQ):aW:=(cw p.en.length).all (qe (re p.en) p.now kp)&&(qi.jd p&&(eS.val (rf p.fe)&&(i_.Sx p.fe p.cl bd&&H7.val (re p.en) bd)))
theorem cls{p:Px}(h:qi.jd p=ai):∀i,i<p.cl.length->0<=(Lib.el p.cl i).fe/\(Lib.el p.cl i).fe<=p.fe.length:=by intro i hi;have:=(uI.pw.1 h).cl _ (kh hi);unfold uI.Il at this;simp only[aL,bc]at this;exact this.2.2.2.1
end L3

namespace Wq
open Lib (Px Cl Fe En el re rf rc)
open HU (wk Gp w9)
open uI (ik)
open gF (Wo)
open kD (es)
open iF (kp)
theorem aeY{l:aA En}{e:En}(h:e∈l):Gk.val (re l) e.k e.st e.li e.bo=true:=by
 unfold Gk.val;rw[dy,ic.B9 l (λx=>bZ (aC x.k) (aC e.k)&&(decide (x.st=e.st)&&(decide (x.li=e.li)&&(bZ (aC x.bo) (aC e.bo)&&ai)))) (Gk.p (re l) e.k e.st e.li e.bo) (λi hi=> ?_),Fw]
 ·exact⟨e,h,by simp[jQ]⟩
 ·unfold Gk.p;rw[oM hi,qx hi,qy hi,qz hi,eH hi];rfl
theorem stored{en bd:aA En}(h:∀e∈en,e∈bd):H7.val (re en) (re bd)=true:=by
 unfold H7.val;have:(cw (re en).length).all (H7.q (re en) (re bd))=true:=by
  rw[bn];intro i hi;have vg:i<en.length:=by rw[dy]at hi;exact iA.1 hi
  unfold H7.q;rw[oM vg,qx vg,qy vg,qz vg];exact aeY (h _ (kh vg))
 rw[this];rfl
theorem one{fe:aA Fe}(h:fe.Pairwise λf g=>m9.lD g f=ak):eS.val (rf fe)=true:=by
 unfold eS.val;rw[bn];intro i hi;rw[bn];intro j hj;have vg:i<fe.length:=by rw[dL]at hi;exact iA.1 hi
 have Qj:j<i:=iA.1 hj;have:=dC.1 h j i (by omega) vg Qj;unfold m9.lD at this;unfold eS.g eS.op;rw[C8 vg,PY vg,C8 (by omega:j<fe.length),PY (by omega:j<fe.length),eH vg,eH (by omega:j<fe.length)];show(!(decide ((fe[i]).sta=1)&&(decide ((fe[j]).sta=1)&&bZ (aC (fe[i]).k) (aC (fe[j]).k))))=ai;rw[Lib.eM,this];rfl
theorem WZ(t:aq):i_.bg t t=true:=by
 unfold i_.bg;rw[aE (Int.le_refl _),bh];have:bK t (aY 0) (aY (t.size:aw))=t:=by rw[dG];show t.extract 0 t.size=t;exact yz
 rw[this];exact jQ _
theorem km{fe:aA Fe}{cl:aA Cl}{bd:aA En}(h:∀c∈cl,Gp fe bd c):i_.Sx fe cl (re bd)=true:=by
 unfold i_.Sx;rw[bn];intro i hi;have vg:=iA.1 hi;have hc:=h _ (kh vg);generalize el cl i=c at hc;unfold i_.gOk;rcases hc with ⟨h1,h2,e,he,h3,h4,h5,h6⟩|⟨n,h1,h2,h3,h4,h5,h6⟩
 ·rw[aE h1,au,aE h2,j4];unfold i_.has;rw[dy,ic.B9 bd (λx=>bZ (aC x.k) (aC c.k)&&(decide (x.st=c.fr)&&(bZ (aC x.bo) (aC c.km)&&decide (x.li>c.age)))) (i_.hb (re bd) c.k c.fr c.km c.age) (λi hi=> ?_),Fw]
  ·exact⟨e,he,by simp[h3,h4,h5,h6,jQ]⟩
  ·unfold i_.hb;rw[oM hi,qx hi,qy hi,qz hi,eH hi];rfl
 ·rw[aK (show¬c.fe=0 by omega),ax,show(c.fe-1).toNat=n by omega];unfold i_.wt;rw[h3,h4,h5,jQ,bh];have:c.sta=1\/c.sta=2\/c.sta=3:=by omega
  rcases this with q|q|q
  ·rw[q];simp[jQ]
  ·rw[q];simp[jQ]
  ·rw[q];simp[WZ]
end Wq

namespace ag4
open Lib (rr rs re rf rc rd Px En el)
open gF (Wo Ev iO)
open kD (dk es)
open p8 (rv run life IL W13)
open fT (ri)
open iF (kp)
open HU (wk)
theorem runs{l:aA Ev}(hl:l.length<=70)(he:∀e∈l,iO e=ai):life l=W13 (run l) ai/\ie.s8 l.length (run l)/\wk (run l):=by
 refine⟨?_,p8.LA he,HU.Zn he⟩
 unfold life;rw[p8.Cf.2 ⟨hl,he⟩,au]
end ag4

namespace uT
open Lib (rr rs re rf rc Px)
open qi (jd)
theorem ok(p:Px)(f:aw)(hp:p.Fit 1048576):c p.now (re p.en) (rs p.w) (rs p.m) (rr p.s) p.a (rf p.fe) (rc p.cl) p.hits f=ai/\v p.now (re p.en) (rs p.w) (rs p.m) (rr p.s) p.a (rf p.fe) (rc p.cl) p.hits f=(jd p&&decide (0<=f/\f<=(p.fe.length:aw)-1)):=by have h:=Ov.ok p hp;have hf:=hp.fe;refine out _ _ _ _ _ _ _ _ _ _ ?_;unfold vo b;rw[h.1,h.2,au,dL,dj (x:=(p.fe.length:aw)-1) (by omega) (by omega),show lz.v f 0 ((p.fe.length:aw)-1)=decide (0<=f/\f<=(p.fe.length:aw)-1)from fD.eI _ _ _];cases jd p<;>rfl
end uT

namespace Ax
open Lib (rr rs re rf rc Px Cl el)
open uJ (ec nR lr)
theorem ok(p:Px)(f:aF)(hf:f<p.fe.length)(hl:p.fe.length<=2097152)(hc:p.cl.length<=2097152):
  c p.now (re p.en) (rs p.w) (rs p.m) (rr p.s) p.a (rf p.fe) (rc p.cl) p.hits (f:aw)=ai/\v p.now (re p.en) (rs p.w) (rs p.m) (rr p.s) p.a (rf p.fe) (rc p.cl) p.hits (f:aw)=(p.now,re p.en,rs p.w,rs p.m,rr p.s,p.a,rf p.fe,rc (nR p.cl f 1 (el p.fe f).t),p.hits):=by
 refine out _ _ _ _ _ _ _ _ _ _ ?_;unfold vo b;rw[eU];have key:=nK Cl.row p.cl (λ_ c=>ec f 1 (el p.fe f).t c) (λn (i:aF) x=>l1 Lib.cZ (λ(_ _ _ Wn Qt Dl:aw) (Fc D7 wh J5 J6 VI:aQ)=>ah (Wn,D7,wh,J5,J6,Qt,VI,Fc,Dl)) n (f:aw) (p.cl.length:aw) (i:aw) p.now p.a p.hits x (re p.en) (rs p.w) (rs p.m) (rr p.s) (rf p.fe)) (λx=>ah (p.now,re p.en,rs p.w,rs p.m,rr p.s,p.a,rf p.fe,x,p.hits)) (λn i L h h2 hL vU=> ?_) (λn L hL=> ?_) Lib.cZ (cS (by omega))
 ·rw[lr]at key;exact key
 ·have e2:ar (L.map Cl.row) i (1+1)=CV.i ao p.cl[i].fe:=by rw[fF _ L i _ h2,vU];rfl
  have e4:ar (L.map Cl.row) i (1+1+1+1)=CV.i ao p.cl[i].sta:=by rw[fF _ L i _ h2,vU];rfl
  have s1:eD (L.map Cl.row) i 5 [CV.s (el p.fe f).t]=(L.set i {p.cl[i]with km:=(el p.fe f).t}).map Cl.row:=kR Cl.row L i 5 _ _ h2 (by rw[vU];rfl);simp only[l1,r1,Lib.dq,h,h2,hf,bU,cB,aN,Lib.cF,aM,au,Lib.dZ,e2,e4,bE,s1,pH,dL,C9 hf,bu,Lib.c6 h (by omega:p.cl.length<=9223372036854775807),dj (x:=(f:aw)+1) (by omega) (by omega)];unfold ec;cases decide (p.cl[i].fe=(f:aw)+1)with
  |false=>rw[lE,ax,ax,<-vU,fw]
  |true=>
   cases hd:decide (p.cl[i].sta=1)with
   |false=>rw[bh,au,ax,ax,<-vU,fw]
   |true=>have e:=cm hd;rw[bh,au,au,au];rw[show({p.cl[i]with sta:=1,km:=(el p.fe f).t}:Cl)={p.cl[i]with km:=(el p.fe f).t}by rw[<-e]]
 ·simp only[l1,r1,Lib.dq,bm,bj,ax]
end Ax

namespace V3
open Lib (rr rs re rf rc Px el)
open gn (sP CL told iQ nV iN xU)
theorem ok(p:Px)(f:aw)(q:aq)(hp:p.Fit 1048576):c p.now (re p.en) (rs p.w) (rs p.m) (rr p.s) p.a (rf p.fe) (rc p.cl) p.hits f q=ai/\v p.now (re p.en) (rs p.w) (rs p.m) (rr p.s) p.a (rf p.fe) (rc p.cl) p.hits f q=(p.now,re p.en,rs p.w,rs p.m,rr p.s,p.a,rf (CL p f q).1.fe,rc (CL p f q).1.cl,p.hits,(CL p f q).2):=by
 have h1:=iL.ok p hp;have h2:=uT.ok p f hp;have hf:=hp.fe;have hc:=hp.cl;refine out _ _ _ _ _ _ _ _ _ _ _ ?_;unfold vo b CL;simp only[Lib.lt,h1.1,h1.2,h2.1,h2.2,au];unfold sP;cases cf:qi.jd p&&decide (0<=f/\f<=(p.fe.length:aw)-1)with
 |false=>rw[<-nL (qi.jd p),cf];rfl
 |true=>
  rw[<-nL (qi.jd p),cf,bh];rw[aL,bc]at cf;obtain⟨n,rfl⟩:∃n:aF,f=(n:aw):=⟨f.toNat,by omega⟩
  have hn:n<p.fe.length:=by omega
  have w_:=gn.aar cf.1 n hn;unfold m9.nF at w_;simp only[aL,bc]at w_;have m_:=QA.put (el p.fe n).sta (el p.fe n).t q w_.2.1 w_.2.2.1;simp only[a_,ax,au,Lib.cF,Lib.dq,dL,hn,aN,aM,Lib.dZ,zQ hn,C9 hn,bE,bu,m_];cases hs:decide ((el p.fe n).sta=1)&&(decide (1<=q.size/\q.size<=40)&&decide ((el p.fe n).t.size+q.size<=400))with
  |false=>rfl
  |true=>
   have e1:=xU p.fe n 1 [CV.s ((el p.fe n).t++q)] {el p.fe n with t:=(el p.fe n).t++q} hn rfl;have GS:n<(p.fe.set n {el p.fe n with t:=(el p.fe n).t++q}).length:=by rw[cB];exact hn
   have h3:=Ax.ok {p with fe:=p.fe.set n {el p.fe n with t:=(el p.fe n).t++q}} n GS (by rw[cB];omega) (by dsimp only;omega);dsimp only at h3;rw[iN hn]at h3;simp only[a_,ax,au,e1,h3.1,h3.2];rfl
end V3

namespace vL
open Lib (rr rs re rf rc Px Cl el)
open uJ (ec nR lr)
theorem ok(p:Px)(f:aF)(st:aw)(hf:f<p.fe.length)(hl:p.fe.length<=2097152)(hc:p.cl.length<=2097152):
  c p.now (re p.en) (rs p.w) (rs p.m) (rr p.s) p.a (rf p.fe) (rc p.cl) p.hits (f:aw) st=ai/\v p.now (re p.en) (rs p.w) (rs p.m) (rr p.s) p.a (rf p.fe) (rc p.cl) p.hits (f:aw) st=(p.now,re p.en,rs p.w,rs p.m,rr p.s,p.a,rf p.fe,rc (nR p.cl f st (el p.fe f).t),p.hits):=by
 refine out _ _ _ _ _ _ _ _ _ _ _ ?_;unfold vo b;rw[eU];have key:=nK Cl.row p.cl (λ_ c=>ec f st (el p.fe f).t c) (λn (i:aF) x=>l1 Lib.cZ (λ(_ _ _ _ Dl Fc D7:aw) (wh J5 J6 VI Wp Qu:aQ)=>ah (Dl,J5,J6,VI,Wp,Fc,Qu,wh,D7)) n (f:aw) st (p.cl.length:aw) (i:aw) p.now p.a p.hits x (re p.en) (rs p.w) (rs p.m) (rr p.s) (rf p.fe)) (λx=>ah (p.now,re p.en,rs p.w,rs p.m,rr p.s,p.a,rf p.fe,x,p.hits)) (λn i L h h2 hL vU=> ?_) (λn L hL=> ?_) Lib.cZ (cS (by omega))
 ·rw[lr]at key;exact key
 ·have e2:ar (L.map Cl.row) i (1+1)=CV.i ao p.cl[i].fe:=by rw[fF _ L i _ h2,vU];rfl
  have e4:ar (L.map Cl.row) i (1+1+1+1)=CV.i ao p.cl[i].sta:=by rw[fF _ L i _ h2,vU];rfl
  have s1:eD (L.map Cl.row) i 4 [CV.i ao st]=(L.set i {p.cl[i]with sta:=st}).map Cl.row:=kR Cl.row L i 4 _ _ h2 (by rw[vU];rfl);have h3:i<(L.set i {p.cl[i]with sta:=st}).length:=by simpa using h2
  have s2:eD ((L.set i {p.cl[i]with sta:=st}).map Cl.row) i 5 [CV.s (el p.fe f).t]=((L.set i {p.cl[i]with sta:=st}).set i {p.cl[i]with sta:=st,km:=(el p.fe f).t}).map Cl.row:=kR Cl.row _ i 5 _ _ h3 (by rw[kG];rfl);simp only[l1,r1,Lib.dq,h,h2,hf,bU,cB,aN,Lib.cF,aM,au,Lib.dZ,e2,e4,bE,s1,s2,pH,dL,C9 hf,bu,Lib.c6 h (by omega:p.cl.length<=9223372036854775807),dj (x:=(f:aw)+1) (by omega) (by omega)];unfold ec;cases decide (p.cl[i].fe=(f:aw)+1)with
  |false=>rw[lE,ax,ax,<-vU,fw]
  |true=>
   cases decide (p.cl[i].sta=1)with
   |false=>rw[bh,au,ax,ax,<-vU,fw]
   |true=>rw[bh,au,au,au]
 ·simp only[l1,r1,Lib.dq,bm,bj,ax]
end vL

namespace Ox
open Lib (rr rs re rf rc Px En el)
open fZ (So fP mv)
open kU (xX)
theorem ok(p:Px)(e:En)(r6 r7:aQ)(hp:p.Fit 1048575)(hso:So p.en)(hk:e.k.size<=140737488355328):
  c p.now (re p.en) (rs p.w) (rs p.m) (rr p.s) p.a r6 r7 p.hits e.k e.st e.li e.bo=ai/\v p.now (re p.en) (rs p.w) (rs p.m) (rr p.s) p.a r6 r7 p.hits e.k e.st e.li e.bo=(p.now,re (xX p e).en,rs (xX p e).w,rs (xX p e).m,rr (xX p e).s,(xX p e).a,r6,r7,p.hits):=by have he:=hp.en;have hw:=hp.w;have hm:=hp.m;obtain⟨b1,b2,b3⟩:=eZ.LR p.w p.m p.s p.a e.k;have h1:=zj.ok p.w p.m p.s p.a e.k (by omega) (by omega) ⟨dg hp.s.1 (by omega),λq hq=>dg (hp.s.2.1 q hq) (by omega)⟩ hk;refine out _ _ _ _ _ _ _ _ _ _ _ _ _ ?_;unfold vo b xX;generalize eZ.val p.w p.m p.s p.a e.k=V at h1 b1 b2 b3;obtain⟨W,M,T,A,G⟩:=V;dsimp only at h1 b1 b2⊢;have h2:=pJ.ok (re p.en) G (fZ.Sa _) (by rw[dy];omega);rw[fZ.GD]at h2;have h3:=sB.ok W M (rr T) A e.k (by omega) (by omega);have hd:=fZ.wS p.en G;have h4:=uQ.ok (re (fP p.en G)) e.k e.st e.li e.bo (fZ.CC (hso.drop G)) (by rw[dy];omega);rw[fZ.tL]at h4;simp only[Lib.lt,h1.1,h1.2,h2.1,h2.2,h3.1,h3.2,h4.1,h4.2,au];cases fc.has W e.k||fc.has M e.k<;>rfl
end Ox

namespace DA
open Lib (rr rs re rf rc Px el)
open gn (sP told iQ nV iN xU)
open sQ (cls kB)
theorem ok(p:Px)(f life:aw)(hp:p.Fit 1048576):c p.now (re p.en) (rs p.w) (rs p.m) (rr p.s) p.a (rf p.fe) (rc p.cl) p.hits f life=ai/\v p.now (re p.en) (rs p.w) (rs p.m) (rr p.s) p.a (rf p.fe) (rc p.cl) p.hits f life=(p.now,re (cls p f life).1.en,rs (cls p f life).1.w,rs (cls p f life).1.m,rr (cls p f life).1.s,(cls p f life).1.a,rf (cls p f life).1.fe,rc (cls p f life).1.cl,p.hits,(cls p f life).2):=by
 have h1:=iL.ok p hp;have h2:=uT.ok p f hp;have hf:=hp.fe;have hc:=hp.cl;refine out _ _ _ _ _ _ _ _ _ _ _ ?_;unfold vo b cls;simp only[Lib.lt,h1.1,h1.2,h2.1,h2.2,au];unfold sP;cases cf:qi.jd p&&decide (0<=f/\f<=(p.fe.length:aw)-1)with
 |false=>rw[<-nL (qi.jd p),cf];rfl
 |true=>
  rw[<-nL (qi.jd p),cf,bh];rw[aL,bc]at cf;obtain⟨n,rfl⟩:∃n:aF,f=(n:aw):=⟨f.toNat,by omega⟩
  have hn:n<p.fe.length:=by omega
  obtain⟨so,_,_,_,_,_,_,_,_,_,w_⟩:=kU.Hg cf.1;have w_:=w_ n hn;unfold m9.nF at w_;rw[aL]at w_;have AO:=eZ.kK w_.1;simp only[a_,ax,au,Lib.cF,Lib.dq,dL,hn,aN,aM,Lib.dZ,zQ hn,bE];rw[show((el p.fe n).sta !=1)= !decide ((el p.fe n).sta=1)from rfl,show lz.v life 0 999999=decide (0<=life/\life<=999999)from fD.eI _ _ _];cases hs:decide ((el p.fe n).sta=1)with
  |false=>rfl
  |true=>
   cases hl:decide (0<=life/\life<=999999)with
   |false=>rfl
   |true=>
    have e1:=xU p.fe n 2 [CV.i ao 2] {el p.fe n with sta:=2} hn rfl;have n1:n<(p.fe.set n {el p.fe n with sta:=2}).length:=by rw[cB];exact hn
    have e2:=xU (p.fe.set n {el p.fe n with sta:=2}) n 3 [CV.i ao life] {el p.fe n with sta:=2,li:=life} n1 (by rw[iN hn];rfl);rw[pH]at e2;have n2:n<(p.fe.set n {el p.fe n with sta:=2,li:=life}).length:=by rw[cB];exact hn
    have e3:=xU (p.fe.set n {el p.fe n with sta:=2,li:=life}) n 4 [CV.i ao p.now] {el p.fe n with sta:=2,li:=life,st:=p.now} n2 (by rw[iN hn];rfl);rw[pH]at e3;generalize hg:({el p.fe n with sta:=2,li:=life,st:=p.now}:Lib.Fe)=g at e3;have n3:n<(p.fe.set n g).length:=by rw[cB];exact hn
    have h3:=vL.ok {p with fe:=p.fe.set n g} n 2 n3 (by rw[cB];omega) (by dsimp only;omega);dsimp only at h3;rw[iN hn]at h3;have hk:g.k=(el p.fe n).k:=by rw[<-hg]
    have h4:=Ox.ok (told p n g 2) (kB g) (rf (p.fe.set n g)) (rc (told p n g 2).cl) ((nV (kU.ki cf.1)).le (by omega)) so (by show g.k.size<=_;rw[hk];omega);have z0:bu (ar (rf (p.fe.set n g)) n 0)=g.k:=by rw[C8 n3,iN hn];rfl
    have z1:bu (ar (rf (p.fe.set n g)) n 1)=g.t:=by rw[C9 n3,iN hn];rfl
    have gl:g.li=life:=by rw[<-hg]
    have gs:g.st=p.now:=by rw[<-hg]
    unfold kB at h4;dsimp only[told]at h4;rw[gl,gs]at h4;unfold kB told;simp only[a_,ax,au,e1,e2,e3,h3.1,h3.2,z0,z1,gl,gs];cases decide (life>0)with
    |true=>simp only[au,h4.1,h4.2];rfl
    |false=>rfl
end DA

namespace vK
open Lib (rd el Fi)
open dI (j8 act ra Ac wa0 wa1 wa2 wa3 rV A2)
theorem ok(l:aA Fi)(a:aA Ac)(hl:l.length<=1000)(ha:a.length<=1000000)(ht:∀x∈a,x.t.size<=2305843009213693952):c (rd l) (ra a)=ai/\v (rd l) (ra a)=(rd (j8 l 0 a).1,((j8 l 0 a).2:aw)):=by
 refine out _ _ ?_;unfold vo b;have h1:=s6.ok (rd l) (by rw[eA];omega);rw[h1.1,h1.2,au,rV]
 have key:∀(d i n:aF) (l:aA Fi),a.length-i<=d->i<=a.length->l.length<=1000->d<n->
   l3 Lib.cZ (λ(_:aQ) (y7:aw) (_:aQ) (_ _:aw) (wg:aQ)=>ah (wg,y7)) (λ(LZ:aQ) (_:aw) (_:aQ) (_ _:aw) (Dl:aQ)=>ah (Dl,(↑(bS LZ):aw))) n (ra a) 0 (ra a) (a.length:aw) (i:aw) (rd l)=ah (rd (j8 l i (a.drop i)).1,((j8 l i (a.drop i)).2:aw)):=by
  intro d
  induction d with
  |zero=>
   intro i n l e1 e2 e3 e4;obtain⟨n,rfl⟩:∃n',n=n'+1:=⟨n-1,by omega⟩
   have:i=a.length:=by omega
   subst this;simp only[l3,r3,Lib.dq,bm,bj,ax,rV,di,j8]
  |succ d ih=>
   intro i n l e1 e2 e3 e4;obtain⟨n,rfl⟩:∃n',n=n'+1:=⟨n-1,by omega⟩
   by_cases hi:i<a.length
   ·have hd:=rF.ok l (el a i).k (el a i).n (el a i).t (el a i).o e3 (ht _ (kh hi));simp only[l3,r3,Lib.dq,rV,hi,aN,Lib.cF,aM,au,Lib.dZ,wa0 hi,wa1 hi,wa2 hi,wa3 hi,bu,bE,hd.1,hd.2,Lib.c6 hi (by omega:a.length<=9223372036854775807)];rw[dE hi,<-eH hi];unfold j8;cases hac:act l (el a i).k (el a i).n (el a i).t (el a i).o with
    |none=>rfl
    |some e=>have:=(A2 hac).2;exact ih (i+1) n e (by omega) hi (by omega) (by omega)
   ·have:i=a.length:=by omega
    subst this;simp only[l3,r3,Lib.dq,bm,bj,ax,rV,di,j8]
 exact key a.length 0 Lib.cZ l (by omega) (bI _) hl (cS (by omega))
end vK

namespace V4
open Lib (rr rs re rf rc rd Px En el C8 C9 Qr Qs)
open gF (Wo Ev closed)
open kD (dk es)
open ie (s8)
open fT (ri vQ tP ki)
open sQ (cls kB)
theorem ok{i:aF}{w:Wo}(h:s8 i w)(hi:i<=71)(id life:aw)(hl:0<=life/\life<=999999):c w.p.now (re w.p.en) (rs w.p.w) (rs w.p.m) (rr w.p.s) w.p.a (rf w.p.fe) (rc w.p.cl) w.p.hits (rd (dk w.o)) (ri w.cd) (re w.bd) id life=ai/\v w.p.now (re w.p.en) (rs w.p.w) (rs w.p.m) (rr w.p.s) w.p.a (rf w.p.fe) (rc w.p.cl) w.p.hits (rd (dk w.o)) (ri w.cd) (re w.bd) id life=((cls w.p id life).2,vQ (closed w id life).1):=by
 refine out _ _ _ _ _ _ _ _ _ _ _ _ _ _ ?_;have hbd:=h.bd;have Wc:=h.tx hi;have hdl:=kD.GC w.o;have A:=DA.ok w.p id life (ki h.px);obtain⟨q1,q2⟩:=ie.Kw (f:=id) h.px hl;obtain⟨s1,s2⟩:=sQ.Is (p:=w.p) (f:=id) (life:=life);have mH:=ki q1;unfold vo b;rw[A.1,au,A.2,fT.lt_eq];unfold closed vQ;dsimp only;rw[<-s1,<-s2];generalize cls w.p id life=Q at q1 q2 s1 s2 mH;obtain⟨q,ok⟩:=Q;dsimp only at q1 q2 s1 s2 mH⊢;rcases q2 with ⟨r1,r2⟩|⟨r1,n,rn,hn,rf_,rs_,rl⟩
 ·subst r1;rfl
 subst r1;rw[a_,ax];by_cases hz:life=0
 ·rw[aE hz,au,bh,aK (show¬life>0 by omega)];rfl
 rw[aK hz,ax,bh,aE (show life>0 by omega),au];obtain⟨t1,t2⟩:=rl (by omega);have GS:n<q.fe.length:=by rw[rf_,cB];exact hn
 have OY:el q.fe n={el w.p.fe n with sta:=2,li:=life,st:=w.p.now}:=by rw[rf_,gn.iN hn]
 subst rn;rw[dG];have B:=sB.ok q.w q.m (rr q.s) q.a (el q.fe n).k mH.w mH.m;have C:=uU.ok (el q.fe n).k (el q.fe n).st (el q.fe n).li (el q.fe n).t;have hE:m8.v (el q.fe n).k (el q.fe n).st (el q.fe n).li (el q.fe n).t=true:=by rw[OY];exact t1
 have Di:=ie.KK (e:=kB (el q.fe n)) hE;rw[uU.val,bz hE,show uU.j8 (fH.fr (jI.sL (el q.fe n).k (el q.fe n).st (el q.fe n).li (el q.fe n).t))=dI.ra (iF.si (iF.HN (kB (el q.fe n))))from rfl]at C;have D:=vK.ok (dk w.o) (iF.si (iF.HN (kB (el q.fe n)))) (by omega) (by unfold iF.si;simp) (λx hx=>by
  unfold iF.si at hx;simp only[cy,gA,or_false]at hx;rcases hx with rfl|rfl
  ·show(iF.HN (kB (el q.fe n))).size<=_;omega
  ·exact bI _)
 rw[kD.MT (by omega)]at D;have hP:(fc.has q.w (el q.fe n).k||fc.has q.m (el q.fe n).k)=true:=by rw[OY];exact t2
 rw[hP]at B;have room:∀y,cC ((re w.bd).length+(aD (aP [Ck.s,Ck.i ao,Ck.i ao,Ck.s] 1) 0 y).length) 48=true:=λy=>by rw[dy,fT.nH];exact Lib.cq (by omega) (by omega)
 have sn:=tP w.bd (kB (el q.fe n));unfold kB at sn C D;dsimp only at sn;simp only[fT.lt_eq,dL,Lib.dq,GS,aN,Lib.cF,aM,au,Lib.dZ,C8 GS,C9 GS,Qr GS,Qs GS,bu,bE,B.1,B.2,C.1,C.2,D.1,D.2,room,sn,show kB (el q.fe n)=⟨(el q.fe n).k,(el q.fe n).st,(el q.fe n).li,(el q.fe n).t⟩from rfl]
end V4

namespace V5
open Lib (rr rs re rf rc Px el)
open gn (sP BU told iQ nV iN xU)
theorem ok(p:Px)(f:aw)(hp:p.Fit 1048576):c p.now (re p.en) (rs p.w) (rs p.m) (rr p.s) p.a (rf p.fe) (rc p.cl) p.hits f=ai/\v p.now (re p.en) (rs p.w) (rs p.m) (rr p.s) p.a (rf p.fe) (rc p.cl) p.hits f=(p.now,re p.en,rs p.w,rs p.m,rr p.s,p.a,rf (BU p f).1.fe,rc (BU p f).1.cl,p.hits,(BU p f).2):=by
 have h1:=iL.ok p hp;have h2:=uT.ok p f hp;have hf:=hp.fe;have hc:=hp.cl;refine out _ _ _ _ _ _ _ _ _ _ ?_;unfold vo b BU;simp only[Lib.lt,h1.1,h1.2,h2.1,h2.2,au];unfold sP;cases cf:qi.jd p&&decide (0<=f/\f<=(p.fe.length:aw)-1)with
 |false=>rw[<-nL,cf];rfl
 |true=>
  rw[<-nL,cf,bh];rw[aL,bc]at cf;obtain⟨n,rfl⟩:∃n:aF,f=(n:aw):=⟨f.toNat,by omega⟩
  have hn:n<p.fe.length:=by omega
  simp only[a_,ax,au,Lib.cF,Lib.dq,dL,hn,aN,aM,Lib.dZ,zQ hn,bE];cases hs:decide ((el p.fe n).sta=1)with
  |false=>rw[show((el p.fe n).sta !=1)= !decide ((el p.fe n).sta=1)from rfl,hs];rfl
  |true=>
   have e1:=xU p.fe n 2 [CV.i ao 3] {el p.fe n with sta:=3} hn rfl;have GS:n<(p.fe.set n {el p.fe n with sta:=3}).length:=by rw[cB];exact hn
   have h3:=vL.ok {p with fe:=p.fe.set n {el p.fe n with sta:=3}} n 3 GS (by rw[cB];omega) (by dsimp only;omega);dsimp only at h3;rw[iN hn]at h3;rw[show((el p.fe n).sta !=1)= !decide ((el p.fe n).sta=1)from rfl,hs];simp only[a_,ax,au,e1,h3.1,h3.2];rfl
end V5

namespace Dv
open Lib (rr rs re rf rc Px)
open qF (tm later)
theorem md(n:aw):Ay.c n 1000=ai/\Ay.v n 1000=n%1000:=by
 refine Ay.out _ _ ?_;unfold Ay.vo Ay.b;have t:=tm n;rw[show(!decide ((1000:aw)=0))=ai from rfl,au,au];congr 1;by_cases hn:cO n 1000<0
 ·have e:=t.2 hn;rw[e,dj (x:=n%1000) (by omega) (by omega),ig (by omega)];omega
 ·have e:=t.1 (by omega);rw[e,dj (x:=n%1000+1000) (by omega) (by omega),ig (by omega)];omega
theorem ok(p:Px)(n:aw)(hp:p.Fit 1048576):c p.now (re p.en) (rs p.w) (rs p.m) (rr p.s) p.a (rf p.fe) (rc p.cl) p.hits n=ai/\v p.now (re p.en) (rs p.w) (rs p.m) (rr p.s) p.a (rf p.fe) (rc p.cl) p.hits n=((qF.val p n).now,re p.en,rs p.w,rs p.m,rr p.s,p.a,rf p.fe,rc p.cl,p.hits):=by have h:=iL.ok p hp;have hm:=md n;refine out _ _ _ _ _ _ _ _ _ _ ?_;unfold vo b qF.val later;simp only[Lib.lt,h.1,h.2,hm.1,hm.2,au];rw[dj (x:=1000000000-n%1000) (by omega) (by omega)];cases decide (p.now>1000000000-n%1000)<;>rfl
end Dv

namespace nh
def p(s:aQ)(k:aw)(i:aF):aW:=decide (bE (ar s i 0)=k)
theorem ok(d:aQ)(n:aw)(hl:d.length<=4294967296):c d n=ai/\v d n=Lib.fi (p d n) d.length 0:=by
 refine out d n ?_;unfold vo b;refine mT (p d n) d.length (λm (i:aF)=>l2 Lib.cZ (λ(_:aQ) (_:aw) (y7 _ _:aw)=>ah y7) (λ(_:aQ) (_:aw) (_ _ _:aw)=>ah (-1)) m d n 0 (d.length:aw) (i:aw)) ah (λm i hi hp=> ?_) (λm i hi hp=> ?_) (λm=> ?_) Lib.cZ (cS (by omega))
 ·unfold p at hp;simp only[l2,r2,Lib.dq,Lib.cF,Lib.dZ,hi,aN,aM,au,Az.v,hp]
 ·unfold p at hp;simp only[l2,r2,Lib.dq,Lib.cF,Lib.dZ,hi,aN,aM,au,Az.v,hp,ax,Lib.c6 hi (by omega:d.length<=9223372036854775807)]
 ·simp only[l2,r2,Lib.dq,bm,bj,ax]
end nh

namespace wD
def cn(y:aA CV):aW:=match y with|[.i .i64 _, .s _, .i .i64 _, .i .i64 _, .i .i64 _, .s _, .i .i64 _]=>ai|_=>ak
def cr(y:aA CV):aA CV:=[CV.i ao (bE (y.getD 0 (.b ak))),CV.s (bu (y.getD 1 (.b ak))),CV.i ao (bE (y.getD 2 (.b ak))),CV.i ao (bE (y.getD 3 (.b ak))),CV.i ao (bE (y.getD 4 (.b ak))),CV.s (bu (y.getD 5 (.b ak))),CV.i ao (bE (y.getD 6 (.b ak)))]
theorem tl{y:aA CV}(h:cn y=ai):cr y=y:=by
 unfold cn at h;split at h
 ·rfl
 ·cases h
theorem mo{y:aA CV}(h:cn y=ai):y.length=7:=by rw[<-tl h];rfl
def keep(d:aw)(y:aA CV):aW:= !decide (bE (y.getD 0 (.b ak))=d)
theorem il(d:aw){s:aQ}{i:aF}(h:i<s.length):(s.take (i+1)).filter (keep d)=(s.take i).filter (keep d)++(bif keep d s[i]then [s[i]]else []):=by rw[cE h,ij];cases hk:keep d s[i]<;>simp[hk]
theorem run(N:aF)(s0:aQ)(d:aw)(hc:s0.all cn=ai)(hn:s0.length<=9223372036854775807)(K:aw->aw->aw->aQ->az R)(kr:aQ->az R)
  (hK:∀(j:aF) x,x.length=s0.length->j<=s0.length->K d j s0.length x=kr (x.take j)) (m j i:aF) (x:aQ)
  (hi:j<i/\i<=s0.length/\x.length=s0.length/\(∀y∈x,y.length=7)/\x.take j=(s0.take i).filter (keep d)/\x.drop i=s0.drop i) (hm:s0.length-i<m):
  l5 N K m d j i x=kr (s0.filter (keep d)):=by
 have KQ:∀y∈s0,cn y=true:=bn.1 hc
 refine Lib.gV (λm (s:aF×aF×aQ)=>l5 N K m d s.1 s.2.1 s.2.2) (λs=>s0.length-s.2.1)
  (λs=>s.1<s.2.1/\s.2.1<=s0.length/\s.2.2.length=s0.length/\(∀y∈s.2.2,y.length=7)/\s.2.2.take s.1=(s0.take s.2.1).filter (keep d)/\s.2.2.drop s.2.1=s0.drop s.2.1)
  (λ_=>kr (s0.filter (keep d))) (λm s hs=> ?_) m (j,i,x) hi hm
 obtain⟨j,i,x⟩:=s;obtain⟨h1,h2,h3,h4,h5,h6⟩:=hs;simp only at h1 h2 h3 h4 h5 h6⊢;by_cases gq:i<s0.length
 ·right;have ou:i<x.length:=by omega
  have GR:j<x.length:=by omega
  have hx:x[i]=s0[i]:=by have e1:=Lib.eF ou;have e2:=Lib.eF gq;rw[h6,e2]at e1;exact(kj e1).1.symm
  have hd:x.drop (i+1)=s0.drop (i+1):=by have e1:=Lib.eF ou;have e2:=Lib.eF gq;rw[h6,e2]at e1;exact(kj e1).2.symm
  have KS:=KQ _ (bB gq);have hf:=il d gq;cases hk:keep d s0[i]with
  |true=>
   refine⟨(j+1,i+1,x.set j s0[i]), ?_,by simp only;omega,trivial, ?_⟩
   ·rw[hk,au,<-h5]at hf;refine⟨by simp only;omega,by simp only;omega,by simpa using h3, ?_, ?_, ?_⟩
    ·intro y hy;rcases jG hy with h|h
     ·exact h4 y h
     ·rw[h];exact mo KS
    ·rw[hf];rw[cE (by simpa using GR)];simp[wA]
    ·simp only;rw[wz (by omega)];exact hd
   ·have e:Az.v (bE (ar x i 0)) (bu (ar x i 1)) (bE (ar x i (1+1))) (bE (ar x i (1+1+1))) (bE (ar x i (1+1+1+1))) (bu (ar x i (1+1+1+1+1))) (bE (ar x i (1+1+1+1+1+1))) d=false:=by
     have:(!Az.v (bE (ar x i 0)) (bu (ar x i 1)) (bE (ar x i (1+1))) (bE (ar x i (1+1+1))) (bE (ar x i (1+1+1+1))) (bu (ar x i (1+1+1+1+1))) (bE (ar x i (1+1+1+1+1+1))) d)=true:=by rw[Lib.cG ou,hx];exact hk
     simpa using this
    have es:eD x j 0 [CV.i ao (bE (ar x i 0)),CV.s (bu (ar x i 1)),CV.i ao (bE (ar x i (1+1))),CV.i ao (bE (ar x i (1+1+1))),CV.i ao (bE (ar x i (1+1+1+1))),CV.s (bu (ar x i (1+1+1+1+1))),CV.i ao (bE (ar x i (1+1+1+1+1+1)))]=x.set j s0[i]:=by
     have hl:=h4 _ (bB GR);rw[Lib.Bn GR,Lib.cG ou,Lib.cG ou,Lib.cG ou,Lib.cG ou,Lib.cG ou,Lib.cG ou,Lib.cG ou,hx];have:iD x[j] 0 (cr s0[i])=s0[i]:=by rw[tl KS];unfold iD;have:=mo KS;simp[hl,this,gO]
     unfold cr at this;rw[this]
    have b1:(j:aw)<(x.length:aw):=by omega
    simp only[l5,r5,Lib.dq,Lib.cF,Lib.dZ,ou,GR,aN,bh,au,e,bR,es,Lib.c6 gq hn,Lib.c6 (show j<s0.length by omega) hn]
  |false=>
   refine⟨(j,i+1,x), ?_,by simp only;omega,trivial, ?_⟩
   ·rw[hk,ax,dm,<-h5]at hf;exact⟨by simp only;omega,by simp only;omega,h3,h4,hf.symm,hd⟩
   ·have e:Az.v (bE (ar x i 0)) (bu (ar x i 1)) (bE (ar x i (1+1))) (bE (ar x i (1+1+1))) (bE (ar x i (1+1+1+1))) (bu (ar x i (1+1+1+1+1))) (bE (ar x i (1+1+1+1+1+1))) d=true:=by
     have:(!Az.v (bE (ar x i 0)) (bu (ar x i 1)) (bE (ar x i (1+1))) (bE (ar x i (1+1+1))) (bE (ar x i (1+1+1+1))) (bu (ar x i (1+1+1+1+1))) (bE (ar x i (1+1+1+1+1+1))) d)=false:=by rw[Lib.cG ou,hx];exact hk
     simpa using this
    simp only[l5,r5,Lib.dq,Lib.cF,Lib.dZ,ou,aN,bh,au,e,a_,ax,Lib.c6 gq hn]
 ·left;have:i=s0.length:=by omega
  subst this;rw[dY]at h5;have e:=hK j x h3 (by omega);rw[h5]at e;have ou:¬s0.length<x.length:=by omega
  simp only[l5,r5,Lib.dq,ou,bj,ax,e]
theorem ok(s0:aQ)(iV:aw)(hc:s0.all cn=ai)(hn:s0.length<=4294967296):c s0 iV=ai/\v s0 iV=s0.filter (keep iV):=by
 refine out s0 iV ?_;have hv:=nh.ok s0 iV hn;unfold vo b;rw[hv.1,hv.2,au];rcases Lib.pj (nh.p s0 iV) s0.length 0 with ⟨h,nT⟩|⟨k,_,Aa,hk,KU,KP⟩
 ·rw[h];have:s0.filter (keep iV)=s0:=by rw[eE];intro y hy;obtain⟨i,hi,rfl⟩:=c8 hy;have:=nT i (bI _) (by omega);unfold nh.p at this;rw[Lib.cG hi]at this;unfold keep;rw[this];rfl
  rw[this];rfl
 ·rw[hk];have DQ:k<s0.length:=by omega
  have iw:decide ((k:aw)=Kc 1)=false:=aK (by show¬(k:aw)= -1;omega);rw[iw,ax,Lib.c6 DQ (by omega)];have KQ:∀y∈s0,cn y=true:=bn.1 hc;refine run _ s0 iV hc (by omega) _ ah (λj x hx hj=> ?_) _ k (k+1) s0 ⟨by omega,by omega,rfl,λy hy=>mo (KQ y hy), ?_,rfl⟩ (cS (by omega))
  ·have b1:g9 (j:aw) (s0.length:aw) (s0.length:aw)=true:=by simp[g9];omega
   have e:gW j x++aP [Ck.i ao,Ck.s,Ck.i ao,Ck.i ao,Ck.i ao,Ck.s,Ck.i ao] (s0.length-j)++nb s0.length x=gW j x++aP [Ck.i ao,Ck.s,Ck.i ao,Ck.i ao,Ck.i ao,Ck.s,Ck.i ao] (s0.length-j):=by rw[gO (by omega),dm]
   have hl:(gW j x).length=j:=by simp;omega
   simp only[hx,Lib.dZ,b1,au,e];rw[Lib.tc (by simp[g9];omega)];unfold e8;rw[show aY 0=0 from rfl,fu,yv,o0 (by omega),jc (by omega)]
  ·rw[il iV DQ];have e1:keep iV s0[k]=false:=by unfold nh.p at KU;rw[Lib.cG DQ]at KU;unfold keep;rw[KU];rfl
   have e2:(s0.take k).filter (keep iV)=s0.take k:=by
    rw[eE];intro y hy;obtain⟨i,hi,rfl⟩:=c8 hy;have Wb:i<k:=by simp at hi;omega
    have:=KP i (bI _) Wb;unfold nh.p at this;rw[Lib.cG (by omega)]at this;rw[nt];unfold keep;rw[this];rfl
   rw[e1,e2,ax,dm]
end wD

namespace Dw
open Lib (rr rs re rf rc Px Cl)
theorem ahZ(l:aA Cl):(rc l).all wD.cn=true:=by rw[bn];intro y hy;unfold Lib.rc at hy;obtain⟨z,_,rfl⟩:=cU.1 hy;rfl
theorem aen(l:aA Cl)(id:aw):(rc l).filter (wD.keep id)=rc (l.filter λc=> !decide (c.id=id)):=by unfold Lib.rc;rw[oZ];rfl
theorem ok(p:Px)(id:aw)(hp:p.Fit 1048576):c p.now (re p.en) (rs p.w) (rs p.m) (rr p.s) p.a (rf p.fe) (rc p.cl) p.hits id=ai/\v p.now (re p.en) (rs p.w) (rs p.m) (rr p.s) p.a (rf p.fe) (rc p.cl) p.hits id=(p.now,re p.en,rs p.w,rs p.m,rr p.s,p.a,rf p.fe,rc (sZ.val p id).cl,p.hits):=by have h:=iL.ok p hp;have hc:=hp.cl;have h2:=wD.ok (rc p.cl) id (ahZ _) (by rw[eU];omega);rw[aen]at h2;exact out _ _ _ _ _ _ _ _ _ _ (by unfold vo b;simp only[Lib.lt,h.1,h.2,h2.1,h2.2,au];rfl)
end Dw

namespace AB
theorem ok(d l:aQ)(hd:d.length<=1048576)(hl:l.length<=1048576):c d l=ai/\v d l=jJ.val d l:=by
 refine out d l ?_;have k1:=ia.ok d (by omega);have k2:=uP.ok d {data:= #[ay 110,ay 101,ay 119]} (by omega);have e2:vP.val d {data:= #[ay 110,ay 101,ay 119]}=vP.val d jJ.nm:=rfl;unfold vo b jJ.val;rw[k1.1,k1.2,au];cases gK.val d with
 |false=>rfl
 |true=>
  rw[a_,ax,au];have tr:∀(K0 K1:aW->aq->aQ->aw->aw->aQ->az (aQ×aW)) (kt:aq->az (aQ×aW)) (h0:∀x i,K0 ak x l l.length i d=ah ([],ak)) (h1:∀x i,K1 ak x l l.length i d=kt x),l5 Lib.cZ K0 K1 Lib.cZ ak ⟨#[]⟩ l l.length 0 d=jJ.fin (jJ.fs l l.length 0 ⟨#[]⟩) (ah ([],ak)) kt:=by
   intro K0 K1 kt h0 h1;refine jJ.MP l hl (λm i acc=>l5 Lib.cZ K0 K1 m ak acc l l.length (i:aw) d) _ kt (λm i acc hi ha hf ho=> ?_) (λm i acc hi ho=> ?_) (λm acc=> ?_)
   ·have mA:bJ ((i:aw)+1)=((i+1:aF):aw):=dj (by omega) (by omega);have f1:=mR.ok (bu (ar l i 0)) (bE (ar l i 1)) (bE (ar l i (1+1))) (bu (ar l i (1+1+1)));have f2:mR.val (bu (ar l i 0)) (bE (ar l i 1)) (bE (ar l i (1+1))) (bu (ar l i (1+1+1)))=(fH.fr (jJ.tx l i),ai):=by unfold mR.val;exact bz ho
    simp only[l5,r5,Lib.dq,Lib.cF,Lib.dZ,hi,aN,aM,au,ax,f1.1,f1.2,f2,a_,aE (show acc.size+(fH.fr (jJ.tx l i)).size<=4611686018427387904 by omega),mA]
   ·have f1:=mR.ok (bu (ar l i 0)) (bE (ar l i 1)) (bE (ar l i (1+1))) (bu (ar l i (1+1+1)));have f2:mR.val (bu (ar l i 0)) (bE (ar l i 1)) (bE (ar l i (1+1))) (bu (ar l i (1+1+1)))=(⟨#[]⟩,ak):=by unfold mR.val;rw[bH (by intro h;have h':jJ.eo l i=true:=h;rw[ho]at h';cases h')]
    simp only[l5,r5,Lib.dq,Lib.cF,Lib.dZ,hi,aN,aM,au,f1.1,f1.2,f2,bR];exact h0 acc i
   ·simp only[l5,r5,Lib.dq,bm,bj,ax];exact h1 acc _
  refine(tr _ _ (λx=>ah (jJ.j8 (vP.val d jJ.nm).2 x,ai)) (λ_ _=>rfl) (λx _=> ?_)).trans ?_
  ·rw[k2.1,au,k2.2,e2];cases (vP.val d jJ.nm).2<;>rfl
  ·cases jJ.fs l l.length 0 ⟨#[]⟩<;>rfl
end AB

namespace P_
open Lib (rr rs re rf rc Px En el oM qx qy qz)
open fS (qp qm one tC xO zp p0)
theorem ok(now:aw)(l:aA En)(hl:l.length<=1048576):
  c now (re l)=ai/\v now (re l)=(now,re (qp now l).en,rs (qp now l).w,rs (qp now l).m,rr (qp now l).s,(qp now l).a,[],[],0):=by
 refine out _ _ ?_;unfold vo b;rw[dy];have key:=ma l.length (λn (i:aF) (p:Px)=>l4 Lib.cZ (λ(_:aw) (_:aQ) (_ _ _ _ _ Wp Qu Qv:aw) (HR Qw Qx Qy Qz P0:aQ)=>ah (Wp,HR,Qw,Qx,Qy,Qu,Qz,P0,Qv)) n now (re l) (l.length:aw) (i:aw) 0 0 0 now p.a 0 (re p.en) (rs p.w) (rs p.m) (rr p.s) [] []) (λi=>qp now (l.take i)) (ah (now,re (qp now l).en,rs (qp now l).w,rs (qp now l).m,rr (qp now l).s,(qp now l).a,[],[],0)) (λn i hi=>by
  have I:=tC now l i (by omega);have hs:=xO now l i hi;generalize qp now (l.take i)=p at I hs;rw[hs];unfold one;have hw:bJ ((i:aw)+1)=((i+1:aF):aw):=Lib.c6 hi (by omega);cases hf:qm (el l i) now with
  |false=>have ve:Gl.v (el l i).k (el l i).st (el l i).li (el l i).bo now=false:=hf;simp only[l4,r4,dy,Lib.dq,hi,aN,Lib.cF,aM,au,Lib.dZ,oM hi,qx hi,qy hi,qz hi,bu,bE,ve,ax,hw]
  |true=>have ve:Gl.v (el l i).k (el l i).st (el l i).li (el l i).bo now=true:=hf;have hk:=(m8.D0 (zp hf)).1;have h4:=Ox.ok p (el l i) [] [] (I.fit (by omega) (by omega)) I.so (by omega);rw[I.now,I.hits]at h4;simp only[l4,r4,Lib.lt,dy,Lib.dq,hi,aN,Lib.cF,aM,au,Lib.dZ,oM hi,qx hi,qy hi,qz hi,bu,bE,ve,h4.1,h4.2,hw]) (λn=>by
  simp only[l4,r4,Lib.dq,bm,bj,ax,dY]) Lib.cZ 0 (bI _) (cS (by omega))
 exact key
end P_

namespace Av
open Lib (rr rs re rf rc rd Px En el oM qx qy qz)
open gF (Wo Ev zn kC)
open kD (dk es)
open ie (s8)
open fT (ri vQ tP ki)
theorem walk(N:aF)(L:aA En)(hL:L.length<=1048576)(hN:L.length<N)(K0:aw->aw->aw->aw->aw->aQ->aQ->aQ->aQ->aQ->aQ->aQ->aQ->aQ->aQ->aQ->az R)(now a5 a8:aw)(q1 q2 q3 q4 q6 q7 q9 DZ Zf:aQ):
  l3 N K0 N (L.length:aw) 0 now a5 a8 (re []) (re L) q1 q2 q3 q4 q6 q7 q9 DZ Zf=K0 (L.length:aw) (L.length:aw) now a5 a8 (re (L.filter λe=>fS.qm e now)) (re L) q1 q2 q3 q4 q6 q7 q9 DZ Zf:=by
 have hw:∀i,i<L.length->bJ ((i:aw)+1)=((i+1:aF):aw):=λi h=>Lib.c6 h (by omega)
 have key:=B_ L (λe=>fS.qm e now) (λm (i:aF) acc=>l3 N K0 m (L.length:aw) (i:aw) now a5 a8 (re acc) (re L) q1 q2 q3 q4 q6 q7 q9 DZ Zf) (λacc=>K0 (L.length:aw) (L.length:aw) now a5 a8 (re acc) (re L) q1 q2 q3 q4 q6 q7 q9 DZ Zf) []
  (λm i acc hi ha hp=>by rw[<-eH hi]at hp⊢;unfold fS.qm at hp;simp only[l3,r3,dy,Lib.dq,hi,aN,Lib.cF,aM,au,Lib.dZ,oM hi,qx hi,qy hi,qz hi,bu,bE,hp,hw i hi,fT.nH,fT.tP];rw[Lib.cq (by simp at ha;omega) (by simp at ha;omega),au])
  (λm i acc hi hp=>by rw[<-eH hi]at hp;unfold fS.qm at hp;simp only[l3,r3,dy,Lib.dq,hi,aN,Lib.cF,aM,au,Lib.dZ,oM hi,qx hi,qy hi,qz hi,bu,bE,hp,hw i hi,ax])
  (λm acc=>by simp only[l3,r3,Lib.dq,bm,bj,ax])
  N hN
 exact key
theorem ok{i:aF}{w:Wo}(h:s8 i w)(hi:i<=71)(left:aQ):c w.p.now (re w.p.en) (rs w.p.w) (rs w.p.m) (rr w.p.s) w.p.a (rf w.p.fe) (rc w.p.cl) w.p.hits (rd (dk w.o)) (ri w.cd) (re w.bd) left=ai/\v w.p.now (re w.p.en) (rs w.p.w) (rs w.p.m) (rr w.p.s) w.p.a (rf w.p.fe) (rc w.p.cl) w.p.hits (rd (dk w.o)) (ri w.cd) (re w.bd) left=vQ (zn w):=by
 refine out _ _ _ _ _ _ _ _ _ _ _ _ _ ?_;have Wc:=h.tx hi;have hlen:=h.len hi;have hdl:=kD.GC w.o;have A:=wE.ok (dk w.o) left (by omega);rw[kD.W5 (by omega) left,show rF.res (ah (dk w.o))=(rd (dk w.o),ai)from rfl]at A;have B:=(kD.aap (o:=w.o) (by omega) h.eo).1;have DQ:=iF.K7 (es w.o);have hf:=ie.GM h.eo;have M_:=ie.Cd w;have htf:=ie.Vy _ hf;have C:=AB.ok (rd (dk w.o)) (re (kC w)) (by rw[eA];omega) (by rw[dy];omega);rw[kD.aao (by omega) hf]at C;have D:=vK.ok (dk w.o) (pN.s9 (iF.tx (kC w))) (by omega) (by unfold pN.s9;simp) (λx hx=>by
  unfold pN.s9 at hx;simp only[cy,gA,or_false]at hx;rcases hx with rfl|rfl|rfl
  ·show(iF.tx (kC w)).size<=_;omega
  ·exact bI _
  ·exact bI _)
 rw[kD.MS (by omega) (by omega)]at D;have E:=P_.ok w.p.now (kC w) (by omega);unfold vo;generalize hN:Lib.cZ=N;have jy:(iF.kp (es w.o)).length<N:=by rw[<-hN];exact cS (by omega)
 clear hN;unfold b;rw[A.1,au,A.2,fT.lt_eq];show(bif U61.c (rd (dk w.o))then Lib.lt (U61.v (rd (dk w.o))) _ else aj)=_;rw[B.1,au,B.2,fT.lt_eq,dy,show aP [Ck.s,Ck.i ao,Ck.i ao,Ck.s] 0=re []from rfl,walk N (iF.kp (es w.o)) (by omega) jy];have e:((kpp:aA En)->kpp=iF.kp (es w.o)->kpp.filter (λe=>fS.qm e w.p.now)=kC w):=λ_ h=>by subst h;rfl
 rw[e _ rfl];simp only[fT.lt_eq,C.1,C.2,D.1,D.2,E.1,E.2,au];have hinv:=fS.tC w.p.now (kC w) (kC w).length (cD _);rw[dY]at hinv;unfold vQ zn;dsimp only;rw[hinv.now,hinv.fe,hinv.cl,hinv.hits];rfl
end Av

namespace VZ
open Lib (rr rs re rf rc rd Px En el)
open gF (Wo Ev closed zn kC iO flag)
open kD (dk es)
open ie (s8)
open fT (ri vQ tP ki)
theorem fl(b:aW):Gg.v b=flag b:=by cases b<;>rfl
theorem ok{i:aF}{w:Wo}{e:Ev}(h:s8 i w)(hi:i<=71)(he:iO e=ai):c w.p.now (re w.p.en) (rs w.p.w) (rs w.p.m) (rr w.p.s) w.p.a (rf w.p.fe) (rc w.p.cl) w.p.hits (rd (dk w.o)) (ri w.cd) (re w.bd) e.k e.id e.t e.n e.l=ai/\v w.p.now (re w.p.en) (rs w.p.w) (rs w.p.m) (rr w.p.s) w.p.a (rf w.p.fe) (rc w.p.cl) w.p.hits (rd (dk w.o)) (ri w.cd) (re w.bd) e.k e.id e.t e.n e.l=((gF.act w e).2,vQ (gF.act w e).1):=by
 unfold iO at he;simp only[aL,bc]at he;obtain⟨hk,IV,ht,hn,hl⟩:=he;have hp:=ki h.px;refine out _ _ _ _ _ _ _ _ _ _ _ _ _ _ _ _ _ ?_;unfold vo b gF.act;by_cases k1:e.k=1
 ·rw[aE k1,au];have A:=RS.ok w.p e.id e.t hp (by omega);rw[A.1,au,A.2,fT.lt_eq];try rfl
 rw[aK k1,ax,ax];by_cases k2:e.k=2
 ·rw[aE k2,au];have A:=V3.ok w.p e.id e.t hp;rw[A.1,au,A.2,fT.lt_eq,fl];unfold vQ gn.CL;cases gn.sP w.p e.id&&(decide (1<=e.t.size/\e.t.size<=40)&&decide ((el w.p.fe e.id.toNat).t.size+e.t.size<=400))<;>rfl
 rw[aK k2,ax,ax];by_cases k3:e.k=3
 ·rw[aE k3,au,ig hn];have A:=V4.ok h hi e.id (e.n%1000000) (by omega);rw[A.1,au,A.2,fT.lt_eq,fl];try rfl
 rw[aK k3,ax,ax];by_cases k4:e.k=4
 ·rw[aE k4,au];have A:=V5.ok w.p e.id hp;rw[A.1,au,A.2,fT.lt_eq,fl];unfold vQ gn.BU;cases gn.sP w.p e.id<;>rfl
 rw[aK k4,ax,ax];by_cases k5:e.k=5
 ·rw[aE k5,au];have A:=Dv.ok w.p e.n hp;rw[A.1,au,A.2,fT.lt_eq];try rfl
 rw[aK k5,ax,ax];by_cases k6:e.k=6
 ·rw[aE k6,au];have A:=Dw.ok w.p e.id hp;have B:=zh.ok w.p.now (re w.p.en) (rs w.p.w) (rs w.p.m) (rr w.p.s) w.p.a (rf w.p.fe) w.p.cl w.p.hits e.id hp.cl;rw[B.1,au,fT.lt_eq,A.1,au,A.2,fT.lt_eq,fl,B.2];try rfl
 rw[aK k6,ax,ax];have A:=Av.ok h hi e.l;rw[A.1,au,A.2,fT.lt_eq];try rfl
end VZ

namespace MH
open Lib (rr rs re rf rc rd Px En el)
open gF (Wo Ev iO)
open kD (dk es)
open ie (s8)
open fT (ri vQ)
open p8 (rv tO wv0 wv1 wv2 wv3 wv4 run Ly CT IL life W13 Cf)
theorem chk(N n:aF)(l:aA Ev)(hl:l.length<=1048576)(hn:l.length<n)(K0 K1:aQ->aW->aQ->aw->aw->aw->aw->aw->az R)(kf:az R)(hK:∀i:aw,K0 (rv l) ak (rv l) (l.length:aw) i 0 0 0=kf):
  l4 N K0 K1 n (rv l) ak (rv l) (l.length:aw) 0 0 0 0=bif(cw l.length).all λi=>iO (el l i)then K1 (rv l) ak (rv l) (l.length:aw) (l.length:aw) 0 0 0 else kf:=by
 have hw:∀i,i<l.length->bJ ((i:aw)+1)=((i+1:aF):aw):=λi h=>Lib.c6 h (by omega)
 have key:=jl (λi=>iO (el l i)) l.length (λm (i:aF)=>l4 N K0 K1 m (rv l) ak (rv l) (l.length:aw) (i:aw) 0 0 0) kf (K1 (rv l) ak (rv l) (l.length:aw) (l.length:aw) 0 0 0)
  (λm i hi hp=>by simp only[l4,r4,tO,Lib.dq,hi,aN,Lib.cF,aM,au,Lib.dZ,wv0 hi,wv1 hi,wv2 hi,wv3 hi,wv4 hi,bE,bu,jv,p8.Nz,hp,a_,ax,hw i hi])
  (λm i hi hp=>by simp only[l4,r4,tO,Lib.dq,hi,aN,Lib.cF,aM,au,Lib.dZ,wv0 hi,wv1 hi,wv2 hi,wv3 hi,wv4 hi,bE,bu,jv,p8.Nz,hp,bR,hK])
  (λm=>by simp only[l4,r4,Lib.dq,bm,bj,ax]) n hn
 exact key
theorem go(N:aF)(l:aA Ev)(hl:l.length<=70)(he:∀e∈l,iO e=ai)(K:aQ->aw->aw->aw->aw->aw->aw->aw->aw->aQ->aQ->aQ->aQ->aQ->aQ->aQ->aQ->aQ->az R):∀(d i n:aF) (w:Wo),w=run (l.take i)->l.length-i<=d->i<=l.length->d<n->
  Pc N K n (rv l) (l.length:aw) (i:aw) 0 0 0 w.p.now w.p.a w.p.hits (re w.p.en) (rs w.p.w) (rs w.p.m) (rr w.p.s) (rf w.p.fe) (rc w.p.cl) (rd (dk w.o)) (ri w.cd) (re w.bd)=K (rv l) (l.length:aw) (l.length:aw) 0 0 0 (run l).p.now (run l).p.a (run l).p.hits (re (run l).p.en) (rs (run l).p.w) (rs (run l).p.m) (rr (run l).p.s) (rf (run l).p.fe) (rc (run l).p.cl) (rd (dk (run l).o)) (ri (run l).cd) (re (run l).bd):=by
 have fin:∀(n:aF) (w:Wo),w=run (l.take l.length)->Pc N K (n+1) (rv l) (l.length:aw) (l.length:aw) 0 0 0 w.p.now w.p.a w.p.hits (re w.p.en) (rs w.p.w) (rs w.p.m) (rr w.p.s) (rf w.p.fe) (rc w.p.cl) (rd (dk w.o)) (ri w.cd) (re w.bd)=K (rv l) (l.length:aw) (l.length:aw) 0 0 0 (run l).p.now (run l).p.a (run l).p.hits (re (run l).p.en) (rs (run l).p.w) (rs (run l).p.m) (rr (run l).p.s) (rf (run l).p.fe) (rc (run l).p.cl) (rd (dk (run l).o)) (ri (run l).cd) (re (run l).bd):=by intro n w hw;rw[dY]at hw;subst hw;simp only[Pc,Ag,Lib.dq,bm,bj,ax]
 intro d;induction d with
 |zero=>
  intro i n w hw h1 h2 h3;obtain⟨n,rfl⟩:∃m,n=m+1:=⟨n-1,by omega⟩
  have:i=l.length:=by omega
  subst this;exact fin n w hw
 |succ d ih=>
  intro i n w hw h1 h2 h3;obtain⟨n,rfl⟩:∃m,n=m+1:=⟨n-1,by omega⟩
  by_cases hi:i<l.length
  ·have hW:s8 i w:=by rw[hw];exact Ly he i h2
   have hE:=he _ (kh hi);have A:=VZ.ok hW (by omega) hE;have hcd:=hW.cd;have e1:(gF.act w (el l i)).1.cd=w.cd:=JU.RU w _;have rm:cC ((ri w.cd).length+(aD (aP [Ck.i ao] 1) 0 [CV.i ao (gF.act w (el l i)).2]).length) 8=true:=by rw[fT.gP,fT.nH];exact Lib.cq (by omega) (by omega)
   have nx:=ih (i+1) n (gF.step w (el l i)) (by rw[CT l i hi,hw]) (by omega) hi (by omega);refine Eq.trans ?_ nx;have arX:bJ ((i:aw)+1)=((i+1:aF):aw):=Lib.c6 hi (by omega);simp only[Pc,Ag,tO,Lib.dq,hi,aN,Lib.cF,aM,au,Lib.dZ,wv0 hi,wv1 hi,wv2 hi,wv3 hi,wv4 hi,bE,bu,jv,arX];rw[A.1,au,A.2,fT.lt_eq];unfold vQ;dsimp only;rw[e1,rm,au,fT.ab9];rfl
  ·have:i=l.length:=by omega
   subst this;exact fin n w hw
theorem ok(l:aA Ev)(hl:l.length<=1048576):c (rv l)=ai/\v (rv l)=life l:=by
 refine out _ ?_;unfold vo;generalize hN:Lib.cZ=N;have jy:l.length<N:=by rw[<-hN];exact cS (by omega)
 clear hN;unfold b life IL;rw[tO];by_cases h:l.length<=70
 ·rw[aE h,bh,aK (show¬(l.length:aw)>70 by omega),ax];rw[chk N N l hl jy _ _ (ah (0,[],[],[],[],0,[],[],0,[],[],[],ak)) (λ_=>rfl)];cases ha:(cw l.length).all λi=>iO (el l i)with
  |false=>rfl
  |true=>have he:∀e∈l,iO e=true:=(Cf.1 (by unfold IL;rw[ha,aE h];rfl)).2;rw[au,au];simp only[tO];exact(go N l h he _ l.length 0 N p8.w0 rfl (by omega) (by omega) jy).trans rfl
 ·rw[aK h,lE,aE (show(l.length:aw)>70 by omega),au,ax]
end MH

namespace DE
theorem ok(a0 a1:aq):c a0 a1=ai/\v a0 a1=i_.bg a0 a1:=by
 refine out _ _ ?_;unfold vo b i_.bg;by_cases h:((a0.size:aF):aw)≥((a1.size:aF):aw)
 ·rw[aE h,au,show g9 0 (a1.size:aw) (a0.size:aw)=ai by simp[g9];omega,au,bh]
 ·rw[aK h,ax,lE]
end DE

namespace Dy
theorem ok(a0 a1:aq):c a0 a1=ai/\v a0 a1=i_.bg a0 a1:=by have h:=DE.ok a0 a1;exact out _ _ (by unfold vo b;rw[h.1,h.2,au])
end Dy

namespace V1
open Lib (rf C8 C9 PY)
theorem ok(a0:aw)(a1 a2 a3 a4:aQ)(a5:aw)(fe:aA Lib.Fe)(a7:aQ)(a8:aw)(x:Lib.Cl)(h1:1<=x.fe)(h2:x.fe<=fe.length)(hl:fe.length<=1048576):c a0 a1 a2 a3 a4 a5 (rf fe) a7 a8 x.id x.k x.fe x.fr x.sta x.km x.age=ai/\v a0 a1 a2 a3 a4 a5 (rf fe) a7 a8 x.id x.k x.fe x.fr x.sta x.km x.age=i_.wt (Lib.el fe (x.fe-1).toNat) x:=by
 refine out _ _ _ _ _ _ _ _ _ _ _ _ _ _ _ _ ?_;unfold vo b i_.wt;have hw:bJ (x.fe-1)=(((x.fe-1).toNat:aF):aw):=by rw[dj (by omega) (by omega)];omega
 have hi:(x.fe-1).toNat<fe.length:=by omega
 have hp:=Dy.ok;simp only[dL,aK (show¬x.fe>(fe.length:aw)by omega),ax,hw,Lib.dq,hi,aN,Lib.cF,aM,au,Lib.dZ,C8 hi,C9 hi,PY hi,bu,bE,(hp _ _).1,(hp _ _).2];generalize bZ (aC (Lib.el fe (x.fe-1).toNat).k) (aC x.k)=u;generalize bZ (aC x.km) (aC (Lib.el fe (x.fe-1).toNat).t)=u2;generalize i_.bg _ _=u3;cases u<;>cases decide (x.sta=1)<;>cases decide (x.sta=2)<;>cases decide (x.sta=3)<;>cases u2<;>cases u3<;>rfl
end V1

namespace WQ
theorem eq(bd:aQ)(i:aF)(id:aw)(k:aq)(f fr st:aw)(km:aq)(age:aw):v (bu (ar bd i 0)) (bE (ar bd i 1)) (bE (ar bd i (1+1))) (bu (ar bd i (1+1+1))) id k f fr st km age=i_.hb bd k fr km age i:=by unfold v i_.hb;cases bZ (aC (bu (ar bd i 0))) (aC k)<;>cases decide (bE (ar bd i 1)=fr)<;>cases bZ (aC (bu (ar bd i (1+1+1)))) (aC km)<;>rfl
end WQ

namespace sb
theorem ok(d:aQ)(id:aw)(k:aq)(f fr st:aw)(km:aq)(age:aw)(hl:d.length<=4294967296):c d id k f fr st km age=ai/\v d id k f fr st km age=Lib.fi (i_.hb d k fr km age) d.length 0:=by
 refine out _ _ _ _ _ _ _ _ ?_;unfold vo b;refine mT (i_.hb d k fr km age) d.length (λm (i:aF)=>l2 Lib.cZ (λ(_:aQ) (_:aw) (_:aq) (_ _ _:aw) (_:aq) (_ y _ _:aw)=>ah y) (λ(_:aQ) (_:aw) (_:aq) (_ _ _:aw) (_:aq) (_ _ _ _:aw)=>ah (-1)) m d id k f fr st km age 0 (d.length:aw) (i:aw)) ah (λm i hi hp=> ?_) (λm i hi hp=> ?_) (λm=> ?_) Lib.cZ (cS (by omega))
 ·simp only[l2,r2,Lib.dq,Lib.cF,Lib.dZ,hi,aN,aM,au,WQ.eq,hp]
 ·simp only[l2,r2,Lib.dq,Lib.cF,Lib.dZ,hi,aN,aM,au,WQ.eq,hp,ax,Lib.c6 hi (by omega:d.length<=9223372036854775807)]
 ·simp only[l2,r2,Lib.dq,bm,bj,ax]
end sb

namespace V2
theorem ok(d:aQ)(id:aw)(k:aq)(f fr st:aw)(km:aq)(age:aw)(hl:d.length<=4294967296):c d id k f fr st km age=ai/\v d id k f fr st km age=i_.has d k fr km age:=by have h:=sb.ok d id k f fr st km age hl;exact out _ _ _ _ _ _ _ _ (by unfold vo b;rw[h.1,h.2,au];rfl)
end V2

namespace Qa
open Lib (rf rc el LW Wi Ob Wj PW PX Wk)
theorem ok(i0:aw)(p1 p2 p3 p4:aQ)(i5:aw)(fe:aA Lib.Fe)(cl:aA Lib.Cl)(i8:aw)(p9 Y9 bd:aQ)(hc:∀i,i<cl.length->0<=(el cl i).fe/\(el cl i).fe<=fe.length)(hl:fe.length<=1048576)(oU:cl.length<=1048576)(hbd:bd.length<=1048576):c i0 p1 p2 p3 p4 i5 (rf fe) (rc cl) i8 p9 Y9 bd=ai/\v i0 p1 p2 p3 p4 i5 (rf fe) (rc cl) i8 p9 Y9 bd=i_.Sx fe cl bd:=by
 refine out _ _ _ _ _ _ _ _ _ _ _ _ ?_;unfold vo b;have hw:∀i,i<cl.length->bJ ((i:aw)+1)=((i+1:aF):aw):=λi h=>Lib.c6 h (by omega);have hk:=λi hi h1=>V1.ok i0 p1 p2 p3 p4 i5 fe (rc cl) i8 (el cl i) h1 (hc i hi).2 hl;have hs:=λi=>V2.ok bd (el cl i).id (el cl i).k (el cl i).fe (el cl i).fr (el cl i).sta (el cl i).km (el cl i).age (by omega);have st:∀(m i:aF) (hi:i<cl.length),l2 Lib.cZ (λ(HQ:aW) (_:aQ) (_ _ _:aw) (_ _ _ _:aQ) (_:aw) (_ _:aQ) (_:aw) (_ _ _:aQ)=>ah HQ) (λ(_:aW) (_:aQ) (_ _ _:aw) (_ _ _ _:aQ) (_:aw) (_ _:aQ) (_:aw) (_ _ _:aQ)=>ah ai) (m+1) ak (rc cl) (cl.length:aw) (i:aw) i0 p1 p2 p3 p4 i5 (rf fe) (rc cl) i8 p9 Y9 bd=bif i_.gOk fe bd (el cl i)then l2 Lib.cZ (λ(HQ:aW) (_:aQ) (_ _ _:aw) (_ _ _ _:aQ) (_:aw) (_ _:aQ) (_:aw) (_ _ _:aQ)=>ah HQ) (λ(_:aW) (_:aQ) (_ _ _:aw) (_ _ _ _:aQ) (_:aw) (_ _:aQ) (_:aw) (_ _ _:aQ)=>ah ai) m ak (rc cl) (cl.length:aw) ((i+1:aF):aw) i0 p1 p2 p3 p4 i5 (rf fe) (rc cl) i8 p9 Y9 bd else ah false:=by
  intro m i hi;unfold i_.gOk;simp only[l2,r2,eU,Lib.dq,hi,aN,Lib.cF,aM,au,Lib.dZ,LW hi,Wi hi,Ob hi,Wj hi,PW hi,PX hi,Wk hi,bu,bE,hw i hi];by_cases h:(el cl i).fe=0
  ·rw[aE h,au,aK (show¬(el cl i).fe>0 by omega),ax,(hs i).1,(hs i).2,au];cases decide ((el cl i).sta=2)<;>cases i_.has bd (el cl i).k (el cl i).fr (el cl i).km (el cl i).age<;>rfl
  ·have h1:=(hc i hi).1;rw[aK h,ax,aE (show(el cl i).fe>0 by omega),au,(hk i hi (by omega)).1,(hk i hi (by omega)).2,au];cases i_.wt (el fe ((el cl i).fe-1).toNat) (el cl i)<;>rfl
 rw[eU]
 have key:=jl (λi=>i_.gOk fe bd (el cl i)) cl.length (λm (i:aF)=>l2 Lib.cZ (λ(HQ:aW) (_:aQ) (_ _ _:aw) (_ _ _ _:aQ) (_:aw) (_ _:aQ) (_:aw) (_ _ _:aQ)=>ah HQ) (λ(_:aW) (_:aQ) (_ _ _:aw) (_ _ _ _:aQ) (_:aw) (_ _:aQ) (_:aw) (_ _ _:aQ)=>ah ai) m ak (rc cl) (cl.length:aw) (i:aw) i0 p1 p2 p3 p4 i5 (rf fe) (rc cl) i8 p9 Y9 bd) (ah ak) (ah ai)
  (λm i hi hp=>by rw[st m i hi,hp,au])
  (λm i hi hp=>by rw[st m i hi,hp,ax])
  (λm=>by simp only[l2,r2,Lib.dq,bm,bj,ax]) Lib.cZ (cS (by omega))
 refine key.trans ?_;unfold i_.Sx;cases (cw cl.length).all λi=>i_.gOk fe bd (el cl i)<;>rfl
end Qa

namespace Aw
theorem sym(s:aQ)(k:aq)(a l:aw)(t:aq)(i:aF):(bZ (aC k) (aC (bu (ar s i 0)))&&(decide (a=bE (ar s i 1))&&(decide (l=bE (ar s i (1+1)))&&(bZ (aC t) (aC (bu (ar s i (1+1+1))))&&ai))))=Gk.p s k a l t i:=by
 have e:∀{α:Type} [DecidableEq α] (x y:α),decide (x=y)=decide (y=x):=λx y=>by rw[ca];exact V6
 unfold Gk.p;rw[Lib.eM,Lib.eM,Lib.eM,Lib.eM,e k,e t,e a,e l]
theorem ok(s:aQ)(k:aq)(a l:aw)(t:aq)(hl:s.length<=4294967296):c s k a l t=ai/\v s k a l t=Lib.fi (Gk.p s k a l t) s.length 0:=by
 refine out s k a l t ?_;unfold vo b;refine mT (Gk.p s k a l t) s.length (λm (i:aF)=>l2 Lib.cZ (λ(_:aQ) (y9 _ _:aw) (_:aq) (_ _:aw) (_:aq)=>ah y9) (λ(_:aQ) (_ _ _:aw) (_:aq) (_ _:aw) (_:aq)=>ah (-1)) m s 0 (s.length:aw) (i:aw) k a l t) ah (λm i hi hp=> ?_) (λm i hi hp=> ?_) (λm=> ?_) Lib.cZ (cS (by omega))
 ·rw[<-sym]at hp;simp only[l2,r2,Lib.dq,Lib.cF,Lib.dZ,hi,aN,aM,au];rw[hp,au]
 ·rw[<-sym]at hp;simp only[l2,r2,Lib.dq,Lib.cF,Lib.dZ,hi,aN,aM,au];rw[hp,ax,Lib.c6 hi (by omega:s.length<=9223372036854775807)]
 ·simp only[l2,r2,Lib.dq,bm,bj,ax]
end Aw

namespace V0
theorem ok(s:aQ)(k:aq)(a l:aw)(t:aq)(hl:s.length<=4294967296):c s k a l t=ai/\v s k a l t=Gk.val s k a l t:=by have h:=Aw.ok s k a l t hl;exact out s k a l t (by unfold vo b;rw[h.1,h.2,au];rfl)
end V0

namespace Qb
theorem ok(i0:aw)(p1 p2 p3 p4:aQ)(i5:aw)(p6 p7:aQ)(i8:aw)(p9 Y9 p11:aQ)(hl:p1.length<=4294967296)(IZ:p11.length<=4294967296):c i0 p1 p2 p3 p4 i5 p6 p7 i8 p9 Y9 p11=ai/\v i0 p1 p2 p3 p4 i5 p6 p7 i8 p9 Y9 p11=H7.val p1 p11:=by
 refine out _ _ _ _ _ _ _ _ _ _ _ _ ?_;unfold vo b;have hw:∀i,i<p1.length->bJ ((i:aw)+1)=((i+1:aF):aw):=λi h=>Lib.c6 h (by omega);have ho:=λk a l t=>V0.ok p11 k a l t IZ
 have key:=jl (H7.q p1 p11) p1.length (λm (i:aF)=>l2 Lib.cZ (λ(HQ:aW) (_:aQ) (_ _ _:aw) (_ _ _ _:aQ) (_:aw) (_ _:aQ) (_:aw) (_ _ _:aQ)=>ah HQ) (λ(_:aW) (_:aQ) (_ _ _:aw) (_ _ _ _:aQ) (_:aw) (_ _:aQ) (_:aw) (_ _ _:aQ)=>ah ai) m ak p1 (p1.length:aw) (i:aw) i0 p1 p2 p3 p4 i5 p6 p7 i8 p9 Y9 p11) (ah ak) (ah ai)
  (λm i hi hp=>by unfold H7.q at hp;simp only[l2,r2,Lib.dq,hi,aN,Lib.cF,aM,au,Lib.dZ,(ho _ _ _ _).1,(ho _ _ _ _).2,hp,a_,ax,hw i hi])
  (λm i hi hp=>by unfold H7.q at hp;simp only[l2,r2,Lib.dq,hi,aN,Lib.cF,aM,au,Lib.dZ,(ho _ _ _ _).1,(ho _ _ _ _).2,hp,bR])
  (λm=>by simp only[l2,r2,Lib.dq,bm,bj,ax]) Lib.cZ (cS (by omega))
 refine key.trans ?_;unfold H7.val;cases (cw p1.length).all (H7.q p1 p11)<;>rfl
end Qb

namespace U7
open Lib (rr rs re rf rc rd Px En Cl Fe el)
open gF (Wo Ev iO)
open kD (dk es)
open p8 (rv run life IL W13)
open fT (ri)
open A_Post (jH)
open HU (wk Gp)
theorem walk(N:aF)(K0 K1:aW->aw->aw->aw->aw->aQ->aQ->aQ->aQ->aQ->aQ->aQ->aQ->aQ->az R)(i7 i8 i9:aw)(VD VE Fb VF:aQ)(fe:aA Fe)(cl:aA Cl)(VG Wl Wm:aQ)(bd:aA En)(hf:fe.length<=1000)(hl:cl.length<=1000)(h:∀c∈cl,Gp fe bd c):
  ∀(d i n:aF),cl.length-i<=d->i<=cl.length->d<n->
   l8 N K0 K1 n ak (i:aw) i7 i8 i9 VD VE Fb VF (rf fe) (rc cl) VG Wl Wm=K1 ak (cl.length:aw) i7 i8 i9 VD VE Fb VF (rf fe) (rc cl) VG Wl Wm:=by
 have fin:∀n:aF,l8 N K0 K1 (n+1) ak (cl.length:aw) i7 i8 i9 VD VE Fb VF (rf fe) (rc cl) VG Wl Wm=K1 ak (cl.length:aw) i7 i8 i9 VD VE Fb VF (rf fe) (rc cl) VG Wl Wm:=λn=>by simp only[l8,r8,eU,Lib.dq,bm,bj,ax]
 intro d;induction d with
 |zero=>
  intro i n h1 h2 h3;obtain⟨n,rfl⟩:∃k,n=k+1:=⟨n-1,by omega⟩
  have:i=cl.length:=by omega
  subst this;exact fin n
 |succ d ih=>
  intro i n h1 h2 h3;obtain⟨n,rfl⟩:∃k,n=k+1:=⟨n-1,by omega⟩
  by_cases hi:i<cl.length
  ·have mA:bJ ((i:aw)+1)=((i+1:aF):aw):=dj (by omega) (by omega);refine Eq.trans ?_ (ih (i+1) n (by omega) hi (by omega));have hc:=h _ (kh hi);rcases hc with ⟨g1,g2,_⟩|⟨m,g1,g2,g3,g4,_⟩
   ·have e1:bE (ar (rc cl) i (1+1))=0:=by rw[Ob hi];exact g1
    have e2:bE (ar (rc cl) i (1+1+1+1))=2:=by rw[PW hi];exact g2
    simp only[l8,r8,eU,Lib.dq,hi,aN,Lib.cF,aM,au,Lib.dZ,e1,e2,mA,show decide ((0:aw)>0)=ak from rfl,ax,show((2:aw) !=2)=ak from rfl]
   ·have e1:bE (ar (rc cl) i (1+1))=(m:aw)+1:=by rw[Ob hi];exact g1
    have e3:bu (ar (rc cl) i (1+1+1+1+1))=(el fe m).t:=by rw[PX hi];exact g4
    have e4:bu (ar (rf fe) m 1)=(el fe m).t:=by rw[C9 g2];rfl
    have hw:bJ ((m:aw)+1-1)=(m:aw):=by rw[show(m:aw)+1-1=(m:aw)by omega];exact dj (by omega) (by omega)
    have B:=VY.ok (el fe m).t (el fe m).t (cD _) yz;simp only[l8,r8,eU,dL,Lib.dq,hi,aN,Lib.cF,aM,au,Lib.dZ,e1,e3,hw,g2,e4,B.1,B.2,fT.lt_eq,a_,ax,mA,show decide ((m:aw)+1>0)=ai from aE (by omega),show decide ((m:aw)+1=0)=ak from aK (by omega)]
  ·have:i=cl.length:=by omega
   subst this;exact fin n
theorem ak5(a:aQ)(ha:vC a):vo a=ah true:=by
 have hb:∀x:aW,U8.v a=x->vo a=ah true:=λx hx=>by
  cases x with
  |true=>unfold vo b;rw[hx,au]
  |false=>
   have hlen:a.length<=1048576:=by unfold U8.v at hx;have:=oL hx;omega
   obtain⟨l,c0,v0,hl,he⟩:=U9.ok a hlen;obtain⟨el,hW,hS⟩:=ag4.runs (by omega) he;have A:=MH.ok l (by omega);rw[el]at A;have hpx:=hW.px;have M_:=hpx.fl;have oU:=hpx.cll;have hbd:=hW.bd;have hen:=(fT.ki hpx).en;have G1:=Qa.ok (run l).p.now (re (run l).p.en) (rs (run l).p.w) (rs (run l).p.m) (rr (run l).p.s) (run l).p.a (run l).p.fe (run l).p.cl (run l).p.hits (rd (dk (run l).o)) (ri (run l).cd) (re (run l).bd) (L3.cls (uI.pw.2 hpx)) (by omega) (by omega) (by rw[dy];omega);rw[Wq.km hS.cl]at G1;have G2:=H6.ok (run l).p.now (re (run l).p.en) (rs (run l).p.w) (rs (run l).p.m) (rr (run l).p.s) (run l).p.a (rf (run l).p.fe) (rc (run l).p.cl) (run l).p.hits (by rw[dL];omega);rw[Wq.one hpx.ap]at G2;have G3:=Qb.ok (run l).p.now (re (run l).p.en) (rs (run l).p.w) (rs (run l).p.m) (rr (run l).p.s) (run l).p.a (rf (run l).p.fe) (rc (run l).p.cl) (run l).p.hits (rd (dk (run l).o)) (ri (run l).cd) (re (run l).bd) (by rw[dy];omega) (by rw[dy];omega);rw[Wq.stored hS.bd]at G3;have main:jH (vo a) (λx=>x=ai):=by
    unfold vo;generalize hN:Lib.cZ=N;have hN1:6<N:=by rw[<-hN];exact cS (by omega)
    clear hN;unfold b;refine A_Post.cn hx ?_;refine A_Post.call c0 v0 ?_;refine A_Post.call A.1 A.2 ?_;refine A_Post.cn rfl ?_;refine A_Post.cn ?_ ?_
    ·show((((ri (run l).cd).length:aF):aw) !=((rv l).length:aw))=ak;rw[fT.gP,hW.cd,p8.tO];exact bne_self_eq_false _
    refine A_Post.call G1.1 G1.2 ?_;refine A_Post.cn rfl ?_;refine A_Post.call G2.1 G2.2 ?_;refine A_Post.cn rfl ?_;refine A_Post.call G3.1 G3.2 ?_;refine A_Post.cn rfl ?_;refine A_Post.eq (walk N _ _ _ _ _ _ _ _ _ (run l).p.fe (run l).p.cl _ _ _ (run l).bd (by omega) (by omega) hS.cl (run l).p.cl.length 0 N (by omega) (bI _) (by omega)) ?_;exact A_Post.ret rfl
   obtain⟨x,h1,h2⟩:=main;rw[h1,h2]
 exact hb _ rfl
theorem law(a:aQ)(ha:vC a):v a=true:=(out a (ak5 a ha)).2
theorem aul(a:aQ)(ha:vC a):c a=true:=(out a (ak5 a ha)).1
end U7

end Go.FG
