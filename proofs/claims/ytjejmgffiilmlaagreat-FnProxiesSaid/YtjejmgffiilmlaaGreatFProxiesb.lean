/- What the functions come to, in plain numbers, texts and lists; last the law itself. No condition but those that each states. -/
import Derived.Test.YtjejmgffiilmlaaGreatPProxies
import Derived.Test.YtjejmgffiilmlaaGreatFProxiesa
set_option linter.unusedVariables false
set_option linter.unusedSimpArgs false
set_option maxRecDepth 100000
open Bool renaming true->ai,not_true->aY,true_and->bj,not_false->bV,false->ak,and_self->aM,false_or->nG,and_true->o0,and_false->vp,false_and->pr,and_eq_true->aJ,false_eq_true->dg,not_eq_true'->dz,or_eq_true->dB,and_assoc->mZ
open ByteArray renaming toList->aL,empty_append->oQ,extract->bR
open Go.IntKind renaming i64->ao,u8->bg
open Go.Op renaming bytesLess->b_
open Int renaming tmod->bL,tmod_eq_emod_of_nonneg->sa,toNat_natCast->dU,toNat->aZ,neg->iT,le_refl->Gm,natCast_nonneg->o6
open List renaming set->ax,map_append->c8,length->bP,length_append->bW,length_singleton->bB,drop_length->dh,drop_eq_getElem_cons->dG,find?_cons_of_neg->IE,drop_zero->gd,length_filter_le->eH,length_take->er,take_succ_eq_append_getElem->dx,filter_append->jG,append_nil->dN,take_length->g8,nil_append->gi,append_assoc->ch,pairwise_cons->pQ,mem_of_find?_eq_some->F8,getElem_of_mem->dy,getElem_set_self->jX,length_map->bN,length_set->cm,set_set->oU,set_getElem_self->eR,find?_eq_none->Uh,mem_cons->cz,not_mem_nil->rH,any_eq_false->XZ,filter_eq_self->gK,mem_cons_self->dA,mem_cons_of_mem->cU,map_cons->eW,length_cons->cY,getElem_mem->bC
open Nat renaming lt_irrefl->bm,zero_le->bz,le_trans->c6,zero_add->bT,le_refl->cu
open Option renaming some->ah,none->aj,map_some->h_
open _root_ renaming Int->az,List->ay,ByteArray->aq,Nat->aE,cond_true->au,cond_false->aA,decide_eq_true->aF,decide_eq_false->aK,if_neg->bH,if_pos->bw,decide_true->aQ,Option->aC,Bool->aW,decide_false->bh,decide_eq_true_eq->bc,decide_eq_false_iff_not->gO,absurd->cE,of_decide_eq_true->cg,bne_self_eq_false->fC,of_decide_eq_false->nX
namespace Go.FG
open Lib (EJ all_congr jO ox AH jZ eZ zR fQ gP qM pG Dm La vT me tl cK lu rc0 rc1 rc2 rc3 rc4 rc5 rc6 eO J0 ZI ZJ gq dO dC N7 FH gg TS dZ oZ jD BQ wz od Ad H6 nE BW wB qh qi sR nZ c5 NM wd0 wd1 wd2 qo t_ ua ub H_ Gh Xm yK TT TU)
variable {R:Type}
namespace PI
open Lib (rr rs re rf rc Px Cl Fe En el)
open eT (without)
open jk (eh)
open mo (iy)
open dP (hit qR put Ik Nn Gf lh jn tX vV zU)
open gT (fK)
open ur (fX jM)
def res(q:Px×az):az×aU×aU×aU×aU×az×aU×aU×az×az:=(q.1.now,re q.1.en,rs q.1.w,rs q.1.m,rr q.1.s,q.1.a,rf q.1.fe,rc q.1.cl,q.1.hits,q.2)
theorem HX(fe:ay Fe)(key:aq):rf fe++ax (aN [Ck.s,Ck.s,Ck.i ao,Ck.i ao,Ck.i ao] 1) 0 [CV.s key,CV.s {data:= #[]},CV.i ao 1,CV.i ao 0,CV.i ao 0]=rf (fe++[tX key]):=by unfold Lib.rf;rw[c8];rfl
theorem zX{p:Px}{i:aE}(hi:i<p.en.length)(ho:fX p):bJ (p.now-(el p.en i).st)=p.now-(el p.en i).st:=by have h1:=ho.now;have h2:=(iI.Gg (ho.en _ (qM hi))).2.1;exact c5 (by omega) (by omega)
theorem ok(p:Px)(id:az)(key:aq)(hp:p.Fit 1048576)(hkz:key.size<=140737488355328):c p.now (re p.en) (rs p.w) (rs p.m) (rr p.s) p.a (rf p.fe) (rc p.cl) p.hits id key=ai/\v p.now (re p.en) (rs p.w) (rs p.m) (rr p.s) p.a (rf p.fe) (rc p.cl) p.hits id key=res (dP.ask p id key):=by
 have h1:=EH.ok p hp;have h2:=o9.ok p hp;have nM:=hp.cl;have Lk:=hp.fe;have hen:=hp.en;have Jw:iO.nh p.s:=⟨hp.s.1,hp.s.2.1⟩
 have h3:=TD.ok p.now (re p.en) (rs p.w) (rs p.m) (rr p.s) p.a (rf p.fe) p.cl p.hits id nM;refine out _ _ _ _ _ _ _ _ _ _ _ ?_;unfold vo b dP.ask;simp only[Lib.lt,h1.1,h1.2,h2.1,h2.2,au];cases b7:iy p with
 |false=>rfl
 |true=>
 have ho:fX p:=jM.1 b7;rw[aY,aA,bj,show n7.v id 1 9=decide (1<=id/\id<=9)from e7.eM _ _ _];cases Im:decide (1<=id/\id<=9)with
 |false=>rfl
 |true=>
 rw[aY,aA,bj,ou.iw];cases Yj:eh key with
 |false=>rfl
 |true=>
 have zE:=jd.j6 Yj;rw[aY,aA,bj,h3.1,au,h3.2];cases hhi:lh p.cl id with
 |true=>rfl
 |false=>
 rw[aA,bV,bj,eO];by_cases h6:p.cl.length=6
 ·rw[aF (show(p.cl.length:az)=6 by omega),au,aK (show¬p.cl.length<6 by omega)];rfl
 have hc6:=ho.cll;rw[aK (show¬(p.cl.length:az)=6 by omega),aA,aF (show p.cl.length<6 by omega),au];have h4:=vJ.ok (re p.en) key (by rw[dO];omega);have h5:=IU.ok p.now (re p.en) (rs p.w) (rs p.m) (rr p.s) p.a (rf p.fe) (rc p.cl) p.hits key (by rw[dC];omega);have h7:=MD.ok p.w p.m p.s p.a key hp.w hp.m Jw (by omega);have h8:=nI.ok p.s p.a key Jw (by omega);have h9:=Ii.ok p.w p.m p.s p.a key hp.w hp.m Jw;have NZ:=B7.ok (re p.en) key (gT.P6 _) (by rw[dO];omega);rw[gT.ET]at NZ;have Ny:=λ(i0:az) (q1 q2 q3 q4:aU) (i5:az) (q6:aU) (i8:az) (x:Cl) (hx:x.id=id)=>o_.ok i0 q1 q2 q3 q4 i5 q6 p.cl i8 x ho.cs (by rw[hx];exact hhi) nM;rw[h4.1,au,h4.2,dO];have auY:p.hits<=1000000000:=ho.hits.2;have anL:0<=p.hits:=ho.hits.1;have rP:=ho.fl;have af0:kW ak (bJ (p.hits+1)) 1000000000=bif decide (p.hits<1000000000)then p.hits+1 else p.hits:=by
  rw[c5 (by omega) (by omega)];unfold kW;rw[aA];by_cases h:p.hits<1000000000
  ·rw[aF h,au,bH (by omega)]
  ·rw[aK h,aA,bw (by omega)];omega
 have hfp:∀i (hi:i<p.fe.length),pS.p (rf p.fe) key i=Gf key p.fe[i]:=λi hi=>by unfold pS.p Gf Gs.v;rw[H_ hi,Xm hi,fQ hi];simp only[bQ,bZ,Lib.fB];cases decide (p.fe[i].k=key)<;>rfl
 have hep:∀i (hi:i<p.en.length),vJ.p (re p.en) key i=decide (p.en[i].k=key):=λi hi=>by unfold vJ.p;rw[qo hi,fQ hi];exact Lib.fB
 have wn:∀n:aE,n<=1048576->bJ ((n:az)+1)=(n:az)+1:=λn hn=>c5 (by omega) (by omega);have cN:∀(n:aE) (fe:ay Fe),n<fe.length->bQ (ar (rf fe) n 1)=(el fe n).t:=λn fe hn=>by rw[Gh hn];rfl
 have Hj:cB (p.fe.length+1) 56=true:=Lib.cC (by omega) (by omega);have dp:∀key:aq,bP (ax (aN [Ck.s,Ck.s,Ck.i ao,Ck.i ao,Ck.i ao] 1) 0 [CV.s key,CV.s {data:= #[]},CV.i ao 1,CV.i ao 0,CV.i ao 0])=1:=λ_=>rfl;rcases zU p.fe (Gf key) _ hfp with ⟨f1,_,f2⟩|⟨j,hj,f1,_,f2⟩
 ·have f2:Nn p.fe key=none:=f2;rw[dC,f1]at h5;rcases zU p.en (λe=>decide (e.k=key)) _ hep with ⟨e1,e2,_⟩|⟨i,hi,e1,e2,_⟩
  ·have e2:Ik p.en key=none:=e2;rw[e1,e2];unfold qR;rw[f2];dsimp only;by_cases UR:p.fe.length=20
   ·rw[aK (show¬p.fe.length<20 by omega)];simp only[show decide ((-1:az)≥0)=ak from rfl,aA,h5.1,h5.2,au,show decide ((-1:az)<0)=ai from rfl,dC,aF (show(p.fe.length:az)=20 by omega)];rfl
   ·have mB:=Ny p.now (re p.en) (rs p.w) (rs p.m) (rr (fg.val p.s p.a key).1) (fg.val p.s p.a key).2 (rf (p.fe++[tX key])) p.hits ⟨id,key,(p.fe.length:az)+1,0,1,(el (p.fe++[tX key]) p.fe.length).t,0⟩ rfl;dsimp only at mB;rw[aF (show p.fe.length<20 by omega)];simp only[show decide ((-1:az)≥0)=ak from rfl,aA,h5.1,h5.2,au,show decide ((-1:az)<0)=ai from rfl,dC,aK (show¬(p.fe.length:az)=20 by omega),h8.1,h8.2,dp,Hj,HX,bW,bB,Lib.eD,Lib.du,aF (show p.fe.length<p.fe.length+1 by omega),cN p.fe.length (p.fe++[tX key]) (by simp),wn _ Lk,mB.1,mB.2];rfl
  ·have e2:Ik p.en key=ah (el p.en i):=e2;rw[e1,e2];have CD:Ih.v (bQ (ar (re p.en) i 0)) (bZ (ar (re p.en) i 1)) (bZ (ar (re p.en) i (1+1))) (bQ (ar (re p.en) i (1+1+1))) p.now=vV (el p.en i) p.now:=by rw[qo hi,t_ hi,ua hi,ub hi];rfl
   have g1:bZ (ar (re p.en) i 1)=(el p.en i).st:=by rw[t_ hi];rfl
   have g3:bQ (ar (re p.en) i (1+1+1))=(el p.en i).bo:=by rw[ub hi];rfl
   dsimp only;cases TM:vV (el p.en i) p.now with
   |true=>
    have g0:bQ (ar (re p.en) i 0)=(el p.en i).k:=by rw[qo hi];rfl
    have g2:bZ (ar (re p.en) i (1+1))=(el p.en i).li:=by rw[ua hi];rfl
    have CD:Ih.v (el p.en i).k (el p.en i).st (el p.en i).li (el p.en i).bo p.now=true:=TM;have hw:=zX (p:=p) hi ho;have mB:=Ny p.now (re p.en) (rs (jd.val p.w p.m p.s p.a key).1) (rs (jd.val p.w p.m p.s p.a key).2.1) (rr (jd.val p.w p.m p.s p.a key).2.2.1) (jd.val p.w p.m p.s p.a key).2.2.2.1 (rf p.fe) p.hits ⟨id,key,0,(el p.en i).st,2,(el p.en i).bo,p.now-(el p.en i).st⟩ rfl;dsimp only at mB;simp only[aF (show((i:aE):az)≥0 by omega),Lib.cQ,Lib.du,hi,aQ,aM,au,Lib.eD,g0,g1,g2,g3,CD,h7.1,h7.2,hw,mB.1,mB.2,af0,dO];rfl
   |false=>
    rw[TM]at CD;unfold qR;rw[f2];dsimp only;by_cases UR:p.fe.length=20
    ·rw[aK (show¬p.fe.length<20 by omega)];simp only[aF (show((i:aE):az)≥0 by omega),Lib.cQ,Lib.du,hi,aQ,aM,au,aA,Lib.eD,dO,CD,h5.1,h5.2,show decide ((-1:az)<0)=ai from rfl,dC,aF (show(p.fe.length:az)=20 by omega)];rfl
    ·have mB:=Ny p.now (re (fK p.en key)) (rs (without p.w key)) (rs (without p.m key)) (rr (fg.val p.s p.a key).1) (fg.val p.s p.a key).2 (rf (p.fe++[tX key])) p.hits ⟨id,key,(p.fe.length:az)+1,0,1,(el (p.fe++[tX key]) p.fe.length).t,0⟩ rfl;dsimp only at mB;rw[aF (show p.fe.length<20 by omega)];simp only[aF (show((i:aE):az)≥0 by omega),Lib.cQ,dO,hi,aQ,aM,CD,h9.1,h9.2,NZ.1,NZ.2,aA,h5.1,h5.2,au,show decide ((-1:az)<0)=ai from rfl,dC,aK (show¬(p.fe.length:az)=20 by omega),h8.1,h8.2,dp,Hj,HX,bW,bB,Lib.eD,Lib.du,aF (show p.fe.length<p.fe.length+1 by omega),cN p.fe.length (p.fe++[tX key]) (by simp),wn _ Lk,mB.1,mB.2];rfl
 ·have f2:Nn p.fe key=ah j:=f2;rw[dC,f1]at h5;have nj:decide (((j:aE):az)<0)=false:=aK (by omega);rcases zU p.en (λe=>decide (e.k=key)) _ hep with ⟨e1,e2,_⟩|⟨i,hi,e1,e2,_⟩
  ·have e2:Ik p.en key=none:=e2;rw[e1,e2];unfold qR;rw[f2];dsimp only;have mB:=Ny p.now (re p.en) (rs p.w) (rs p.m) (rr (fg.val p.s p.a key).1) (fg.val p.s p.a key).2 (rf p.fe) p.hits ⟨id,key,(j:az)+1,0,1,(el p.fe j).t,0⟩ rfl;dsimp only at mB;simp only[show decide ((-1:az)≥0)=ak from rfl,aA,h5.1,h5.2,au,nj,dC,h8.1,h8.2,Lib.eD,Lib.cQ,Lib.du,hj,aQ,aM,cN j p.fe hj,wn j (by omega),mB.1,mB.2];rfl
  ·have e2:Ik p.en key=ah (el p.en i):=e2;rw[e1,e2];have CD:Ih.v (bQ (ar (re p.en) i 0)) (bZ (ar (re p.en) i 1)) (bZ (ar (re p.en) i (1+1))) (bQ (ar (re p.en) i (1+1+1))) p.now=vV (el p.en i) p.now:=by rw[qo hi,t_ hi,ua hi,ub hi];rfl
   have g1:bZ (ar (re p.en) i 1)=(el p.en i).st:=by rw[t_ hi];rfl
   have g3:bQ (ar (re p.en) i (1+1+1))=(el p.en i).bo:=by rw[ub hi];rfl
   dsimp only;cases TM:vV (el p.en i) p.now with
   |true=>
    have g0:bQ (ar (re p.en) i 0)=(el p.en i).k:=by rw[qo hi];rfl
    have g2:bZ (ar (re p.en) i (1+1))=(el p.en i).li:=by rw[ua hi];rfl
    have CD:Ih.v (el p.en i).k (el p.en i).st (el p.en i).li (el p.en i).bo p.now=true:=TM;have hw:=zX (p:=p) hi ho;have mB:=Ny p.now (re p.en) (rs (jd.val p.w p.m p.s p.a key).1) (rs (jd.val p.w p.m p.s p.a key).2.1) (rr (jd.val p.w p.m p.s p.a key).2.2.1) (jd.val p.w p.m p.s p.a key).2.2.2.1 (rf p.fe) p.hits ⟨id,key,0,(el p.en i).st,2,(el p.en i).bo,p.now-(el p.en i).st⟩ rfl;dsimp only at mB;simp only[aF (show((i:aE):az)≥0 by omega),Lib.cQ,Lib.du,hi,aQ,aM,au,Lib.eD,g0,g1,g2,g3,CD,h7.1,h7.2,hw,mB.1,mB.2,af0,dO];rfl
   |false=>rw[TM]at CD;unfold qR;rw[f2];dsimp only;have mB:=Ny p.now (re (fK p.en key)) (rs (without p.w key)) (rs (without p.m key)) (rr (fg.val p.s p.a key).1) (fg.val p.s p.a key).2 (rf p.fe) p.hits ⟨id,key,(j:az)+1,0,1,(el p.fe j).t,0⟩ rfl;dsimp only at mB;simp only[aF (show((i:aE):az)≥0 by omega),Lib.cQ,dO,hi,aQ,aM,CD,h9.1,h9.2,NZ.1,NZ.2,aA,h5.1,h5.2,au,nj,dC,h8.1,h8.2,Lib.eD,Lib.du,hj,cN j p.fe hj,wn j (by omega),mB.1,mB.2];rfl
end PI

namespace KR
open Lib (re el En)
open dP (Ik)
def res(o:aC En):aq×az×az×aq×aW:=match o with|some e=>(e.k,e.st,e.li,e.bo,ai)|none=>(⟨#[]⟩,0,0,⟨#[]⟩,ak)
theorem ok(now:az)(en:ay En)(q2 q3 q4:aU)(q5:az)(q6 q7:aU)(q8:az)(key:aq)(hl:en.length<=1048576):c now (re en) q2 q3 q4 q5 q6 q7 q8 key=ai/\v now (re en) q2 q3 q4 q5 q6 q7 q8 key=res (Ik en key):=by
 refine out _ _ _ _ _ _ _ _ _ _ ?_;unfold vo b Ik
 have go:∀(d i n:aE),en.length-i<=d->i<=en.length->d<n->
   l2 Lib.cW (λ(_:aq) (FV:aW) (_ _:az) (_ _ _ _:aU) (_:az) (_ _:aU) (_:az) (TX:aq) (TY TZ:az) (T0:aq)=>ah (TX,TY,TZ,T0,FV)) (λ(_:aq) (_:aW) (_ _:az) (_ _ _ _:aU) (_:az) (_ _:aU) (_:az) (_:aq) (_ _:az) (_:aq)=>ah (({data:= #[]}:aq),0,0,({data:= #[]}:aq),ak)) n key ak (i:az) now (re en) q2 q3 q4 q5 q6 q7 q8 ({data:= #[]}) 0 0 ({data:= #[]})=ah (res ((en.drop i).find? λe=>decide (e.k=key))):=by
  intro d
  induction d with
  |zero=>
   intro i n h1 h2 h3;obtain⟨n,rfl⟩:∃n',n=n'+1:=⟨n-1,by omega⟩
   have:i=en.length:=by omega
   subst this;simp only[l2,r2,dO,Lib.du,bm,bh,aA,dh];rfl
  |succ d ih=>
   intro i n h1 h2 h3;obtain⟨n,rfl⟩:∃n',n=n'+1:=⟨n-1,by omega⟩
   by_cases hi:i<en.length
   ·rw[dG hi];have g:=ih (i+1) n (by omega) hi (by omega);simp only[l2,r2,dO,Lib.du,hi,aQ,Lib.cQ,aM,au,Lib.eD,qo hi,t_ hi,ua hi,ub hi,bQ,bZ,Lib.fB,fQ hi,Lib.di hi (by omega:en.length<=9223372036854775807)];cases hk:decide (en[i].k=key)with
    |true=>rw[au,List.find?_cons_of_pos (p:=λe:En=>decide (e.k=key)) hk];rfl
    |false=>rw[aA,IE (p:=λe:En=>decide (e.k=key)) (by simp[hk])];exact g
   ·have:i=en.length:=by omega
    subst this;simp only[l2,r2,dO,Lib.du,bm,bh,aA,dh];rfl
 have:=go en.length 0 Lib.cW (by omega) (bz _) (cK (by omega));rw[gd]at this;exact this
end KR

namespace Ig
open Lib (rr rs)
open eT (without)
theorem ok(w m:ay aq)(s:ay (ay az))(a:az)(key:aq)(hw:w.length<=1048576)(hm:m.length<=1048576)(hf:iO.nh s):c (rs w) (rs m) (rr s) a key=ai/\v (rs w) (rs m) (rr s) a key=(rs (without w key),rs (without m key),rr s,a):=by have h1:=mr.ok s a hf;have h2:=ot.ok w key hw;have h3:=ot.ok m key hm;exact out _ _ _ _ _ (by unfold vo b;rw[h1.1,h1.2,h2.1,h2.2,h3.1,h3.2];rfl)
end Ig

namespace Ct
open Lib (re el qo t_ ua ub En)
open gT (fK)
theorem ok(l:ay En)(k:aq)(hl:l.length<=2097152):c (re l) k=ai/\v (re l) k=re (fK l k):=by
 refine out _ _ ?_;unfold vo b;have key:=me l.length (λn (i:aE) (x:aU)=>l3 Lib.cW (λ(_:aU) (_:aq) (_:az) (y7:aU)=>ah y7) n (re l) k (i:az) x) (λi=>re (fK (l.take i) k)) (ah (re (fK l k))) (λn i hi=>by
  have hlen:(fK (l.take i) k).length<=i:=by refine c6 (eH ..) ?_;rw[er];omega
  have e:fK (l.take (i+1)) k=fK (l.take i) k++(bif !decide ((el l i).k=k)then [el l i]else []):=by unfold fK;rw[dx hi,jG,fQ hi];cases hd:decide (l[i].k=k)<;>simp[hd]
  rw[e];simp only[l3,r3,dO,Lib.du,hi,aQ,Lib.cQ,aM,au,Lib.eD,qo hi,t_ hi,ua hi,ub hi,bQ,bZ,Lib.fB,oZ,bB,Lib.di hi (by omega:l.length<=9223372036854775807)];rw[Lib.cC (by omega) (by omega),au];cases decide ((el l i).k=k)with
  |true=>rw[aY,aA,aA,dN]
  |false=>rw[bV,au,au];unfold Lib.re;rw[c8];rfl) (λn=>by
  simp only[l3,r3,dO,Lib.du,bm,bh,aA,g8]) Lib.cW 0 (bz _) (cK (by omega))
 exact key
end Ct

namespace ug
open Lib (rc el Cl)
open dP (jn)
theorem tail(l:ay Cl)(x:Cl)(hl:l.length<=1048576)(c0:ay Cl)(hc:c0.length<=1048577):
  l9 Lib.cW (λ(_:aU) (_ _:az) (_:aq) (_ _ _:az) (_:aq) (_:az) (y:aU)=>ah y) Lib.cW (rc l) 0 x.id x.k x.fe x.fr x.sta x.got x.age (rc c0)=ah (rc (c0++l.filter λy=>decide (y.id>x.id))):=by
 refine Dm l (λy=>decide (y.id>x.id)) (λm (i:aE) acc=>l9 Lib.cW (λ(_:aU) (_ _:az) (_:aq) (_ _ _:az) (_:aq) (_:az) (y:aU)=>ah y) m (rc l) (i:az) x.id x.k x.fe x.fr x.sta x.got x.age (rc acc)) (λacc=>ah (rc acc)) c0
  (λm i acc h ha hp=> ?_) (λm i acc h hp=> ?_) (λm acc=> ?_) Lib.cW (cK (by omega))
 ·have mA:decide (l[i].id>x.id)=true:=hp;simp only[l9,r9,eO,Lib.du,h,aQ,Lib.cQ,aM,au,Lib.eD,rc0 h,rc1 h,rc2 h,rc3 h,rc4 h,rc5 h,rc6 h,bQ,bZ,mA,oZ,bB,Lib.di h (by omega:l.length<=9223372036854775807),Lib.cC (n:=acc.length+1) (b:=72) (by omega) (by omega)];unfold Lib.rc;rw[c8];rfl
 ·have mA:decide (l[i].id>x.id)=false:=hp;simp only[l9,r9,eO,Lib.du,h,aQ,Lib.cQ,aM,au,aA,Lib.eD,rc0 h,bZ,mA,Lib.di h (by omega:l.length<=9223372036854775807)]
 ·simp only[l9,r9,eO,Lib.du,bm,bh,aA]
theorem ok(l:ay Cl)(x:Cl)(hl:l.length<=1048576):c (rc l) x.id x.k x.fe x.fr x.sta x.got x.age=ai/\v (rc l) x.id x.k x.fe x.fr x.sta x.got x.age=rc (jn l x):=by
 refine out _ _ _ _ _ _ _ _ ?_;unfold vo b
 have key:=Dm l (λy=>decide (y.id<x.id))
  (λm (i:aE) acc=>l3 Lib.cW (λ(Ml:aU) (_ N9:az) (Gi:aq) (Xq Xr Tc:az) (FV:aq) (FW:az) (DR:aU)=>bif(cB (bP DR+bP (ax (aN [Ck.i ao,Ck.s,Ck.i ao,Ck.i ao,Ck.i ao,Ck.s,Ck.i ao] 1) 0 [CV.i ao N9,CV.s Gi,CV.i ao Xq,CV.i ao Xr,CV.i ao Tc,CV.s FV,CV.i ao FW])) 72)then(l9 Lib.cW (λ(_:aU) (_ _:az) (_:aq) (_ _ _:az) (_:aq) (_:az) (y39:aU)=>ah y39) Lib.cW Ml 0 N9 Gi Xq Xr Tc FV FW (DR++ax (aN [Ck.i ao,Ck.s,Ck.i ao,Ck.i ao,Ck.i ao,Ck.s,Ck.i ao] 1) 0 [CV.i ao N9,CV.s Gi,CV.i ao Xq,CV.i ao Xr,CV.i ao Tc,CV.s FV,CV.i ao FW]))else(aj)) m (rc l) (i:az) x.id x.k x.fe x.fr x.sta x.got x.age (rc acc))
  (λacc=>bif cB (acc.length+1) 72 then l9 Lib.cW (λ(_:aU) (_ _:az) (_:aq) (_ _ _:az) (_:aq) (_:az) (y:aU)=>ah y) Lib.cW (rc l) 0 x.id x.k x.fe x.fr x.sta x.got x.age (rc (acc++[x]))else aj) []
  (λm i acc h ha hp=>by
   have mA:decide (l[i].id<x.id)=true:=hp;have ha:acc.length<=i:=by simpa using ha
   simp only[l3,r3,eO,Lib.du,h,aQ,Lib.cQ,aM,au,Lib.eD,rc0 h,rc1 h,rc2 h,rc3 h,rc4 h,rc5 h,rc6 h,bQ,bZ,mA,oZ,bB,Lib.di h (by omega:l.length<=9223372036854775807),Lib.cC (n:=acc.length+1) (b:=72) (by omega) (by omega)];unfold Lib.rc;rw[c8];rfl)
  (λm i acc h hp=>by have mA:decide (l[i].id<x.id)=false:=hp;simp only[l3,r3,eO,Lib.du,h,aQ,Lib.cQ,aM,au,aA,Lib.eD,rc0 h,bZ,mA,Lib.di h (by omega:l.length<=9223372036854775807)])
  (λm acc=>by simp only[l3,r3,eO,Lib.du,bm,bh,aA,oZ,bB];unfold Lib.rc;rw[c8];rfl) Lib.cW (cK (by omega))
 refine key.trans ?_;have hf:=eH (λy:Cl=>decide (y.id<x.id)) l;rw[gi,Lib.cC (by omega) (by omega),au,tail l x hl _ (by simp;omega)];unfold jn;rw[ch]
end ug

namespace Ie
theorem eq(k:aq)(s l:az)(b:aq)(n:az):Ih.v k s l b n=Ie.v k s l b n:=Ko.eq k s l b n
end Ie

namespace U9
open Lib (rr rs re rf rc Px Cl Fe En el)
open eT (without)
open jk (eh)
open mo (iy)
open m_ (lT)
open dP (hit qR put Ik Nn Gf lh jn tX vV)
open gT (fK)
open ur (fX jM)
open PI (res zX HX)
theorem find(k0 k1:az->aq->az->az->az->aU->aU->aU->aU->az->aU->aU->az->az->az->az->az->az->az->aU->aU->aU->aU->aU->aU->aC R)(cl:ay Cl)(hl:cl.length<=1048576)(id:az)(key:aq)(z4 z6:az)(q7 q8 q9 Ip:aU)(Th:az)(RP:aU)(Ti z15 Ia z17 Mm Mn Mo:az)(RQ RR RS RT RU RV:aU):
  (lh cl id=ak->l5 Lib.cW k0 k1 Lib.cW id key z4 0 z6 q7 q8 q9 Ip Th RP (rc cl) Ti z15 Ia z17 Mm Mn Mo RQ RR RS RT RU RV=k1 id key z4 (cl.length:az) z6 q7 q8 q9 Ip Th RP (rc cl) Ti z15 Ia z17 Mm Mn Mo RQ RR RS RT RU RV)/\
  (lh cl id=ai->∃j:az,l5 Lib.cW k0 k1 Lib.cW id key z4 0 z6 q7 q8 q9 Ip Th RP (rc cl) Ti z15 Ia z17 Mm Mn Mo RQ RR RS RT RU RV=k0 id key 1 j z6 q7 q8 q9 Ip Th RP (rc cl) Ti Mm Mn Mo Mm Mn Mo RQ RR RS RT RU RV):=by
 have go:∀(d i n:aE),cl.length-i<=d->i<=cl.length->d<n->
   (((cl.drop i).any λx=>decide (x.id=id))=ak->l5 Lib.cW k0 k1 n id key z4 (i:az) z6 q7 q8 q9 Ip Th RP (rc cl) Ti z15 Ia z17 Mm Mn Mo RQ RR RS RT RU RV=k1 id key z4 (cl.length:az) z6 q7 q8 q9 Ip Th RP (rc cl) Ti z15 Ia z17 Mm Mn Mo RQ RR RS RT RU RV)/\
   (((cl.drop i).any λx=>decide (x.id=id))=ai->∃j:az,l5 Lib.cW k0 k1 n id key z4 (i:az) z6 q7 q8 q9 Ip Th RP (rc cl) Ti z15 Ia z17 Mm Mn Mo RQ RR RS RT RU RV=k0 id key 1 j z6 q7 q8 q9 Ip Th RP (rc cl) Ti Mm Mn Mo Mm Mn Mo RQ RR RS RT RU RV):=by
  intro d
  induction d with
  |zero=>
   intro i n h1 h2 h3;obtain⟨n,rfl⟩:∃n',n=n'+1:=⟨n-1,by omega⟩
   have:i=cl.length:=by omega
   subst this;rw[dh];exact⟨λ_=>by simp only[l5,r5,eO,Lib.du,bm,bh,aA],λh=>by cases h⟩
  |succ d ih=>
   intro i n h1 h2 h3;obtain⟨n,rfl⟩:∃n',n=n'+1:=⟨n-1,by omega⟩
   by_cases hi:i<cl.length
   ·rw[dG hi,List.any_cons];obtain⟨g1,g2⟩:=ih (i+1) n (by omega) hi (by omega);have e:l5 Lib.cW k0 k1 (n+1) id key z4 (i:az) z6 q7 q8 q9 Ip Th RP (rc cl) Ti z15 Ia z17 Mm Mn Mo RQ RR RS RT RU RV=bif decide (cl[i].id=id)then k0 id key 1 (i:az) z6 q7 q8 q9 Ip Th RP (rc cl) Ti Mm Mn Mo Mm Mn Mo RQ RR RS RT RU RV else l5 Lib.cW k0 k1 n id key z4 ((i+1:aE):az) z6 q7 q8 q9 Ip Th RP (rc cl) Ti z15 Ia z17 Mm Mn Mo RQ RR RS RT RU RV:=by simp only[l5,r5,eO,Lib.du,hi,aQ,Lib.cQ,aM,au,Lib.eD,rc0 hi,bZ,Lib.di hi (by omega:cl.length<=9223372036854775807)]
    rw[e];cases hc:decide (cl[i].id=id)with
    |true=>exact⟨λh=>by simp at h,λ_=>⟨i,rfl⟩⟩
    |false=>rw[nG,aA];exact⟨g1,g2⟩
   ·have:i=cl.length:=by omega
    subst this;rw[dh];exact⟨λ_=>by simp only[l5,r5,eO,Lib.du,bm,bh,aA],λh=>by cases h⟩
 have:=go cl.length 0 Lib.cW (by omega) (bz _) (cK (by omega));rw[gd]at this;exact this
def sc(key:aq):ay Fe->aE->az×aq->az×aq
 |[],_,s=>s|x::r,i,s=>sc key r (i+1) (bif Gf key x then((i:az)+1,x.t)else s)
theorem scan(k0:aq->aW->az->az->aU->aU->aU->aU->az->aU->aU->az->az->az->az->az->az->az->az->aq->az->az->az->aq->az->aU->aU->aU->aU->aU->aU->aC R)(fe:ay Fe)(hl:fe.length<=1048576)(key:aq)(h0:aW)(z84:az)(q85 q86 q87 q88:aU)(z89:az)(q91:aU)(z92 z93 z94 z95 z96 z97 z98 z99:az)(W6:aq)(Xt Xu Xv:az)(WR WS WT WU WV WW:aU):
  Vu Lib.cW k0 Lib.cW key h0 0 z84 q85 q86 q87 q88 z89 (rf fe) q91 z92 z93 z94 z95 z96 z97 z98 z99 W6 0 Xt Xu ({data:= #[]}) Xv WR WS WT WU WV WW=k0 key h0 (fe.length:az) z84 q85 q86 q87 q88 z89 (rf fe) q91 z92 z93 z94 z95 z96 z97 z98 z99 W6 (sc key fe 0 (0,⟨#[]⟩)).1 Xt Xu (sc key fe 0 (0,⟨#[]⟩)).2 Xv WR WS WT WU WV WW:=by
 have go:∀(d i n:aE) (s:az×aq),fe.length-i<=d->i<=fe.length->d<n->
   Vu Lib.cW k0 n key h0 (i:az) z84 q85 q86 q87 q88 z89 (rf fe) q91 z92 z93 z94 z95 z96 z97 z98 z99 W6 s.1 Xt Xu s.2 Xv WR WS WT WU WV WW=k0 key h0 (fe.length:az) z84 q85 q86 q87 q88 z89 (rf fe) q91 z92 z93 z94 z95 z96 z97 z98 z99 W6 (sc key (fe.drop i) i s).1 Xt Xu (sc key (fe.drop i) i s).2 Xv WR WS WT WU WV WW:=by
  intro d
  induction d with
  |zero=>
   intro i n s h1 h2 h3;obtain⟨n,rfl⟩:∃n',n=n'+1:=⟨n-1,by omega⟩
   have:i=fe.length:=by omega
   subst this;simp only[Vu,r22,dC,Lib.du,bm,bh,aA,dh,sc]
  |succ d ih=>
   intro i n s h1 h2 h3;obtain⟨n,rfl⟩:∃n',n=n'+1:=⟨n-1,by omega⟩
   by_cases hi:i<fe.length
   ·rw[dG hi];unfold sc;rw[<-ih (i+1) n _ (by omega) hi (by omega)];have w:=Lib.di hi (by omega:fe.length<=9223372036854775807);have w2:((i+1:aE):az)=(i:az)+1:=by omega
    simp only[Vu,r22,dC,Lib.du,hi,aQ,Lib.cQ,aM,au,Lib.eD,H_ hi,Gh hi,yK hi,bQ,bZ,Lib.fB,w,fQ hi];unfold Gf;cases decide (fe[i].k=key)<;>cases decide (fe[i].sta=1)<;>simp only[o0,vp,aM,pr,au,aA,w2]
   ·have:i=fe.length:=by omega
    subst this;simp only[Vu,r22,dC,Lib.du,bm,bh,aA,dh,sc]
 have:=go fe.length 0 Lib.cW (0,⟨#[]⟩) (by omega) (bz _) (cK (by omega));rw[gd]at this;exact this
theorem W_(key:aq):∀(l:ay Fe) (i:aE) (s:az×aq),(∀x∈l,Gf key x=ak)->sc key l i s=s:=by
 intro l;induction l with
 |nil=>intro i s _;rfl
 |cons x l ih=>intro i s h;unfold sc;rw[h x (by simp),aA];exact ih _ _ λy hy=>h y (by simp[hy])
theorem adp{fe:ay Fe}(hp:fe.Pairwise λf g=>lT g f=ak)(key:aq):sc key fe 0 (0,⟨#[]⟩)=match Nn fe key with|some j=>((j:az)+1,(el fe j).t)|none=>(0,⟨#[]⟩):=by
 have go:∀(l:ay Fe) (i:aE),l.Pairwise (λf g=>lT g f=ak)->sc key l i (0,⟨#[]⟩)=match l.findIdx? (Gf key)with|some j=>(((i+j:aE):az)+1,(el l j).t)|none=>(0,⟨#[]⟩):=by
  intro l;induction l with
  |nil=>intro i _;rfl
  |cons x l ih=>
   intro i h;rw[pQ]at h;unfold sc;rw[List.findIdx?_cons];cases hq:Gf key x with
   |true=>
    have hn:∀y∈l,Gf key y=false:=λy hy=>by
     have h2:=h.1 y hy;unfold Gf at hq⊢;unfold lT at h2;simp only[aJ,bc]at hq;rw[hq.1,hq.2]at h2;simp only[Bool.and_eq_false_iff,gO]at h2⊢;rcases h2 with h2|h2
     ·exact .inr h2
     ·rcases h2 with h2|h2
      ·exact cE trivial h2
      ·exact .inl h2
    rw[au,W_ key l _ _ hn];rfl
   |false=>
    rw[aA,ih (i+1) h.2];cases l.findIdx? (Gf key)with
    |none=>rfl
    |some j=>simp only[dg,if_false,h_,show i+1+j=i+(j+1)by omega];rfl
 have:=go fe 0 hp;unfold Nn;rw[this];cases fe.findIdx? (Gf key)with
 |none=>rfl
 |some j=>dsimp only;rw[bT]
theorem ok(p:Px)(id:az)(key:aq)(hp:p.Fit 1048576)(hkz:key.size<=140737488355328):c p.now (re p.en) (rs p.w) (rs p.m) (rr p.s) p.a (rf p.fe) (rc p.cl) p.hits id key=ai/\v p.now (re p.en) (rs p.w) (rs p.m) (rr p.s) p.a (rf p.fe) (rc p.cl) p.hits id key=res (dP.ask p id key):=by
 have h1:=ka.ok p hp;have h2:=mo.ok p hp;have nM:=hp.cl;have Lk:=hp.fe;have hen:=hp.en;have Jw:iO.nh p.s:=⟨hp.s.1,hp.s.2.1⟩
 refine out _ _ _ _ _ _ _ _ _ _ _ ?_;unfold vo b dP.ask;simp only[Lib.lt,h1.1,h1.2,h2.1,h2.2,au];cases b7:iy p with
 |false=>rfl
 |true=>
 have ho:fX p:=jM.1 b7;rw[aY,aA,bj,show kg.v id 1 9=decide (1<=id/\id<=9)from e7.eM _ _ _];cases Im:decide (1<=id/\id<=9)with
 |false=>rfl
 |true=>
 rw[aY,aA,bj,show Gu.v key=eh key from e7.eM _ _ _];cases Yj:eh key with
 |false=>rfl
 |true=>
 have zE:=jd.j6 Yj;rw[aY,aA,bj,eO];have hc6:=ho.cll;by_cases h6:p.cl.length=6
 ·rw[aF (show(p.cl.length:az)≥6 by omega),au,aK (show¬p.cl.length<6 by omega),vp];rfl
 rw[aK (show¬(p.cl.length:az)≥6 by omega),aA,aF (show p.cl.length<6 by omega),o0];cases hhi:lh p.cl id with
 |true=>obtain⟨j,hj⟩:=(find _ _ p.cl nM id key 0 p.now (re p.en) (rs p.w) (rs p.m) (rr p.s) p.a (rf p.fe) p.hits 0 0 0 p.now p.a p.hits (re p.en) (rs p.w) (rs p.m) (rr p.s) (rf p.fe) (rc p.cl)).2 hhi;refine hj.trans ?_;rfl
 |false=>
 refine((find _ _ p.cl nM id key 0 p.now (re p.en) (rs p.w) (rs p.m) (rr p.s) p.a (rf p.fe) p.hits 0 0 0 p.now p.a p.hits (re p.en) (rs p.w) (rs p.m) (rr p.s) (rf p.fe) (rc p.cl)).1 hhi).trans ?_;rw[bV,au];have h4:=KR.ok p.now p.en (rs p.w) (rs p.m) (rr p.s) p.a (rf p.fe) (rc p.cl) p.hits key hen;have h7:=jd.ok p.w p.m p.s p.a key hp.w hp.m Jw (by omega);have h8:=fg.ok p.s p.a key Jw (by omega);have h9:=Ig.ok p.w p.m p.s p.a key hp.w hp.m Jw;have NZ:=Ct.ok p.en key (by omega);have Hr:=λx:Cl=>ug.ok p.cl x nM;have anL:=ho.hits;have rP:=ho.fl;have wN:=adp ho.ap key;have Hj:cB (p.fe.length+1) 56=true:=Lib.cC (by omega) (by omega);have dp:∀key:aq,bP (ax (aN [Ck.s,Ck.s,Ck.i ao,Ck.i ao,Ck.i ao] 1) 0 [CV.s key,CV.s {data:= #[]},CV.i ao 1,CV.i ao 0,CV.i ao 0])=1:=λ_=>rfl;have TL:(el (p.fe++[tX key]) p.fe.length).t=⟨#[]⟩:=by rw[fQ (by simp),List.getElem_append_right (by omega)];simp[tX]
 rw[h4.1,h4.2,au];cases he:Ik p.en key with
 |some e=>
  have aca:e∈p.en:=F8 he;obtain⟨i,hi,hie⟩:=dy aca;dsimp only[KR.res];rw[au,<-Ie.eq,show Ih.v e.k e.st e.li e.bo p.now=vV e p.now from rfl];cases CD:vV e p.now with
  |true=>
   have hw:bJ (p.now-e.st)=p.now-e.st:=by have:=zX (p:=p) hi ho;rwa[fQ hi,hie]at this
   have hj:=Hr ⟨id,key,0,e.st,2,e.bo,p.now-e.st⟩;dsimp only at hj;rw[au,h7.1,h7.2,au,au,hw,hj.1,hj.2,au,au];unfold res hit;cases hh:decide (p.hits<1000000000)with
   |true=>rw[bc]at hh;rw[au,c5 (by omega) (by omega)];rfl
   |false=>rfl
  |false=>
   rw[aA,aA];refine(scan _ p.fe Lk key ai p.now (re p.en) (rs p.w) (rs p.m) (rr p.s) p.a (rc p.cl) p.hits 0 0 0 p.now p.a p.hits id key 0 1 0 (re p.en) (rs p.w) (rs p.m) (rr p.s) (rf p.fe) (rc p.cl)).trans ?_;rw[wN];unfold qR;cases hoi:Nn p.fe key with
   |none=>
    dsimp only;by_cases UR:p.fe.length=20
    ·rw[aK (show¬p.fe.length<20 by omega)];simp only[aQ,au,dC,aF (show(p.fe.length:az)≥20 by omega)];rfl
    ·rw[aF (show p.fe.length<20 by omega)];have hj:=Hr ⟨id,key,(p.fe.length:az)+1,0,1,⟨#[]⟩,0⟩;dsimp only at hj;have hlen:((p.fe.length+1:aE):az)=(p.fe.length:az)+1:=by omega
     simp only[aQ,au,aA,dC,aK (show¬(p.fe.length:az)≥20 by omega),dp,Hj,NZ.1,NZ.2,h9.1,h9.2,h8.1,h8.2,HX,bW,bB,hlen,hj.1,hj.2];unfold res put;rw[TL];rfl
   |some j=>dsimp only;have hj:=Hr ⟨id,key,(j:az)+1,0,1,(el p.fe j).t,0⟩;dsimp only at hj;simp only[aK (show¬(j:az)+1=0 by omega),au,aA,NZ.1,NZ.2,h9.1,h9.2,h8.1,h8.2,hj.1,hj.2];rfl
 |none=>
  dsimp only[KR.res];rw[aA];refine(scan _ p.fe Lk key ak p.now (re p.en) (rs p.w) (rs p.m) (rr p.s) p.a (rc p.cl) p.hits 0 0 0 p.now p.a p.hits id key 0 1 0 (re p.en) (rs p.w) (rs p.m) (rr p.s) (rf p.fe) (rc p.cl)).trans ?_;rw[wN];unfold qR;cases hoi:Nn p.fe key with
  |none=>
   dsimp only;by_cases UR:p.fe.length=20
   ·rw[aK (show¬p.fe.length<20 by omega)];simp only[aQ,au,dC,aF (show(p.fe.length:az)≥20 by omega)];rfl
   ·rw[aF (show p.fe.length<20 by omega)];have hj:=Hr ⟨id,key,(p.fe.length:az)+1,0,1,⟨#[]⟩,0⟩;dsimp only at hj;have hlen:((p.fe.length+1:aE):az)=(p.fe.length:az)+1:=by omega
    simp only[aQ,au,aA,dC,aK (show¬(p.fe.length:az)≥20 by omega),dp,Hj,h8.1,h8.2,HX,bW,bB,hlen,hj.1,hj.2];unfold res put;rw[TL];rfl
  |some j=>dsimp only;have hj:=Hr ⟨id,key,(j:az)+1,0,1,(el p.fe j).t,0⟩;dsimp only at hj;simp only[aK (show¬(j:az)+1=0 by omega),au,aA,h8.1,h8.2,hj.1,hj.2];rfl
end U9

namespace tO
open Lib (rr rs re rf rc Px el)
open mo (iy)
theorem ok(p:Px)(f:az)(hp:p.Fit 1048576):c p.now (re p.en) (rs p.w) (rs p.m) (rr p.s) p.a (rf p.fe) (rc p.cl) p.hits f=ai/\v p.now (re p.en) (rs p.w) (rs p.m) (rr p.s) p.a (rf p.fe) (rc p.cl) p.hits f=iF.tY p f:=by
 have h:=mo.ok p hp;have hf:=hp.fe;refine out _ _ _ _ _ _ _ _ _ _ ?_;unfold vo b iF.tY;rw[h.1,h.2,au,dC,c5 (x:=(p.fe.length:az)-1) (by omega) (by omega),show kg.v f 0 ((p.fe.length:az)-1)=decide (0<=f/\f<=(p.fe.length:az)-1)from e7.eM _ _ _];cases iy p with
 |false=>rfl
 |true=>
  cases hd:decide (0<=f/\f<=(p.fe.length:az)-1)with
  |false=>rfl
  |true=>
   have:=cg hd;obtain⟨n,rfl⟩:∃n:aE,f=(n:az):=⟨f.toNat,by omega⟩
   have hn:n<p.fe.length:=by omega
   simp only[au,bj,Lib.cQ,Lib.du,hn,aQ,aM,Lib.eD,yK hn,bZ]
end tO

namespace N_
theorem put(s:az)(t q:aq)(ht:(t.size:az)<=400)(hs:1<=s/\s<=3):Cn.v s t [] q=bif decide (s=1)&&(decide (1<=q.size/\q.size<=40)&&decide (t.size+q.size<=400))then(s,t++q,[],ai)else(s,t,[],ak):=by
 unfold Cn.v;have b7:kU.v s t []=true:=by unfold kU.v kU.rest;rw[aF hs,aF (show t.size<=400 by omega)];rfl
 by_cases h1:s=1
 ·by_cases h2:1<=q.size/\q.size<=40
  ·by_cases h3:t.size+q.size<=400
   ·rw[bw ⟨b7,h1,h2.1,h2.2,h3⟩,aF h1,aF h2,aF h3];rfl
   ·rw[bH (by omega),aK h3];simp
  ·rw[bH (by omega),aK h2];simp
 ·rw[bH (by simp[h1]),aK h1];rfl
end N_

namespace rK
open Lib (rr rs re rf rc Px Cl el)
open uv (ec nK kF)
theorem ok(p:Px)(f:aE)(st:az)(hf:f<p.fe.length)(hl:p.fe.length<=2097152)(hc:p.cl.length<=2097152):
  c p.now (re p.en) (rs p.w) (rs p.m) (rr p.s) p.a (rf p.fe) (rc p.cl) p.hits (f:az) st=ai/\v p.now (re p.en) (rs p.w) (rs p.m) (rr p.s) p.a (rf p.fe) (rc p.cl) p.hits (f:az) st=(p.now,re p.en,rs p.w,rs p.m,rr p.s,p.a,rf p.fe,rc (nK p.cl f st (el p.fe f).t),p.hits):=by
 refine out _ _ _ _ _ _ _ _ _ _ _ ?_;unfold vo b;have key:=nZ Cl.row p.cl (λ_ c=>ec f st (el p.fe f).t c) (λn (i:aE) x=>l1 Lib.cW (λ(_ _ _ Xr Tc FV:az) (FW DR vm Is Iu Td:aU)=>ah (Xr,FW,DR,vm,Is,Tc,Iu,Td,FV)) n (f:az) st (i:az) p.now p.a p.hits (re p.en) (rs p.w) (rs p.m) (rr p.s) (rf p.fe) x) (λx=>ah (p.now,re p.en,rs p.w,rs p.m,rr p.s,p.a,rf p.fe,x,p.hits)) (λn i L h h2 hL uX=> ?_) (λn L hL=> ?_) Lib.cW (cK (by omega))
 ·rw[kF]at key;exact key
 ·have e2:ar (L.map Cl.row) i 2=CV.i ao p.cl[i].fe:=by rw[eZ _ L i _ h2,uX];rfl
  have e4:ar (L.map Cl.row) i 4=CV.i ao p.cl[i].sta:=by rw[eZ _ L i _ h2,uX];rfl
  have s1:dV (L.map Cl.row) i 5 [CV.s (el p.fe f).t]=(L.set i {p.cl[i]with got:=(el p.fe f).t}).map Cl.row:=jD Cl.row L i 5 _ _ h2 (by rw[uX];rfl);have h3:i<(L.set i {p.cl[i]with got:=(el p.fe f).t}).length:=by simpa using h2
  have s2:dV ((L.set i {p.cl[i]with got:=(el p.fe f).t}).map Cl.row) i 4 [CV.i ao st]=((L.set i {p.cl[i]with got:=(el p.fe f).t}).set i {p.cl[i]with sta:=st,got:=(el p.fe f).t}).map Cl.row:=jD Cl.row _ i 4 _ _ h3 (by rw[jX];rfl);simp only[l1,r1,Lib.du,h2,hf,bN,cm,aQ,Lib.cQ,aM,au,Lib.eD,e2,e4,bZ,s1,s2,oU,dC,Gh hf,bQ,Lib.di h (by omega:p.cl.length<=9223372036854775807),c5 (x:=(f:az)+1) (by omega) (by omega)];unfold ec;cases decide (p.cl[i].fe=(f:az)+1)with
  |false=>rw[pr,aA,aA,<-uX,eR]
  |true=>
   cases decide (p.cl[i].sta=1)with
   |false=>rw[bj,au,aA,aA,<-uX,eR]
   |true=>rw[bj,au,au,au]
 ·simp only[l1,r1,bN,hL,Lib.du,bm,bh,aA]
end rK

namespace Mz
open Lib (rr rs re rf rc Px el)
open iF (tY zd told jh nq jK wx)
theorem ok(p:Px)(f:az)(q:aq)(hp:p.Fit 1048576):c p.now (re p.en) (rs p.w) (rs p.m) (rr p.s) p.a (rf p.fe) (rc p.cl) p.hits f q=ai/\v p.now (re p.en) (rs p.w) (rs p.m) (rr p.s) p.a (rf p.fe) (rc p.cl) p.hits f q=(p.now,re p.en,rs p.w,rs p.m,rr p.s,p.a,rf (zd p f q).1.fe,rc (zd p f q).1.cl,p.hits,(zd p f q).2):=by
 have h1:=ka.ok p hp;have h2:=tO.ok p f hp;have hf:=hp.fe;have hc:=hp.cl;refine out _ _ _ _ _ _ _ _ _ _ _ ?_;unfold vo b zd;simp only[Lib.lt,h1.1,h1.2,h2.1,h2.2,au];cases ho:tY p f with
 |false=>rfl
 |true=>
  obtain⟨n,rfl,hn,b7,hs1⟩:=jh ho;have wK:=iF.Ya b7 n hn;unfold m_.nt at wK;simp only[aJ,bc]at wK;have mB:EE.v 1 (el p.fe n).t [] q=_:=N_.put 1 (el p.fe n).t q wK.2.1 (by omega);rw[aF (show(1:az)=1 from rfl),bj]at mB;simp only[aY,aA,au,Lib.cQ,Lib.du,dC,hn,aQ,aM,Lib.eD,Gh hn,bQ,mB,bj];cases hs:decide (1<=q.size/\q.size<=40)&&decide ((el p.fe n).t.size+q.size<=400)with
  |false=>rfl
  |true=>
   have e1:=wx p.fe n 1 [CV.s ((el p.fe n).t++q)] {el p.fe n with t:=(el p.fe n).t++q} hn rfl;have M5:n<(p.fe.set n {el p.fe n with t:=(el p.fe n).t++q}).length:=by rw[cm];exact hn
   have h3:=rK.ok {p with fe:=p.fe.set n {el p.fe n with t:=(el p.fe n).t++q}} n 1 M5 (by rw[cm];omega) (by dsimp only;omega);dsimp only at h3;rw[jK hn]at h3;simp only[aY,aA,au,e1,h3.1,h3.2];rfl
end Mz

namespace xV
open Lib (rr rs re rf rc Px En el)
open gT (So fK mD)
open lz (Cd)
theorem ok(p:Px)(e:En)(r6 r7:aU)(hp:p.Fit 1048575)(hso:So p.en)(hk1:∀x∈p.en,1<=x.k.size)(hk:e.k.size<=140737488355328):
  c p.now (re p.en) (rs p.w) (rs p.m) (rr p.s) p.a r6 r7 p.hits e.k e.st e.li e.bo=ai/\v p.now (re p.en) (rs p.w) (rs p.m) (rr p.s) p.a r6 r7 p.hits e.k e.st e.li e.bo=(p.now,re (Cd p e).en,rs (Cd p e).w,rs (Cd p e).m,rr (Cd p e).s,(Cd p e).a,r6,r7,p.hits):=by
 have he:=hp.en;have hw:=hp.w;have hm:=hp.m;obtain⟨b1,b2,b3⟩:=jd.Kh p.w p.m p.s p.a e.k;have h1:=jd.ok p.w p.m p.s p.a e.k (by omega) (by omega) ⟨c6 hp.s.1 (by omega),λq hq=>c6 (hp.s.2.1 q hq) (by omega)⟩ hk;refine out _ _ _ _ _ _ _ _ _ _ _ _ _ ?_;unfold vo b Cd;generalize jd.val p.w p.m p.s p.a e.k=V at h1 b1 b2 b3;obtain⟨W,M,T,A,G⟩:=V;dsimp only at h1 b1 b2⊢;have h2:=Ct.ok p.en G (by omega);have h3:=sd.ok W M (rr T) A e.k (by omega) (by omega);have hd:=gT.vM p.en G;have h4:=fI.ok (re (fK p.en G)) e.k e.st e.li e.bo (by rw[dO];omega);rw[gT.sN]at h4;simp only[Lib.lt,h1.1,h1.2,h2.1,h2.2,h3.1,h3.2,h4.1,h4.2,au,Lib.fB];by_cases hG:G=⟨#[]⟩
 ·subst hG;rw[gT.drop_nil hk1]at h4⊢;rw[aF rfl];simp only[aY,aA,h4.1,h4.2,au];cases eT.has W e.k||eT.has M e.k<;>rfl
 ·rw[aK hG];simp only[bV,au];cases eT.has W e.k||eT.has M e.k<;>rfl
end xV

namespace MA
open Lib (rr rs re rf rc Px el)
open iF (tY told jh nq jK wx)
open rV (cls nA)
theorem ok(p:Px)(f life:az)(hp:p.Fit 1048576):c p.now (re p.en) (rs p.w) (rs p.m) (rr p.s) p.a (rf p.fe) (rc p.cl) p.hits f life=ai/\v p.now (re p.en) (rs p.w) (rs p.m) (rr p.s) p.a (rf p.fe) (rc p.cl) p.hits f life=(p.now,re (cls p f life).1.en,rs (cls p f life).1.w,rs (cls p f life).1.m,rr (cls p f life).1.s,(cls p f life).1.a,rf (cls p f life).1.fe,rc (cls p f life).1.cl,p.hits,(cls p f life).2):=by
 have h1:=ka.ok p hp;have h2:=tO.ok p f hp;have hf:=hp.fe;have hc:=hp.cl;refine out _ _ _ _ _ _ _ _ _ _ _ ?_;unfold vo b cls;simp only[Lib.lt,h1.1,h1.2,h2.1,h2.2,au];cases ho:tY p f with
 |false=>rfl
 |true=>
  obtain⟨n,rfl,hn,b7,hs1⟩:=jh ho;obtain⟨so,ks,_,_,_,_,_,_,_,_,wK⟩:=lz.Fy b7;have wK:=wK n hn;unfold m_.nt at wK;rw[aJ]at wK;have zE:=jd.j6 wK.1;rw[show kg.v life 0 999999=decide (0<=life/\life<=999999)from e7.eM _ _ _];cases hl:decide (0<=life/\life<=999999)with
  |false=>rfl
  |true=>
   generalize hg:({el p.fe n with sta:=2,li:=life,st:=p.now}:Lib.Fe)=g;have hk:g.k=(el p.fe n).k:=by rw[<-hg]
   have ht:g.t=(el p.fe n).t:=by rw[<-hg]
   have gl:g.li=life:=by rw[<-hg]
   have gs:g.st=p.now:=by rw[<-hg]
   have e3:=wx p.fe n 0 [CV.s (el p.fe n).k,CV.s (el p.fe n).t,CV.i ao 2,CV.i ao life,CV.i ao p.now] g hn (by rw[<-hg];rfl);have n3:n<(p.fe.set n g).length:=by rw[cm];exact hn
   have h3:=rK.ok {p with fe:=p.fe.set n g} n 2 n3 (by rw[cm];omega) (by dsimp only;omega);dsimp only at h3;rw[jK hn]at h3;have h4:=xV.ok (told p n g 2) (nA g) (rf (p.fe.set n g)) (rc (told p n g 2).cl) ((nq (lz.mR b7)).le (by omega)) so ks (by show g.k.size<=_;rw[hk];omega);unfold nA at h4;dsimp only[told]at h4;rw[gl,gs,hk,ht]at h4;unfold nA told;rw[ht]at h3;simp only[aY,aA,au,Lib.cQ,Lib.du,dC,hn,aQ,aM,bj,Lib.eD,H_ hn,Gh hn,Xm hn,TT hn,TU hn,bZ,bQ,e3,h3.1,h3.2,gl,gs,hk,ht];cases decide (life>0)with
   |true=>simp only[au,h4.1,h4.2];subst hg;rfl
   |false=>subst hg;rfl
end MA

namespace Cs
theorem ok(k:aq)(s l:az)(b0:aq):c k s l b0=ai/\v k s l b0=jy.val k s l b0:=by
 refine out k s l b0 ?_;have hf:=fT.ok (jI.v k s l b0).1;unfold vo b jy.val;rw[hf.1,hf.2];unfold jI.v fT.val;by_cases h:iI.v k s l b0=ai
 ·have h1:=iA.wA h;have h2:=iA.FR h;rw[bw h,bw h,bw (by dsimp only;omega)];rfl
 ·rw[bH h,bH h];rfl
end Cs

namespace kB
open Lib (rd el Fi)
open eE (put)
theorem tail(l:ay Fi)(n t:aq)(k:az)(hl:l.length<=1000000)(c0:ay Fi)(hc:c0.length<=1000001):
  l9 Lib.cW (λ(_:az) (_:aU) (_ _:aq) (_:az) (y:aU)=>ah y) Lib.cW 0 (rd l) n t k (rd c0)=ah (rd (c0++l.filter λx=> !(gT.fS x.n n||decide (x.n=n)))):=by
 refine Dm l (λx=> !(gT.fS x.n n||decide (x.n=n))) (λm (i:aE) acc=>l9 Lib.cW (λ(_:az) (_:aU) (_ _:aq) (_:az) (y:aU)=>ah y) m (i:az) (rd l) n t k (rd acc)) (λacc=>ah (rd acc)) c0
  (λm i acc h ha hp=> ?_) (λm i acc h hp=> ?_) (λm acc=> ?_) Lib.cW (cK (by omega))
 ·have mA:(!(b_ (aL l[i].n) (aL n)||decide (l[i].n=n)))=true:=hp;simp only[l9,r9,gq,Lib.du,h,aQ,Lib.cQ,aM,au,Lib.eD,J0 h,ZI h,ZJ h,bQ,bZ,Lib.fB,mA,oZ,bB,Lib.di h (by omega:l.length<=9223372036854775807),Lib.cC (n:=acc.length+1) (b:=40) (by omega) (by omega)];unfold Lib.rd;rw[c8];rfl
 ·have mA:(!(b_ (aL l[i].n) (aL n)||decide (l[i].n=n)))=false:=hp;simp only[l9,r9,gq,Lib.du,h,aQ,Lib.cQ,aM,au,aA,Lib.eD,J0 h,bQ,Lib.fB,mA,Lib.di h (by omega:l.length<=9223372036854775807)]
 ·simp only[l9,r9,gq,Lib.du,bm,bh,aA]
theorem ok(l:ay Fi)(n t:aq)(k:az)(hl:l.length<=1000000):c (rd l) n t k=ai/\v (rd l) n t k=rd (put l ⟨n,t,k⟩):=by
 refine out _ _ _ _ ?_;unfold vo b
 have key:=La l (λx=>gT.fS x.n n)
  (λm (i:aE)=>l3 Lib.cW (λ(_:az) (y41:aU) (y42 y43:aq) (Tg:az)=>l9 Lib.cW (λ(_:az) (_:aU) (_ _:aq) (_:az) (y50:aU)=>ah y50) Lib.cW 0 y41 y42 y43 Tg ([]++ax (aN [Ck.s,Ck.s,Ck.i ao] 1) 0 [CV.s y42,CV.s y43,CV.i ao Tg])) (λ(_:az) (y52:aU) (y53 y54:aq) (y55:az) (y56:aU)=>bif(cB (bP y56+bP (ax (aN [Ck.s,Ck.s,Ck.i ao] 1) 0 [CV.s y53,CV.s y54,CV.i ao y55])) 40)then(l9 Lib.cW (λ(_:az) (_:aU) (_ _:aq) (_:az) (y62:aU)=>ah y62) Lib.cW 0 y52 y53 y54 y55 (y56++ax (aN [Ck.s,Ck.s,Ck.i ao] 1) 0 [CV.s y53,CV.s y54,CV.i ao y55]))else(aj)) m (i:az) (rd l) n t k)
  (λm (i:aE) acc=>tW Lib.cW (λ(_:az) (y41:aU) (y42 y43:aq) (Tg:az)=>l9 Lib.cW (λ(_:az) (_:aU) (_ _:aq) (_:az) (y50:aU)=>ah y50) Lib.cW 0 y41 y42 y43 Tg ([]++ax (aN [Ck.s,Ck.s,Ck.i ao] 1) 0 [CV.s y42,CV.s y43,CV.i ao Tg])) (λ(_:az) (y52:aU) (y53 y54:aq) (y55:az) (y56:aU)=>bif(cB (bP y56+bP (ax (aN [Ck.s,Ck.s,Ck.i ao] 1) 0 [CV.s y53,CV.s y54,CV.i ao y55])) 40)then(l9 Lib.cW (λ(_:az) (_:aU) (_ _:aq) (_:az) (y62:aU)=>ah y62) Lib.cW 0 y52 y53 y54 y55 (y56++ax (aN [Ck.s,Ck.s,Ck.i ao] 1) 0 [CV.s y53,CV.s y54,CV.i ao y55]))else(aj)) m (i:az) (rd l) n t k (rd acc))
  (λacc=>bif cB (acc.length+1) 40 then l9 Lib.cW (λ(_:az) (_:aU) (_ _:aq) (_:az) (y:aU)=>ah y) Lib.cW 0 (rd l) n t k (rd (acc++[⟨n,t,k⟩]))else aj)
  (λm i h hp=>by have mA:b_ (aL l[i].n) (aL n)=true:=hp;simp only[l3,r3,gq,Lib.du,h,aQ,Lib.cQ,aM,au,Lib.eD,J0 h,ZI h,ZJ h,bQ,bZ,mA,oZ,Lib.di h (by omega:l.length<=9223372036854775807)];rfl)
  (λm i h hp=>by have mA:b_ (aL l[i].n) (aL n)=false:=hp;simp only[l3,r3,gq,Lib.du,h,aQ,Lib.cQ,aM,au,aA,Lib.eD,J0 h,bQ,mA,Lib.di h (by omega:l.length<=9223372036854775807)])
  (λm=>by simp only[l3,r3,gq,Lib.du,bm,bh,aA];rw[Lib.cC (by simp) (by simp),au];rfl)
  (λm i acc h ha hp=>by have mA:b_ (aL l[i].n) (aL n)=true:=hp;simp only[tW,z_,gq,Lib.du,h,aQ,Lib.cQ,aM,au,Lib.eD,J0 h,ZI h,ZJ h,bQ,bZ,mA,oZ,bB,Lib.di h (by omega:l.length<=9223372036854775807),Lib.cC (n:=acc.length+1) (b:=40) (by omega) (by omega)];unfold Lib.rd;rw[c8];rfl)
  (λm i acc h hp=>by have mA:b_ (aL l[i].n) (aL n)=false:=hp;simp only[tW,z_,gq,Lib.du,h,aQ,Lib.cQ,aM,au,aA,Lib.eD,J0 h,bQ,mA,Lib.di h (by omega:l.length<=9223372036854775807)])
  (λm acc=>by simp only[tW,z_,gq,Lib.du,bm,bh,aA,oZ,bB];unfold Lib.rd;rw[c8];rfl) Lib.cW (cK (by omega))
 refine key.trans ?_;have hf:=eH (λx:Fi=>gT.fS x.n n) l;rw[Lib.cC (by omega) (by omega),au,tail l n t k hl _ (by simp;omega)];unfold put;rw[ch]
end kB

namespace lW
open Lib (rd el Fi)
open eE (without)
theorem ok(l:ay Fi)(n:aq)(hl:l.length<=1000000):c (rd l) n=ai/\v (rd l) n=rd (without l n):=by
 refine out _ _ ?_;unfold vo b
 have key:=La l (λx=> !decide (x.n=n))
  (λm (i:aE)=>l3 Lib.cW (λ(_:aq) (_:az) (_:aU)=>ah ([]:aU)) (λ(_:aq) (_:az) (_:aU) (vm:aU)=>ah vm) m n (i:az) (rd l))
  (λm (i:aE) acc=>tW Lib.cW (λ(_:aq) (_:az) (_:aU)=>ah ([]:aU)) (λ(_:aq) (_:az) (_:aU) (vm:aU)=>ah vm) m n (i:az) (rd l) (rd acc)) (λacc=>ah (rd acc))
  (λm i h hp=>by simp only[l3,r3,gq,Lib.du,h,aQ,Lib.cQ,aM,au,Lib.eD,J0 h,ZI h,ZJ h,bQ,bZ,Lib.fB,hp,oZ,Lib.di h (by omega:l.length<=9223372036854775807)];rfl)
  (λm i h hp=>by simp only[l3,r3,gq,Lib.du,h,aQ,Lib.cQ,aM,au,aA,Lib.eD,J0 h,bQ,Lib.fB,hp,Lib.di h (by omega:l.length<=9223372036854775807)])
  (λm=>by simp only[l3,r3,gq,Lib.du,bm,bh,aA];rfl)
  (λm i acc h ha hp=>by simp only[tW,z_,gq,Lib.du,h,aQ,Lib.cQ,aM,au,Lib.eD,J0 h,ZI h,ZJ h,bQ,bZ,Lib.fB,hp,oZ,bB,Lib.di h (by omega:l.length<=9223372036854775807),Lib.cC (n:=acc.length+1) (b:=40) (by omega) (by omega)];unfold Lib.rd;rw[c8];rfl)
  (λm i acc h hp=>by simp only[tW,z_,gq,Lib.du,h,aQ,Lib.cQ,aM,au,aA,Lib.eD,J0 h,bQ,Lib.fB,hp,Lib.di h (by omega:l.length<=9223372036854775807)])
  (λm acc=>by simp only[tW,z_,gq,Lib.du,bm,bh,aA]) Lib.cW (cK (by omega))
 exact key
end lW

namespace AF
open Lib (rd el Fi)
open eE (without put SoD vd act Gd kH)
open kh (res)
theorem okc(d:ay Fi)(h:d.length<=1000000):fy.c (rd d)=ai/\fy.v (rd d)=vd d:=fy.ok (rd d) (by rw[gq];omega)
theorem nm(n:aq):uS.v n=decide (1<=(n.size:az)/\(n.size:az)<=8):=fy.mi _ _ _
theorem Re{l:ay Fi}{n t:aq}{k:az}(h:¬(1<=(n.size:az)/\(n.size:az)<=8)):vd (put l ⟨n,t,k⟩)=false:=by
 cases hk:vd (put l ⟨n,t,k⟩)with
 |false=>rfl
 |true=>have:=(kH.1 hk).2.1 ⟨n,t,k⟩ (eE.pk.2 (.inl rfl));unfold eE.nt at this;simp only[aJ,bc]at this;exact cE this.1 h
theorem ok(l:ay Fi)(k:az)(n t o:aq)(hl:l.length<=1000)(ht:t.size<=2305843009213693952):c (rd l) k n t o=ai/\v (rd l) k n t o=res (act l k n t o):=by
 refine out _ _ _ _ _ ?_;unfold vo b h0;have h1:=jS.ok (rd l) n (by rw[gq];omega);have h2:=okc l (by omega);rw[h2.1,h2.2,au];unfold act;cases hk:vd l with
 |false=>rfl
 |true=>
 rw[aY,aA,bj,nm];obtain⟨q1,q2,q3⟩:=kH.1 hk;have rn:∀f∈l,(1<=(f.n.size:az)/\(f.n.size:az)<=8)/\(f.t.size:az)<=20000/\f.kp<=(f.t.size:az):=λf hf=>by have:=q2 f hf;unfold eE.nt at this;simp only[aJ,bc,dz,gO]at this;omega
 by_cases hn:1<=(n.size:az)/\(n.size:az)<=8;case neg=>
  rw[aK hn,bV,au]
  have yq:l.find? (λx=>decide (x.n=n))=none:=by rw[Uh];intro x hx;have:=(rn x hx).1;simp only[bc];intro e;rw[e]at this;exact hn this
  cases eE.la k t o with
  |false=>rfl
  |true=>
   rw[au];unfold Gd;rw[yq];by_cases k1:k=1
   ·rw[bw k1];dsimp only;rw[Re hn];rfl
   ·rw[bH k1];rfl
 rw[aF hn,aY,aA,Lib.fB,Lib.fB,h1.1,h1.2,au,gq];unfold Lib.lt;by_cases ko:k=3\/o=⟨#[]⟩
 case neg=>
  rw[not_or]at ko
  have:eE.la k t o=false:=by unfold eE.la;rw[aK ko.1,aK ko.2];simp
  rw[this,show(k !=3)=ai from bne_iff_ne.2 ko.1,au,aK ko.2];rfl
 by_cases kt:k=1\/t=⟨#[]⟩
 case neg=>
  rw[not_or]at kt
  have:eE.la k t o=false:=by unfold eE.la;rw[aK kt.1,aK kt.2];simp
  rw[this,show(k !=1)=ai from bne_iff_ne.2 kt.1,au,aK kt.2]
  rcases ko with ko|ko
  ·subst ko;rfl
  ·rw[aF ko];cases (k !=3)<;>rfl
 have Yo:∀x:aC (aU×aW),(bif k !=3 then(bif !decide (o=⟨#[]⟩)then ah (([]:aU),ak)else(bif k !=1 then(bif !decide (t=⟨#[]⟩)then ah ([],ak)else x)else x))else(bif k !=1 then(bif !decide (t=⟨#[]⟩)then ah ([],ak)else x)else x))=x:=λx=>by
  rcases ko with ko|ko<;>rcases kt with kt|kt
  ·omega
  ·subst ko;rw[aF kt];rfl
  ·subst kt;rw[aF ko];rfl
  ·rw[aF ko,aF kt];cases (k !=3)<;>cases (k !=1)<;>rfl
 have wp:=λ(m:ay Fi) (hml:m.length<=1000) (n t:aq) (k:az)=>kB.ok m n t k (by omega);have wo:=lW.ok l n (by omega);have wol:=eE.adJ l n;have pl:=λ(m:ay Fi) (f:Fi) (hm:m.length<=1000)=>okc (put m f) (c6 (eE.tw f) (by omega));have fin:∀d:ay Fi,(bif !vd d then ah (([]:aU),ak)else ah (rd d,ai))=ah (res (bif vd d then ah d else aj)):=λd=>by cases vd d<;>rfl
 by_cases hk4:1<=k/\k<=4;case neg=>
  have ha:eE.la k t o=false:=by unfold eE.la;rw[aK hk4];rfl
  rw[ha]
  refine(Yo _).trans ?_
  rcases kh.find l n with ⟨e1,e2⟩|⟨i,hi,e1,e2⟩
  ·rw[e1,aK (show¬k=1 by omega)];rfl
  ·rw[e1];dsimp only;rw[aK (show¬k=1 by omega),aK (show¬k=2 by omega),aK (show¬k=3 by omega),aK (show¬k=4 by omega),aK (show¬((i:aE):az)<0 by omega),aF (show((i:aE):az)≥0 by omega)];simp only[Lib.du,hi,aQ,aM,bj,au,aA];rfl
 have ha:eE.la k t o=true:=by unfold eE.la;rw[aF hk4,bj,aJ,dB,dB,bc,bc,bc,bc];exact⟨kt.symm,ko.symm⟩
 rw[ha,au];refine(Yo _).trans ?_;unfold Gd;rcases kh.find l n with ⟨e1,e2⟩|⟨i,hi,e1,e2⟩
 ·rw[e1,e2];dsimp only;by_cases k1:k=1
  ·subst k1;have p:=wp l hl n (⟨#[]⟩++t) 0;have d:=pl l ⟨n,⟨#[]⟩++t,0⟩ hl;have et:(⟨#[]⟩:aq)++t=t:=oQ;rw[show decide ((-1:az)≥0)=ak from rfl,aA,aF (show(1:az)=1 from rfl),au,aF (show(⟨#[]⟩:aq).size+t.size<=4611686018427387904 from by rw[show(⟨#[]⟩:aq).size=0 from rfl];omega),au,p.1,p.2,au,d.1,d.2,au,fin,et];rfl
  ·rw[show decide ((-1:az)≥0)=ak from rfl,aA,aK k1,aA,bH k1];rfl
 ·have hf:(el l i).n=n:=by have:=List.find?_some e2;exact cg this
  have wK:=rn _ (qM hi);rw[e1,e2];dsimp only;rw[aK (show¬((i:aE):az)<0 by omega),aF (show((i:aE):az)≥0 by omega),au];simp only[Lib.du,hi,aQ,Lib.eD,wd0 hi,wd1 hi,wd2 hi,bQ,bZ,aM,bj,au,aA];by_cases k1:k=1
  ·subst k1;have p:=wp l hl (el l i).n ((el l i).t++t) (el l i).kp;have d:=pl l ⟨(el l i).n,(el l i).t++t,(el l i).kp⟩ hl;rw[aF (show(1:az)=1 from rfl),au,aF (show(el l i).t.size+t.size<=4611686018427387904 by omega),au,p.1,p.2,au,d.1,d.2,au,fin];rfl
  rw[aK k1,aA,bH k1];by_cases k2:k=2
  ·subst k2;have p:=wp l hl (el l i).n (el l i).t ((el l i).t.size:az);have d:=pl l ⟨(el l i).n,(el l i).t,((el l i).t.size:az)⟩ hl;rw[aF (show(2:az)=2 from rfl),au,p.1,p.2,au,d.1,d.2,au,fin];rfl
  rw[aK k2,aA,bH k2];by_cases k3:k=3
  ·subst k3;rw[aF (show(3:az)=3 from rfl),au,bw rfl];by_cases b1:(el l i).kp=((el l i).t.size:az)
   ·rw[aK (show¬(el l i).kp<((el l i).t.size:az)by omega),aA,Lib.fB,nm];by_cases b2:o=n
    ·rw[aF b2,au,bw (.inr b2)];rfl
    ·rw[aK b2,aA,bH (by rintro (h|h);exact h b1;exact b2 h)];by_cases b3:1<=(o.size:az)/\(o.size:az)<=8
     ·have p:=wp (without l n) (by omega) o (el l i).t (el l i).kp;have d:=pl (without l n) ⟨o,(el l i).t,(el l i).kp⟩ (by omega);rw[aF b3,aY,aA,wo.1,wo.2,au,p.1,p.2,au,d.1,d.2,au,fin]
     ·rw[aK b3];dsimp only;rw[Re b3];rfl
   ·rw[aF (show(el l i).kp<((el l i).t.size:az)by omega),au,bw (.inl b1)];rfl
  rw[aK k3,aA,bH k3];have k4:k=4:=by omega
  subst k4;have d:=okc (without l n) (by omega);rw[aF (show(4:az)=4 from rfl),au,wo.1,wo.2,au,d.1,d.2,au,fin]
end AF

namespace pC
open Lib (rd el Fi)
open eE (mw act ra Ac wa0 wa1 wa2 wa3 FC KT)
theorem ok(l:ay Fi)(a:ay Ac)(hl:l.length<=1000)(ha:a.length<=1000000)(ht:∀x∈a,x.t.size<=2305843009213693952):c (rd l) (ra a)=ai/\v (rd l) (ra a)=(rd (mw l 0 a).1,((mw l 0 a).2:az)):=by
 refine out _ _ ?_;unfold vo b;rw[Lib.qP,gq,Lib.cC (by omega) (by omega),au,show aN [Ck.s,Ck.s,Ck.i ao] 0++rd l=rd l from rfl]
 have key:∀(d i n:aE) (z:az) (l:ay Fi),a.length-i<=d->i<=a.length->l.length<=1000->d<n->
   l3 Lib.cW (λ(_:aU) (y5 _:az) (y7:aU)=>ah (y7,y5)) (λ(y8:aU) (_ _:az) (yL:aU)=>ah (yL,(↑(bP y8):az))) n (ra a) z (i:az) (rd l)=ah (rd (mw l i (a.drop i)).1,((mw l i (a.drop i)).2:az)):=by
  intro d
  induction d with
  |zero=>
   intro i n z l e1 e2 e3 e4;obtain⟨n,rfl⟩:∃n',n=n'+1:=⟨n-1,by omega⟩
   have:i=a.length:=by omega
   subst this;simp only[l3,r3,Lib.du,bm,bh,aA,FC,dh,mw]
  |succ d ih=>
   intro i n z l e1 e2 e3 e4;obtain⟨n,rfl⟩:∃n',n=n'+1:=⟨n-1,by omega⟩
   by_cases hi:i<a.length
   ·have hd:=AF.ok l (el a i).k (el a i).n (el a i).t (el a i).o e3 (ht _ (qM hi));simp only[l3,r3,Lib.du,FC,hi,aQ,Lib.cQ,aM,au,Lib.eD,wa0 hi,wa1 hi,wa2 hi,wa3 hi,bQ,bZ,hd.1,hd.2,Lib.di hi (by omega:a.length<=9223372036854775807)];rw[dG hi,<-fQ hi];unfold mw;cases hac:act l (el a i).k (el a i).n (el a i).t (el a i).o with
    |none=>rfl
    |some e=>have:=(KT hac).2;exact ih (i+1) n z e (by omega) hi (by omega) (by omega)
   ·have:i=a.length:=by omega
    subst this;simp only[l3,r3,Lib.du,bm,bh,aA,FC,dh,mw]
 exact key a.length 0 Lib.cW 0 l (by omega) (bz _) hl (cK (by omega))
end pC

namespace Cq
open Lib (rr rs re rf rc rd Px En el H_ Gh TT TU)
open mX (Wo Ev closed)
open pP (dk es)
open kO (B8)
open jP (ri EI DN mR)
open rV (cls nA)
theorem ok{i:aE}{w:Wo}(h:B8 i w)(hi:i<=71)(k id:az)(t:aq)(nn:az)(left:aU)(h0:0<=nn):c w.p.now (re w.p.en) (rs w.p.w) (rs w.p.m) (rr w.p.s) w.p.a (rf w.p.fe) (rc w.p.cl) w.p.hits (rd (dk w.o)) (ri w.cd) (re w.bd) k id t nn left=ai/\v w.p.now (re w.p.en) (rs w.p.w) (rs w.p.m) (rr w.p.s) w.p.a (rf w.p.fe) (rc w.p.cl) w.p.hits (rd (dk w.o)) (ri w.cd) (re w.bd) k id t nn left=((closed w id (nn%1000000)).2,EI (closed w id (nn%1000000)).1):=by
 refine out _ _ _ _ _ _ _ _ _ _ _ _ _ _ _ _ _ ?_;have hl:0<=nn%1000000/\nn%1000000<=999999:=by omega
 have hm:bL nn 1000000=nn%1000000:=sa h0;have hbd:=h.bd;have Yr:=h.tx hi;have hdl:=pP.P7 w.o;have A:=MA.ok w.p id (nn%1000000) (mR h.px);obtain⟨q1,q2⟩:=kO.I9 (f:=id) h.px hl;obtain⟨s1,s2⟩:=rV.GQ (p:=w.p) (f:=id) (life:=nn%1000000);have mz:=mR q1;unfold vo b;rw[hm];generalize nn%1000000=life at*
 rw[A.1,au,A.2,jP.lt_eq];unfold closed EI;dsimp only;rw[<-s1,<-s2];generalize cls w.p id life=Q at q1 q2 s1 s2 mz;obtain⟨q,ok⟩:=Q;dsimp only at q1 q2 s1 s2 mz⊢;rcases q2 with ⟨r1,r2⟩|⟨r1,n,rn,hn,rf_,rs_,rl⟩
 ·subst r1;rfl
 subst r1;rw[au,bj];by_cases hz:life=0
 ·rw[aK (show¬life>0 by omega)];rfl
 rw[aF (show life>0 by omega),au,au];obtain⟨t1,t2⟩:=rl (by omega);have M5:n<q.fe.length:=by rw[rf_,cm];exact hn
 have TL:el q.fe n={el w.p.fe n with sta:=2,li:=life,st:=w.p.now}:=by rw[rf_,iF.jK hn]
 subst rn;rw[dU];have C:=Cs.ok (el q.fe n).k (el q.fe n).st (el q.fe n).li (el q.fe n).t;have hE:iI.v (el q.fe n).k (el q.fe n).st (el q.fe n).li (el q.fe n).t=true:=by rw[TL];exact t1
 have CD:=kO.Qj (e:=nA (el q.fe n)) hE;rw[jy.val,bw hE,show jy.mw (fT.fr (jI.rU (el q.fe n).k (el q.fe n).st (el q.fe n).li (el q.fe n).t))=eE.ra (kM.yZ (kM.Jq (nA (el q.fe n))))from rfl]at C;have D:=pC.ok (dk w.o) (kM.yZ (kM.Jq (nA (el q.fe n)))) (by omega) (by unfold kM.yZ;simp) (λx hx=>by
  unfold kM.yZ at hx;simp only[cz,rH,or_false]at hx;rcases hx with rfl|rfl
  ·show(kM.Jq (nA (el q.fe n))).size<=_;omega
  ·exact bz _)
 rw[pP.UB (by omega)]at D;have room:∀y,cB ((re w.bd).length+(ax (aN [Ck.s,Ck.i ao,Ck.i ao,Ck.s] 1) 0 y).length) 48=true:=λy=>by rw[dO,jP.tv];exact Lib.cC (by omega) (by omega)
 have sn:=DN w.bd (nA (el q.fe n));unfold nA at sn C D;dsimp only at sn;have ah0:cB ((aN [Ck.s,Ck.i ao,Ck.i ao,Ck.s] 0).length+(re w.bd).length) 48=true:=by rw[dO];exact Lib.cC (by show(0+w.bd.length)*48<=_;omega) (by show 0+w.bd.length<=_;omega)
 simp only[jP.lt_eq,jP.aq8,ah0,dC,Lib.du,M5,aQ,Lib.cQ,aM,au,Lib.eD,H_ M5,Gh M5,TT M5,TU M5,bQ,bZ,C.1,C.2,D.1,D.2,room,sn,show nA (el q.fe n)=⟨(el q.fe n).k,(el q.fe n).st,(el q.fe n).li,(el q.fe n).t⟩from rfl];rfl
end Cq

namespace MB
open Lib (rr rs re rf rc Px el)
open iF (tY yS told jh nq jK wx)
theorem ok(p:Px)(f:az)(hp:p.Fit 1048576):c p.now (re p.en) (rs p.w) (rs p.m) (rr p.s) p.a (rf p.fe) (rc p.cl) p.hits f=ai/\v p.now (re p.en) (rs p.w) (rs p.m) (rr p.s) p.a (rf p.fe) (rc p.cl) p.hits f=(p.now,re p.en,rs p.w,rs p.m,rr p.s,p.a,rf (yS p f).1.fe,rc (yS p f).1.cl,p.hits,(yS p f).2):=by
 have h1:=ka.ok p hp;have h2:=tO.ok p f hp;have hf:=hp.fe;have hc:=hp.cl;refine out _ _ _ _ _ _ _ _ _ _ ?_;unfold vo b yS;simp only[Lib.lt,h1.1,h1.2,h2.1,h2.2,au];cases ho:tY p f with
 |false=>rfl
 |true=>
  obtain⟨n,rfl,hn,_,_⟩:=jh ho;have e1:=wx p.fe n 2 [CV.i ao 3] {el p.fe n with sta:=3} hn rfl;have M5:n<(p.fe.set n {el p.fe n with sta:=3}).length:=by rw[cm];exact hn
  have h3:=rK.ok {p with fe:=p.fe.set n {el p.fe n with sta:=3}} n 3 M5 (by rw[cm];omega) (by dsimp only;omega);dsimp only at h3;rw[jK hn]at h3;simp only[aY,aA,au,Lib.cQ,Lib.du,dC,hn,aQ,aM,Lib.eD,e1,h3.1,h3.2];rfl
end MB

namespace vI
open Lib (rd Fi En el wd0 wd1 wd2)
open eE (vd)
open pP (dk es)
open kM (tx base)
theorem one(f:Fi)(left:aU)(h:vd [f]=ai)(hk:f.kp=(f.t.size:az)):c (rd [f]) left=ai/\v (rd [f]) left=(rd [f],ai):=by
 have h1:=fy.ok (rd [f]) (by rw[gq];simp);refine out _ _ ?_;unfold vo b;rw[h1.1,au,h1.2,show fy.val (rd [f])=ai from h,aY,aA];have h0:0<[f].length:=by simp
 have c0:ar (rd [f]) 0 0=CV.s f.n:=wd0 (l:=[f]) h0;have c1:ar (rd [f]) 0 1=CV.s f.t:=wd1 (l:=[f]) h0;have c2:ar (rd [f]) 0 (1+1)=CV.i ao f.kp:=wd2 (l:=[f]) h0;have ib:iS 0 (f.t.size:az) (f.t.size:az)=true:=by simp[iS]
 have ex:bR f.t 0 (aZ (f.t.size:az))=f.t:=Lib.K6 f.t;have w1:bJ (0+1)=1:=rfl;have L:(rd [f]).length=1:=rfl;have step:∀(N m:aE),l5 Lib.cW (λ_ _ _=>ah (([]:aU),ai)) (λ_ _ _ vm=>ah (vm,ai)) (m+1) left 0 (rd [f])=l5a Lib.cW (λ_ _ _=>ah (([]:aU),ai)) (λ_ _ _ vm=>ah (vm,ai)) m left 1 (rd [f]) (rd [f]):=by
  intro N m;have t0:aZ 0=0:=rfl;simp only[l5,r5,L,t0];generalize bZ (ar left 0 0)=z;simp only[c0,c1,c2,bQ,bZ,hk,ib,ex,w1];rw[show decide ((0:az)<((1:aE):az))=ai from rfl,au,show(decide ((0:az)<=0)&&ai)=ai from rfl,au];have fin:([]++ax (aN [Ck.s,Ck.s,Ck.i ao] 1) 0 [CV.s f.n,CV.s f.t,CV.i ao (f.t.size:az)]:aU)=rd [f]:=by
   unfold Lib.rd;rw[gi];show [[CV.s f.n,CV.s f.t,CV.i ao (f.t.size:az)]]=[Fi.row f]
   unfold Fi.row;rw[hk]
  simp only[fin];by_cases hl:(0:az)<(left.length:az)
  ·simp only[aF hl,au,show decide ((0:az)<=0)=ai from rfl,aM];by_cases a:z>(f.t.size:az)
   ·simp only[aF a,au,aK (show¬(f.t.size:az)<(f.t.size:az)by omega),aA]
   ·by_cases b:z<(f.t.size:az)
    ·simp only[aK a,aA,aF b,au]
    ·have e:z=(f.t.size:az):=by omega
     simp only[aK a,aA,aK b,e,ib,ex,fin,au,show decide ((f.t.size:az)<(f.t.size:az))=ak from aK (by omega),show decide ((f.t.size:az)>(f.t.size:az))=ak from aK (by omega)]
  ·simp only[aK hl,aA,au,aK (show¬(f.t.size:az)<(f.t.size:az)by omega)];try rw[aK (show¬(0:az)>(f.t.size:az)by omega),aA]
   by_cases b:(0:az)<(f.t.size:az)
   ·rw[aF b,au]
   ·rw[aK b,aA];have e:(f.t.size:az)=0:=by omega
    rw[e]at ex fin;rw[show(0:az).toNat=0 from rfl]at ex;rw[ex,fin]
 have last:∀(m:aE),l5a Lib.cW (λ_ _ _=>ah (([]:aU),ai)) (λ_ _ _ vm=>ah (vm,ai)) (m+1) left 1 (rd [f]) (rd [f])=ah (rd [f],ai):=by intro m;simp only[l5a,r5a,L,show decide ((1:az)<((1:aE):az))=ak from rfl,aA]
 obtain⟨n,hn⟩:∃n,Lib.cW=n+2:=⟨Lib.cW-2,by have:=cK (n:=2) (by omega);omega⟩
 have key:∀N,N=n+2->l5 Lib.cW (λ_ _ _=>ah (([]:aU),ai)) (λ_ _ _ vm=>ah (vm,ai)) N left 0 (rd [f])=ah (rd [f],ai):=by rintro N rfl;rw[step Lib.cW (n+1),last n]
 exact key _ hn
theorem ok{o:aC (ay En)}(h:(tx (es o)).size<=20000)(left:aU):c (rd (dk o)) left=ai/\v (rd (dk o)) left=(rd (dk o),ai):=by
 cases o with
 |some l=>exact one _ left (pP.K3 h) rfl
 |none=>
  have hd:vd []=true:=pP.K3 (o:=aj) h;have h1:=fy.ok (rd []) (by rw[gq];simp);refine out _ _ ?_;unfold vo b;show(bif fy.c (rd [])then bif !fy.v (rd [])then _ else l5 Lib.cW _ _ Lib.cW left 0 (rd [])else aj)=_;rw[h1.1,au,h1.2,show fy.val (rd [])=ai from hd,aY,aA];obtain⟨n,hn⟩:∃n,Lib.cW=n+1:=⟨Lib.cW-1,by have:=cK (n:=1) (by omega);omega⟩
  have key:∀N,N=n+1->l5 Lib.cW (λ_ _ _=>ah (([]:aU),ai)) (λ_ _ _ vm=>ah (vm,ai)) N left 0 (rd [])=ah (rd [],ai):=by rintro N rfl;rfl
  exact key _ hn
end vI

namespace na
open Lib (rr rs re rf rc Px En el qo t_ ua ub)
open iG (BK vV one Fg HL E0 p0)
theorem ok(now:az)(l:ay En)(hl:l.length<=1048576):
  c now (re l)=ai/\v now (re l)=(now,re (BK now l).en,rs (BK now l).w,rs (BK now l).m,rr (BK now l).s,(BK now l).a,[],[],0):=by
 refine out _ _ ?_;unfold vo b;have key:=me l.length (λn (i:aE) (p:Px)=>l4 Lib.cW (λ(_:az) (_:aU) (_ _ _ _ Iu Td y24:az) (TV TW Iv TX TY TZ:aU)=>ah (Iu,TV,TW,Iv,TX,Td,TY,TZ,y24)) n now (re l) (i:az) 0 0 0 now p.a 0 (re p.en) (rs p.w) (rs p.m) (rr p.s) [] []) (λi=>BK now (l.take i)) (ah (now,re (BK now l).en,rs (BK now l).w,rs (BK now l).m,rr (BK now l).s,(BK now l).a,[],[],0)) (λn i hi=>by
  have I:=Fg now l i (by omega);have hs:=HL now l i hi;generalize BK now (l.take i)=p at I hs;rw[hs];unfold one;have hw:bJ ((i:az)+1)=((i+1:aE):az):=Lib.di hi (by omega);have Lk:Ie.v (el l i).k (el l i).st (el l i).li (el l i).bo now=vV (el l i) now:=(Ie.eq _ _ _ _ _).symm;cases hf:vV (el l i) now with
  |false=>
   rw[hf]at Lk;cases hq:iI.v (el l i).k (el l i).st (el l i).li (el l i).bo with
   |false=>simp only[l4,r4,dO,Lib.du,hi,aQ,Lib.cQ,aM,au,Lib.eD,qo hi,t_ hi,ua hi,ub hi,bQ,bZ,hq,aA,hw]
   |true=>simp only[l4,r4,dO,Lib.du,hi,aQ,Lib.cQ,aM,au,Lib.eD,qo hi,t_ hi,ua hi,ub hi,bQ,bZ,hq,Lk,aA,hw]
  |true=>rw[hf]at Lk;have hq:=E0 hf;have hk:=(iI.Gg hq).1;have h4:=xV.ok p (el l i) [] [] (I.fit (by omega) (by omega)) I.so I.ks (by omega);rw[I.now,I.hits]at h4;simp only[l4,r4,Lib.lt,dO,Lib.du,hi,aQ,Lib.cQ,aM,au,Lib.eD,qo hi,t_ hi,ua hi,ub hi,bQ,bZ,hq,Lk,h4.1,h4.2,hw]) (λn=>by
  simp only[l4,r4,dO,Lib.du,bm,bh,aA,g8]) Lib.cW 0 (bz _) (cK (by omega))
 exact key
end na

namespace vG
open Lib (rr rs re rf rc rd Px En el qo t_ ua ub)
open mX (Wo Ev Jj p8)
open pP (dk es)
open kO (B8)
open jP (ri EI DN mR)
theorem walk(N:aE)(L:ay En)(hL:L.length<=1048576)(hN:L.length<N)(K0 K1:az->az->az->az->aU->aU->aU->aU->aU->aU->aU->aU->aU->aU->aU->aC R)(now a5 a8:az)(q1 q2 q3 q4 q6 q7 q9 Ip q11:aU):
  l7 N K0 K1 N 0 now a5 a8 (re L) (re []) q1 q2 q3 q4 q6 q7 q9 Ip q11=K0 (L.length:az) now a5 a8 (re L) (re (L.filter λe=>iG.vV e now)) q1 q2 q3 q4 q6 q7 q9 Ip q11:=by
 have hw:∀i,i<L.length->bJ ((i:az)+1)=((i+1:aE):az):=λi h=>Lib.di h (by omega)
 have key:=Dm L (λe=>iG.vV e now) (λm (i:aE) acc=>l7 N K0 K1 m (i:az) now a5 a8 (re L) (re acc) q1 q2 q3 q4 q6 q7 q9 Ip q11) (λacc=>K0 (L.length:az) now a5 a8 (re L) (re acc) q1 q2 q3 q4 q6 q7 q9 Ip q11) []
  (λm i acc hi ha hp=>by rw[<-fQ hi]at hp⊢;unfold iG.vV at hp;rw[Ie.eq]at hp;simp only[l7,r7,dO,Lib.du,hi,aQ,Lib.cQ,aM,au,Lib.eD,qo hi,t_ hi,ua hi,ub hi,bQ,bZ,hp,hw i hi,jP.tv,jP.DN];rw[Lib.cC (by simp at ha;omega) (by simp at ha;omega),au])
  (λm i acc hi hp=>by rw[<-fQ hi]at hp;unfold iG.vV at hp;rw[Ie.eq]at hp;simp only[l7,r7,dO,Lib.du,hi,aQ,Lib.cQ,aM,au,Lib.eD,qo hi,t_ hi,ua hi,ub hi,bQ,bZ,hp,hw i hi,aA])
  (λm acc=>by simp only[l7,r7,dO,Lib.du,bm,bh,aA])
  N hN
 exact key
theorem ok{i:aE}{w:Wo}(h:B8 i w)(hi:i<=71)(k id:az)(t:aq)(n:az)(left:aU):c w.p.now (re w.p.en) (rs w.p.w) (rs w.p.m) (rr w.p.s) w.p.a (rf w.p.fe) (rc w.p.cl) w.p.hits (rd (dk w.o)) (ri w.cd) (re w.bd) k id t n left=ai/\v w.p.now (re w.p.en) (rs w.p.w) (rs w.p.m) (rr w.p.s) w.p.a (rf w.p.fe) (rc w.p.cl) w.p.hits (rd (dk w.o)) (ri w.cd) (re w.bd) k id t n left=EI (Jj w):=by
 refine out _ _ _ _ _ _ _ _ _ _ _ _ _ _ _ _ _ ?_;have Yr:=h.tx hi;have hlen:=h.len hi;have hdl:=pP.P7 w.o;have A:=vI.ok (o:=w.o) (by omega) left;have B:=(pP.afv (o:=w.o) (by omega) h.eo).2;have N2:=kM.Q0 (es w.o);have hf:=kO.Lf h.eo;have N1:=kO.G8 w;have htf:=kO.aaH _ hf;have C:=mv.ok (rd (dk w.o)) (re (p8 w)) (by rw[gq];omega) (by rw[dO];omega);rw[pP.afu (by omega) hf]at C;have D:=pC.ok (dk w.o) (vn.yR (kM.tx (p8 w))) (by omega) (by unfold vn.yR;simp) (λx hx=>by
  unfold vn.yR at hx;simp only[cz,rH,or_false]at hx;rcases hx with rfl|rfl|rfl
  ·show(kM.tx (p8 w)).size<=_;omega
  ·exact bz _
  ·exact bz _)
 rw[pP.UA (by omega) (by omega)]at D;have E:=na.ok w.p.now (p8 w) (by omega);unfold vo;generalize hN:Lib.cW=N;have jt:(kM.kp (es w.o)).length<N:=by rw[<-hN];exact cK (by omega)
 clear hN;unfold b;rw[A.1,au,A.2,jP.lt_eq];rw[show(rd (dk w.o),ai).2=ai from rfl,au,show(rd (dk w.o),ai).1=rd (dk w.o)from rfl];rw[B.1,au,B.2,jP.lt_eq,show aN [Ck.s,Ck.i ao,Ck.i ao,Ck.s] 0=re []from rfl,walk N (kM.kp (es w.o)) (by omega) jt];have e:((kpp:ay En)->kpp=kM.kp (es w.o)->kpp.filter (λe=>iG.vV e w.p.now)=p8 w):=λ_ h=>by subst h;rfl
 rw[e _ rfl];simp only[jP.lt_eq,C.1,C.2,D.1,D.2,E.1,E.2,au];have hinv:=iG.Fg w.p.now (p8 w) (p8 w).length (cu _);rw[g8]at hinv;unfold EI Jj;dsimp only;rw[hinv.now,hinv.fe,hinv.cl,hinv.hits];rfl
end vG

namespace Cp
open Lib (rr rs re rf rc rd Px En el)
open mX (Wo Ev closed Jj p8 sw flag)
open pP (dk es)
open kO (B8)
open jP (ri EI DN mR)
theorem fl(b:aW):zA.v b=flag b:=by cases b<;>rfl
theorem left(l:ay Lib.Cl)(id:az):decide ((((l.filter λc=> !decide (c.id=id)).length:aE):az)<(l.length:az))=dP.lh l id:=by
 unfold dP.lh;cases h:l.any λx=>decide (x.id=id)with
 |true=>
  obtain⟨x,hx,hp⟩:=List.any_eq_true.1 h;have:(l.filter λc=> !decide (c.id=id)).length<l.length:=by rw[List.length_filter_lt_length_iff_exists];exact⟨x,hx,by simpa using hp⟩
  exact aF (by omega)
 |false=>
  rw[XZ]at h;have:l.filter (λc=> !decide (c.id=id))=l:=gK.2 λx hx=>by have:=h x hx;simpa using this
  rw[this];exact aK (by omega)
theorem ok{i:aE}{w:Wo}{e:Ev}(h:B8 i w)(hi:i<=71)(he:sw e=ai):c w.p.now (re w.p.en) (rs w.p.w) (rs w.p.m) (rr w.p.s) w.p.a (rf w.p.fe) (rc w.p.cl) w.p.hits (rd (dk w.o)) (ri w.cd) (re w.bd) e.k e.id e.t e.n e.l=ai/\v w.p.now (re w.p.en) (rs w.p.w) (rs w.p.m) (rr w.p.s) w.p.a (rf w.p.fe) (rc w.p.cl) w.p.hits (rd (dk w.o)) (ri w.cd) (re w.bd) e.k e.id e.t e.n e.l=((mX.act w e).2,EI (mX.act w e).1):=by
 unfold sw at he;simp only[aJ,bc]at he;obtain⟨hk,Im,ht,hn,hl⟩:=he;have hp:=mR h.px;refine out _ _ _ _ _ _ _ _ _ _ _ _ _ _ _ _ _ ?_;unfold vo b mX.act;by_cases k1:e.k=1
 ·rw[aF k1,au];have A:=U9.ok w.p e.id e.t hp (by omega);rw[A.1,au,A.2,jP.lt_eq];try rfl
 rw[aK k1,aA,aA];by_cases k2:e.k=2
 ·rw[aF k2,au];have A:=Mz.ok w.p e.id e.t hp;rw[A.1,au,A.2,jP.lt_eq,fl];unfold EI iF.zd;cases iF.tY w.p e.id&&(decide (1<=e.t.size/\e.t.size<=40)&&decide ((el w.p.fe e.id.toNat).t.size+e.t.size<=400))<;>rfl
 rw[aK k2,aA,aA];by_cases k3:e.k=3
 ·rw[aF k3,au];have A:=Cq.ok h hi e.k e.id e.t e.n e.l hn;rw[k3]at A;rw[k3,A.1,au,A.2,jP.lt_eq];try rfl
 rw[aK k3,aA,aA];by_cases k4:e.k=4
 ·rw[aF k4,au];have A:=MB.ok w.p e.id hp;rw[A.1,au,A.2,jP.lt_eq,fl];unfold EI iF.yS;cases iF.tY w.p e.id<;>rfl
 rw[aK k4,aA,aA];by_cases k5:e.k=5
 ·rw[aF k5,au];have A:=IM.ok w.p e.n hp;rw[A.1,au,A.2,jP.lt_eq];try rfl
 rw[aK k5,aA,aA];by_cases k6:e.k=6
 ·rw[aF k6,au];have A:=IP.ok w.p e.id hp;rw[A.1,au,A.2,jP.lt_eq,fl];dsimp only;rw[eO,eO,show(IP.val w.p e.id).cl=w.p.cl.filter (λc=> !decide (c.id=e.id))from rfl,left];try rfl
 rw[aK k6,aA,aA];have k7:e.k=7:=by omega
 rw[aF k7,au];have A:=vG.ok h hi e.k e.id e.t e.n e.l;rw[k7]at A;rw[k7,A.1,au,A.2,jP.lt_eq];try rfl
end Cp

namespace xW
open Lib (rr rs re rf rc rd Px En el)
open mX (Wo Ev closed Jj p8 sw flag)
open pP (dk es)
open kO (B8)
open jP (ri EI DN mR)
theorem abi(w:Wo)(e:Ev):(mX.act w e).1.cd=w.cd:=by
 unfold mX.act closed;cases decide (e.k=1)<;>cases decide (e.k=2)<;>cases decide (e.k=3)<;>cases decide (e.k=4)<;>cases decide (e.k=5)<;>cases decide (e.k=6)<;>(try rfl)
 all_goals
  dsimp only[au,aA]
  cases (rV.cls w.p e.id (e.n%1000000)).2&&decide (e.n%1000000>0)<;>rfl
theorem ok{i:aE}{w:Wo}{e:Ev}(h:B8 i w)(hi:i<=71)(he:sw e=ai):c w.p.now (re w.p.en) (rs w.p.w) (rs w.p.m) (rr w.p.s) w.p.a (rf w.p.fe) (rc w.p.cl) w.p.hits (rd (dk w.o)) (ri w.cd) (re w.bd) e.k e.id e.t e.n e.l=ai/\v w.p.now (re w.p.en) (rs w.p.w) (rs w.p.m) (rr w.p.s) w.p.a (rf w.p.fe) (rc w.p.cl) w.p.hits (rd (dk w.o)) (ri w.cd) (re w.bd) e.k e.id e.t e.n e.l=EI (mX.step w e):=by
 refine out _ _ _ _ _ _ _ _ _ _ _ _ _ _ _ _ _ ?_;have A:=Cp.ok h hi he;have hcd:=h.cd;unfold vo b;rw[A.1,au,A.2,jP.lt_eq];have e1:(EI (mX.act w e).1).2.2.2.2.2.2.2.2.2.2.1=ri w.cd:=by unfold EI;rw[abi]
 have r1:cB ((aN [Ck.i ao] 0).length+(ri w.cd).length) 8=true:=by rw[jP.fU];exact Lib.cC (by show(0+w.cd.length)*8<=_;omega) (by show 0+w.cd.length<=_;omega)
 have r2:cB ((ri w.cd).length+(ax (aN [Ck.i ao] 1) 0 [CV.i ao (mX.act w e).2]).length) 8=true:=by rw[jP.fU,jP.tv];exact Lib.cC (by omega) (by omega)
 show(bif cB ((aN [Ck.i ao] 0).length+((EI (mX.act w e).1).2.2.2.2.2.2.2.2.2.2.1).length) 8 then _ else aj)=_;simp only[e1,jP.aq9,r1,r2,au,jP.ah8];rfl
end xW

namespace Ix
open Lib (rr rs re rf rc rd Px En el)
open mX (Wo Ev sw)
open pP (dk es)
open kO (B8)
open jP (ri EI)
open T1 (rv run)
open bO (I)
open A_Post (e6)
theorem ids{p:Px}(h:ur.fX p):∀j,j<(rc p.cl).length->0<=bZ (ar (rc p.cl) j 0)/\bZ (ar (rc p.cl) j 0)<=30:=by
 intro j hj;have TN:j<p.cl.length:=by rw[eO]at hj;exact hj
 have:=h.cl _ (qM TN);unfold ur.Ij at this;simp only[aJ,bc]at this;rw[show ar (rc p.cl) j 0=CV.i ao (el p.cl j).id from gP _ p.cl j 0 TN];show 0<=(el p.cl j).id/\(el p.cl j).id<=30;omega
theorem next{α:Type}{i:aE}{w:Wo}{q:aU}{a s:az}{X:az×az×aq×az×aU×aU×az×az×aU×aU×aU×aU×aU×aU×aU×aU×aU->aC α}{P:α->Prop}(h:B8 i w)(hI:I q a)
  (hx:∀k id t n a' s',I q a'->sw ⟨k,id,t,n,[]⟩=ai->k<=6->e6 (X (k,id,t,n,[],q,a',s',re w.p.en,rs w.p.w,rs w.p.m,rr w.p.s,rf w.p.fe,rc w.p.cl,rd (dk w.o),ri w.cd,re w.bd)) P):
  e6 (bif uN.c q a s w.p.now (re w.p.en) (rs w.p.w) (rs w.p.m) (rr w.p.s) w.p.a (rf w.p.fe) (rc w.p.cl) w.p.hits (rd (dk w.o)) (ri w.cd) (re w.bd)then Lib.lt (uN.v q a s w.p.now (re w.p.en) (rs w.p.w) (rs w.p.m) (rr w.p.s) w.p.a (rf w.p.fe) (rc w.p.cl) w.p.hits (rd (dk w.o)) (ri w.cd) (re w.bd)) X else aj) P:=by obtain⟨x,e,k,id,t,n,a',s',rfl,h1,h2,h3⟩:=uN.body q a s w.p.now (re w.p.en) (rs w.p.w) (rs w.p.m) (rr w.p.s) w.p.a (rf w.p.fe) (rc w.p.cl) w.p.hits (rd (dk w.o)) (ri w.cd) (re w.bd) hI (by rw[dC];exact h.px.fl) (ids h.px);obtain⟨c1,v1⟩:=uN.out _ _ _ _ _ _ _ _ _ _ _ _ _ _ _ e;exact A_Post.call c1 v1 (hx k id t n a' s' h1 h2 h3)
theorem step{α:Type}{i:aE}{w:Wo}{X:az×aU×aU×aU×aU×az×aU×aU×az×aU×aU×aU->aC α}{P:α->Prop}(e:Ev)(h:B8 i w)(hi:i<=71)(he:sw e=ai)(hx:e6 (X (EI (mX.step w e))) P):
  e6 (bif xW.c w.p.now (re w.p.en) (rs w.p.w) (rs w.p.m) (rr w.p.s) w.p.a (rf w.p.fe) (rc w.p.cl) w.p.hits (rd (dk w.o)) (ri w.cd) (re w.bd) e.k e.id e.t e.n e.l then Lib.lt (xW.v w.p.now (re w.p.en) (rs w.p.w) (rs w.p.m) (rr w.p.s) w.p.a (rf w.p.fe) (rc w.p.cl) w.p.hits (rd (dk w.o)) (ri w.cd) (re w.bd) e.k e.id e.t e.n e.l) X else aj) P:=
 A_Post.call (xW.ok h hi he).1 (xW.ok h hi he).2 hx
end Ix

namespace NV
open Lib (rr rs re rf rc rd Px En el)
open mX (Wo Ev sw)
open pP (dk es)
open kO (B8)
open jP (ri EI)
open ur (fX)
open bO (I)
open A_Post (e6)
theorem walk{P:R->Prop}(N:aE)(q:aU)(K:az->aU->az->az->az->az->az->az->az->az->aU->aU->aU->aU->aU->aU->aU->aU->aU->aC R)
  (hK:∀(x:az) (w:Wo) (a s:az),fX w.p->I q a->e6 (K x q a s 0 0 0 w.p.now w.p.a w.p.hits (re w.p.en) (rs w.p.w) (rs w.p.m) (rr w.p.s) (rf w.p.fe) (rc w.p.cl) (rd (dk w.o)) (ri w.cd) (re w.bd)) P):
  ∀(d i n:aE) (w:Wo) (a s:az),30-i<=d->i<=30->d<n->B8 i w->I q a->
   e6 (l3 N K n (i:az) q a s 0 0 0 w.p.now w.p.a w.p.hits (re w.p.en) (rs w.p.w) (rs w.p.m) (rr w.p.s) (rf w.p.fe) (rc w.p.cl) (rd (dk w.o)) (ri w.cd) (re w.bd)) P:=by
 intro d;induction d with
 |zero=>
  intro i n w a s h1 h2 h3 h4 h5;obtain⟨n,rfl⟩:∃k,n=k+1:=⟨n-1,by omega⟩
  rw[show l3 N K (n+1)=r3 N (l3 N K n) K from rfl];unfold r3;refine A_Post.below h5 (λx a1 s1 I1 g0 g1=> ?_);have:=g1 (by omega);exact A_Post.cn (aK (by dsimp only;omega)) (hK _ w _ _ h4.px I1)
 |succ d ih=>
  intro i n w a s h1 h2 h3 h4 h5;obtain⟨n,rfl⟩:∃k,n=k+1:=⟨n-1,by omega⟩
  rw[show l3 N K (n+1)=r3 N (l3 N K n) K from rfl];unfold r3;refine A_Post.below h5 (λx a1 s1 I1 g0 g1=> ?_);have:=g1 (by omega);by_cases h:(i:az)<x
  ·have jL:bJ ((i:az)+1)=((i+1:aE):az):=c5 (by omega) (by omega);refine A_Post.ck (aF (by dsimp only;omega)) ?_;refine Ix.next h4 I1 (λk id t n0 a2 s2 I2 he hk=> ?_);refine Ix.step ⟨k,id,t,n0,[]⟩ h4 (by omega) he ?_;have:=ih (i+1) n (mX.step w ⟨k,id,t,n0,[]⟩) a2 s2 (by omega) (by omega) (by omega) (kO.Ab h4 he) I2;rw[jL];exact this
  ·exact A_Post.cn (aK (by dsimp only;omega)) (hK _ w _ _ h4.px I1)
theorem run{q:aU}{a s:az}(hI:I q a):e6 (vo q a s) (λx=>∃(p:Px) (a' s':az),fX p/\I q a'/\x=(p.now,re p.en,rs p.w,rs p.m,rr p.s,p.a,rf p.fe,rc p.cl,p.hits,q,a',s')):=by
 unfold vo;generalize hN:Lib.cW=N;have Yc:30<N:=by rw[<-hN];exact cK (by omega)
 clear hN;unfold b;exact walk N q _ (λx w a1 s1 h I1=>A_Post.ret ⟨w.p,a1,s1,h,I1,rfl⟩) 30 0 N T1.w0 a s (cu _) (bz _) Yc T1.aiP hI
theorem ok{q:aU}{a s:az}(hI:I q a):∃(p:Px) (a' s':az),fX p/\I q a'/\c q a s=ai/\v q a s=(p.now,re p.en,rs p.w,rs p.m,rr p.s,p.a,rf p.fe,rc p.cl,p.hits,q,a',s'):=by obtain⟨x,hx,p,a',s',h1,h2,rfl⟩:=run (s:=s) hI;obtain⟨c1,v1⟩:=out _ _ _ hx;exact⟨p,a',s',h1,h2,c1,v1⟩
end NV

namespace Cv
open Lib (rr rs re rf rc Px En Fe Cl el)
open bO (I)
open ur (fX)
open A_Post (e6)
open xY (Sm md ix)
open AB (Pm)
structure An (p:Px):Prop where
 en:p.en.length<=100
 pm:Pm p.w p.m p.s
 fe:p.fe.length<=20
 cl:p.cl.length<=6
theorem An.fit{p:Px}(h:An p):p.Fit 1048576:=by
 obtain⟨h1,h2,h3,h4⟩:=h.pm;refine⟨by have:=h.en;omega,by omega,by omega,⟨by omega,λq hq=>by have:=h4 q hq;omega, ?_⟩,by have:=h.fe;omega,by have:=h.cl;omega⟩
 have key:∀l:ay (ay az),(∀q∈l,q.length<=16)->(l.map bP).sum<=16*l.length:=by
  intro l;induction l with
  |nil=>intro _;exact cu _
  |cons x l ih=>intro hq;have a1:=hq x dA;have a2:=ih (λq hq'=>hq q (cU _ hq'));simp only[eW,List.sum_cons,cY];omega
 have:=key p.s h4;omega
theorem An.of{p:Px}(h:fX p):An p:=by obtain⟨_,l1,l2,hs⟩:=rj.gW.1 h.pol;have:=h.len;exact⟨by omega,⟨by omega,by omega,Sm.of hs⟩,h.fl,h.cll⟩
def row(p:Px){α:Type}(x:α):az×aU×aU×aU×aU×az×aU×aU×az×α:=(p.now,re p.en,rs p.w,rs p.m,rr p.s,p.a,rf p.fe,rc p.cl,p.hits,x)
theorem anc(l:ay Fe)(i:aE)(x:az)(h:i<l.length):dV (rf l) i 2 [CV.i ao x]=rf (l.set i {l[i]with sta:=x}):=jD Fe.row l i 2 _ _ h rfl
theorem am8(l:ay Cl)(i:aE)(x:az)(h:i<l.length):dV (rc l) i 2 [CV.i ao x]=rc (l.set i {l[i]with fe:=x}):=jD Cl.row l i 2 _ _ h rfl
theorem ok{q:aU}{a s:az}(hI:I q a):∃(p:Px) (a' s':az),An p/\I q a'/\c q a s=ai/\v q a s=row p (q,a',s'):=by
 have main:e6 (vo q a s) (λx=>∃(p:Px) (a' s':az),An p/\I q a'/\x=row p (q,a',s')):=by
  unfold vo b;refine A_Post.below hI (λk a1 s1 I1 k0 k1=> ?_);refine A_Post.below I1 (λx a2 s2 I2 x0 x1=> ?_);obtain⟨p,a3,s3,hp,I3,c3,v3⟩:=NV.ok (s:=s2) I2;refine A_Post.call c3 v3 ?_;have C:=ka.ok p (jP.mR hp);refine A_Post.call C.1 C.2 ?_;dsimp only;have hA:=An.of hp;obtain⟨m4,hm4,e4⟩:=md x 4 (by omega) x0;rw[show(((4:aE):az))=4 from rfl]at e4;rw[e4];refine A_Post.br (λ_=> ?_) (λ_=> ?_)
  ·exact A_Post.ck (ix (by simpa [aN]using hm4)) (A_Post.ret ⟨{p with now:=bZ (ar (ax (ax (ax (ax (aN [Ck.i ao] 4) 0 [CV.i ao 0]) 1 [CV.i ao 1]) 2 [CV.i ao 1000000000]) 3 [CV.i ao 1000000001]) (aZ (m4:az)) 0)},a3,s3,⟨hA.en,hA.pm,hA.fe,hA.cl⟩,I3,rfl⟩)
  refine A_Post.br (λ_=> ?_) (λ_=> ?_)
  ·obtain⟨w,m,S,A,a4,s4,h4,I4,c4,v4⟩:=AB.ok (s:=s3) I3;exact A_Post.call c4 v4 (A_Post.ret ⟨{p with w:=w,m:=m,s:=S,a:=A},a4,s4,⟨hA.en,h4,hA.fe,hA.cl⟩,I4,rfl⟩)
  refine A_Post.br (λ_=> ?_) (λ_=> ?_)
  ·rw[dC];refine A_Post.br (λg=> ?_) (λ_=>A_Post.ret ⟨p,a3,s3,hA,I3,rfl⟩);have g:=cg g;obtain⟨m,hm,e⟩:=md x p.fe.length (by omega) x0;rw[e,dU,anc _ _ _ hm];exact A_Post.ck (by rw[aK (show¬((p.fe.length:az)=0)by omega)];rfl) (A_Post.ck (ix hm) (A_Post.ret ⟨{p with fe:=p.fe.set m {p.fe[m]with sta:=bL x 5}},a3,s3,⟨hA.en,hA.pm,by show(p.fe.set m _).length<=20;rw[cm];exact hA.fe,hA.cl⟩,I3,rfl⟩))
  refine A_Post.br (λ_=> ?_) (λ_=> ?_)
  ·rw[eO];refine A_Post.br (λg=> ?_) (λ_=>A_Post.ret ⟨p,a3,s3,hA,I3,rfl⟩);have g:=cg g;obtain⟨m,hm,e⟩:=md x p.cl.length (by omega) x0;rw[e,dU,am8 _ _ _ hm];exact A_Post.ck (by rw[aK (show¬((p.cl.length:az)=0)by omega)];rfl) (A_Post.ck (ix hm) (A_Post.ret ⟨{p with cl:=p.cl.set m {p.cl[m]with fe:=bJ (bL x 30-1)}},a3,s3,⟨hA.en,hA.pm,hA.fe,by show(p.cl.set m _).length<=6;rw[cm];exact hA.cl⟩,I3,rfl⟩))
  refine A_Post.br (λ_=> ?_) (λ_=> ?_)
  ·exact A_Post.ret ⟨{p with hits:= -1},a3,s3,⟨hA.en,hA.pm,hA.fe,hA.cl⟩,I3,rfl⟩
  ·exact A_Post.ret ⟨p,a3,s3,hA,I3,rfl⟩
 obtain⟨x,hx,p,a',s',h1,h2,rfl⟩:=main;obtain⟨c1,v1⟩:=out _ _ _ hx;exact⟨p,a',s',h1,h2,c1,v1⟩
end Cv

namespace Mq
open Lib (rr rs re rf rc Px En Fe Cl el)
open ur (fX jM)
open Cv (An)
open iF (yS zd tY)
open rV (cls)
open dP (qR)
open mo (iy)
theorem ask_cases(p:Px)(id:az)(key:aq):((dP.ask p id key).2≠0->(dP.ask p id key).1=p)/\((dP.ask p id key).2=0->fX (dP.ask p id key).1)/\((dP.ask p id key).1=p\/fX (dP.ask p id key).1):=by
 have hm:∀h:aW,((qR p id key h).2≠0->(qR p id key h).1=p):=by
  intro h;unfold qR;cases dP.Nn p.fe key with
  |some i=>intro q;exact cE rfl q
  |none=>
   dsimp only;cases decide (p.fe.length<20)with
   |true=>intro q;exact cE rfl q
   |false=>intro _;rfl
 cases hp:iy p with
 |false=>
  have e:dP.ask p id key=(p,1):=by unfold dP.ask;rw[hp];rfl
  rw[e];exact⟨λ_=>rfl,(λh=>cE h (show¬((1:az)=0)by decide)), .inl rfl⟩
 |true=>
  have ho:=DS.PU id key (jM.1 hp);refine⟨?_,λ_=>ho, .inr ho⟩
  unfold dP.ask;cases iy p&&(decide (1<=id/\id<=9)&&(jk.eh key&&(!dP.lh p.cl id&&decide (p.cl.length<6))))with
  |false=>intro _;rfl
  |true=>
   rw[au];cases dP.Ik p.en key with
   |none=>exact hm ak
   |some e=>
    dsimp only;cases dP.vV e p.now with
    |true=>intro q;exact cE rfl q
    |false=>exact hm ai
theorem A5{p q:Px}(hp:p.Fit 1048576)(h:q=p\/fX q):q.Fit 1048576:=by
 rcases h with rfl|h
 ·exact hp
 ·exact jP.mR h
theorem JT{p:Px}(h:iy p=ak)(f:az):tY p f=false:=by unfold tY;rw[h];rfl
theorem abx(p:Px)(f:az):(yS p f).1=p\/fX (yS p f).1:=by
 cases hp:iy p with
 |false=>left;unfold yS;rw[JT hp];rfl
 |true=>exact .inr (CT.IX f (jM.1 hp))
theorem adf(p:Px)(f:az)(t:aq):(zd p f t).1=p\/fX (zd p f t).1:=by
 cases hp:iy p with
 |false=>left;unfold zd;rw[JT hp];rfl
 |true=>exact .inr (CT.JZ f t (jM.1 hp))
theorem abB(p:Px)(f life:az):((cls p f life).1=p\/fX (cls p f life).1)/\((cls p f life).2=ai->fX (cls p f life).1):=by
 cases hp:iy p with
 |false=>
  have e:cls p f life=(p,ak):=by unfold cls;rw[JT hp];rfl
  rw[e];exact⟨.inl rfl,(λh=>by cases h)⟩
 |true=>
  by_cases hl:0<=life/\life<=999999
  ·have:=(kO.I9 (f:=f) (jM.1 hp) hl).1;exact⟨.inr this,λ_=>this⟩
  ·have e:cls p f life=(p,ak):=by unfold cls;rw[aK hl,vp];rfl
   rw[e];exact⟨.inl rfl,(λh=>by cases h)⟩
theorem Ji{p q:Px}(hp:p.Fit 1048576)(hq:q.Fit 1048576):({p with fe:=q.fe,cl:=q.cl}:Px).Fit 1048576:=⟨hp.en,hp.w,hp.m,hp.s,hq.fe,hq.cl⟩
theorem Rb{q:Px}(hq:q.Fit 1048576)(n h:az):({q with now:=n,hits:=h}:Px).Fit 1048576:=⟨hq.en,hq.w,hq.m,hq.s,hq.fe,hq.cl⟩
end Mq

namespace Cu
theorem ok(q:aU)(hl:q.length<=1048576):∃h,c q=ai/\v q=(q,0,h):=by
 have key:=tl (λn (s:aE×az)=>l3 Lib.cW (λ(y3:aU) (y4 _:az)=>ah (y3,(0:az),y4)) n q s.2 (s.1:az)) (λs=>q.length-s.1) (λs=>s.1<=q.length) (λr=>∃h,r=(q,0,h)) (λn s hs=>by
  obtain⟨i,h⟩:=s;dsimp only at hs⊢;by_cases hi:i<q.length
  ·by_cases h4:(i:az)<4000
   ·right;have jL:bJ ((i:az)+1)=((i+1:aE):az):=c5 (by omega) (by omega)
    have e:∃h',l3 Lib.cW (λ(y3:aU) (y4 _:az)=>ah (y3,(0:az),y4)) (n+1) q h (i:az)=l3 Lib.cW (λ(y3:aU) (y4 _:az)=>ah (y3,(0:az),y4)) n q h' ((i+1:aE):az):=
     ⟨_,by simp only[l3,r3,Lib.du,hi,h4,aQ,Lib.cQ,aM,au,Lib.eD,jL];rfl⟩
    obtain⟨h',e⟩:=e;exact⟨(i+1,h'),hi,by dsimp only;omega,e⟩
   ·left;exact⟨_,by simp only[l3,r3,Lib.du,hi,h4,aQ,bh,au,aA];rfl,_,rfl⟩
  ·left;exact⟨_,by simp only[l3,r3,Lib.du,hi,bh,aA];rfl,_,rfl⟩) Lib.cW (0,bJ (34901+(q.length:az))) (bz _) (cK (by omega))
 obtain⟨b',hb,h,rfl⟩:=key;obtain⟨e1,e2⟩:=out q (x:=(q,0,h)) hb;exact⟨h,e1,e2⟩
end Cu

namespace TE
theorem ok(q:aU)(a s k:az)(hI:bO.I q a):∃n a' s',c q a s k=ai/\v q a s k=(n,q,a',s')/\bO.I q a':=by
 obtain⟨x,a1,s1,c1,v1,I1⟩:=ia.ok q a s 15 hI;cases x with
 |true=>obtain⟨i,a3,s3,c3,v3,I3,g3⟩:=rS.ok q a1 s1 (ax (ax (ax (ax (ax (aN [Ck.i ao] 5) 0 [CV.i ao (iT 1)]) 1 [CV.i ao k]) 2 [CV.i ao (bJ (k+1))]) 3 [CV.i ao 9223372036854775807]) 4 [CV.i ao (iT 9223372036854775808)]) I1 (by simp[aN]);obtain⟨e1,e2⟩:=out q a s k (x:=(_,q,a3,s3)) (by unfold vo b;simp only[c1,v1,c3,v3,au];rfl);exact⟨_,a3,s3,e1,e2,I3⟩
 |false=>obtain⟨n,a3,s3,c3,v3,I3,_⟩:=de.ok q a1 s1 k I1;obtain⟨e1,e2⟩:=out q a s k (x:=(n,q,a3,s3)) (by unfold vo b;simp only[c1,v1,c3,v3,au,aA]);exact⟨_,a3,s3,e1,e2,I3⟩
end TE

namespace Tz
open Lib (rr rs re rf rc Px)
open bO (I)
open A_Post (e6)
open Cv (An row)
theorem ok(code:aU)(hc:code.length<=1048576):∃(p:Px) (n:az) (k:aq),An p/\k.size<=2/\c code=ai/\v code=row p (n,k):=by
 have main:e6 (vo code) (λx=>∃(p:Px) (n:az) (k:aq),An p/\k.size<=2/\x=row p (n,k)):=by
  obtain⟨h,c0,v0⟩:=Cu.ok code hc;have I0:I code 0:=⟨Gm _,o6 _,hc⟩
  unfold vo b;refine A_Post.call c0 v0 ?_;obtain⟨n,a,s,c1,v1,I1⟩:=TE.ok code 0 h 9 I0;refine A_Post.call c1 v1 ?_;refine A_Post.key I1 (λk a s I1 hk=> ?_);refine A_Post.once I1 (λb a s I1=> ?_);obtain⟨p,a1,s1,hp,I1,c1,v1⟩:=Cv.ok (s:=s) I1;refine A_Post.br (λ_=> ?_) (λ_=> ?_)
  ·exact A_Post.call c1 v1 (A_Post.ret ⟨p,n,⟨#[]⟩,hp,by decide,rfl⟩)
  ·exact A_Post.call c1 v1 (A_Post.ret ⟨p,n,k,hp,by omega,rfl⟩)
 obtain⟨x,hx,p,n,k,hp,hk,rfl⟩:=main;obtain⟨c1,v1⟩:=out _ hx;exact⟨p,n,k,hp,hk,c1,v1⟩
end Tz

namespace rJ
open Lib (rr rs re rf rc ri Px En Fe Cl el)
open bO (I)
open A_Post (e6)
open xY (md ix)
open Cv (An row)
theorem loop{P:R->Prop}(N:aE)(K:az->az->aU->az->az->az->az->az->az->aU->az->az->aU->aU->aU->aU->aU->aU->aC R)(k:az)(q:aU)(a s z0 z1 z2 now:az)(r4:aU)(i5 hits:az)(r1 r2 r3 rcl:aU)(fe:ay Fe)(hf:fe.length<=20)
  (hK:∀(i:az) (l:ay az),l.length<=20->e6 (K k i q a s z0 z1 z2 now r4 i5 hits (ri l) r1 r2 r3 (rf fe) rcl) P):
  ∀(d i n:aE) (l:ay az),fe.length-i<=d->i<=fe.length->d<n->l.length<=i->e6 (l5 N K n k (i:az) q a s z0 z1 z2 now r4 i5 hits (ri l) r1 r2 r3 (rf fe) rcl) P:=by
 have sn:∀(l:ay az) (x:az),ri l++ax (aN [Ck.i ao] 1) 0 [CV.i ao x]=ri (l++[x]):=λl x=>by unfold ri;rw[c8];rfl
 have step:∀(i n:aE) (l:ay az),i<=fe.length->l.length<=i->
   (∀l:ay az,i<fe.length->l.length<=i+1->e6 (l5 N K n k ((i+1:aE):az) q a s z0 z1 z2 now r4 i5 hits (ri l) r1 r2 r3 (rf fe) rcl) P)->e6 (l5 N K (n+1) k (i:az) q a s z0 z1 z2 now r4 i5 hits (ri l) r1 r2 r3 (rf fe) rcl) P:=by
  intro i n l h2 h4 nx
  rw[show l5 N K (n+1)=r5 N (l5 N K n) K from rfl]
  unfold r5
  rw[dC]
  by_cases h:i<fe.length
  ·refine A_Post.ck (aF (by omega)) (A_Post.ck (ix h) ?_);rw[c5 (x:=(i:az)+1) (by omega) (by omega)];refine A_Post.br (λ_=> ?_) (λ_=>nx l h (by omega));refine A_Post.ck ?_ ?_
   ·unfold cB;rw[Lib.fU,show(ax (aN [Ck.i ao] 1) 0 [CV.i ao (i:az)]).length=1 from rfl,aF (by omega),aF (by omega)];rfl
   ·rw[sn];exact nx _ h (by rw[bW];show l.length+1<=i+1;omega)
  ·exact A_Post.cn (aK (by omega)) (hK _ _ (by omega))
 intro d;induction d with
 |zero=>
  intro i n l h1 h2 h3 h4;obtain⟨n,rfl⟩:∃k,n=k+1:=⟨n-1,by omega⟩
  exact step i n l h2 h4 (λ_ h=>by omega)
 |succ d ih=>
  intro i n l h1 h2 h3 h4;obtain⟨n,rfl⟩:∃k,n=k+1:=⟨n-1,by omega⟩
  exact step i n l h2 h4 (λl h h5=>ih (i+1) n l (by omega) (by omega) (by omega) h5)
theorem ok{q:aU}{a s:az}(hI:I q a):∃(p:Px) (f a' s':az),An p/\I q a'/\c q a s=ai/\v q a s=row p (f,q,a',s'):=by
 have main:e6 (vo q a s) (λx=>∃(p:Px) (f a' s':az),An p/\I q a'/\x=row p (f,q,a',s')):=by
  unfold vo;generalize hN:Lib.cW=N;have Yc:20<N:=by rw[<-hN];exact cK (by omega)
  clear hN;unfold b;refine A_Post.below hI (λk a1 s1 I1 k0 k1=> ?_);obtain⟨p,a3,s3,hp,I3,c3,v3⟩:=Cv.ok (s:=s1) I1;refine A_Post.call c3 v3 ?_;unfold row;dsimp only;have e0:aN [Ck.i ao] 0=ri []:=rfl;rw[e0];refine loop N _ k q a3 s3 0 0 0 p.now (rr p.s) p.a p.hits (re p.en) (rs p.w) (rs p.m) (rc p.cl) p.fe hp.fe (λi l hl=> ?_) 20 0 N [] (by have:=hp.fe;omega) (bz _) Yc (bz _);rw[Lib.fU];have fin:∀f:az,e6 (ah (p.now,re p.en,rs p.w,rs p.m,rr p.s,p.a,rf p.fe,rc p.cl,p.hits,f,q,a3,s3)) (λx=>∃(p:Px) (f a' s':az),An p/\I q a'/\x=row p (f,q,a',s')):=λf=>A_Post.ret ⟨p,f,a3,s3,hp,I3,rfl⟩;refine A_Post.br (λg=> ?_) (λ_=>fin _);have g:=cg g;refine A_Post.br (λ_=> ?_) (λ_=>fin _);obtain⟨m,hm,e⟩:=md k l.length (by omega) k0;rw[e];exact A_Post.ck (by rw[aK (show¬((l.length:az)=0)by omega)];rfl) (A_Post.ck (ix hm) (fin _))
 obtain⟨x,hx,p,f,a',s',h1,h2,rfl⟩:=main;obtain⟨c1,v1⟩:=out _ _ _ hx;exact⟨p,f,a',s',h1,h2,c1,v1⟩
end rJ

namespace zq
theorem ok(n x:az)(h0:0<=n)(h1:n<=1048576):∃t,c n x=ai/\v n x=t/\(t.size:az)=n:=by
 have key:=tl (λm (z:aE×aU)=>l3 Lib.cW (λ(_ _ _:az) (y7:aU)=>bif(decide (bP y7<=4611686018427387904))then(ah (bytesOf y7))else(aj)) m n x (z.1:az) z.2) (λz=>n.toNat-z.1) (λz=>z.1<=n.toNat/\z.2.length=n.toNat) (λt=>(t.size:az)=n) (λm z hz=>by
  obtain⟨i,acc⟩:=z;obtain⟨h2,h3⟩:=hz;dsimp only at h2 h3⊢;by_cases h:(i:az)<n
  ·right;have jL:bJ ((i:az)+1)=((i+1:aE):az):=c5 (by omega) (by omega);have hi:i<acc.length:=by omega
   refine⟨(i+1,dV acc i 0 [CV.i bg x]),⟨by dsimp only;omega,by dsimp only;rw[Lib.iX];exact h3⟩,by dsimp only;omega, ?_⟩
   simp only[l3,r3,h,hi,Lib.du,Lib.cQ,Lib.eD,aM,aQ,au,jL]
  ·left;refine⟨_,by simp only[l3,r3,h,bh,aA,aF (show acc.length<=4611686018427387904 by omega),au];rfl, ?_⟩
   rw[gX,h3];omega) Lib.cW (0,aN [Ck.i bg] n.toNat) ⟨bz _,Lib.qP _ _⟩ (cK (by dsimp only;omega))
 obtain⟨t,hb,ht⟩:=key;obtain⟨e1,e2⟩:=out n x (x:=t) (by unfold vo b;rw[aF h0,aF rfl,Lib.J5 (by omega),aM,aM,au];exact hb);exact⟨t,e1,e2,ht⟩
end zq

namespace TA
open Lib (rr rs re rf rc Px)
open bO (I)
open A_Post (e6)
open Cv (An row)
theorem ok(code:aU)(hc:code.length<=1048576):∃(p:Px) (f:az) (t:aq),An p/\c code=ai/\v code=row p (f,t):=by
 have main:e6 (vo code) (λx=>∃(p:Px) (f:az) (t:aq),An p/\x=row p (f,t)):=by
  obtain⟨h,c0,v0⟩:=Cu.ok code hc;have I0:I code 0:=⟨Gm _,o6 _,hc⟩
  unfold vo b;refine A_Post.call c0 v0 ?_;refine A_Post.LN (λn=>0<=n/\n<=41) ⟨by simp[aN],λi hi=> ?_⟩ I0 (λn a s I1 hn=> ?_)
  ·have hi:i<5:=by simpa [aN]using hi
   match i,hi with
   |0,_=>exact⟨by decide,by decide⟩
   |1,_=>exact⟨by decide,by decide⟩
   |2,_=>exact⟨by decide,by decide⟩
   |3,_=>exact⟨by decide,by decide⟩
   |4,_=>exact⟨by decide,by decide⟩
  ·obtain⟨p,f,a1,s1,hp,I1,c1,v1⟩:=rJ.ok (s:=s) I1;obtain⟨t,c2,v2,_⟩:=zq.ok n 98 hn.1 (by omega);exact A_Post.call c1 v1 (A_Post.call c2 v2 (A_Post.ret ⟨p,f,t,hp,rfl⟩))
 obtain⟨x,hx,p,f,t,hp,rfl⟩:=main;obtain⟨c1,v1⟩:=out _ hx;exact⟨p,f,t,hp,c1,v1⟩
end TA

namespace TB
open Lib (rr rs re rf rc Px)
open bO (I)
open A_Post (e6)
open Cv (An row)
theorem ok(code:aU)(hc:code.length<=1048576):∃(p:Px) (f life:az),An p/\c code=ai/\v code=row p (f,life):=by
 have main:e6 (vo code) (λx=>∃(p:Px) (f life:az),An p/\x=row p (f,life)):=by
  obtain⟨h,c0,v0⟩:=Cu.ok code hc;have I0:I code 0:=⟨Gm _,o6 _,hc⟩
  unfold vo b;refine A_Post.call c0 v0 ?_;refine A_Post.LN (λ_=>True) ⟨by simp[aN],λ_ _=>trivial⟩ I0 (λn a s I1 _=> ?_);obtain⟨p,f,a1,s1,hp,I1,c1,v1⟩:=rJ.ok (s:=s) I1;exact A_Post.call c1 v1 (A_Post.ret ⟨p,f,n,hp,rfl⟩)
 obtain⟨x,hx,p,f,n,hp,rfl⟩:=main;obtain⟨c1,v1⟩:=out _ hx;exact⟨p,f,n,hp,c1,v1⟩
end TB

namespace TC
open Lib (rr rs re rf rc Px)
open bO (I)
open A_Post (e6)
open Cv (An row)
theorem ok(code:aU)(hc:code.length<=1048576):∃(p:Px) (f:az),An p/\c code=ai/\v code=row p f:=by
 have main:e6 (vo code) (λx=>∃(p:Px) (f:az),An p/\x=row p f):=by
  obtain⟨h,c0,v0⟩:=Cu.ok code hc;have I0:I code 0:=⟨Gm _,o6 _,hc⟩
  unfold vo b;refine A_Post.call c0 v0 ?_;obtain⟨p,f,a1,s1,hp,I1,c1,v1⟩:=rJ.ok (s:=h) I0;exact A_Post.call c1 v1 (A_Post.ret ⟨p,f,hp,rfl⟩)
 obtain⟨x,hx,p,f,hp,rfl⟩:=main;obtain⟨c1,v1⟩:=out _ hx;exact⟨p,f,hp,c1,v1⟩
end TC

namespace tN
open Lib (rr rs re rf rc Px)
open mo (iy)
theorem ok(p:Px)(f:az)(hp:p.Fit 1048576):c p.now (re p.en) (rs p.w) (rs p.m) (rr p.s) p.a (rf p.fe) (rc p.cl) p.hits f=ai/\v p.now (re p.en) (rs p.w) (rs p.m) (rr p.s) p.a (rf p.fe) (rc p.cl) p.hits f=(iy p&&decide (0<=f/\f<=(p.fe.length:az)-1)):=by have h:=o9.ok p hp;have hf:=hp.fe;refine out _ _ _ _ _ _ _ _ _ _ ?_;unfold vo b;rw[h.1,h.2,au,dC,c5 (x:=(p.fe.length:az)-1) (by omega) (by omega),show n7.v f 0 ((p.fe.length:az)-1)=decide (0<=f/\f<=(p.fe.length:az)-1)from e7.eM _ _ _];cases iy p<;>rfl
end tN

namespace zp
open Lib (rr rs re rf rc Px Cl el)
open uv (ec nK kF)
theorem ok(p:Px)(f:aE)(hf:f<p.fe.length)(hl:p.fe.length<=2097152)(hc:p.cl.length<=2097152):
  c p.now (re p.en) (rs p.w) (rs p.m) (rr p.s) p.a (rf p.fe) (rc p.cl) p.hits (f:az)=ai/\v p.now (re p.en) (rs p.w) (rs p.m) (rr p.s) p.a (rf p.fe) (rc p.cl) p.hits (f:az)=(p.now,re p.en,rs p.w,rs p.m,rr p.s,p.a,rf p.fe,rc (nK p.cl f 1 (el p.fe f).t),p.hits):=by
 refine out _ _ _ _ _ _ _ _ _ _ ?_;unfold vo b;rw[eO];have key:=nZ Cl.row p.cl (λ_ c=>ec f 1 (el p.fe f).t c) (λn (i:aE) x=>l1 Lib.cW (λ(_ _ _ Xr Tc FV:az) (FW DR vm Is Iu Td:aU)=>ah (Xr,DR,vm,Is,Iu,Tc,Td,FW,FV)) n (f:az) (p.cl.length:az) (i:az) p.now p.a p.hits x (re p.en) (rs p.w) (rs p.m) (rr p.s) (rf p.fe)) (λx=>ah (p.now,re p.en,rs p.w,rs p.m,rr p.s,p.a,rf p.fe,x,p.hits)) (λn i L h h2 hL uX=> ?_) (λn L hL=> ?_) Lib.cW (cK (by omega))
 ·rw[kF]at key;exact key
 ·have e2:ar (L.map Cl.row) i (1+1)=CV.i ao p.cl[i].fe:=by rw[eZ _ L i _ h2,uX];rfl
  have e4:ar (L.map Cl.row) i (1+1+1+1)=CV.i ao p.cl[i].sta:=by rw[eZ _ L i _ h2,uX];rfl
  have s1:dV (L.map Cl.row) i 5 [CV.s (el p.fe f).t]=(L.set i {p.cl[i]with got:=(el p.fe f).t}).map Cl.row:=jD Cl.row L i 5 _ _ h2 (by rw[uX];rfl);simp only[l1,r1,Lib.du,h,h2,hf,bN,cm,aQ,Lib.cQ,aM,au,Lib.eD,e2,e4,bZ,s1,oU,dC,Gh hf,bQ,Lib.di h (by omega:p.cl.length<=9223372036854775807),c5 (x:=(f:az)+1) (by omega) (by omega)];unfold ec;cases decide (p.cl[i].fe=(f:az)+1)with
  |false=>rw[pr,aA,aA,<-uX,eR]
  |true=>
   cases hd:decide (p.cl[i].sta=1)with
   |false=>rw[bj,au,aA,aA,<-uX,eR]
   |true=>have e:=cg hd;rw[bj,au,au,au];rw[show({p.cl[i]with sta:=1,got:=(el p.fe f).t}:Cl)={p.cl[i]with got:=(el p.fe f).t}by rw[<-e]]
 ·simp only[l1,r1,Lib.du,bm,bh,aA]
end zp

namespace Tw
open Lib (rr rs re rf rc Px el)
open iF (tY zd told jh nq jK wx)
theorem ok(p:Px)(f:az)(q:aq)(hp:p.Fit 1048576):c p.now (re p.en) (rs p.w) (rs p.m) (rr p.s) p.a (rf p.fe) (rc p.cl) p.hits f q=ai/\v p.now (re p.en) (rs p.w) (rs p.m) (rr p.s) p.a (rf p.fe) (rc p.cl) p.hits f q=(p.now,re p.en,rs p.w,rs p.m,rr p.s,p.a,rf (zd p f q).1.fe,rc (zd p f q).1.cl,p.hits,(zd p f q).2):=by
 have h1:=EH.ok p hp;have h2:=tN.ok p f hp;have hf:=hp.fe;have hc:=hp.cl;refine out _ _ _ _ _ _ _ _ _ _ _ ?_;unfold vo b zd;simp only[Lib.lt,h1.1,h1.2,h2.1,h2.2,au];unfold tY;cases b7:mo.iy p&&decide (0<=f/\f<=(p.fe.length:az)-1)with
 |false=>rw[<-mZ (mo.iy p),b7];rfl
 |true=>
  rw[<-mZ (mo.iy p),b7,bj];rw[aJ,bc]at b7;obtain⟨n,rfl⟩:∃n:aE,f=(n:az):=⟨f.toNat,by omega⟩
  have hn:n<p.fe.length:=by omega
  have wK:=iF.Ya b7.1 n hn;unfold m_.nt at wK;simp only[aJ,bc]at wK;have mB:=N_.put (el p.fe n).sta (el p.fe n).t q wK.2.1 wK.2.2.1;simp only[aY,aA,au,Lib.cQ,Lib.du,dC,hn,aQ,aM,Lib.eD,yK hn,Gh hn,bZ,bQ,mB];cases hs:decide ((el p.fe n).sta=1)&&(decide (1<=q.size/\q.size<=40)&&decide ((el p.fe n).t.size+q.size<=400))with
  |false=>rfl
  |true=>
   have e1:=wx p.fe n 1 [CV.s ((el p.fe n).t++q)] {el p.fe n with t:=(el p.fe n).t++q} hn rfl;have M5:n<(p.fe.set n {el p.fe n with t:=(el p.fe n).t++q}).length:=by rw[cm];exact hn
   have h3:=zp.ok {p with fe:=p.fe.set n {el p.fe n with t:=(el p.fe n).t++q}} n M5 (by rw[cm];omega) (by dsimp only;omega);dsimp only at h3;rw[jK hn]at h3;simp only[aY,aA,au,e1,h3.1,h3.2];rfl
end Tw

namespace uL
open Lib (rr rs re rf rc Px Cl el)
open uv (ec nK kF)
theorem ok(p:Px)(f:aE)(st:az)(hf:f<p.fe.length)(hl:p.fe.length<=2097152)(hc:p.cl.length<=2097152):
  c p.now (re p.en) (rs p.w) (rs p.m) (rr p.s) p.a (rf p.fe) (rc p.cl) p.hits (f:az) st=ai/\v p.now (re p.en) (rs p.w) (rs p.m) (rr p.s) p.a (rf p.fe) (rc p.cl) p.hits (f:az) st=(p.now,re p.en,rs p.w,rs p.m,rr p.s,p.a,rf p.fe,rc (nK p.cl f st (el p.fe f).t),p.hits):=by
 refine out _ _ _ _ _ _ _ _ _ _ _ ?_;unfold vo b;rw[eO];have key:=nZ Cl.row p.cl (λ_ c=>ec f st (el p.fe f).t c) (λn (i:aE) x=>l1 Lib.cW (λ(_ _ _ _ FV FW DR:az) (vm Is Iu Td y24 TV:aU)=>ah (FV,Is,Iu,Td,y24,FW,TV,vm,DR)) n (f:az) st (p.cl.length:az) (i:az) p.now p.a p.hits x (re p.en) (rs p.w) (rs p.m) (rr p.s) (rf p.fe)) (λx=>ah (p.now,re p.en,rs p.w,rs p.m,rr p.s,p.a,rf p.fe,x,p.hits)) (λn i L h h2 hL uX=> ?_) (λn L hL=> ?_) Lib.cW (cK (by omega))
 ·rw[kF]at key;exact key
 ·have e2:ar (L.map Cl.row) i (1+1)=CV.i ao p.cl[i].fe:=by rw[eZ _ L i _ h2,uX];rfl
  have e4:ar (L.map Cl.row) i (1+1+1+1)=CV.i ao p.cl[i].sta:=by rw[eZ _ L i _ h2,uX];rfl
  have s1:dV (L.map Cl.row) i 4 [CV.i ao st]=(L.set i {p.cl[i]with sta:=st}).map Cl.row:=jD Cl.row L i 4 _ _ h2 (by rw[uX];rfl);have h3:i<(L.set i {p.cl[i]with sta:=st}).length:=by simpa using h2
  have s2:dV ((L.set i {p.cl[i]with sta:=st}).map Cl.row) i 5 [CV.s (el p.fe f).t]=((L.set i {p.cl[i]with sta:=st}).set i {p.cl[i]with sta:=st,got:=(el p.fe f).t}).map Cl.row:=jD Cl.row _ i 5 _ _ h3 (by rw[jX];rfl);simp only[l1,r1,Lib.du,h,h2,hf,bN,cm,aQ,Lib.cQ,aM,au,Lib.eD,e2,e4,bZ,s1,s2,oU,dC,Gh hf,bQ,Lib.di h (by omega:p.cl.length<=9223372036854775807),c5 (x:=(f:az)+1) (by omega) (by omega)];unfold ec;cases decide (p.cl[i].fe=(f:az)+1)with
  |false=>rw[pr,aA,aA,<-uX,eR]
  |true=>
   cases decide (p.cl[i].sta=1)with
   |false=>rw[bj,au,aA,aA,<-uX,eR]
   |true=>rw[bj,au,au,au]
 ·simp only[l1,r1,Lib.du,bm,bh,aA]
end uL

namespace Co
open Lib (rr rs re rf rc Px En el)
open gT (So fK mD)
open lz (Cd)
theorem ok(p:Px)(e:En)(r6 r7:aU)(hp:p.Fit 1048575)(hso:So p.en)(hk:e.k.size<=140737488355328):
  c p.now (re p.en) (rs p.w) (rs p.m) (rr p.s) p.a r6 r7 p.hits e.k e.st e.li e.bo=ai/\v p.now (re p.en) (rs p.w) (rs p.m) (rr p.s) p.a r6 r7 p.hits e.k e.st e.li e.bo=(p.now,re (Cd p e).en,rs (Cd p e).w,rs (Cd p e).m,rr (Cd p e).s,(Cd p e).a,r6,r7,p.hits):=by have he:=hp.en;have hw:=hp.w;have hm:=hp.m;obtain⟨b1,b2,b3⟩:=jd.Kh p.w p.m p.s p.a e.k;have h1:=MD.ok p.w p.m p.s p.a e.k (by omega) (by omega) ⟨c6 hp.s.1 (by omega),λq hq=>c6 (hp.s.2.1 q hq) (by omega)⟩ hk;refine out _ _ _ _ _ _ _ _ _ _ _ _ _ ?_;unfold vo b Cd;generalize jd.val p.w p.m p.s p.a e.k=V at h1 b1 b2 b3;obtain⟨W,M,T,A,G⟩:=V;dsimp only at h1 b1 b2⊢;have h2:=B7.ok (re p.en) G (gT.P6 _) (by rw[dO];omega);rw[gT.ET]at h2;have h3:=uP.ok W M (rr T) A e.k (by omega) (by omega);have hd:=gT.vM p.en G;have h4:=tP.ok (re (fK p.en G)) e.k e.st e.li e.bo (gT.Bw (hso.drop G)) (by rw[dO];omega);rw[gT.sN]at h4;simp only[Lib.lt,h1.1,h1.2,h2.1,h2.2,h3.1,h3.2,h4.1,h4.2,au];cases eT.has W e.k||eT.has M e.k<;>rfl
end Co

namespace Tx
open Lib (rr rs re rf rc Px el)
open iF (tY told jh nq jK wx)
open rV (cls nA)
theorem ok(p:Px)(f life:az)(hp:p.Fit 1048576):c p.now (re p.en) (rs p.w) (rs p.m) (rr p.s) p.a (rf p.fe) (rc p.cl) p.hits f life=ai/\v p.now (re p.en) (rs p.w) (rs p.m) (rr p.s) p.a (rf p.fe) (rc p.cl) p.hits f life=(p.now,re (cls p f life).1.en,rs (cls p f life).1.w,rs (cls p f life).1.m,rr (cls p f life).1.s,(cls p f life).1.a,rf (cls p f life).1.fe,rc (cls p f life).1.cl,p.hits,(cls p f life).2):=by
 have h1:=EH.ok p hp;have h2:=tN.ok p f hp;have hf:=hp.fe;have hc:=hp.cl;refine out _ _ _ _ _ _ _ _ _ _ _ ?_;unfold vo b cls;simp only[Lib.lt,h1.1,h1.2,h2.1,h2.2,au];unfold tY;cases b7:mo.iy p&&decide (0<=f/\f<=(p.fe.length:az)-1)with
 |false=>rw[<-mZ (mo.iy p),b7];rfl
 |true=>
  rw[<-mZ (mo.iy p),b7,bj];rw[aJ,bc]at b7;obtain⟨n,rfl⟩:∃n:aE,f=(n:az):=⟨f.toNat,by omega⟩
  have hn:n<p.fe.length:=by omega
  obtain⟨so,_,_,_,_,_,_,_,_,_,wK⟩:=lz.Fy b7.1;have wK:=wK n hn;unfold m_.nt at wK;rw[aJ]at wK;have zE:=jd.j6 wK.1;simp only[aY,aA,au,Lib.cQ,Lib.du,dC,hn,aQ,aM,Lib.eD,yK hn,bZ];rw[show((el p.fe n).sta !=1)= !decide ((el p.fe n).sta=1)from rfl,show n7.v life 0 999999=decide (0<=life/\life<=999999)from e7.eM _ _ _];cases hs:decide ((el p.fe n).sta=1)with
  |false=>rfl
  |true=>
   cases hl:decide (0<=life/\life<=999999)with
   |false=>rfl
   |true=>
    have e1:=wx p.fe n 2 [CV.i ao 2] {el p.fe n with sta:=2} hn rfl;have n1:n<(p.fe.set n {el p.fe n with sta:=2}).length:=by rw[cm];exact hn
    have e2:=wx (p.fe.set n {el p.fe n with sta:=2}) n 3 [CV.i ao life] {el p.fe n with sta:=2,li:=life} n1 (by rw[jK hn];rfl);rw[oU]at e2;have n2:n<(p.fe.set n {el p.fe n with sta:=2,li:=life}).length:=by rw[cm];exact hn
    have e3:=wx (p.fe.set n {el p.fe n with sta:=2,li:=life}) n 4 [CV.i ao p.now] {el p.fe n with sta:=2,li:=life,st:=p.now} n2 (by rw[jK hn];rfl);rw[oU]at e3;generalize hg:({el p.fe n with sta:=2,li:=life,st:=p.now}:Lib.Fe)=g at e3;have n3:n<(p.fe.set n g).length:=by rw[cm];exact hn
    have h3:=uL.ok {p with fe:=p.fe.set n g} n 2 n3 (by rw[cm];omega) (by dsimp only;omega);dsimp only at h3;rw[jK hn]at h3;have hk:g.k=(el p.fe n).k:=by rw[<-hg]
    have h4:=Co.ok (told p n g 2) (nA g) (rf (p.fe.set n g)) (rc (told p n g 2).cl) ((nq (lz.mR b7.1)).le (by omega)) so (by show g.k.size<=_;rw[hk];omega);have z0:bQ (ar (rf (p.fe.set n g)) n 0)=g.k:=by rw[H_ n3,jK hn];rfl
    have z1:bQ (ar (rf (p.fe.set n g)) n 1)=g.t:=by rw[Gh n3,jK hn];rfl
    have gl:g.li=life:=by rw[<-hg]
    have gs:g.st=p.now:=by rw[<-hg]
    unfold nA at h4;dsimp only[told]at h4;rw[gl,gs]at h4;unfold nA told;simp only[aY,aA,au,e1,e2,e3,h3.1,h3.2,z0,z1,gl,gs];cases decide (life>0)with
    |true=>simp only[au,h4.1,h4.2];rfl
    |false=>rfl
end Tx

namespace Ty
open Lib (rr rs re rf rc Px el)
open iF (tY yS told jh nq jK wx)
theorem ok(p:Px)(f:az)(hp:p.Fit 1048576):c p.now (re p.en) (rs p.w) (rs p.m) (rr p.s) p.a (rf p.fe) (rc p.cl) p.hits f=ai/\v p.now (re p.en) (rs p.w) (rs p.m) (rr p.s) p.a (rf p.fe) (rc p.cl) p.hits f=(p.now,re p.en,rs p.w,rs p.m,rr p.s,p.a,rf (yS p f).1.fe,rc (yS p f).1.cl,p.hits,(yS p f).2):=by
 have h1:=EH.ok p hp;have h2:=tN.ok p f hp;have hf:=hp.fe;have hc:=hp.cl;refine out _ _ _ _ _ _ _ _ _ _ ?_;unfold vo b yS;simp only[Lib.lt,h1.1,h1.2,h2.1,h2.2,au];unfold tY;cases b7:mo.iy p&&decide (0<=f/\f<=(p.fe.length:az)-1)with
 |false=>rw[<-mZ,b7];rfl
 |true=>
  rw[<-mZ,b7,bj];rw[aJ,bc]at b7;obtain⟨n,rfl⟩:∃n:aE,f=(n:az):=⟨f.toNat,by omega⟩
  have hn:n<p.fe.length:=by omega
  simp only[aY,aA,au,Lib.cQ,Lib.du,dC,hn,aQ,aM,Lib.eD,yK hn,bZ];cases hs:decide ((el p.fe n).sta=1)with
  |false=>rw[show((el p.fe n).sta !=1)= !decide ((el p.fe n).sta=1)from rfl,hs];rfl
  |true=>
   have e1:=wx p.fe n 2 [CV.i ao 3] {el p.fe n with sta:=3} hn rfl;have M5:n<(p.fe.set n {el p.fe n with sta:=3}).length:=by rw[cm];exact hn
   have h3:=uL.ok {p with fe:=p.fe.set n {el p.fe n with sta:=3}} n 3 M5 (by rw[cm];omega) (by dsimp only;omega);dsimp only at h3;rw[jK hn]at h3;rw[show((el p.fe n).sta !=1)= !decide ((el p.fe n).sta=1)from rfl,hs];simp only[aY,aA,au,e1,h3.1,h3.2];rfl
end Ty

namespace NW
theorem run(a:aU)(hl:a.length<=9223372036854775807):vo a a=ah true:=by
 unfold vo b;rw[show((a.length:az) !=(a.length:az))=ak from fC _,aA];have:=Lib.gn (λn (i:aE)=>l4 Lib.cW (λ(_ _:aU) (y:aW) (_:az)=>ah y) (λ(_ _:aU) (_:aW) (_:az)=>ah ai) n a a ak (i:az)) (λi=>a.length-i) (λi=>i<=a.length) (λ_=>ah ai) (λn i hi=>by
  by_cases h:i<a.length
  ·right;refine⟨i+1,h,by omega,rfl, ?_⟩
   have jL:bJ ((i:az)+1)=((i+1:aE):az):=c5 (by omega) (by omega);simp only[l4,r4,Lib.du,h,aQ,Lib.cQ,aM,au,Lib.eD,jL,jZ,aY,aA]
  ·left;simp only[l4,r4,Lib.du,h,bh,aA]) Lib.cW 0 (bz _) (cK (by omega))
 exact this
theorem ok(a:aU)(hl:a.length<=9223372036854775807):c a a=ai/\v a a=true:=out a a (run a hl)
end NW

namespace uO
theorem run(a:aU)(hl:a.length<=9223372036854775807):vo a a=ah true:=by
 unfold vo b;rw[show((a.length:az) !=(a.length:az))=ak from fC _,aA];have:=Lib.gn (λn (i:aE)=>l4 Lib.cW (λ(_ _:aU) (y:aW) (_:az)=>ah y) (λ(_ _:aU) (_:aW) (_:az)=>ah ai) n a a ak (i:az)) (λi=>a.length-i) (λi=>i<=a.length) (λ_=>ah ai) (λn i hi=>by
  by_cases h:i<a.length
  ·right;refine⟨i+1,h,by omega,rfl, ?_⟩
   have jL:bJ ((i:az)+1)=((i+1:aE):az):=c5 (by omega) (by omega);simp only[l4,r4,Lib.du,h,aQ,Lib.cQ,aM,au,Lib.eD,jL,jZ,fC,aY,aA]
  ·left;simp only[l4,r4,Lib.du,h,bh,aA]) Lib.cW 0 (bz _) (cK (by omega))
 exact this
theorem ok(a:aU)(hl:a.length<=9223372036854775807):c a a=ai/\v a a=true:=out a a (run a hl)
end uO

namespace zy
theorem run(a:aU)(hl:a.length<=9223372036854775807):vo a a=ah true:=by
 unfold vo b;rw[show((a.length:az) !=(a.length:az))=ak from fC _,aA];have:=Lib.gn (λn (i:aE)=>l4 Lib.cW (λ(_ _:aU) (y:aW) (_:az)=>ah y) (λ(_ _:aU) (_:aW) (_:az)=>ah ai) n a a ak (i:az)) (λi=>a.length-i) (λi=>i<=a.length) (λ_=>ah ai) (λn i hi=>by
  by_cases h:i<a.length
  ·right;refine⟨i+1,h,by omega,rfl, ?_⟩
   have jL:bJ ((i:az)+1)=((i+1:aE):az):=c5 (by omega) (by omega);simp only[l4,r4,Lib.du,h,aQ,Lib.cQ,aM,au,Lib.eD,jL,jZ,fC,aY,aA]
  ·left;simp only[l4,r4,Lib.du,h,bh,aA]) Lib.cW 0 (bz _) (cK (by omega))
 exact this
theorem ok(a:aU)(hl:a.length<=9223372036854775807):c a a=ai/\v a a=true:=out a a (run a hl)
end zy

namespace zt
open Lib (rr)
theorem run(s:ay (ay az))(n:az)(hl:s.length<=1048576)(hq:∀q∈s,q.length<=1048576):vo (rr s) n (rr s) n=ah true:=by
 have hlen:(rr s).length=s.length:=gg s;unfold vo b;rw[show(n !=n)=ak from fC _,aA,show(((rr s).length:az) !=((rr s).length:az))=ak from fC _,aA];have:=Lib.gn (λm (i:aE)=>l4 Lib.cW (λ(y:aW) (_:az) (_:aU) (_:az) (_:aU) (_:az)=>ah y) (λ(_:aW) (_:az) (_:aU) (_:az) (_:aU) (_:az)=>ah ai) m ak (i:az) (rr s) n (rr s) n) (λi=>(rr s).length-i) (λi=>i<=(rr s).length) (λ_=>ah ai) (λm i hi=>by
  by_cases h:i<(rr s).length
  ·right;refine⟨i+1,h,by omega,rfl, ?_⟩
   have jL:bJ ((i:az)+1)=((i+1:aE):az):=c5 (by omega) (by omega);have hA:=zy.ok (iD (ar (rr s) i 0)) (by rw[FH (show i<s.length by omega)];show(Lib.ri _).length<=_;rw[Lib.fU];have:=hq _ (bC (show i<s.length by omega));omega);simp only[l4,r4,Lib.du,h,aQ,Lib.cQ,aM,au,Lib.eD,jL,hA.1,hA.2,aY,aA]
  ·left;simp only[l4,r4,Lib.du,h,bh,aA]) Lib.cW 0 (bz _) (cK (by omega))
 exact this
theorem ok(s:ay (ay az))(n:az)(hl:s.length<=1048576)(hq:∀q∈s,q.length<=1048576):c (rr s) n (rr s) n=ai/\v (rr s) n (rr s) n=true:=out _ _ _ _ (run s n hl hq)
end zt

namespace TF
open Lib (rr rs)
theorem ok(w m:ay aq)(s:ay (ay az))(n:az)(hw:w.length<=1048576)(hm:m.length<=1048576)(hl:s.length<=1048576)(hq:∀q∈s,q.length<=1048576):c (rs w) (rs m) (rr s) n (rs w) (rs m) (rr s) n=ai/\v (rs w) (rs m) (rr s) n (rs w) (rs m) (rr s) n=true:=by have h1:=uO.ok (rs w) (by rw[dZ];omega);have h2:=uO.ok (rs m) (by rw[dZ];omega);have h3:=zt.ok s n hl hq;refine out _ _ _ _ _ _ _ _ ?_;unfold vo b;rw[h1.1,au,h1.2,au,h2.1,au,h2.2,au,h3.1,au,h3.2]
end TF

namespace mU
open Lib (rr rs re rf rc Px)
theorem w4(N:aE)(k0 k1:aW->az->az->aU->aU->aU->aU->az->aU->aU->az->az->aU->aU->aU->aU->az->aU->aU->az->aC R)(i0:az)(q1 q2 q3 q4:aU)(i5:az)(fe cl:aU)(i8:az)(hl:fe.length<=1048576):∀(d i n:aE),fe.length-i<=d->i<=fe.length->d<n->
  l4 N k0 k1 n ak (i:az) i0 q1 q2 q3 q4 i5 fe cl i8 i0 q1 q2 q3 q4 i5 fe cl i8=k1 ak (fe.length:az) i0 q1 q2 q3 q4 i5 fe cl i8 i0 q1 q2 q3 q4 i5 fe cl i8:=by
 have fin:∀n:aE,l4 N k0 k1 (n+1) ak (fe.length:az) i0 q1 q2 q3 q4 i5 fe cl i8 i0 q1 q2 q3 q4 i5 fe cl i8=k1 ak (fe.length:az) i0 q1 q2 q3 q4 i5 fe cl i8 i0 q1 q2 q3 q4 i5 fe cl i8:=λn=>by simp only[l4,r4,Lib.du,bm,bh,aA]
 intro d;induction d with
 |zero=>
  intro i n h1 h2 h3;obtain⟨n,rfl⟩:∃k,n=k+1:=⟨n-1,by omega⟩
  have:i=fe.length:=by omega
  subst this;exact fin n
 |succ d ih=>
  intro i n h1 h2 h3;obtain⟨n,rfl⟩:∃k,n=k+1:=⟨n-1,by omega⟩
  by_cases h:i<fe.length
  ·have jL:bJ ((i:az)+1)=((i+1:aE):az):=c5 (by omega) (by omega);refine Eq.trans ?_ (ih (i+1) n (by omega) h (by omega));simp only[l4,r4,Lib.du,h,aQ,Lib.cQ,aM,au,Lib.eD,jL,jZ,aY,aA]
  ·have:i=fe.length:=by omega
   subst this;exact fin n
theorem w9(N:aE)(k0 k1:aW->az->az->aU->aU->aU->aU->az->aU->aU->az->az->aU->aU->aU->aU->az->aU->aU->az->aC R)(i0:az)(q1 q2 q3 q4:aU)(i5:az)(fe cl:aU)(i8:az)(hl:cl.length<=1048576):∀(d i n:aE),cl.length-i<=d->i<=cl.length->d<n->
  l9 N k0 k1 n ak (i:az) i0 q1 q2 q3 q4 i5 fe cl i8 i0 q1 q2 q3 q4 i5 fe cl i8=k1 ak (cl.length:az) i0 q1 q2 q3 q4 i5 fe cl i8 i0 q1 q2 q3 q4 i5 fe cl i8:=by
 have fin:∀n:aE,l9 N k0 k1 (n+1) ak (cl.length:az) i0 q1 q2 q3 q4 i5 fe cl i8 i0 q1 q2 q3 q4 i5 fe cl i8=k1 ak (cl.length:az) i0 q1 q2 q3 q4 i5 fe cl i8 i0 q1 q2 q3 q4 i5 fe cl i8:=λn=>by simp only[l9,r9,Lib.du,bm,bh,aA]
 intro d;induction d with
 |zero=>
  intro i n h1 h2 h3;obtain⟨n,rfl⟩:∃k,n=k+1:=⟨n-1,by omega⟩
  have:i=cl.length:=by omega
  subst this;exact fin n
 |succ d ih=>
  intro i n h1 h2 h3;obtain⟨n,rfl⟩:∃k,n=k+1:=⟨n-1,by omega⟩
  by_cases h:i<cl.length
  ·have jL:bJ ((i:az)+1)=((i+1:aE):az):=c5 (by omega) (by omega);refine Eq.trans ?_ (ih (i+1) n (by omega) h (by omega));simp only[l9,r9,Lib.du,h,aQ,Lib.cQ,aM,au,Lib.eD,jL,jZ,aY,aA]
  ·have:i=cl.length:=by omega
   subst this;exact fin n
theorem ok(p:Px)(h:p.Fit 1048576):c p.now (re p.en) (rs p.w) (rs p.m) (rr p.s) p.a (rf p.fe) (rc p.cl) p.hits p.now (re p.en) (rs p.w) (rs p.m) (rr p.s) p.a (rf p.fe) (rc p.cl) p.hits=ai/\v p.now (re p.en) (rs p.w) (rs p.m) (rr p.s) p.a (rf p.fe) (rc p.cl) p.hits p.now (re p.en) (rs p.w) (rs p.m) (rr p.s) p.a (rf p.fe) (rc p.cl) p.hits=true:=by have hf:=h.fe;have hc:=h.cl;have he:=h.en;have h1:=NW.ok (re p.en) (by rw[dO];omega);have h2:=TF.ok p.w p.m p.s p.a h.w h.m h.s.1 h.s.2.1;refine out _ _ _ _ _ _ _ _ _ _ _ _ _ _ _ _ _ _ ?_;unfold vo b;rw[show(p.now !=p.now)=ak from fC _,aA,show(p.hits !=p.hits)=ak from fC _,aA,h1.1,au,h1.2,aY,aA,h2.1,au,h2.2,aY,aA,show(((rf p.fe).length:az) !=((rf p.fe).length:az))=ak from fC _,aA,show(((rc p.cl).length:az) !=((rc p.cl).length:az))=ak from fC _,aA];refine(w4 Lib.cW _ _ p.now (re p.en) (rs p.w) (rs p.m) (rr p.s) p.a (rf p.fe) (rc p.cl) p.hits (by rw[dC];omega) (rf p.fe).length 0 Lib.cW (by omega) (bz _) (cK (by rw[dC];omega))).trans ?_;exact(w9 Lib.cW _ _ p.now (re p.en) (rs p.w) (rs p.m) (rr p.s) p.a (rf p.fe) (rc p.cl) p.hits (by rw[eO];omega) (rc p.cl).length 0 Lib.cW (by omega) (bz _) (cK (by rw[eO];omega))).trans rfl
end mU

namespace U7
open Lib (rr rs re rf rc Px)
open ur (fX jM)
open A_Post (e6)
open iF (yS zd)
open rV (cls)
open Mq (A5 Ji Rb)
theorem ah2(a:aU)(ha:uD a):vo a=ah true:=by
 have hb:∀x:aW,U15.v a=x->vo a=ah true:=λx hx=>by
  cases x with
  |true=>unfold vo b;rw[hx,au]
  |false=>
   have hlen:a.length<=1048576:=by unfold U15.v at hx;have:=nX hx;omega
   obtain⟨p,id,key,hp,hk,c0,v0⟩:=Tz.ok a hlen;obtain⟨x,f,t,JC,c1,v1⟩:=TA.ok a hlen;obtain⟨y,g,life,hy,c2,v2⟩:=TB.ok a hlen;obtain⟨z,i,hz,c3,v3⟩:=TC.ok a hlen;have I0:=PI.ok p id key hp.fit (by omega);have S0:=U9.ok p id key hp.fit (by omega);have I1:=Tw.ok x f t JC.fit;have S1:=Mz.ok x f t JC.fit;have I2:=Tx.ok y g life hy.fit;have S2:=MA.ok y g life hy.fit;have I3:=Ty.ok z i hz.fit;have S3:=MB.ok z i hz.fit;obtain⟨k1,k2,k3⟩:=Mq.ask_cases p id key;have fa:=A5 hp.fit k3;have fc:=A5 JC.fit (Mq.adf x f t);obtain⟨l1,l2⟩:=Mq.abB y g life;have fe:=A5 hy.fit l1;have fj:=A5 hz.fit (Mq.abx z i);have W0:=mU.ok (dP.ask p id key).1 fa;have Wp:=mU.ok p hp.fit;have W1:=mU.ok {x with fe:=(zd x f t).1.fe,cl:=(zd x f t).1.cl} (Ji JC.fit fc);have W2:=mU.ok {(cls y g life).1 with now:=y.now,hits:=y.hits} (Rb fe y.now y.hits);have W3:=mU.ok {z with fe:=(yS z i).1.fe,cl:=(yS z i).1.cl} (Ji hz.fit fj);have O0:=o9.ok (dP.ask p id key).1 fa;have O2:=o9.ok (cls y g life).1 fe;obtain⟨s1,s2⟩:=rV.GQ (p:=y) (f:=g) (life:=life);rw[s1,s2]at O2;have Op:=o9.ok p hp.fit;have Sp:=mo.ok p hp.fit;have main:e6 (vo a) (λx=>x=ai):=by
    unfold vo b;refine A_Post.cn hx ?_;refine A_Post.call c0 v0 ?_;refine A_Post.call I0.1 I0.2 ?_;refine A_Post.call S0.1 S0.2 ?_;refine A_Post.call c1 v1 ?_;refine A_Post.call I1.1 I1.2 ?_;refine A_Post.call S1.1 S1.2 ?_;refine A_Post.call c2 v2 ?_;refine A_Post.call I2.1 I2.2 ?_;refine A_Post.call S2.1 S2.2 ?_;refine A_Post.call c3 v3 ?_;refine A_Post.call I3.1 I3.2 ?_;refine A_Post.call S3.1 S3.2 ?_;refine A_Post.ck (aF rfl) ?_;refine A_Post.call W0.1 W0.2 ?_;refine A_Post.ck rfl ?_;by_cases h0:(dP.ask p id key).2=0
    ·rw[jM.2 (k2 h0)]at O0;refine A_Post.ck (aF h0) ?_;refine A_Post.cn (show((dP.ask p id key).2 !=0)=ak by rw[h0];rfl) ?_;refine A_Post.call O0.1 O0.2 ?_;refine A_Post.ck rfl ?_;refine A_Post.ck (aF rfl) ?_;refine A_Post.call W1.1 W1.2 ?_;refine A_Post.ck rfl ?_;refine A_Post.ck (aF rfl) ?_;refine A_Post.call W2.1 W2.2 ?_;refine A_Post.ck rfl ?_;by_cases he:(cls y g life).2=ai
     ·rw[jM.2 (l2 he)]at O2;refine A_Post.cn (show(!(cls y g life).2)=ak by rw[he];rfl) ?_;refine A_Post.call O2.1 O2.2 ?_;refine A_Post.ck rfl ?_;refine A_Post.ck (aF rfl) ?_;refine A_Post.call W3.1 W3.2 ?_;refine A_Post.ck rfl ?_;refine A_Post.call Op.1 Op.2 ?_;refine A_Post.call Sp.1 Sp.2 ?_;exact A_Post.ret (aF rfl)
     ·refine A_Post.ck (show(!(cls y g life).2)=ai by simp[he]) ?_;refine A_Post.ck (aF rfl) ?_;refine A_Post.call W3.1 W3.2 ?_;refine A_Post.ck rfl ?_;refine A_Post.call Op.1 Op.2 ?_;refine A_Post.call Sp.1 Sp.2 ?_;exact A_Post.ret (aF rfl)
    ·refine A_Post.cn (aK h0) ?_;have Wq:mU.c (dP.ask p id key).1.now (re (dP.ask p id key).1.en) (rs (dP.ask p id key).1.w) (rs (dP.ask p id key).1.m) (rr (dP.ask p id key).1.s) (dP.ask p id key).1.a (rf (dP.ask p id key).1.fe) (rc (dP.ask p id key).1.cl) (dP.ask p id key).1.hits p.now (re p.en) (rs p.w) (rs p.m) (rr p.s) p.a (rf p.fe) (rc p.cl) p.hits=ai/\mU.v (dP.ask p id key).1.now (re (dP.ask p id key).1.en) (rs (dP.ask p id key).1.w) (rs (dP.ask p id key).1.m) (rr (dP.ask p id key).1.s) (dP.ask p id key).1.a (rf (dP.ask p id key).1.fe) (rc (dP.ask p id key).1.cl) (dP.ask p id key).1.hits p.now (re p.en) (rs p.w) (rs p.m) (rr p.s) p.a (rf p.fe) (rc p.cl) p.hits=true:=by rw[k1 h0];exact Wp
     refine A_Post.call Wq.1 Wq.2 ?_;refine A_Post.ck rfl ?_;refine A_Post.ck (show((dP.ask p id key).2 !=0)=ai by simp[h0]) ?_;refine A_Post.ck (aF rfl) ?_;refine A_Post.call W1.1 W1.2 ?_;refine A_Post.ck rfl ?_;refine A_Post.ck (aF rfl) ?_;refine A_Post.call W2.1 W2.2 ?_;refine A_Post.ck rfl ?_;by_cases he:(cls y g life).2=ai
     ·rw[jM.2 (l2 he)]at O2;refine A_Post.cn (show(!(cls y g life).2)=ak by rw[he];rfl) ?_;refine A_Post.call O2.1 O2.2 ?_;refine A_Post.ck rfl ?_;refine A_Post.ck (aF rfl) ?_;refine A_Post.call W3.1 W3.2 ?_;refine A_Post.ck rfl ?_;refine A_Post.call Op.1 Op.2 ?_;refine A_Post.call Sp.1 Sp.2 ?_;exact A_Post.ret (aF rfl)
     ·refine A_Post.ck (show(!(cls y g life).2)=ai by simp[he]) ?_;refine A_Post.ck (aF rfl) ?_;refine A_Post.call W3.1 W3.2 ?_;refine A_Post.ck rfl ?_;refine A_Post.call Op.1 Op.2 ?_;refine A_Post.call Sp.1 Sp.2 ?_;exact A_Post.ret (aF rfl)
   obtain⟨x,h1,h2⟩:=main;rw[h1,h2]
 exact hb _ rfl
theorem law(a:aU)(ha:uD a):v a=true:=(out a (ah2 a ha)).2
theorem aqh(a:aU)(ha:uD a):c a=true:=(out a (ah2 a ha)).1
end U7

end Go.FG
