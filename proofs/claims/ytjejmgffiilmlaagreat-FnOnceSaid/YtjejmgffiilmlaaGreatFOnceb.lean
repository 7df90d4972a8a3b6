/- What the functions come to, in plain numbers, texts and lists; last the law itself. No condition but those that each states. -/
import Derived.Test.YtjejmgffiilmlaaGreatPOnce
import Derived.Test.YtjejmgffiilmlaaGreatFOncea
set_option linter.unusedVariables false
set_option linter.unusedSimpArgs false
set_option maxRecDepth 100000
open Bool renaming true->ak,not_true->ba,true_and->bj,not_false->bX,false->aq,and_self->aP,false_and->pD,and_assoc->mY,and_eq_true->aK,false_or->nK,and_true->pc,and_false->Gd,false_eq_true->dp,not_eq_true'->dG,or_eq_true->dH
open ByteArray renaming toList->aL,empty_append->oX,extract->bR
open Go.IntKind renaming i64->ar
open Go.Op renaming bytesLess->cf
open Int renaming tmod->cG,tmod_eq_emod_of_nonneg->rV,toNat_natCast->dA,toNat->bc
open List renaming set->aE,map_append->dm,length->bW,length_append->bP,length_singleton->bw,find?_eq_none->p8,getElem_of_mem->da,find?_eq_some_iff_getElem->Am,length_map->bQ,length_set->cw,set_set->o0,set_getElem_self->eZ,getElem_set_self->j5,getD_eq_getElem?_getD->cL,getElem?_append_left->dj,getElem?_append_right->c6,drop_length->dq,drop_eq_getElem_cons->dJ,find?_cons_of_neg->Ix,drop_zero->fB,length_filter_le->eK,length_take->eu,take_succ_eq_append_getElem->c8,filter_append->iP,append_nil->dn,take_length->fH,nil_append->gk,append_assoc->cj,pairwise_cons->p9,getElem_append_right->FN,mem_of_find?_eq_some->FO,mem_cons->cz,not_mem_nil->jC,any_eq_false->Ak,filter_eq_self->eN,mem_cons_self->dy,mem_filter->du,mem_singleton->aZ
open Nat renaming lt_irrefl->bu,zero_le->bL,not_lt_zero->BW,le_trans->db,zero_add->bT,le_refl->cu
open Option renaming some->aj,none->ao,map_some->iS
open _root_ renaming Int->az,List->aA,ByteArray->au,Nat->aG,cond_true->ay,cond_false->aD,decide_eq_true->aJ,decide_eq_false->aM,if_neg->bM,if_pos->bC,decide_true->aR,Option->aC,Bool->aY,of_decide_eq_true->b9,decide_false->bm,absurd->cq,decide_eq_true_eq->bf,decide_eq_false_iff_not->gM,of_decide_eq_false->lr,congrArg->mi
namespace Go.FG
open Lib (EA all_congr jU oE Ay r_ uN fg zH eU gO oH oI Df Le vL ml s_ cU lu rc0 rc1 rc2 rc3 rc4 rc5 rc6 eR JU Zm Zn gq dU dL Oa Ij gA TT eJ o9 lx BF wj ot zY H2 nI BM wm qo qp sM n_ dh Ki Te Tf Tg Th Ti Tj wd0 wd1 wd2 qw tV tW tX H6 F8 W2 yz TU TV)
variable {R:Type}
namespace wB
open Lib (rr rs re rf rc Px Cl Fe En el)
open eW (without)
open jm (eB)
open pY (iZ)
open ed (X4 n9 put Cr CE Bm jr jn qk tQ zK)
open gG (fG)
open nP (fC mR)
def res(q:Px×az):az×aW×aW×aW×aW×az×aW×aW×az×az:=(q.1.now,re q.1.en,rs q.1.w,rs q.1.m,rr q.1.s,q.1.a,rf q.1.fe,rc q.1.cl,q.1.hits,q.2)
theorem HW(fe:aA Fe)(key:au):rf fe++aE (aT [Ck.s,Ck.s,Ck.i ar,Ck.i ar,Ck.i ar] 1) 0 [CV.s key,CV.s {data:= #[]},CV.i ar 1,CV.i ar 0,CV.i ar 0]=rf (fe++[qk key]):=by unfold Lib.rf;rw[dm];rfl
theorem zN{p:Px}{i:aG}(hi:i<p.en.length)(ho:fC p):bN (p.now-(el p.en i).st)=p.now-(el p.en i).st:=by have h1:=ho.now;have h2:=(iM.F7 (ho.en _ (oH hi))).2.1;exact dh (by omega) (by omega)
theorem ok(p:Px)(id:az)(key:au)(hp:p.Fit 1048576)(hkz:key.size<=140737488355328):c p.now (re p.en) (rs p.w) (rs p.m) (rr p.s) p.a (rf p.fe) (rc p.cl) p.hits id key=ak/\v p.now (re p.en) (rs p.w) (rs p.m) (rr p.s) p.a (rf p.fe) (rc p.cl) p.hits id key=res (ed.ask p id key):=by
 have h1:=uL.ok p hp;have h2:=Ew.ok p hp;have ng:=hp.cl;have Ie:=hp.fe;have hen:=hp.en;have Jq:iX.n5 p.s:=⟨hp.s.1,hp.s.2.1⟩
 have h3:=TJ.ok p.now (re p.en) (rs p.w) (rs p.m) (rr p.s) p.a (rf p.fe) p.cl p.hits id ng;refine out _ _ _ _ _ _ _ _ _ _ _ ?_;unfold vo b ed.ask;simp only[Lib.lt,h1.1,h1.2,h2.1,h2.2,ay];cases b8:iZ p with
 |false=>rfl
 |true=>
 have ho:fC p:=mR.1 b8;rw[ba,aD,bj,show od.v id 1 9=decide (1<=id/\id<=9)from fy.eQ _ _ _];cases B3:decide (1<=id/\id<=9)with
 |false=>rfl
 |true=>
 rw[ba,aD,bj,oC.iw];cases hko:eB key with
 |false=>rfl
 |true=>
 have zq:=jv.ka hko;rw[ba,aD,bj,h3.1,ay,h3.2];cases hhi:jr p.cl id with
 |true=>rfl
 |false=>
 rw[aD,bX,bj,eR];by_cases h6:p.cl.length=6
 ·rw[aJ (show(p.cl.length:az)=6 by omega),ay,aM (show¬p.cl.length<6 by omega)];rfl
 have hc6:=ho.cll;rw[aM (show¬(p.cl.length:az)=6 by omega),aD,aJ (show p.cl.length<6 by omega),ay];have h4:=vx.ok (re p.en) key (by rw[dU];omega);have h5:=II.ok p.now (re p.en) (rs p.w) (rs p.m) (rr p.s) p.a (rf p.fe) (rc p.cl) p.hits key (by rw[dL];omega);have h7:=MA.ok p.w p.m p.s p.a key hp.w hp.m Jq (by omega);have h8:=nM.ok p.s p.a key Jq (by omega);have h9:=Ia.ok p.w p.m p.s p.a key hp.w hp.m Jq;have N3:=BZ.ok (re p.en) key (gG.Qa _) (by rw[dU];omega);rw[gG.EJ]at N3;have Nx:=λ(i0:az) (q1 q2 q3 q4:aW) (i5:az) (q6:aW) (i8:az) (x:Cl) (hx:x.id=id)=>pj.ok i0 q1 q2 q3 q4 i5 q6 p.cl i8 x ho.cs (by rw[hx];exact hhi) ng;rw[h4.1,ay,h4.2,dU];have atE:p.hits<=1000000000:=ho.hits.2;have amJ:0<=p.hits:=ho.hits.1;have ry:=ho.fl;have afc:k8 aq (bN (p.hits+1)) 1000000000=bif decide (p.hits<1000000000)then p.hits+1 else p.hits:=by
  rw[dh (by omega) (by omega)];unfold k8;rw[aD];by_cases h:p.hits<1000000000
  ·rw[aJ h,ay,bM (by omega)]
  ·rw[aM h,aD,bC (by omega)];omega
 have hfp:∀i (hi:i<p.fe.length),qa.p (rf p.fe) key i=Bm key p.fe[i]:=λi hi=>by unfold qa.p Bm Gm.v;rw[H6 hi,W2 hi,eU hi];simp only[bH,bY,Lib.fE];cases decide (p.fe[i].k=key)<;>rfl
 have hep:∀i (hi:i<p.en.length),vx.p (re p.en) key i=decide (p.en[i].k=key):=λi hi=>by unfold vx.p;rw[qw hi,eU hi];exact Lib.fE
 have wn:∀n:aG,n<=1048576->bN ((n:az)+1)=(n:az)+1:=λn hn=>dh (by omega) (by omega);have cN:∀(n:aG) (fe:aA Fe),n<fe.length->bH (aw (rf fe) n 1)=(el fe n).t:=λn fe hn=>by rw[F8 hn];rfl
 have Hh:cK (p.fe.length+1) 56=true:=Lib.cy (by omega) (by omega);have dD:∀key:au,bW (aE (aT [Ck.s,Ck.s,Ck.i ar,Ck.i ar,Ck.i ar] 1) 0 [CV.s key,CV.s {data:= #[]},CV.i ar 1,CV.i ar 0,CV.i ar 0])=1:=λ_=>rfl;rcases zK p.fe (Bm key) _ hfp with ⟨f1,_,f2⟩|⟨j,hj,f1,_,f2⟩
 ·have f2:CE p.fe key=none:=f2;rw[dL,f1]at h5;rcases zK p.en (λe=>decide (e.k=key)) _ hep with ⟨e1,e2,_⟩|⟨i,hi,e1,e2,_⟩
  ·have e2:Cr p.en key=none:=e2;rw[e1,e2];unfold n9;rw[f2];dsimp only;by_cases MW:p.fe.length=20
   ·rw[aM (show¬p.fe.length<20 by omega)];simp only[show decide ((-1:az)≥0)=aq from rfl,aD,h5.1,h5.2,ay,show decide ((-1:az)<0)=ak from rfl,dL,aJ (show(p.fe.length:az)=20 by omega)];rfl
   ·have mC:=Nx p.now (re p.en) (rs p.w) (rs p.m) (rr (fK.val p.s p.a key).1) (fK.val p.s p.a key).2 (rf (p.fe++[qk key])) p.hits ⟨id,key,(p.fe.length:az)+1,0,1,(el (p.fe++[qk key]) p.fe.length).t,0⟩ rfl;dsimp only at mC;rw[aJ (show p.fe.length<20 by omega)];simp only[show decide ((-1:az)≥0)=aq from rfl,aD,h5.1,h5.2,ay,show decide ((-1:az)<0)=ak from rfl,dL,aM (show¬(p.fe.length:az)=20 by omega),h8.1,h8.2,dD,Hh,HW,bP,bw,Lib.eG,Lib.dE,aJ (show p.fe.length<p.fe.length+1 by omega),cN p.fe.length (p.fe++[qk key]) (by simp),wn _ Ie,mC.1,mC.2];rfl
  ·have e2:Cr p.en key=aj (el p.en i):=e2;rw[e1,e2];have Cv:IH.v (bH (aw (re p.en) i 0)) (bY (aw (re p.en) i 1)) (bY (aw (re p.en) i (1+1))) (bH (aw (re p.en) i (1+1+1))) p.now=tQ (el p.en i) p.now:=by rw[qw hi,tV hi,tW hi,tX hi];rfl
   have g1:bY (aw (re p.en) i 1)=(el p.en i).st:=by rw[tV hi];rfl
   have g3:bH (aw (re p.en) i (1+1+1))=(el p.en i).bo:=by rw[tX hi];rfl
   dsimp only;cases TQ:tQ (el p.en i) p.now with
   |true=>
    have g0:bH (aw (re p.en) i 0)=(el p.en i).k:=by rw[qw hi];rfl
    have g2:bY (aw (re p.en) i (1+1))=(el p.en i).li:=by rw[tW hi];rfl
    have Cv:IH.v (el p.en i).k (el p.en i).st (el p.en i).li (el p.en i).bo p.now=true:=TQ;have hw:=zN (p:=p) hi ho;have mC:=Nx p.now (re p.en) (rs (jv.val p.w p.m p.s p.a key).1) (rs (jv.val p.w p.m p.s p.a key).2.1) (rr (jv.val p.w p.m p.s p.a key).2.2.1) (jv.val p.w p.m p.s p.a key).2.2.2.1 (rf p.fe) p.hits ⟨id,key,0,(el p.en i).st,2,(el p.en i).bo,p.now-(el p.en i).st⟩ rfl;dsimp only at mC;simp only[aJ (show((i:aG):az)≥0 by omega),Lib.cS,Lib.dE,hi,aR,aP,ay,Lib.eG,g0,g1,g2,g3,Cv,h7.1,h7.2,hw,mC.1,mC.2,afc,dU];rfl
   |false=>
    rw[TQ]at Cv;unfold n9;rw[f2];dsimp only;by_cases MW:p.fe.length=20
    ·rw[aM (show¬p.fe.length<20 by omega)];simp only[aJ (show((i:aG):az)≥0 by omega),Lib.cS,Lib.dE,hi,aR,aP,ay,aD,Lib.eG,dU,Cv,h5.1,h5.2,show decide ((-1:az)<0)=ak from rfl,dL,aJ (show(p.fe.length:az)=20 by omega)];rfl
    ·have mC:=Nx p.now (re (fG p.en key)) (rs (without p.w key)) (rs (without p.m key)) (rr (fK.val p.s p.a key).1) (fK.val p.s p.a key).2 (rf (p.fe++[qk key])) p.hits ⟨id,key,(p.fe.length:az)+1,0,1,(el (p.fe++[qk key]) p.fe.length).t,0⟩ rfl;dsimp only at mC;rw[aJ (show p.fe.length<20 by omega)];simp only[aJ (show((i:aG):az)≥0 by omega),Lib.cS,dU,hi,aR,aP,Cv,h9.1,h9.2,N3.1,N3.2,aD,h5.1,h5.2,ay,show decide ((-1:az)<0)=ak from rfl,dL,aM (show¬(p.fe.length:az)=20 by omega),h8.1,h8.2,dD,Hh,HW,bP,bw,Lib.eG,Lib.dE,aJ (show p.fe.length<p.fe.length+1 by omega),cN p.fe.length (p.fe++[qk key]) (by simp),wn _ Ie,mC.1,mC.2];rfl
 ·have f2:CE p.fe key=aj j:=f2;rw[dL,f1]at h5;have nj:decide (((j:aG):az)<0)=false:=aM (by omega);rcases zK p.en (λe=>decide (e.k=key)) _ hep with ⟨e1,e2,_⟩|⟨i,hi,e1,e2,_⟩
  ·have e2:Cr p.en key=none:=e2;rw[e1,e2];unfold n9;rw[f2];dsimp only;have mC:=Nx p.now (re p.en) (rs p.w) (rs p.m) (rr (fK.val p.s p.a key).1) (fK.val p.s p.a key).2 (rf p.fe) p.hits ⟨id,key,(j:az)+1,0,1,(el p.fe j).t,0⟩ rfl;dsimp only at mC;simp only[show decide ((-1:az)≥0)=aq from rfl,aD,h5.1,h5.2,ay,nj,dL,h8.1,h8.2,Lib.eG,Lib.cS,Lib.dE,hj,aR,aP,cN j p.fe hj,wn j (by omega),mC.1,mC.2];rfl
  ·have e2:Cr p.en key=aj (el p.en i):=e2;rw[e1,e2];have Cv:IH.v (bH (aw (re p.en) i 0)) (bY (aw (re p.en) i 1)) (bY (aw (re p.en) i (1+1))) (bH (aw (re p.en) i (1+1+1))) p.now=tQ (el p.en i) p.now:=by rw[qw hi,tV hi,tW hi,tX hi];rfl
   have g1:bY (aw (re p.en) i 1)=(el p.en i).st:=by rw[tV hi];rfl
   have g3:bH (aw (re p.en) i (1+1+1))=(el p.en i).bo:=by rw[tX hi];rfl
   dsimp only;cases TQ:tQ (el p.en i) p.now with
   |true=>
    have g0:bH (aw (re p.en) i 0)=(el p.en i).k:=by rw[qw hi];rfl
    have g2:bY (aw (re p.en) i (1+1))=(el p.en i).li:=by rw[tW hi];rfl
    have Cv:IH.v (el p.en i).k (el p.en i).st (el p.en i).li (el p.en i).bo p.now=true:=TQ;have hw:=zN (p:=p) hi ho;have mC:=Nx p.now (re p.en) (rs (jv.val p.w p.m p.s p.a key).1) (rs (jv.val p.w p.m p.s p.a key).2.1) (rr (jv.val p.w p.m p.s p.a key).2.2.1) (jv.val p.w p.m p.s p.a key).2.2.2.1 (rf p.fe) p.hits ⟨id,key,0,(el p.en i).st,2,(el p.en i).bo,p.now-(el p.en i).st⟩ rfl;dsimp only at mC;simp only[aJ (show((i:aG):az)≥0 by omega),Lib.cS,Lib.dE,hi,aR,aP,ay,Lib.eG,g0,g1,g2,g3,Cv,h7.1,h7.2,hw,mC.1,mC.2,afc,dU];rfl
   |false=>rw[TQ]at Cv;unfold n9;rw[f2];dsimp only;have mC:=Nx p.now (re (fG p.en key)) (rs (without p.w key)) (rs (without p.m key)) (rr (fK.val p.s p.a key).1) (fK.val p.s p.a key).2 (rf p.fe) p.hits ⟨id,key,(j:az)+1,0,1,(el p.fe j).t,0⟩ rfl;dsimp only at mC;simp only[aJ (show((i:aG):az)≥0 by omega),Lib.cS,dU,hi,aR,aP,Cv,h9.1,h9.2,N3.1,N3.2,aD,h5.1,h5.2,ay,nj,dL,h8.1,h8.2,Lib.eG,Lib.dE,hj,cN j p.fe hj,wn j (by omega),mC.1,mC.2];rfl
end wB

namespace xL
open Lib (rr rs re rf rc Px Cl el)
def ans:aC Cl->az×au×az×az×az×au×az×aY
 |some c=>(c.id,c.k,c.fe,c.fr,c.sta,c.got,c.age,ak)
 |none=>(0,⟨#[]⟩,0,0,0,⟨#[]⟩,0,aq)
theorem walk(N:aG)(kr:az->au->az->az->az->au->az->aY->aC R)(id now:az)(q1 q2 q3 q4:aW)(a5:az)(q6:aW)(cl:aA Cl)(a8:az)(hl:cl.length<=1000):∀(d i n:aG),cl.length-i<=d->i<=cl.length->d<n->(∀j,j<i->(el cl j).id≠id)->
  l2 N (λB6 tz F_ Ga NQ TW Od Oe Gb Of Og Oh Mn Kl Km To Tp W8 TX=>kr Mn Kl Km To Tp W8 TX tz) (λy38 y39 y40 y41 W9 W_ NR y45 y46 y47 y48 y49 y50 y51 y52 Xa Xb Xc y56=>kr 0 ({data:= #[]}) 0 0 0 ({data:= #[]}) 0 aq) n id aq (i:az) now q1 q2 q3 q4 a5 q6 (rc cl) a8 0 ({data:= #[]}) 0 0 0 ({data:= #[]}) 0=(match cl.find? (λc=>decide (c.id=id))with|some c=>kr c.id c.k c.fe c.fr c.sta c.got c.age ak|none=>kr 0 ⟨#[]⟩ 0 0 0 ⟨#[]⟩ 0 aq):=by
 have fin:∀n:aG,(∀j,j<cl.length->(el cl j).id≠id)->l2 N (λB6 tz F_ Ga NQ TW Od Oe Gb Of Og Oh Mn Kl Km To Tp W8 TX=>kr Mn Kl Km To Tp W8 TX tz) (λy38 y39 y40 y41 W9 W_ NR y45 y46 y47 y48 y49 y50 y51 y52 Xa Xb Xc y56=>kr 0 ({data:= #[]}) 0 0 0 ({data:= #[]}) 0 aq) (n+1) id aq (cl.length:az) now q1 q2 q3 q4 a5 q6 (rc cl) a8 0 ({data:= #[]}) 0 0 0 ({data:= #[]}) 0=(match cl.find? (λc=>decide (c.id=id))with|some c=>kr c.id c.k c.fe c.fr c.sta c.got c.age ak|none=>kr 0 ⟨#[]⟩ 0 0 0 ⟨#[]⟩ 0 aq):=λn hn=>by
  have:cl.find? (λc=>decide (c.id=id))=none:=by rw[p8];intro x hx q;obtain⟨j,hj,rfl⟩:=da hx;have:=hn j hj;rw[eU hj]at this;exact this (b9 q)
  rw[this];simp only[l2,r2,eR,Lib.dE,bu,bm,aD]
 intro d;induction d with
 |zero=>
  intro i n h1 h2 h3 h4;obtain⟨n,rfl⟩:∃k,n=k+1:=⟨n-1,by omega⟩
  have:i=cl.length:=by omega
  subst this;exact fin n h4
 |succ d ih=>
  intro i n h1 h2 h3 h4;obtain⟨n,rfl⟩:∃k,n=k+1:=⟨n-1,by omega⟩
  by_cases hi:i<cl.length
  ·have lK:bN ((i:az)+1)=((i+1:aG):az):=dh (by omega) (by omega);by_cases he:(el cl i).id=id
   ·have hf:cl.find? (λc=>decide (c.id=id))=aj (el cl i):=by
     rw[Am];refine⟨aJ he,i,hi,(eU hi).symm,λj hj=> ?_⟩
     have:=h4 j hj;rw[eU (by omega:j<cl.length)]at this;rw[aM this];rfl
    rw[hf];have e0:bY (aw (rc cl) i 0)=(el cl i).id:=by rw[Ki hi];rfl
    have e1:bH (aw (rc cl) i 1)=(el cl i).k:=by rw[Te hi];rfl
    have e2:bY (aw (rc cl) i (1+1))=(el cl i).fe:=by rw[Tf hi];rfl
    have e3:bY (aw (rc cl) i (1+1+1))=(el cl i).fr:=by rw[Tg hi];rfl
    have e4:bY (aw (rc cl) i (1+1+1+1))=(el cl i).sta:=by rw[Th hi];rfl
    have e5:bH (aw (rc cl) i (1+1+1+1+1))=(el cl i).got:=by rw[Ti hi];rfl
    have e6:bY (aw (rc cl) i (1+1+1+1+1+1))=(el cl i).age:=by rw[Tj hi];rfl
    simp only[l2,r2,eR,Lib.dE,hi,aR,Lib.cS,aP,ay,Lib.eG,e0,e1,e2,e3,e4,e5,e6,he]
   ·refine Eq.trans ?_ (ih (i+1) n (by omega) hi (by omega) λj hj=> ?_)
    ·have e0:bY (aw (rc cl) i 0)=(el cl i).id:=by rw[Ki hi];rfl
     simp only[l2,r2,eR,Lib.dE,hi,aR,Lib.cS,aP,ay,aD,Lib.eG,e0,he,bm,lK]
    ·by_cases Hb:j=i
     ·subst Hb;exact he
     ·exact h4 j (by omega)
  ·have:i=cl.length:=by omega
   subst this;exact fin n h4
theorem ok(id now:az)(q1 q2 q3 q4:aW)(a5:az)(q6:aW)(cl:aA Cl)(a8:az)(hl:cl.length<=1000):c now q1 q2 q3 q4 a5 q6 (rc cl) a8 id=ak/\v now q1 q2 q3 q4 a5 q6 (rc cl) a8 id=ans (cl.find? λc=>decide (c.id=id)):=by
 refine out _ _ _ _ _ _ _ _ _ _ ?_;unfold vo;generalize hN:Lib.c9=N;have hN1:cl.length<N:=by rw[<-hN];exact cU (by omega)
 clear hN;unfold b;refine(walk N _ id now q1 q2 q3 q4 a5 q6 cl a8 hl cl.length 0 N (by omega) (bL _) hN1 (λj hj=>cq hj (BW j))).trans ?_;cases cl.find? λc=>decide (c.id=id)<;>rfl
end xL

namespace tI
open Lib (rr rs re rf rc Px)
open pY (iZ)
theorem ok(p:Px)(f:az)(hp:p.Fit 1048576):c p.now (re p.en) (rs p.w) (rs p.m) (rr p.s) p.a (rf p.fe) (rc p.cl) p.hits f=ak/\v p.now (re p.en) (rs p.w) (rs p.m) (rr p.s) p.a (rf p.fe) (rc p.cl) p.hits f=(iZ p&&decide (0<=f/\f<=(p.fe.length:az)-1)):=by have h:=Ew.ok p hp;have hf:=hp.fe;refine out _ _ _ _ _ _ _ _ _ _ ?_;unfold vo b;rw[h.1,h.2,ay,dL,dh (x:=(p.fe.length:az)-1) (by omega) (by omega),show od.v f 0 ((p.fe.length:az)-1)=decide (0<=f/\f<=(p.fe.length:az)-1)from fy.eQ _ _ _];cases iZ p<;>rfl
end tI

namespace Oj
theorem put(s:az)(t q:au)(ht:(t.size:az)<=400)(hs:1<=s/\s<=3):Cb.v s t [] q=bif decide (s=1)&&(decide (1<=q.size/\q.size<=40)&&decide (t.size+q.size<=400))then(s,t++q,[],ak)else(s,t,[],aq):=by
 unfold Cb.v;have b8:kY.v s t []=true:=by unfold kY.v kY.rest;rw[aJ hs,aJ (show t.size<=400 by omega)];rfl
 by_cases h1:s=1
 ·by_cases h2:1<=q.size/\q.size<=40
  ·by_cases h3:t.size+q.size<=400
   ·rw[bC ⟨b8,h1,h2.1,h2.2,h3⟩,aJ h1,aJ h2,aJ h3];rfl
   ·rw[bM (by omega),aM h3];simp
  ·rw[bM (by omega),aM h2];simp
 ·rw[bM (by simp[h1]),aM h1];rfl
end Oj

namespace ze
open Lib (rr rs re rf rc Px Cl el)
open rS (ec j8 kK)
theorem ok(p:Px)(f:aG)(hf:f<p.fe.length)(hl:p.fe.length<=2097152)(hc:p.cl.length<=2097152):
  c p.now (re p.en) (rs p.w) (rs p.m) (rr p.s) p.a (rf p.fe) (rc p.cl) p.hits (f:az)=ak/\v p.now (re p.en) (rs p.w) (rs p.m) (rr p.s) p.a (rf p.fe) (rc p.cl) p.hits (f:az)=(p.now,re p.en,rs p.w,rs p.m,rr p.s,p.a,rf p.fe,rc (j8 p.cl f 1 (el p.fe f).t),p.hits):=by
 refine out _ _ _ _ _ _ _ _ _ _ ?_;unfold vo b;rw[eR];have key:=n_ Cl.row p.cl (λ_ c=>ec f 1 (el p.fe f).t c) (λn (i:aG) x=>l1 Lib.c9 (λ(_ _ _ W7 Tn FH:az) (FI B6 tz F_ Ga NQ:aW)=>aj (W7,B6,tz,F_,Ga,Tn,NQ,FI,FH)) n (f:az) (p.cl.length:az) (i:az) p.now p.a p.hits x (re p.en) (rs p.w) (rs p.m) (rr p.s) (rf p.fe)) (λx=>aj (p.now,re p.en,rs p.w,rs p.m,rr p.s,p.a,rf p.fe,x,p.hits)) (λn i L h h2 hL uQ=> ?_) (λn L hL=> ?_) Lib.c9 (cU (by omega))
 ·rw[kK]at key;exact key
 ·have e2:aw (L.map Cl.row) i (1+1)=CV.i ar p.cl[i].fe:=by rw[fg _ L i _ h2,uQ];rfl
  have e4:aw (L.map Cl.row) i (1+1+1+1)=CV.i ar p.cl[i].sta:=by rw[fg _ L i _ h2,uQ];rfl
  have s1:eA (L.map Cl.row) i 5 [CV.s (el p.fe f).t]=(L.set i {p.cl[i]with got:=(el p.fe f).t}).map Cl.row:=lx Cl.row L i 5 _ _ h2 (by rw[uQ];rfl);simp only[l1,r1,Lib.dE,h,h2,hf,bQ,cw,aR,Lib.cS,aP,ay,Lib.eG,e2,e4,bY,s1,o0,dL,F8 hf,bH,Lib.de h (by omega:p.cl.length<=9223372036854775807),dh (x:=(f:az)+1) (by omega) (by omega)];unfold ec;cases decide (p.cl[i].fe=(f:az)+1)with
  |false=>rw[pD,aD,aD,<-uQ,eZ]
  |true=>
   cases hd:decide (p.cl[i].sta=1)with
   |false=>rw[bj,ay,aD,aD,<-uQ,eZ]
   |true=>have e:=b9 hd;rw[bj,ay,ay,ay];rw[show({p.cl[i]with sta:=1,got:=(el p.fe f).t}:Cl)={p.cl[i]with got:=(el p.fe f).t}by rw[<-e]]
 ·simp only[l1,r1,Lib.dE,bu,bm,aD]
end ze

namespace KS
open Lib (rr rs re rf rc Px el)
open gg (qV rB told ix ni iE wg)
theorem ok(p:Px)(f:az)(q:au)(hp:p.Fit 1048576):c p.now (re p.en) (rs p.w) (rs p.m) (rr p.s) p.a (rf p.fe) (rc p.cl) p.hits f q=ak/\v p.now (re p.en) (rs p.w) (rs p.m) (rr p.s) p.a (rf p.fe) (rc p.cl) p.hits f q=(p.now,re p.en,rs p.w,rs p.m,rr p.s,p.a,rf (rB p f q).1.fe,rc (rB p f q).1.cl,p.hits,(rB p f q).2):=by
 have h1:=uL.ok p hp;have h2:=tI.ok p f hp;have hf:=hp.fe;have hc:=hp.cl;refine out _ _ _ _ _ _ _ _ _ _ _ ?_;unfold vo b rB;simp only[Lib.lt,h1.1,h1.2,h2.1,h2.2,ay];unfold qV;cases b8:pY.iZ p&&decide (0<=f/\f<=(p.fe.length:az)-1)with
 |false=>rw[<-mY (pY.iZ p),b8];rfl
 |true=>
  rw[<-mY (pY.iZ p),b8,bj];rw[aK,bf]at b8;obtain⟨n,rfl⟩:∃n:aG,f=(n:az):=⟨f.toNat,by omega⟩
  have hn:n<p.fe.length:=by omega
  have wD:=gg.XV b8.1 n hn;unfold m8.nr at wD;simp only[aK,bf]at wD;have mC:=Oj.put (el p.fe n).sta (el p.fe n).t q wD.2.1 wD.2.2.1;simp only[ba,aD,ay,Lib.cS,Lib.dE,dL,hn,aR,aP,Lib.eG,yz hn,F8 hn,bY,bH,mC];cases hs:decide ((el p.fe n).sta=1)&&(decide (1<=q.size/\q.size<=40)&&decide ((el p.fe n).t.size+q.size<=400))with
  |false=>rfl
  |true=>
   have e1:=wg p.fe n 1 [CV.s ((el p.fe n).t++q)] {el p.fe n with t:=(el p.fe n).t++q} hn rfl;have M4:n<(p.fe.set n {el p.fe n with t:=(el p.fe n).t++q}).length:=by rw[cw];exact hn
   have h3:=ze.ok {p with fe:=p.fe.set n {el p.fe n with t:=(el p.fe n).t++q}} n M4 (by rw[cw];omega) (by dsimp only;omega);dsimp only at h3;rw[iE hn]at h3;simp only[ba,aD,ay,e1,h3.1,h3.2];rfl
end KS

namespace uF
open Lib (rr rs re rf rc Px Cl el)
open rS (ec j8 kK)
theorem ok(p:Px)(f:aG)(st:az)(hf:f<p.fe.length)(hl:p.fe.length<=2097152)(hc:p.cl.length<=2097152):
  c p.now (re p.en) (rs p.w) (rs p.m) (rr p.s) p.a (rf p.fe) (rc p.cl) p.hits (f:az) st=ak/\v p.now (re p.en) (rs p.w) (rs p.m) (rr p.s) p.a (rf p.fe) (rc p.cl) p.hits (f:az) st=(p.now,re p.en,rs p.w,rs p.m,rr p.s,p.a,rf p.fe,rc (j8 p.cl f st (el p.fe f).t),p.hits):=by
 refine out _ _ _ _ _ _ _ _ _ _ _ ?_;unfold vo b;rw[eR];have key:=n_ Cl.row p.cl (λ_ c=>ec f st (el p.fe f).t c) (λn (i:aG) x=>l1 Lib.c9 (λ(_ _ _ _ FH FI B6:az) (tz F_ Ga NQ TW Od:aW)=>aj (FH,F_,Ga,NQ,TW,FI,Od,tz,B6)) n (f:az) st (p.cl.length:az) (i:az) p.now p.a p.hits x (re p.en) (rs p.w) (rs p.m) (rr p.s) (rf p.fe)) (λx=>aj (p.now,re p.en,rs p.w,rs p.m,rr p.s,p.a,rf p.fe,x,p.hits)) (λn i L h h2 hL uQ=> ?_) (λn L hL=> ?_) Lib.c9 (cU (by omega))
 ·rw[kK]at key;exact key
 ·have e2:aw (L.map Cl.row) i (1+1)=CV.i ar p.cl[i].fe:=by rw[fg _ L i _ h2,uQ];rfl
  have e4:aw (L.map Cl.row) i (1+1+1+1)=CV.i ar p.cl[i].sta:=by rw[fg _ L i _ h2,uQ];rfl
  have s1:eA (L.map Cl.row) i 4 [CV.i ar st]=(L.set i {p.cl[i]with sta:=st}).map Cl.row:=lx Cl.row L i 4 _ _ h2 (by rw[uQ];rfl);have h3:i<(L.set i {p.cl[i]with sta:=st}).length:=by simpa using h2
  have s2:eA ((L.set i {p.cl[i]with sta:=st}).map Cl.row) i 5 [CV.s (el p.fe f).t]=((L.set i {p.cl[i]with sta:=st}).set i {p.cl[i]with sta:=st,got:=(el p.fe f).t}).map Cl.row:=lx Cl.row _ i 5 _ _ h3 (by rw[j5];rfl);simp only[l1,r1,Lib.dE,h,h2,hf,bQ,cw,aR,Lib.cS,aP,ay,Lib.eG,e2,e4,bY,s1,s2,o0,dL,F8 hf,bH,Lib.de h (by omega:p.cl.length<=9223372036854775807),dh (x:=(f:az)+1) (by omega) (by omega)];unfold ec;cases decide (p.cl[i].fe=(f:az)+1)with
  |false=>rw[pD,aD,aD,<-uQ,eZ]
  |true=>
   cases decide (p.cl[i].sta=1)with
   |false=>rw[bj,ay,aD,aD,<-uQ,eZ]
   |true=>rw[bj,ay,ay,ay]
 ·simp only[l1,r1,Lib.dE,bu,bm,aD]
end uF

namespace Cc
open Lib (rr rs re rf rc Px En el)
open gG (So fG l8)
open jT (yX)
theorem ok(p:Px)(e:En)(r6 r7:aW)(hp:p.Fit 1048575)(hso:So p.en)(hk:e.k.size<=140737488355328):
  c p.now (re p.en) (rs p.w) (rs p.m) (rr p.s) p.a r6 r7 p.hits e.k e.st e.li e.bo=ak/\v p.now (re p.en) (rs p.w) (rs p.m) (rr p.s) p.a r6 r7 p.hits e.k e.st e.li e.bo=(p.now,re (yX p e).en,rs (yX p e).w,rs (yX p e).m,rr (yX p e).s,(yX p e).a,r6,r7,p.hits):=by have he:=hp.en;have hw:=hp.w;have hm:=hp.m;obtain⟨b1,b2,b3⟩:=jv.Ke p.w p.m p.s p.a e.k;have h1:=MA.ok p.w p.m p.s p.a e.k (by omega) (by omega) ⟨db hp.s.1 (by omega),λq hq=>db (hp.s.2.1 q hq) (by omega)⟩ hk;refine out _ _ _ _ _ _ _ _ _ _ _ _ _ ?_;unfold vo b yX;generalize jv.val p.w p.m p.s p.a e.k=V at h1 b1 b2 b3;obtain⟨W,M,T,A,G⟩:=V;dsimp only at h1 b1 b2⊢;have h2:=BZ.ok (re p.en) G (gG.Qa _) (by rw[dU];omega);rw[gG.EJ]at h2;have h3:=uI.ok W M (rr T) A e.k (by omega) (by omega);have hd:=gG.vE p.en G;have h4:=tM.ok (re (fG p.en G)) e.k e.st e.li e.bo (gG.Bn (hso.drop G)) (by rw[dU];omega);rw[gG.sH]at h4;simp only[Lib.lt,h1.1,h1.2,h2.1,h2.2,h3.1,h3.2,h4.1,h4.2,ay];cases eW.has W e.k||eW.has M e.k<;>rfl
end Cc

namespace NY
open Lib (rr rs re rf rc Px el)
open gg (qV told ix ni iE wg)
open pZ (cls lY)
theorem ok(p:Px)(f life:az)(hp:p.Fit 1048576):c p.now (re p.en) (rs p.w) (rs p.m) (rr p.s) p.a (rf p.fe) (rc p.cl) p.hits f life=ak/\v p.now (re p.en) (rs p.w) (rs p.m) (rr p.s) p.a (rf p.fe) (rc p.cl) p.hits f life=(p.now,re (cls p f life).1.en,rs (cls p f life).1.w,rs (cls p f life).1.m,rr (cls p f life).1.s,(cls p f life).1.a,rf (cls p f life).1.fe,rc (cls p f life).1.cl,p.hits,(cls p f life).2):=by
 have h1:=uL.ok p hp;have h2:=tI.ok p f hp;have hf:=hp.fe;have hc:=hp.cl;refine out _ _ _ _ _ _ _ _ _ _ _ ?_;unfold vo b cls;simp only[Lib.lt,h1.1,h1.2,h2.1,h2.2,ay];unfold qV;cases b8:pY.iZ p&&decide (0<=f/\f<=(p.fe.length:az)-1)with
 |false=>rw[<-mY (pY.iZ p),b8];rfl
 |true=>
  rw[<-mY (pY.iZ p),b8,bj];rw[aK,bf]at b8;obtain⟨n,rfl⟩:∃n:aG,f=(n:az):=⟨f.toNat,by omega⟩
  have hn:n<p.fe.length:=by omega
  obtain⟨so,_,_,_,_,_,_,_,_,_,wD⟩:=jT.Fm b8.1;have wD:=wD n hn;unfold m8.nr at wD;rw[aK]at wD;have zq:=jv.ka wD.1;simp only[ba,aD,ay,Lib.cS,Lib.dE,dL,hn,aR,aP,Lib.eG,yz hn,bY];rw[show((el p.fe n).sta !=1)= !decide ((el p.fe n).sta=1)from rfl,show od.v life 0 999999=decide (0<=life/\life<=999999)from fy.eQ _ _ _];cases hs:decide ((el p.fe n).sta=1)with
  |false=>rfl
  |true=>
   cases hl:decide (0<=life/\life<=999999)with
   |false=>rfl
   |true=>
    have e1:=wg p.fe n 2 [CV.i ar 2] {el p.fe n with sta:=2} hn rfl;have n1:n<(p.fe.set n {el p.fe n with sta:=2}).length:=by rw[cw];exact hn
    have e2:=wg (p.fe.set n {el p.fe n with sta:=2}) n 3 [CV.i ar life] {el p.fe n with sta:=2,li:=life} n1 (by rw[iE hn];rfl);rw[o0]at e2;have n2:n<(p.fe.set n {el p.fe n with sta:=2,li:=life}).length:=by rw[cw];exact hn
    have e3:=wg (p.fe.set n {el p.fe n with sta:=2,li:=life}) n 4 [CV.i ar p.now] {el p.fe n with sta:=2,li:=life,st:=p.now} n2 (by rw[iE hn];rfl);rw[o0]at e3;generalize hg:({el p.fe n with sta:=2,li:=life,st:=p.now}:Lib.Fe)=g at e3;have n3:n<(p.fe.set n g).length:=by rw[cw];exact hn
    have h3:=uF.ok {p with fe:=p.fe.set n g} n 2 n3 (by rw[cw];omega) (by dsimp only;omega);dsimp only at h3;rw[iE hn]at h3;have hk:g.k=(el p.fe n).k:=by rw[<-hg]
    have h4:=Cc.ok (told p n g 2) (lY g) (rf (p.fe.set n g)) (rc (told p n g 2).cl) ((ni (jT.iR b8.1)).le (by omega)) so (by show g.k.size<=_;rw[hk];omega);have z0:bH (aw (rf (p.fe.set n g)) n 0)=g.k:=by rw[H6 n3,iE hn];rfl
    have z1:bH (aw (rf (p.fe.set n g)) n 1)=g.t:=by rw[F8 n3,iE hn];rfl
    have gl:g.li=life:=by rw[<-hg]
    have gs:g.st=p.now:=by rw[<-hg]
    unfold lY at h4;dsimp only[told]at h4;rw[gl,gs]at h4;unfold lY told;simp only[ba,aD,ay,e1,e2,e3,h3.1,h3.2,z0,z1,gl,gs];cases decide (life>0)with
    |true=>simp only[ay,h4.1,h4.2];rfl
    |false=>rfl
end NY

namespace NZ
open Lib (rr rs re rf rc Px el)
open gg (qV rm told ix ni iE wg)
theorem ok(p:Px)(f:az)(hp:p.Fit 1048576):c p.now (re p.en) (rs p.w) (rs p.m) (rr p.s) p.a (rf p.fe) (rc p.cl) p.hits f=ak/\v p.now (re p.en) (rs p.w) (rs p.m) (rr p.s) p.a (rf p.fe) (rc p.cl) p.hits f=(p.now,re p.en,rs p.w,rs p.m,rr p.s,p.a,rf (rm p f).1.fe,rc (rm p f).1.cl,p.hits,(rm p f).2):=by
 have h1:=uL.ok p hp;have h2:=tI.ok p f hp;have hf:=hp.fe;have hc:=hp.cl;refine out _ _ _ _ _ _ _ _ _ _ ?_;unfold vo b rm;simp only[Lib.lt,h1.1,h1.2,h2.1,h2.2,ay];unfold qV;cases b8:pY.iZ p&&decide (0<=f/\f<=(p.fe.length:az)-1)with
 |false=>rw[<-mY,b8];rfl
 |true=>
  rw[<-mY,b8,bj];rw[aK,bf]at b8;obtain⟨n,rfl⟩:∃n:aG,f=(n:az):=⟨f.toNat,by omega⟩
  have hn:n<p.fe.length:=by omega
  simp only[ba,aD,ay,Lib.cS,Lib.dE,dL,hn,aR,aP,Lib.eG,yz hn,bY];cases hs:decide ((el p.fe n).sta=1)with
  |false=>rw[show((el p.fe n).sta !=1)= !decide ((el p.fe n).sta=1)from rfl,hs];rfl
  |true=>
   have e1:=wg p.fe n 2 [CV.i ar 3] {el p.fe n with sta:=3} hn rfl;have M4:n<(p.fe.set n {el p.fe n with sta:=3}).length:=by rw[cw];exact hn
   have h3:=uF.ok {p with fe:=p.fe.set n {el p.fe n with sta:=3}} n 3 M4 (by rw[cw];omega) (by dsimp only;omega);dsimp only at h3;rw[iE hn]at h3;rw[show((el p.fe n).sta !=1)= !decide ((el p.fe n).sta=1)from rfl,hs];simp only[ba,aD,ay,e1,h3.1,h3.2];rfl
end NZ

namespace uH
open bS (I)
open A_Post (gK)
open j4 (Ev o8)
def Dr(q e w m s fe cl dk cd bd:aW)(x:az×az×au×az×aW×aW×az×az×aW×aW×aW×aW×aW×aW×aW×aW×aW):Prop:=
 ∃k id t n a' s',x=(k,id,t,n,[],q,a',s',e,w,m,s,fe,cl,dk,cd,bd)/\I q a'/\o8 ⟨k,id,t,n,[]⟩=ak/\k<=6
theorem idA{n:az}(h0:0<=n)(h1:(0:az)<3->n<3):0<=n/\n<=30:=by omega
theorem idB{n:az}(h0:0<=n)(h1:(0:az)<9->n<9):0<=bN (1+n)/\bN (1+n)<=30:=by rw[dh (x:=1+n) (by omega) (by omega)];omega
theorem idC{l:aW}{n:az}(hl:∀j,j<l.length->0<=bY (aw l j 0)/\bY (aw l j 0)<=30)(h0:0<=n)(h1:0<(l.length:az)->n<(l.length:az))(hp:decide ((l.length:az)>0)=ak):0<=bY (aw l n.toNat 0)/\bY (aw l n.toNat 0)<=30:=by have:=h1 (b9 hp);exact hl _ (by omega)
theorem tA{t:au}(h:t.size=2):t.size<=60:=by omega
theorem opens{P:R->Prop}(N:aG)(K:az->az->az->az->aW->az->az->aW->aW->aW->aW->aW->aW->aW->aW->aW->az->az->az->az->az->au->az->az->az->au->az->aW->aC R)(x1 x2 x3:az)(x5:aW)(x6 x7:az)(x8 x9 x10 x11 Kj x13 x14 x15 x16:aW)(x17 x18 x19 x20 x21:az)(x22:au)(x23 x24 x25:az)(x26:au)(x27:az)(hf:Kj.length<=20)
  (hK:∀l:aW,(∀j,j<l.length->0<=bY (aw l j 0)/\bY (aw l j 0)<=30)->gK (K x1 x2 x3 (Kj.length:az) x5 x6 x7 x8 x9 x10 x11 Kj x13 x14 x15 x16 x17 x18 x19 x20 x21 x22 x23 x24 x25 x26 x27 l) P):
  ∀(d i n:aG) (l:aW),Kj.length-i<=d->i<=Kj.length->d<n->l.length<=i->(∀j,j<l.length->0<=bY (aw l j 0)/\bY (aw l j 0)<=30)->
   gK (l4 N K n x1 x2 x3 (i:az) x5 x6 x7 x8 x9 x10 x11 Kj x13 x14 x15 x16 x17 x18 x19 x20 x21 x22 x23 x24 x25 x26 x27 l) P:=by
 have fin:∀(n:aG) (l:aW),(∀j,j<l.length->0<=bY (aw l j 0)/\bY (aw l j 0)<=30)->gK (l4 N K (n+1) x1 x2 x3 (Kj.length:az) x5 x6 x7 x8 x9 x10 x11 Kj x13 x14 x15 x16 x17 x18 x19 x20 x21 x22 x23 x24 x25 x26 x27 l) P:=λn l hl=>by refine A_Post.eq ?_ (hK l hl);simp only[l4,r4,Lib.dE,bu,bm,aD]
 intro d;induction d with
 |zero=>
  intro i n l h1 h2 h3 h4 h5;obtain⟨n,rfl⟩:∃k,n=k+1:=⟨n-1,by omega⟩
  have:i=Kj.length:=by omega
  subst this;exact fin n l h5
 |succ d ih=>
  intro i n l h1 h2 h3 h4 h5;obtain⟨n,rfl⟩:∃k,n=k+1:=⟨n-1,by omega⟩
  by_cases h:i<Kj.length
  ·have lK:bN ((i:az)+1)=((i+1:aG):az):=dh (by omega) (by omega);by_cases hs:bY (aw Kj i 2)=1
   ·have hr:cK (l.length+(aE (aT [Ck.i ar] 1) 0 [CV.i ar (i:az)]).length) 8=true:=by rw[iq.tl];exact Lib.cy (by omega) (by omega)
    refine A_Post.eq (o':=l4 N K n x1 x2 x3 ((i+1:aG):az) x5 x6 x7 x8 x9 x10 x11 Kj x13 x14 x15 x16 x17 x18 x19 x20 x21 x22 x23 x24 x25 x26 x27 (l++aE (aT [Ck.i ar] 1) 0 [CV.i ar (i:az)])) ?_ (ih (i+1) n _ (by omega) h (by omega) (by rw[bP,iq.tl];omega) λj hj=> ?_)
    ·simp only[l4,r4,Lib.dE,h,aR,Lib.cS,aP,ay,Lib.eG,hs,hr,lK]
    ·rw[bP,iq.tl]at hj;by_cases jF:j<l.length
     ·have:aw (l++aE (aT [Ck.i ar] 1) 0 [CV.i ar (i:az)]) j 0=aw l j 0:=by unfold aw;rw[cL,cL,dj jF];simp only[cL]
      rw[this];exact h5 j jF
     ·have:aw (l++aE (aT [Ck.i ar] 1) 0 [CV.i ar (i:az)]) j 0=CV.i ar (i:az):=by unfold aw;rw[cL,cL,c6 (by omega),show j-l.length=0 by omega];rfl
      rw[this];show 0<=(i:az)/\(i:az)<=30;omega
   ·refine A_Post.eq (o':=l4 N K n x1 x2 x3 ((i+1:aG):az) x5 x6 x7 x8 x9 x10 x11 Kj x13 x14 x15 x16 x17 x18 x19 x20 x21 x22 x23 x24 x25 x26 x27 l) ?_ (ih (i+1) n _ (by omega) h (by omega) (by omega) h5);simp only[l4,r4,Lib.dE,h,aR,Lib.cS,aP,ay,aD,Lib.eG,hs,bm,lK]
  ·have:i=Kj.length:=by omega
   subst this;exact fin n l h5
set_option maxHeartbeats 8000000 in
end uH

namespace KT
open Lib (re el En)
open ed (Cr)
def res(o:aC En):au×az×az×au×aY:=match o with|some e=>(e.k,e.st,e.li,e.bo,ak)|none=>(⟨#[]⟩,0,0,⟨#[]⟩,aq)
theorem ok(now:az)(en:aA En)(q2 q3 q4:aW)(q5:az)(q6 q7:aW)(q8:az)(key:au)(hl:en.length<=1048576):c now (re en) q2 q3 q4 q5 q6 q7 q8 key=ak/\v now (re en) q2 q3 q4 q5 q6 q7 q8 key=res (Cr en key):=by
 refine out _ _ _ _ _ _ _ _ _ _ ?_;unfold vo b Cr
 have go:∀(d i n:aG),en.length-i<=d->i<=en.length->d<n->
   l2 Lib.c9 (λ(_:au) (FH:aY) (_ _:az) (_ _ _ _:aW) (_:az) (_ _:aW) (_:az) (Of:au) (Og Oh:az) (Mn:au)=>aj (Of,Og,Oh,Mn,FH)) (λ(_:au) (_:aY) (_ _:az) (_ _ _ _:aW) (_:az) (_ _:aW) (_:az) (_:au) (_ _:az) (_:au)=>aj (({data:= #[]}:au),0,0,({data:= #[]}:au),aq)) n key aq (i:az) now (re en) q2 q3 q4 q5 q6 q7 q8 ({data:= #[]}) 0 0 ({data:= #[]})=aj (res ((en.drop i).find? λe=>decide (e.k=key))):=by
  intro d
  induction d with
  |zero=>
   intro i n h1 h2 h3;obtain⟨n,rfl⟩:∃n',n=n'+1:=⟨n-1,by omega⟩
   have:i=en.length:=by omega
   subst this;simp only[l2,r2,dU,Lib.dE,bu,bm,aD,dq];rfl
  |succ d ih=>
   intro i n h1 h2 h3;obtain⟨n,rfl⟩:∃n',n=n'+1:=⟨n-1,by omega⟩
   by_cases hi:i<en.length
   ·rw[dJ hi];have g:=ih (i+1) n (by omega) hi (by omega);simp only[l2,r2,dU,Lib.dE,hi,aR,Lib.cS,aP,ay,Lib.eG,qw hi,tV hi,tW hi,tX hi,bH,bY,Lib.fE,eU hi,Lib.de hi (by omega:en.length<=9223372036854775807)];cases hk:decide (en[i].k=key)with
    |true=>rw[ay,List.find?_cons_of_pos (p:=λe:En=>decide (e.k=key)) hk];rfl
    |false=>rw[aD,Ix (p:=λe:En=>decide (e.k=key)) (by simp[hk])];exact g
   ·have:i=en.length:=by omega
    subst this;simp only[l2,r2,dU,Lib.dE,bu,bm,aD,dq];rfl
 have:=go en.length 0 Lib.c9 (by omega) (bL _) (cU (by omega));rw[fB]at this;exact this
end KT

namespace H_
open Lib (rr rs)
open eW (without)
theorem ok(w m:aA au)(s:aA (aA az))(a:az)(key:au)(hw:w.length<=1048576)(hm:m.length<=1048576)(hf:iX.n5 s):c (rs w) (rs m) (rr s) a key=ak/\v (rs w) (rs m) (rr s) a key=(rs (without w key),rs (without m key),rr s,a):=by have h1:=nz.ok s a hf;have h2:=oA.ok w key hw;have h3:=oA.ok m key hm;exact out _ _ _ _ _ (by unfold vo b;rw[h1.1,h1.2,h2.1,h2.2,h3.1,h3.2];rfl)
end H_

namespace Ci
open Lib (re el qw tV tW tX En)
open gG (fG)
theorem ok(l:aA En)(k:au)(hl:l.length<=2097152):c (re l) k=ak/\v (re l) k=re (fG l k):=by
 refine out _ _ ?_;unfold vo b;have key:=ml l.length (λn (i:aG) (x:aW)=>l3 Lib.c9 (λ(_:aW) (_:au) (_:az) (y7:aW)=>aj y7) n (re l) k (i:az) x) (λi=>re (fG (l.take i) k)) (aj (re (fG l k))) (λn i hi=>by
  have hlen:(fG (l.take i) k).length<=i:=by refine db (eK ..) ?_;rw[eu];omega
  have e:fG (l.take (i+1)) k=fG (l.take i) k++(bif !decide ((el l i).k=k)then [el l i]else []):=by unfold fG;rw[c8 hi,iP,eU hi];cases hd:decide (l[i].k=k)<;>simp[hd]
  rw[e];simp only[l3,r3,dU,Lib.dE,hi,aR,Lib.cS,aP,ay,Lib.eG,qw hi,tV hi,tW hi,tX hi,bH,bY,Lib.fE,o9,bw,Lib.de hi (by omega:l.length<=9223372036854775807)];rw[Lib.cy (by omega) (by omega),ay];cases decide ((el l i).k=k)with
  |true=>rw[ba,aD,aD,dn]
  |false=>rw[bX,ay,ay];unfold Lib.re;rw[dm];rfl) (λn=>by
  simp only[l3,r3,dU,Lib.dE,bu,bm,aD,fH]) Lib.c9 0 (bL _) (cU (by omega))
 exact key
end Ci

namespace ub
open Lib (rc el Cl)
open ed (jn)
theorem tail(l:aA Cl)(x:Cl)(hl:l.length<=1048576)(c0:aA Cl)(hc:c0.length<=1048577):
  l9 Lib.c9 (λ(_:aW) (_ _:az) (_:au) (_ _ _:az) (_:au) (_:az) (y:aW)=>aj y) Lib.c9 (rc l) 0 x.id x.k x.fe x.fr x.sta x.got x.age (rc c0)=aj (rc (c0++l.filter λy=>decide (y.id>x.id))):=by
 refine Df l (λy=>decide (y.id>x.id)) (λm (i:aG) acc=>l9 Lib.c9 (λ(_:aW) (_ _:az) (_:au) (_ _ _:az) (_:au) (_:az) (y:aW)=>aj y) m (rc l) (i:az) x.id x.k x.fe x.fr x.sta x.got x.age (rc acc)) (λacc=>aj (rc acc)) c0
  (λm i acc h ha hp=> ?_) (λm i acc h hp=> ?_) (λm acc=> ?_) Lib.c9 (cU (by omega))
 ·have mB:decide (l[i].id>x.id)=true:=hp;simp only[l9,r9,eR,Lib.dE,h,aR,Lib.cS,aP,ay,Lib.eG,rc0 h,rc1 h,rc2 h,rc3 h,rc4 h,rc5 h,rc6 h,bH,bY,mB,o9,bw,Lib.de h (by omega:l.length<=9223372036854775807),Lib.cy (n:=acc.length+1) (b:=72) (by omega) (by omega)];unfold Lib.rc;rw[dm];rfl
 ·have mB:decide (l[i].id>x.id)=false:=hp;simp only[l9,r9,eR,Lib.dE,h,aR,Lib.cS,aP,ay,aD,Lib.eG,rc0 h,bY,mB,Lib.de h (by omega:l.length<=9223372036854775807)]
 ·simp only[l9,r9,eR,Lib.dE,bu,bm,aD]
theorem ok(l:aA Cl)(x:Cl)(hl:l.length<=1048576):c (rc l) x.id x.k x.fe x.fr x.sta x.got x.age=ak/\v (rc l) x.id x.k x.fe x.fr x.sta x.got x.age=rc (jn l x):=by
 refine out _ _ _ _ _ _ _ _ ?_;unfold vo b
 have key:=Df l (λy=>decide (y.id<x.id))
  (λm (i:aG) acc=>l3 Lib.c9 (λ(Mm:aW) (_ Oc:az) (F9:au) (W6 W7 Tn:az) (FH:au) (FI:az) (B6:aW)=>bif(cK (bW B6+bW (aE (aT [Ck.i ar,Ck.s,Ck.i ar,Ck.i ar,Ck.i ar,Ck.s,Ck.i ar] 1) 0 [CV.i ar Oc,CV.s F9,CV.i ar W6,CV.i ar W7,CV.i ar Tn,CV.s FH,CV.i ar FI])) 72)then(l9 Lib.c9 (λ(_:aW) (_ _:az) (_:au) (_ _ _:az) (_:au) (_:az) (y39:aW)=>aj y39) Lib.c9 Mm 0 Oc F9 W6 W7 Tn FH FI (B6++aE (aT [Ck.i ar,Ck.s,Ck.i ar,Ck.i ar,Ck.i ar,Ck.s,Ck.i ar] 1) 0 [CV.i ar Oc,CV.s F9,CV.i ar W6,CV.i ar W7,CV.i ar Tn,CV.s FH,CV.i ar FI]))else(ao)) m (rc l) (i:az) x.id x.k x.fe x.fr x.sta x.got x.age (rc acc))
  (λacc=>bif cK (acc.length+1) 72 then l9 Lib.c9 (λ(_:aW) (_ _:az) (_:au) (_ _ _:az) (_:au) (_:az) (y:aW)=>aj y) Lib.c9 (rc l) 0 x.id x.k x.fe x.fr x.sta x.got x.age (rc (acc++[x]))else ao) []
  (λm i acc h ha hp=>by
   have mB:decide (l[i].id<x.id)=true:=hp;have ha:acc.length<=i:=by simpa using ha
   simp only[l3,r3,eR,Lib.dE,h,aR,Lib.cS,aP,ay,Lib.eG,rc0 h,rc1 h,rc2 h,rc3 h,rc4 h,rc5 h,rc6 h,bH,bY,mB,o9,bw,Lib.de h (by omega:l.length<=9223372036854775807),Lib.cy (n:=acc.length+1) (b:=72) (by omega) (by omega)];unfold Lib.rc;rw[dm];rfl)
  (λm i acc h hp=>by have mB:decide (l[i].id<x.id)=false:=hp;simp only[l3,r3,eR,Lib.dE,h,aR,Lib.cS,aP,ay,aD,Lib.eG,rc0 h,bY,mB,Lib.de h (by omega:l.length<=9223372036854775807)])
  (λm acc=>by simp only[l3,r3,eR,Lib.dE,bu,bm,aD,o9,bw];unfold Lib.rc;rw[dm];rfl) Lib.c9 (cU (by omega))
 refine key.trans ?_;have hf:=eK (λy:Cl=>decide (y.id<x.id)) l;rw[gk,Lib.cy (by omega) (by omega),ay,tail l x hl _ (by simp;omega)];unfold jn;rw[cj]
end ub

namespace U9
open Lib (rr rs re rf rc Px Cl Fe En el)
open eW (without)
open jm (eB)
open pY (iZ)
open m8 (lV)
open ed (X4 n9 put Cr CE Bm jr jn qk tQ)
open gG (fG)
open nP (fC mR)
open wB (res zN HW)
theorem find(k0 k1:az->au->az->az->az->aW->aW->aW->aW->az->aW->aW->az->az->az->az->az->az->az->aW->aW->aW->aW->aW->aW->aC R)(cl:aA Cl)(hl:cl.length<=1048576)(id:az)(key:au)(z4 z6:az)(q7 q8 q9 Ii:aW)(Tq:az)(RW:aW)(Ts z15 H7 z17 Mo Mp Mq:az)(RX RY RZ R0 R2 R3:aW):
  (jr cl id=aq->l5 Lib.c9 k0 k1 Lib.c9 id key z4 0 z6 q7 q8 q9 Ii Tq RW (rc cl) Ts z15 H7 z17 Mo Mp Mq RX RY RZ R0 R2 R3=k1 id key z4 (cl.length:az) z6 q7 q8 q9 Ii Tq RW (rc cl) Ts z15 H7 z17 Mo Mp Mq RX RY RZ R0 R2 R3)/\
  (jr cl id=ak->∃j:az,l5 Lib.c9 k0 k1 Lib.c9 id key z4 0 z6 q7 q8 q9 Ii Tq RW (rc cl) Ts z15 H7 z17 Mo Mp Mq RX RY RZ R0 R2 R3=k0 id key 1 j z6 q7 q8 q9 Ii Tq RW (rc cl) Ts Mo Mp Mq Mo Mp Mq RX RY RZ R0 R2 R3):=by
 have go:∀(d i n:aG),cl.length-i<=d->i<=cl.length->d<n->
   (((cl.drop i).any λx=>decide (x.id=id))=aq->l5 Lib.c9 k0 k1 n id key z4 (i:az) z6 q7 q8 q9 Ii Tq RW (rc cl) Ts z15 H7 z17 Mo Mp Mq RX RY RZ R0 R2 R3=k1 id key z4 (cl.length:az) z6 q7 q8 q9 Ii Tq RW (rc cl) Ts z15 H7 z17 Mo Mp Mq RX RY RZ R0 R2 R3)/\
   (((cl.drop i).any λx=>decide (x.id=id))=ak->∃j:az,l5 Lib.c9 k0 k1 n id key z4 (i:az) z6 q7 q8 q9 Ii Tq RW (rc cl) Ts z15 H7 z17 Mo Mp Mq RX RY RZ R0 R2 R3=k0 id key 1 j z6 q7 q8 q9 Ii Tq RW (rc cl) Ts Mo Mp Mq Mo Mp Mq RX RY RZ R0 R2 R3):=by
  intro d
  induction d with
  |zero=>
   intro i n h1 h2 h3;obtain⟨n,rfl⟩:∃n',n=n'+1:=⟨n-1,by omega⟩
   have:i=cl.length:=by omega
   subst this;rw[dq];exact⟨λ_=>by simp only[l5,r5,eR,Lib.dE,bu,bm,aD],λh=>by cases h⟩
  |succ d ih=>
   intro i n h1 h2 h3;obtain⟨n,rfl⟩:∃n',n=n'+1:=⟨n-1,by omega⟩
   by_cases hi:i<cl.length
   ·rw[dJ hi,List.any_cons];obtain⟨g1,g2⟩:=ih (i+1) n (by omega) hi (by omega);have e:l5 Lib.c9 k0 k1 (n+1) id key z4 (i:az) z6 q7 q8 q9 Ii Tq RW (rc cl) Ts z15 H7 z17 Mo Mp Mq RX RY RZ R0 R2 R3=bif decide (cl[i].id=id)then k0 id key 1 (i:az) z6 q7 q8 q9 Ii Tq RW (rc cl) Ts Mo Mp Mq Mo Mp Mq RX RY RZ R0 R2 R3 else l5 Lib.c9 k0 k1 n id key z4 ((i+1:aG):az) z6 q7 q8 q9 Ii Tq RW (rc cl) Ts z15 H7 z17 Mo Mp Mq RX RY RZ R0 R2 R3:=by simp only[l5,r5,eR,Lib.dE,hi,aR,Lib.cS,aP,ay,Lib.eG,rc0 hi,bY,Lib.de hi (by omega:cl.length<=9223372036854775807)]
    rw[e];cases hc:decide (cl[i].id=id)with
    |true=>exact⟨λh=>by simp at h,λ_=>⟨i,rfl⟩⟩
    |false=>rw[nK,aD];exact⟨g1,g2⟩
   ·have:i=cl.length:=by omega
    subst this;rw[dq];exact⟨λ_=>by simp only[l5,r5,eR,Lib.dE,bu,bm,aD],λh=>by cases h⟩
 have:=go cl.length 0 Lib.c9 (by omega) (bL _) (cU (by omega));rw[fB]at this;exact this
def sc(key:au):aA Fe->aG->az×au->az×au
 |[],_,s=>s|x::r,i,s=>sc key r (i+1) (bif Bm key x then((i:az)+1,x.t)else s)
theorem scan(k0:au->aY->az->az->aW->aW->aW->aW->az->aW->aW->az->az->az->az->az->az->az->az->au->az->az->az->au->az->aW->aW->aW->aW->aW->aW->aC R)(fe:aA Fe)(hl:fe.length<=1048576)(key:au)(h0:aY)(z84:az)(q85 q86 q87 q88:aW)(z89:az)(q91:aW)(z92 z93 z94 z95 z96 z97 z98 z99:az)(WN:au)(Xd Xe Xf:az)(WA WB WC WD WE WG:aW):
  Vn Lib.c9 k0 Lib.c9 key h0 0 z84 q85 q86 q87 q88 z89 (rf fe) q91 z92 z93 z94 z95 z96 z97 z98 z99 WN 0 Xd Xe ({data:= #[]}) Xf WA WB WC WD WE WG=k0 key h0 (fe.length:az) z84 q85 q86 q87 q88 z89 (rf fe) q91 z92 z93 z94 z95 z96 z97 z98 z99 WN (sc key fe 0 (0,⟨#[]⟩)).1 Xd Xe (sc key fe 0 (0,⟨#[]⟩)).2 Xf WA WB WC WD WE WG:=by
 have go:∀(d i n:aG) (s:az×au),fe.length-i<=d->i<=fe.length->d<n->
   Vn Lib.c9 k0 n key h0 (i:az) z84 q85 q86 q87 q88 z89 (rf fe) q91 z92 z93 z94 z95 z96 z97 z98 z99 WN s.1 Xd Xe s.2 Xf WA WB WC WD WE WG=k0 key h0 (fe.length:az) z84 q85 q86 q87 q88 z89 (rf fe) q91 z92 z93 z94 z95 z96 z97 z98 z99 WN (sc key (fe.drop i) i s).1 Xd Xe (sc key (fe.drop i) i s).2 Xf WA WB WC WD WE WG:=by
  intro d
  induction d with
  |zero=>
   intro i n s h1 h2 h3;obtain⟨n,rfl⟩:∃n',n=n'+1:=⟨n-1,by omega⟩
   have:i=fe.length:=by omega
   subst this;simp only[Vn,r22,dL,Lib.dE,bu,bm,aD,dq,sc]
  |succ d ih=>
   intro i n s h1 h2 h3;obtain⟨n,rfl⟩:∃n',n=n'+1:=⟨n-1,by omega⟩
   by_cases hi:i<fe.length
   ·rw[dJ hi];unfold sc;rw[<-ih (i+1) n _ (by omega) hi (by omega)];have w:=Lib.de hi (by omega:fe.length<=9223372036854775807);have w2:((i+1:aG):az)=(i:az)+1:=by omega
    simp only[Vn,r22,dL,Lib.dE,hi,aR,Lib.cS,aP,ay,Lib.eG,H6 hi,F8 hi,yz hi,bH,bY,Lib.fE,w,eU hi];unfold Bm;cases decide (fe[i].k=key)<;>cases decide (fe[i].sta=1)<;>simp only[pc,Gd,aP,pD,ay,aD,w2]
   ·have:i=fe.length:=by omega
    subst this;simp only[Vn,r22,dL,Lib.dE,bu,bm,aD,dq,sc]
 have:=go fe.length 0 Lib.c9 (0,⟨#[]⟩) (by omega) (bL _) (cU (by omega));rw[fB]at this;exact this
theorem WS(key:au):∀(l:aA Fe) (i:aG) (s:az×au),(∀x∈l,Bm key x=aq)->sc key l i s=s:=by
 intro l;induction l with
 |nil=>intro i s _;rfl
 |cons x l ih=>intro i s h;unfold sc;rw[h x (by simp),aD];exact ih _ _ λy hy=>h y (by simp[hy])
theorem acD{fe:aA Fe}(hp:fe.Pairwise λf g=>lV g f=aq)(key:au):sc key fe 0 (0,⟨#[]⟩)=match CE fe key with|some j=>((j:az)+1,(el fe j).t)|none=>(0,⟨#[]⟩):=by
 have go:∀(l:aA Fe) (i:aG),l.Pairwise (λf g=>lV g f=aq)->sc key l i (0,⟨#[]⟩)=match l.findIdx? (Bm key)with|some j=>(((i+j:aG):az)+1,(el l j).t)|none=>(0,⟨#[]⟩):=by
  intro l;induction l with
  |nil=>intro i _;rfl
  |cons x l ih=>
   intro i h;rw[p9]at h;unfold sc;rw[List.findIdx?_cons];cases hq:Bm key x with
   |true=>
    have hn:∀y∈l,Bm key y=false:=λy hy=>by
     have h2:=h.1 y hy;unfold Bm at hq⊢;unfold lV at h2;simp only[aK,bf]at hq;rw[hq.1,hq.2]at h2;simp only[Bool.and_eq_false_iff,gM]at h2⊢;rcases h2 with h2|h2
     ·exact .inr h2
     ·rcases h2 with h2|h2
      ·exact cq trivial h2
      ·exact .inl h2
    rw[ay,WS key l _ _ hn];rfl
   |false=>
    rw[aD,ih (i+1) h.2];cases l.findIdx? (Bm key)with
    |none=>rfl
    |some j=>simp only[dp,if_false,iS,show i+1+j=i+(j+1)by omega];rfl
 have:=go fe 0 hp;unfold CE;rw[this];cases fe.findIdx? (Bm key)with
 |none=>rfl
 |some j=>dsimp only;rw[bT]
theorem ok(p:Px)(id:az)(key:au)(hp:p.Fit 1048576)(hkz:key.size<=140737488355328):c p.now (re p.en) (rs p.w) (rs p.m) (rr p.s) p.a (rf p.fe) (rc p.cl) p.hits id key=ak/\v p.now (re p.en) (rs p.w) (rs p.m) (rr p.s) p.a (rf p.fe) (rc p.cl) p.hits id key=res (ed.ask p id key):=by
 have h1:=kZ.ok p hp;have h2:=pY.ok p hp;have ng:=hp.cl;have Ie:=hp.fe;have hen:=hp.en;have Jq:iX.n5 p.s:=⟨hp.s.1,hp.s.2.1⟩
 refine out _ _ _ _ _ _ _ _ _ _ _ ?_;unfold vo b ed.ask;simp only[Lib.lt,h1.1,h1.2,h2.1,h2.2,ay];cases b8:iZ p with
 |false=>rfl
 |true=>
 have ho:fC p:=mR.1 b8;rw[ba,aD,bj,show kG.v id 1 9=decide (1<=id/\id<=9)from fy.eQ _ _ _];cases B3:decide (1<=id/\id<=9)with
 |false=>rfl
 |true=>
 rw[ba,aD,bj,show Gr.v key=eB key from fy.eQ _ _ _];cases hko:eB key with
 |false=>rfl
 |true=>
 have zq:=jv.ka hko;rw[ba,aD,bj,eR];have hc6:=ho.cll;by_cases h6:p.cl.length=6
 ·rw[aJ (show(p.cl.length:az)≥6 by omega),ay,aM (show¬p.cl.length<6 by omega),Gd];rfl
 rw[aM (show¬(p.cl.length:az)≥6 by omega),aD,aJ (show p.cl.length<6 by omega),pc];cases hhi:jr p.cl id with
 |true=>obtain⟨j,hj⟩:=(find _ _ p.cl ng id key 0 p.now (re p.en) (rs p.w) (rs p.m) (rr p.s) p.a (rf p.fe) p.hits 0 0 0 p.now p.a p.hits (re p.en) (rs p.w) (rs p.m) (rr p.s) (rf p.fe) (rc p.cl)).2 hhi;refine hj.trans ?_;rfl
 |false=>
 refine((find _ _ p.cl ng id key 0 p.now (re p.en) (rs p.w) (rs p.m) (rr p.s) p.a (rf p.fe) p.hits 0 0 0 p.now p.a p.hits (re p.en) (rs p.w) (rs p.m) (rr p.s) (rf p.fe) (rc p.cl)).1 hhi).trans ?_;rw[bX,ay];have h4:=KT.ok p.now p.en (rs p.w) (rs p.m) (rr p.s) p.a (rf p.fe) (rc p.cl) p.hits key hen;have h7:=jv.ok p.w p.m p.s p.a key hp.w hp.m Jq (by omega);have h8:=fK.ok p.s p.a key Jq (by omega);have h9:=H_.ok p.w p.m p.s p.a key hp.w hp.m Jq;have N3:=Ci.ok p.en key (by omega);have Hp:=λx:Cl=>ub.ok p.cl x ng;have amJ:=ho.hits;have ry:=ho.fl;have wF:=acD ho.ap key;have Hh:cK (p.fe.length+1) 56=true:=Lib.cy (by omega) (by omega);have dD:∀key:au,bW (aE (aT [Ck.s,Ck.s,Ck.i ar,Ck.i ar,Ck.i ar] 1) 0 [CV.s key,CV.s {data:= #[]},CV.i ar 1,CV.i ar 0,CV.i ar 0])=1:=λ_=>rfl;have TP:(el (p.fe++[qk key]) p.fe.length).t=⟨#[]⟩:=by rw[eU (by simp),FN (by omega)];simp[qk]
 rw[h4.1,h4.2,ay];cases he:Cr p.en key with
 |some e=>
  have abx:e∈p.en:=FO he;obtain⟨i,hi,hie⟩:=da abx;dsimp only[KT.res];rw[ay,<-Ez.eq,show IH.v e.k e.st e.li e.bo p.now=tQ e p.now from rfl];cases Cv:tQ e p.now with
  |true=>
   have hw:bN (p.now-e.st)=p.now-e.st:=by have:=zN (p:=p) hi ho;rwa[eU hi,hie]at this
   have hj:=Hp ⟨id,key,0,e.st,2,e.bo,p.now-e.st⟩;dsimp only at hj;rw[ay,h7.1,h7.2,ay,ay,hw,hj.1,hj.2,ay,ay];unfold res X4;cases hh:decide (p.hits<1000000000)with
   |true=>rw[bf]at hh;rw[ay,dh (by omega) (by omega)];rfl
   |false=>rfl
  |false=>
   rw[aD,aD];refine(scan _ p.fe Ie key ak p.now (re p.en) (rs p.w) (rs p.m) (rr p.s) p.a (rc p.cl) p.hits 0 0 0 p.now p.a p.hits id key 0 1 0 (re p.en) (rs p.w) (rs p.m) (rr p.s) (rf p.fe) (rc p.cl)).trans ?_;rw[wF];unfold n9;cases hoi:CE p.fe key with
   |none=>
    dsimp only;by_cases MW:p.fe.length=20
    ·rw[aM (show¬p.fe.length<20 by omega)];simp only[aR,ay,dL,aJ (show(p.fe.length:az)≥20 by omega)];rfl
    ·rw[aJ (show p.fe.length<20 by omega)];have hj:=Hp ⟨id,key,(p.fe.length:az)+1,0,1,⟨#[]⟩,0⟩;dsimp only at hj;have hlen:((p.fe.length+1:aG):az)=(p.fe.length:az)+1:=by omega
     simp only[aR,ay,aD,dL,aM (show¬(p.fe.length:az)≥20 by omega),dD,Hh,N3.1,N3.2,h9.1,h9.2,h8.1,h8.2,HW,bP,bw,hlen,hj.1,hj.2];unfold res put;rw[TP];rfl
   |some j=>dsimp only;have hj:=Hp ⟨id,key,(j:az)+1,0,1,(el p.fe j).t,0⟩;dsimp only at hj;simp only[aM (show¬(j:az)+1=0 by omega),ay,aD,N3.1,N3.2,h9.1,h9.2,h8.1,h8.2,hj.1,hj.2];rfl
 |none=>
  dsimp only[KT.res];rw[aD];refine(scan _ p.fe Ie key aq p.now (re p.en) (rs p.w) (rs p.m) (rr p.s) p.a (rc p.cl) p.hits 0 0 0 p.now p.a p.hits id key 0 1 0 (re p.en) (rs p.w) (rs p.m) (rr p.s) (rf p.fe) (rc p.cl)).trans ?_;rw[wF];unfold n9;cases hoi:CE p.fe key with
  |none=>
   dsimp only;by_cases MW:p.fe.length=20
   ·rw[aM (show¬p.fe.length<20 by omega)];simp only[aR,ay,dL,aJ (show(p.fe.length:az)≥20 by omega)];rfl
   ·rw[aJ (show p.fe.length<20 by omega)];have hj:=Hp ⟨id,key,(p.fe.length:az)+1,0,1,⟨#[]⟩,0⟩;dsimp only at hj;have hlen:((p.fe.length+1:aG):az)=(p.fe.length:az)+1:=by omega
    simp only[aR,ay,aD,dL,aM (show¬(p.fe.length:az)≥20 by omega),dD,Hh,h8.1,h8.2,HW,bP,bw,hlen,hj.1,hj.2];unfold res put;rw[TP];rfl
  |some j=>dsimp only;have hj:=Hp ⟨id,key,(j:az)+1,0,1,(el p.fe j).t,0⟩;dsimp only at hj;simp only[aM (show¬(j:az)+1=0 by omega),ay,aD,h8.1,h8.2,hj.1,hj.2];rfl
end U9

namespace tL
open Lib (rr rs re rf rc Px el)
open pY (iZ)
theorem ok(p:Px)(f:az)(hp:p.Fit 1048576):c p.now (re p.en) (rs p.w) (rs p.m) (rr p.s) p.a (rf p.fe) (rc p.cl) p.hits f=ak/\v p.now (re p.en) (rs p.w) (rs p.m) (rr p.s) p.a (rf p.fe) (rc p.cl) p.hits f=gg.qV p f:=by
 have h:=pY.ok p hp;have hf:=hp.fe;refine out _ _ _ _ _ _ _ _ _ _ ?_;unfold vo b gg.qV;rw[h.1,h.2,ay,dL,dh (x:=(p.fe.length:az)-1) (by omega) (by omega),show kG.v f 0 ((p.fe.length:az)-1)=decide (0<=f/\f<=(p.fe.length:az)-1)from fy.eQ _ _ _];cases iZ p with
 |false=>rfl
 |true=>
  cases hd:decide (0<=f/\f<=(p.fe.length:az)-1)with
  |false=>rfl
  |true=>
   have:=b9 hd;obtain⟨n,rfl⟩:∃n:aG,f=(n:az):=⟨f.toNat,by omega⟩
   have hn:n<p.fe.length:=by omega
   simp only[ay,bj,Lib.cS,Lib.dE,hn,aR,aP,Lib.eG,yz hn,bY]
end tL

namespace rH
open Lib (rr rs re rf rc Px Cl el)
open rS (ec j8 kK)
theorem ok(p:Px)(f:aG)(st:az)(hf:f<p.fe.length)(hl:p.fe.length<=2097152)(hc:p.cl.length<=2097152):
  c p.now (re p.en) (rs p.w) (rs p.m) (rr p.s) p.a (rf p.fe) (rc p.cl) p.hits (f:az) st=ak/\v p.now (re p.en) (rs p.w) (rs p.m) (rr p.s) p.a (rf p.fe) (rc p.cl) p.hits (f:az) st=(p.now,re p.en,rs p.w,rs p.m,rr p.s,p.a,rf p.fe,rc (j8 p.cl f st (el p.fe f).t),p.hits):=by
 refine out _ _ _ _ _ _ _ _ _ _ _ ?_;unfold vo b;have key:=n_ Cl.row p.cl (λ_ c=>ec f st (el p.fe f).t c) (λn (i:aG) x=>l1 Lib.c9 (λ(_ _ _ W7 Tn FH:az) (FI B6 tz F_ Ga NQ:aW)=>aj (W7,FI,B6,tz,F_,Tn,Ga,NQ,FH)) n (f:az) st (i:az) p.now p.a p.hits (re p.en) (rs p.w) (rs p.m) (rr p.s) (rf p.fe) x) (λx=>aj (p.now,re p.en,rs p.w,rs p.m,rr p.s,p.a,rf p.fe,x,p.hits)) (λn i L h h2 hL uQ=> ?_) (λn L hL=> ?_) Lib.c9 (cU (by omega))
 ·rw[kK]at key;exact key
 ·have e2:aw (L.map Cl.row) i 2=CV.i ar p.cl[i].fe:=by rw[fg _ L i _ h2,uQ];rfl
  have e4:aw (L.map Cl.row) i 4=CV.i ar p.cl[i].sta:=by rw[fg _ L i _ h2,uQ];rfl
  have s1:eA (L.map Cl.row) i 5 [CV.s (el p.fe f).t]=(L.set i {p.cl[i]with got:=(el p.fe f).t}).map Cl.row:=lx Cl.row L i 5 _ _ h2 (by rw[uQ];rfl);have h3:i<(L.set i {p.cl[i]with got:=(el p.fe f).t}).length:=by simpa using h2
  have s2:eA ((L.set i {p.cl[i]with got:=(el p.fe f).t}).map Cl.row) i 4 [CV.i ar st]=((L.set i {p.cl[i]with got:=(el p.fe f).t}).set i {p.cl[i]with sta:=st,got:=(el p.fe f).t}).map Cl.row:=lx Cl.row _ i 4 _ _ h3 (by rw[j5];rfl);simp only[l1,r1,Lib.dE,h2,hf,bQ,cw,aR,Lib.cS,aP,ay,Lib.eG,e2,e4,bY,s1,s2,o0,dL,F8 hf,bH,Lib.de h (by omega:p.cl.length<=9223372036854775807),dh (x:=(f:az)+1) (by omega) (by omega)];unfold ec;cases decide (p.cl[i].fe=(f:az)+1)with
  |false=>rw[pD,aD,aD,<-uQ,eZ]
  |true=>
   cases decide (p.cl[i].sta=1)with
   |false=>rw[bj,ay,aD,aD,<-uQ,eZ]
   |true=>rw[bj,ay,ay,ay]
 ·simp only[l1,r1,bQ,hL,Lib.dE,bu,bm,aD]
end rH

namespace TF
open Lib (rr rs re rf rc Px el)
open gg (qV rB told ix ni iE wg)
theorem ok(p:Px)(f:az)(q:au)(hp:p.Fit 1048576):c p.now (re p.en) (rs p.w) (rs p.m) (rr p.s) p.a (rf p.fe) (rc p.cl) p.hits f q=ak/\v p.now (re p.en) (rs p.w) (rs p.m) (rr p.s) p.a (rf p.fe) (rc p.cl) p.hits f q=(p.now,re p.en,rs p.w,rs p.m,rr p.s,p.a,rf (rB p f q).1.fe,rc (rB p f q).1.cl,p.hits,(rB p f q).2):=by
 have h1:=kZ.ok p hp;have h2:=tL.ok p f hp;have hf:=hp.fe;have hc:=hp.cl;refine out _ _ _ _ _ _ _ _ _ _ _ ?_;unfold vo b rB;simp only[Lib.lt,h1.1,h1.2,h2.1,h2.2,ay];cases ho:qV p f with
 |false=>rfl
 |true=>
  obtain⟨n,rfl,hn,b8,hs1⟩:=ix ho;have wD:=gg.XV b8 n hn;unfold m8.nr at wD;simp only[aK,bf]at wD;have mC:Et.v 1 (el p.fe n).t [] q=_:=Oj.put 1 (el p.fe n).t q wD.2.1 (by omega);rw[aJ (show(1:az)=1 from rfl),bj]at mC;simp only[ba,aD,ay,Lib.cS,Lib.dE,dL,hn,aR,aP,Lib.eG,F8 hn,bH,mC,bj];cases hs:decide (1<=q.size/\q.size<=40)&&decide ((el p.fe n).t.size+q.size<=400)with
  |false=>rfl
  |true=>
   have e1:=wg p.fe n 1 [CV.s ((el p.fe n).t++q)] {el p.fe n with t:=(el p.fe n).t++q} hn rfl;have M4:n<(p.fe.set n {el p.fe n with t:=(el p.fe n).t++q}).length:=by rw[cw];exact hn
   have h3:=rH.ok {p with fe:=p.fe.set n {el p.fe n with t:=(el p.fe n).t++q}} n 1 M4 (by rw[cw];omega) (by dsimp only;omega);dsimp only at h3;rw[iE hn]at h3;simp only[ba,aD,ay,e1,h3.1,h3.2];rfl
end TF

namespace xJ
open Lib (rr rs re rf rc Px En el)
open gG (So fG l8)
open jT (yX)
theorem ok(p:Px)(e:En)(r6 r7:aW)(hp:p.Fit 1048575)(hso:So p.en)(hk1:∀x∈p.en,1<=x.k.size)(hk:e.k.size<=140737488355328):
  c p.now (re p.en) (rs p.w) (rs p.m) (rr p.s) p.a r6 r7 p.hits e.k e.st e.li e.bo=ak/\v p.now (re p.en) (rs p.w) (rs p.m) (rr p.s) p.a r6 r7 p.hits e.k e.st e.li e.bo=(p.now,re (yX p e).en,rs (yX p e).w,rs (yX p e).m,rr (yX p e).s,(yX p e).a,r6,r7,p.hits):=by
 have he:=hp.en;have hw:=hp.w;have hm:=hp.m;obtain⟨b1,b2,b3⟩:=jv.Ke p.w p.m p.s p.a e.k;have h1:=jv.ok p.w p.m p.s p.a e.k (by omega) (by omega) ⟨db hp.s.1 (by omega),λq hq=>db (hp.s.2.1 q hq) (by omega)⟩ hk;refine out _ _ _ _ _ _ _ _ _ _ _ _ _ ?_;unfold vo b yX;generalize jv.val p.w p.m p.s p.a e.k=V at h1 b1 b2 b3;obtain⟨W,M,T,A,G⟩:=V;dsimp only at h1 b1 b2⊢;have h2:=Ci.ok p.en G (by omega);have h3:=rX.ok W M (rr T) A e.k (by omega) (by omega);have hd:=gG.vE p.en G;have h4:=fL.ok (re (fG p.en G)) e.k e.st e.li e.bo (by rw[dU];omega);rw[gG.sH]at h4;simp only[Lib.lt,h1.1,h1.2,h2.1,h2.2,h3.1,h3.2,h4.1,h4.2,ay,Lib.fE];by_cases hG:G=⟨#[]⟩
 ·subst hG;rw[gG.drop_nil hk1]at h4⊢;rw[aJ rfl];simp only[ba,aD,h4.1,h4.2,ay];cases eW.has W e.k||eW.has M e.k<;>rfl
 ·rw[aM hG];simp only[bX,ay];cases eW.has W e.k||eW.has M e.k<;>rfl
end xJ

namespace TG
open Lib (rr rs re rf rc Px el)
open gg (qV told ix ni iE wg)
open pZ (cls lY)
theorem ok(p:Px)(f life:az)(hp:p.Fit 1048576):c p.now (re p.en) (rs p.w) (rs p.m) (rr p.s) p.a (rf p.fe) (rc p.cl) p.hits f life=ak/\v p.now (re p.en) (rs p.w) (rs p.m) (rr p.s) p.a (rf p.fe) (rc p.cl) p.hits f life=(p.now,re (cls p f life).1.en,rs (cls p f life).1.w,rs (cls p f life).1.m,rr (cls p f life).1.s,(cls p f life).1.a,rf (cls p f life).1.fe,rc (cls p f life).1.cl,p.hits,(cls p f life).2):=by
 have h1:=kZ.ok p hp;have h2:=tL.ok p f hp;have hf:=hp.fe;have hc:=hp.cl;refine out _ _ _ _ _ _ _ _ _ _ _ ?_;unfold vo b cls;simp only[Lib.lt,h1.1,h1.2,h2.1,h2.2,ay];cases ho:qV p f with
 |false=>rfl
 |true=>
  obtain⟨n,rfl,hn,b8,hs1⟩:=ix ho;obtain⟨so,ks,_,_,_,_,_,_,_,_,wD⟩:=jT.Fm b8;have wD:=wD n hn;unfold m8.nr at wD;rw[aK]at wD;have zq:=jv.ka wD.1;rw[show kG.v life 0 999999=decide (0<=life/\life<=999999)from fy.eQ _ _ _];cases hl:decide (0<=life/\life<=999999)with
  |false=>rfl
  |true=>
   generalize hg:({el p.fe n with sta:=2,li:=life,st:=p.now}:Lib.Fe)=g;have hk:g.k=(el p.fe n).k:=by rw[<-hg]
   have ht:g.t=(el p.fe n).t:=by rw[<-hg]
   have gl:g.li=life:=by rw[<-hg]
   have gs:g.st=p.now:=by rw[<-hg]
   have e3:=wg p.fe n 0 [CV.s (el p.fe n).k,CV.s (el p.fe n).t,CV.i ar 2,CV.i ar life,CV.i ar p.now] g hn (by rw[<-hg];rfl);have n3:n<(p.fe.set n g).length:=by rw[cw];exact hn
   have h3:=rH.ok {p with fe:=p.fe.set n g} n 2 n3 (by rw[cw];omega) (by dsimp only;omega);dsimp only at h3;rw[iE hn]at h3;have h4:=xJ.ok (told p n g 2) (lY g) (rf (p.fe.set n g)) (rc (told p n g 2).cl) ((ni (jT.iR b8)).le (by omega)) so ks (by show g.k.size<=_;rw[hk];omega);unfold lY at h4;dsimp only[told]at h4;rw[gl,gs,hk,ht]at h4;unfold lY told;rw[ht]at h3;simp only[ba,aD,ay,Lib.cS,Lib.dE,dL,hn,aR,aP,bj,Lib.eG,H6 hn,F8 hn,W2 hn,TU hn,TV hn,bY,bH,e3,h3.1,h3.2,gl,gs,hk,ht];cases decide (life>0)with
   |true=>simp only[ay,h4.1,h4.2];subst hg;rfl
   |false=>subst hg;rfl
end TG

namespace Cg
theorem ok(k:au)(s l:az)(b0:au):c k s l b0=ak/\v k s l b0=jI.val k s l b0:=by
 refine out k s l b0 ?_;have hf:=fU.ok (jP.v k s l b0).1;unfold vo b jI.val;rw[hf.1,hf.2];unfold jP.v fU.val;by_cases h:iM.v k s l b0=ak
 ·have h1:=iz.wk h;have h2:=iz.FD h;rw[bC h,bC h,bC (by dsimp only;omega)];rfl
 ·rw[bM h,bM h];rfl
end Cg

namespace d_
open Lib (rd el Fi)
open eH (put)
theorem tail(l:aA Fi)(n t:au)(k:az)(hl:l.length<=1000000)(c0:aA Fi)(hc:c0.length<=1000001):
  l9 Lib.c9 (λ(_:az) (_:aW) (_ _:au) (_:az) (y:aW)=>aj y) Lib.c9 0 (rd l) n t k (rd c0)=aj (rd (c0++l.filter λx=> !(gG.fT x.n n||decide (x.n=n)))):=by
 refine Df l (λx=> !(gG.fT x.n n||decide (x.n=n))) (λm (i:aG) acc=>l9 Lib.c9 (λ(_:az) (_:aW) (_ _:au) (_:az) (y:aW)=>aj y) m (i:az) (rd l) n t k (rd acc)) (λacc=>aj (rd acc)) c0
  (λm i acc h ha hp=> ?_) (λm i acc h hp=> ?_) (λm acc=> ?_) Lib.c9 (cU (by omega))
 ·have mB:(!(cf (aL l[i].n) (aL n)||decide (l[i].n=n)))=true:=hp;simp only[l9,r9,gq,Lib.dE,h,aR,Lib.cS,aP,ay,Lib.eG,JU h,Zm h,Zn h,bH,bY,Lib.fE,mB,o9,bw,Lib.de h (by omega:l.length<=9223372036854775807),Lib.cy (n:=acc.length+1) (b:=40) (by omega) (by omega)];unfold Lib.rd;rw[dm];rfl
 ·have mB:(!(cf (aL l[i].n) (aL n)||decide (l[i].n=n)))=false:=hp;simp only[l9,r9,gq,Lib.dE,h,aR,Lib.cS,aP,ay,aD,Lib.eG,JU h,bH,Lib.fE,mB,Lib.de h (by omega:l.length<=9223372036854775807)]
 ·simp only[l9,r9,gq,Lib.dE,bu,bm,aD]
theorem ok(l:aA Fi)(n t:au)(k:az)(hl:l.length<=1000000):c (rd l) n t k=ak/\v (rd l) n t k=rd (put l ⟨n,t,k⟩):=by
 refine out _ _ _ _ ?_;unfold vo b
 have key:=Le l (λx=>gG.fT x.n n)
  (λm (i:aG)=>l3 Lib.c9 (λ(_:az) (y41:aW) (W9 W_:au) (NR:az)=>l9 Lib.c9 (λ(_:az) (_:aW) (_ _:au) (_:az) (y50:aW)=>aj y50) Lib.c9 0 y41 W9 W_ NR ([]++aE (aT [Ck.s,Ck.s,Ck.i ar] 1) 0 [CV.s W9,CV.s W_,CV.i ar NR])) (λ(_:az) (y52:aW) (Xa Xb:au) (Xc:az) (y56:aW)=>bif(cK (bW y56+bW (aE (aT [Ck.s,Ck.s,Ck.i ar] 1) 0 [CV.s Xa,CV.s Xb,CV.i ar Xc])) 40)then(l9 Lib.c9 (λ(_:az) (_:aW) (_ _:au) (_:az) (y62:aW)=>aj y62) Lib.c9 0 y52 Xa Xb Xc (y56++aE (aT [Ck.s,Ck.s,Ck.i ar] 1) 0 [CV.s Xa,CV.s Xb,CV.i ar Xc]))else(ao)) m (i:az) (rd l) n t k)
  (λm (i:aG) acc=>tT Lib.c9 (λ(_:az) (y41:aW) (W9 W_:au) (NR:az)=>l9 Lib.c9 (λ(_:az) (_:aW) (_ _:au) (_:az) (y50:aW)=>aj y50) Lib.c9 0 y41 W9 W_ NR ([]++aE (aT [Ck.s,Ck.s,Ck.i ar] 1) 0 [CV.s W9,CV.s W_,CV.i ar NR])) (λ(_:az) (y52:aW) (Xa Xb:au) (Xc:az) (y56:aW)=>bif(cK (bW y56+bW (aE (aT [Ck.s,Ck.s,Ck.i ar] 1) 0 [CV.s Xa,CV.s Xb,CV.i ar Xc])) 40)then(l9 Lib.c9 (λ(_:az) (_:aW) (_ _:au) (_:az) (y62:aW)=>aj y62) Lib.c9 0 y52 Xa Xb Xc (y56++aE (aT [Ck.s,Ck.s,Ck.i ar] 1) 0 [CV.s Xa,CV.s Xb,CV.i ar Xc]))else(ao)) m (i:az) (rd l) n t k (rd acc))
  (λacc=>bif cK (acc.length+1) 40 then l9 Lib.c9 (λ(_:az) (_:aW) (_ _:au) (_:az) (y:aW)=>aj y) Lib.c9 0 (rd l) n t k (rd (acc++[⟨n,t,k⟩]))else ao)
  (λm i h hp=>by have mB:cf (aL l[i].n) (aL n)=true:=hp;simp only[l3,r3,gq,Lib.dE,h,aR,Lib.cS,aP,ay,Lib.eG,JU h,Zm h,Zn h,bH,bY,mB,o9,Lib.de h (by omega:l.length<=9223372036854775807)];rfl)
  (λm i h hp=>by have mB:cf (aL l[i].n) (aL n)=false:=hp;simp only[l3,r3,gq,Lib.dE,h,aR,Lib.cS,aP,ay,aD,Lib.eG,JU h,bH,mB,Lib.de h (by omega:l.length<=9223372036854775807)])
  (λm=>by simp only[l3,r3,gq,Lib.dE,bu,bm,aD];rw[Lib.cy (by simp) (by simp),ay];rfl)
  (λm i acc h ha hp=>by have mB:cf (aL l[i].n) (aL n)=true:=hp;simp only[tT,zV,gq,Lib.dE,h,aR,Lib.cS,aP,ay,Lib.eG,JU h,Zm h,Zn h,bH,bY,mB,o9,bw,Lib.de h (by omega:l.length<=9223372036854775807),Lib.cy (n:=acc.length+1) (b:=40) (by omega) (by omega)];unfold Lib.rd;rw[dm];rfl)
  (λm i acc h hp=>by have mB:cf (aL l[i].n) (aL n)=false:=hp;simp only[tT,zV,gq,Lib.dE,h,aR,Lib.cS,aP,ay,aD,Lib.eG,JU h,bH,mB,Lib.de h (by omega:l.length<=9223372036854775807)])
  (λm acc=>by simp only[tT,zV,gq,Lib.dE,bu,bm,aD,o9,bw];unfold Lib.rd;rw[dm];rfl) Lib.c9 (cU (by omega))
 refine key.trans ?_;have hf:=eK (λx:Fi=>gG.fT x.n n) l;rw[Lib.cy (by omega) (by omega),ay,tail l n t k hl _ (by simp;omega)];unfold put;rw[cj]
end d_

namespace eC
open Lib (rd el Fi)
open eH (without)
theorem ok(l:aA Fi)(n:au)(hl:l.length<=1000000):c (rd l) n=ak/\v (rd l) n=rd (without l n):=by
 refine out _ _ ?_;unfold vo b
 have key:=Le l (λx=> !decide (x.n=n))
  (λm (i:aG)=>l3 Lib.c9 (λ(_:au) (_:az) (_:aW)=>aj ([]:aW)) (λ(_:au) (_:az) (_:aW) (tz:aW)=>aj tz) m n (i:az) (rd l))
  (λm (i:aG) acc=>tT Lib.c9 (λ(_:au) (_:az) (_:aW)=>aj ([]:aW)) (λ(_:au) (_:az) (_:aW) (tz:aW)=>aj tz) m n (i:az) (rd l) (rd acc)) (λacc=>aj (rd acc))
  (λm i h hp=>by simp only[l3,r3,gq,Lib.dE,h,aR,Lib.cS,aP,ay,Lib.eG,JU h,Zm h,Zn h,bH,bY,Lib.fE,hp,o9,Lib.de h (by omega:l.length<=9223372036854775807)];rfl)
  (λm i h hp=>by simp only[l3,r3,gq,Lib.dE,h,aR,Lib.cS,aP,ay,aD,Lib.eG,JU h,bH,Lib.fE,hp,Lib.de h (by omega:l.length<=9223372036854775807)])
  (λm=>by simp only[l3,r3,gq,Lib.dE,bu,bm,aD];rfl)
  (λm i acc h ha hp=>by simp only[tT,zV,gq,Lib.dE,h,aR,Lib.cS,aP,ay,Lib.eG,JU h,Zm h,Zn h,bH,bY,Lib.fE,hp,o9,bw,Lib.de h (by omega:l.length<=9223372036854775807),Lib.cy (n:=acc.length+1) (b:=40) (by omega) (by omega)];unfold Lib.rd;rw[dm];rfl)
  (λm i acc h hp=>by simp only[tT,zV,gq,Lib.dE,h,aR,Lib.cS,aP,ay,aD,Lib.eG,JU h,bH,Lib.fE,hp,Lib.de h (by omega:l.length<=9223372036854775807)])
  (λm acc=>by simp only[tT,zV,gq,Lib.dE,bu,bm,aD]) Lib.c9 (cU (by omega))
 exact key
end eC

namespace Aw
open Lib (rd el Fi)
open eH (without put SoD uY act FY kM)
open km (res)
theorem okc(d:aA Fi)(h:d.length<=1000000):dF.c (rd d)=ak/\dF.v (rd d)=uY d:=dF.ok (rd d) (by rw[gq];omega)
theorem nm(n:au):pJ.v n=decide (1<=(n.size:az)/\(n.size:az)<=8):=dF.mo _ _ _
theorem Rh{l:aA Fi}{n t:au}{k:az}(h:¬(1<=(n.size:az)/\(n.size:az)<=8)):uY (put l ⟨n,t,k⟩)=false:=by
 cases hk:uY (put l ⟨n,t,k⟩)with
 |false=>rfl
 |true=>have:=(kM.1 hk).2.1 ⟨n,t,k⟩ (eH.mV.2 (.inl rfl));unfold eH.nr at this;simp only[aK,bf]at this;exact cq this.1 h
theorem ok(l:aA Fi)(k:az)(n t o:au)(hl:l.length<=1000)(ht:t.size<=2305843009213693952):c (rd l) k n t o=ak/\v (rd l) k n t o=res (act l k n t o):=by
 refine out _ _ _ _ _ ?_;unfold vo b;have h1:=jf.ok (rd l) n (by rw[gq];omega);have h2:=okc l (by omega);rw[h2.1,h2.2,ay];unfold act;cases hk:uY l with
 |false=>rfl
 |true=>
 rw[ba,aD,bj,nm];obtain⟨q1,q2,q3⟩:=kM.1 hk;have rn:∀f∈l,(1<=(f.n.size:az)/\(f.n.size:az)<=8)/\(f.t.size:az)<=20000/\f.kp<=(f.t.size:az):=λf hf=>by have:=q2 f hf;unfold eH.nr at this;simp only[aK,bf,dG,gM]at this;omega
 by_cases hn:1<=(n.size:az)/\(n.size:az)<=8;case neg=>
  rw[aM hn,bX,ay]
  have uS:l.find? (λx=>decide (x.n=n))=none:=by rw[p8];intro x hx;have:=(rn x hx).1;simp only[bf];intro e;rw[e]at this;exact hn this
  cases eH.la k t o with
  |false=>rfl
  |true=>
   rw[ay];unfold FY;rw[uS];by_cases k1:k=1
   ·rw[bC k1];dsimp only;rw[Rh hn];rfl
   ·rw[bM k1];rfl
 rw[aJ hn,ba,aD,Lib.fE,Lib.fE,h1.1,h1.2,ay,gq];unfold Lib.lt;by_cases ko:k=3\/o=⟨#[]⟩
 case neg=>
  rw[not_or]at ko
  have:eH.la k t o=false:=by unfold eH.la;rw[aM ko.1,aM ko.2];simp
  rw[this,show(k !=3)=ak from bne_iff_ne.2 ko.1,ay,aM ko.2];rfl
 by_cases kt:k=1\/t=⟨#[]⟩
 case neg=>
  rw[not_or]at kt
  have:eH.la k t o=false:=by unfold eH.la;rw[aM kt.1,aM kt.2];simp
  rw[this,show(k !=1)=ak from bne_iff_ne.2 kt.1,ay,aM kt.2]
  rcases ko with ko|ko
  ·subst ko;rfl
  ·rw[aJ ko];cases (k !=3)<;>rfl
 have X9:∀x:aC (aW×aY),(bif k !=3 then(bif !decide (o=⟨#[]⟩)then aj (([]:aW),aq)else(bif k !=1 then(bif !decide (t=⟨#[]⟩)then aj ([],aq)else x)else x))else(bif k !=1 then(bif !decide (t=⟨#[]⟩)then aj ([],aq)else x)else x))=x:=λx=>by
  rcases ko with ko|ko<;>rcases kt with kt|kt
  ·omega
  ·subst ko;rw[aJ kt];rfl
  ·subst kt;rw[aJ ko];rfl
  ·rw[aJ ko,aJ kt];cases (k !=3)<;>cases (k !=1)<;>rfl
 have wp:=λ(m:aA Fi) (hml:m.length<=1000) (n t:au) (k:az)=>d_.ok m n t k (by omega);have wo:=eC.ok l n (by omega);have wol:=eH.acY l n;have pl:=λ(m:aA Fi) (f:Fi) (hm:m.length<=1000)=>okc (put m f) (db (eH.tn f) (by omega));have fin:∀d:aA Fi,(bif !uY d then aj (([]:aW),aq)else aj (rd d,ak))=aj (res (bif uY d then aj d else ao)):=λd=>by cases uY d<;>rfl
 by_cases hk4:1<=k/\k<=4;case neg=>
  have ha:eH.la k t o=false:=by unfold eH.la;rw[aM hk4];rfl
  rw[ha]
  refine(X9 _).trans ?_
  rcases km.find l n with ⟨e1,e2⟩|⟨i,hi,e1,e2⟩
  ·rw[e1,aM (show¬k=1 by omega)];rfl
  ·rw[e1];dsimp only;rw[aM (show¬k=1 by omega),aM (show¬k=2 by omega),aM (show¬k=3 by omega),aM (show¬k=4 by omega),aM (show¬((i:aG):az)<0 by omega),aJ (show((i:aG):az)≥0 by omega)];simp only[Lib.dE,hi,aR,aP,bj,ay,aD];rfl
 have ha:eH.la k t o=true:=by unfold eH.la;rw[aJ hk4,bj,aK,dH,dH,bf,bf,bf,bf];exact⟨kt.symm,ko.symm⟩
 rw[ha,ay];refine(X9 _).trans ?_;unfold FY;rcases km.find l n with ⟨e1,e2⟩|⟨i,hi,e1,e2⟩
 ·rw[e1,e2];dsimp only;by_cases k1:k=1
  ·subst k1;have p:=wp l hl n (⟨#[]⟩++t) 0;have d:=pl l ⟨n,⟨#[]⟩++t,0⟩ hl;have et:(⟨#[]⟩:au)++t=t:=oX;rw[show decide ((-1:az)≥0)=aq from rfl,aD,aJ (show(1:az)=1 from rfl),ay,aJ (show(⟨#[]⟩:au).size+t.size<=4611686018427387904 from by rw[show(⟨#[]⟩:au).size=0 from rfl];omega),ay,p.1,p.2,ay,d.1,d.2,ay,fin,et];rfl
  ·rw[show decide ((-1:az)≥0)=aq from rfl,aD,aM k1,aD,bM k1];rfl
 ·have hf:(el l i).n=n:=by have:=List.find?_some e2;exact b9 this
  have wD:=rn _ (oH hi);rw[e1,e2];dsimp only;rw[aM (show¬((i:aG):az)<0 by omega),aJ (show((i:aG):az)≥0 by omega),ay];simp only[Lib.dE,hi,aR,Lib.eG,wd0 hi,wd1 hi,wd2 hi,bH,bY,aP,bj,ay,aD];by_cases k1:k=1
  ·subst k1;have p:=wp l hl (el l i).n ((el l i).t++t) (el l i).kp;have d:=pl l ⟨(el l i).n,(el l i).t++t,(el l i).kp⟩ hl;rw[aJ (show(1:az)=1 from rfl),ay,aJ (show(el l i).t.size+t.size<=4611686018427387904 by omega),ay,p.1,p.2,ay,d.1,d.2,ay,fin];rfl
  rw[aM k1,aD,bM k1];by_cases k2:k=2
  ·subst k2;have p:=wp l hl (el l i).n (el l i).t ((el l i).t.size:az);have d:=pl l ⟨(el l i).n,(el l i).t,((el l i).t.size:az)⟩ hl;rw[aJ (show(2:az)=2 from rfl),ay,p.1,p.2,ay,d.1,d.2,ay,fin];rfl
  rw[aM k2,aD,bM k2];by_cases k3:k=3
  ·subst k3;rw[aJ (show(3:az)=3 from rfl),ay,bC rfl];by_cases b1:(el l i).kp=((el l i).t.size:az)
   ·rw[aM (show¬(el l i).kp<((el l i).t.size:az)by omega),aD,Lib.fE,nm];by_cases b2:o=n
    ·rw[aJ b2,ay,bC (.inr b2)];rfl
    ·rw[aM b2,aD,bM (by rintro (h|h);exact h b1;exact b2 h)];by_cases b3:1<=(o.size:az)/\(o.size:az)<=8
     ·have p:=wp (without l n) (by omega) o (el l i).t (el l i).kp;have d:=pl (without l n) ⟨o,(el l i).t,(el l i).kp⟩ (by omega);rw[aJ b3,ba,aD,wo.1,wo.2,ay,p.1,p.2,ay,d.1,d.2,ay,fin]
     ·rw[aM b3];dsimp only;rw[Rh b3];rfl
   ·rw[aJ (show(el l i).kp<((el l i).t.size:az)by omega),ay,bC (.inl b1)];rfl
  rw[aM k3,aD,bM k3];have k4:k=4:=by omega
  subst k4;have d:=okc (without l n) (by omega);rw[aJ (show(4:az)=4 from rfl),ay,wo.1,wo.2,ay,d.1,d.2,ay,fin]
end Aw

namespace pL
open Lib (rd el Fi)
open eH (mA act ra Ac wa0 wa1 wa2 wa3 Fo KW)
theorem ok(l:aA Fi)(a:aA Ac)(hl:l.length<=1000)(ha:a.length<=1000000)(ht:∀x∈a,x.t.size<=2305843009213693952):c (rd l) (ra a)=ak/\v (rd l) (ra a)=(rd (mA l 0 a).1,((mA l 0 a).2:az)):=by
 refine out _ _ ?_;unfold vo b;rw[Lib.vS,gq,Lib.cy (by omega) (by omega),ay,show aT [Ck.s,Ck.s,Ck.i ar] 0++rd l=rd l from rfl]
 have key:∀(d i n:aG) (z:az) (l:aA Fi),a.length-i<=d->i<=a.length->l.length<=1000->d<n->
   l3 Lib.c9 (λ(_:aW) (y5 _:az) (y7:aW)=>aj (y7,y5)) (λ(y8:aW) (_ _:az) (yA:aW)=>aj (yA,(↑(bW y8):az))) n (ra a) z (i:az) (rd l)=aj (rd (mA l i (a.drop i)).1,((mA l i (a.drop i)).2:az)):=by
  intro d
  induction d with
  |zero=>
   intro i n z l e1 e2 e3 e4;obtain⟨n,rfl⟩:∃n',n=n'+1:=⟨n-1,by omega⟩
   have:i=a.length:=by omega
   subst this;simp only[l3,r3,Lib.dE,bu,bm,aD,Fo,dq,mA]
  |succ d ih=>
   intro i n z l e1 e2 e3 e4;obtain⟨n,rfl⟩:∃n',n=n'+1:=⟨n-1,by omega⟩
   by_cases hi:i<a.length
   ·have hd:=Aw.ok l (el a i).k (el a i).n (el a i).t (el a i).o e3 (ht _ (oH hi));simp only[l3,r3,Lib.dE,Fo,hi,aR,Lib.cS,aP,ay,Lib.eG,wa0 hi,wa1 hi,wa2 hi,wa3 hi,bH,bY,hd.1,hd.2,Lib.de hi (by omega:a.length<=9223372036854775807)];rw[dJ hi,<-eU hi];unfold mA;cases hac:act l (el a i).k (el a i).n (el a i).t (el a i).o with
    |none=>rfl
    |some e=>have:=(KW hac).2;exact ih (i+1) n z e (by omega) hi (by omega) (by omega)
   ·have:i=a.length:=by omega
    subst this;simp only[l3,r3,Lib.dE,bu,bm,aD,Fo,dq,mA]
 exact key a.length 0 Lib.c9 0 l (by omega) (bL _) hl (cU (by omega))
end pL

namespace Ce
open Lib (rr rs re rf rc rd Px En el H6 F8 TU TV)
open j4 (Wo Ev closed)
open ou (dk es)
open jA (zk)
open iq (ri Cj DH iR)
open pZ (cls lY)
theorem ok{i:aG}{w:Wo}(h:zk i w)(hi:i<=71)(k id:az)(t:au)(nn:az)(left:aW)(h0:0<=nn):c w.p.now (re w.p.en) (rs w.p.w) (rs w.p.m) (rr w.p.s) w.p.a (rf w.p.fe) (rc w.p.cl) w.p.hits (rd (dk w.o)) (ri w.cd) (re w.bd) k id t nn left=ak/\v w.p.now (re w.p.en) (rs w.p.w) (rs w.p.m) (rr w.p.s) w.p.a (rf w.p.fe) (rc w.p.cl) w.p.hits (rd (dk w.o)) (ri w.cd) (re w.bd) k id t nn left=((closed w id (nn%1000000)).2,Cj (closed w id (nn%1000000)).1):=by
 refine out _ _ _ _ _ _ _ _ _ _ _ _ _ _ _ _ _ ?_;have hl:0<=nn%1000000/\nn%1000000<=999999:=by omega
 have hm:cG nn 1000000=nn%1000000:=rV h0;have hbd:=h.bd;have Yb:=h.tx hi;have hdl:=ou.Qb w.o;have A:=TG.ok w.p id (nn%1000000) (iR h.px);obtain⟨q1,q2⟩:=jA.IZ (f:=id) h.px hl;obtain⟨s1,s2⟩:=pZ.GN (p:=w.p) (f:=id) (life:=nn%1000000);have nD:=iR q1;unfold vo b;rw[hm];generalize nn%1000000=life at*
 rw[A.1,ay,A.2,iq.lt_eq];unfold closed Cj;dsimp only;rw[<-s1,<-s2];generalize cls w.p id life=Q at q1 q2 s1 s2 nD;obtain⟨q,ok⟩:=Q;dsimp only at q1 q2 s1 s2 nD⊢;rcases q2 with ⟨r1,r2⟩|⟨r1,n,rn,hn,rf_,rs_,rl⟩
 ·subst r1;rfl
 subst r1;rw[ay,bj];by_cases hz:life=0
 ·rw[aM (show¬life>0 by omega)];rfl
 rw[aJ (show life>0 by omega),ay,ay];obtain⟨t1,t2⟩:=rl (by omega);have M4:n<q.fe.length:=by rw[rf_,cw];exact hn
 have TP:el q.fe n={el w.p.fe n with sta:=2,li:=life,st:=w.p.now}:=by rw[rf_,gg.iE hn]
 subst rn;rw[dA];have C:=Cg.ok (el q.fe n).k (el q.fe n).st (el q.fe n).li (el q.fe n).t;have hE:iM.v (el q.fe n).k (el q.fe n).st (el q.fe n).li (el q.fe n).t=true:=by rw[TP];exact t1
 have Cv:=jA.Qo (e:=lY (el q.fe n)) hE;rw[jI.val,bC hE,show jI.mA (fU.fr (jP.rR (el q.fe n).k (el q.fe n).st (el q.fe n).li (el q.fe n).t))=eH.ra (jZ.yQ (jZ.Jk (lY (el q.fe n))))from rfl]at C;have D:=pL.ok (dk w.o) (jZ.yQ (jZ.Jk (lY (el q.fe n)))) (by omega) (by unfold jZ.yQ;simp) (λx hx=>by
  unfold jZ.yQ at hx;simp only[cz,jC,or_false]at hx;rcases hx with rfl|rfl
  ·show(jZ.Jk (lY (el q.fe n))).size<=_;omega
  ·exact bL _)
 rw[ou.Uy (by omega)]at D;have room:∀y,cK ((re w.bd).length+(aE (aT [Ck.s,Ck.i ar,Ck.i ar,Ck.s] 1) 0 y).length) 48=true:=λy=>by rw[dU,iq.tl];exact Lib.cy (by omega) (by omega)
 have sn:=DH w.bd (lY (el q.fe n));unfold lY at sn C D;dsimp only at sn;have ahd:cK ((aT [Ck.s,Ck.i ar,Ck.i ar,Ck.s] 0).length+(re w.bd).length) 48=true:=by rw[dU];exact Lib.cy (by show(0+w.bd.length)*48<=_;omega) (by show 0+w.bd.length<=_;omega)
 simp only[iq.lt_eq,iq.apZ,ahd,dL,Lib.dE,M4,aR,Lib.cS,aP,ay,Lib.eG,H6 M4,F8 M4,TU M4,TV M4,bH,bY,C.1,C.2,D.1,D.2,room,sn,show lY (el q.fe n)=⟨(el q.fe n).k,(el q.fe n).st,(el q.fe n).li,(el q.fe n).t⟩from rfl];rfl
end Ce

namespace TH
open Lib (rr rs re rf rc Px el)
open gg (qV rm told ix ni iE wg)
theorem ok(p:Px)(f:az)(hp:p.Fit 1048576):c p.now (re p.en) (rs p.w) (rs p.m) (rr p.s) p.a (rf p.fe) (rc p.cl) p.hits f=ak/\v p.now (re p.en) (rs p.w) (rs p.m) (rr p.s) p.a (rf p.fe) (rc p.cl) p.hits f=(p.now,re p.en,rs p.w,rs p.m,rr p.s,p.a,rf (rm p f).1.fe,rc (rm p f).1.cl,p.hits,(rm p f).2):=by
 have h1:=kZ.ok p hp;have h2:=tL.ok p f hp;have hf:=hp.fe;have hc:=hp.cl;refine out _ _ _ _ _ _ _ _ _ _ ?_;unfold vo b rm;simp only[Lib.lt,h1.1,h1.2,h2.1,h2.2,ay];cases ho:qV p f with
 |false=>rfl
 |true=>
  obtain⟨n,rfl,hn,_,_⟩:=ix ho;have e1:=wg p.fe n 2 [CV.i ar 3] {el p.fe n with sta:=3} hn rfl;have M4:n<(p.fe.set n {el p.fe n with sta:=3}).length:=by rw[cw];exact hn
  have h3:=rH.ok {p with fe:=p.fe.set n {el p.fe n with sta:=3}} n 3 M4 (by rw[cw];omega) (by dsimp only;omega);dsimp only at h3;rw[iE hn]at h3;simp only[ba,aD,ay,Lib.cS,Lib.dE,dL,hn,aR,aP,Lib.eG,e1,h3.1,h3.2];rfl
end TH

namespace vv
open Lib (rd Fi En el wd0 wd1 wd2)
open eH (uY)
open ou (dk es)
open jZ (tx base)
theorem one(f:Fi)(left:aW)(h:uY [f]=ak)(hk:f.kp=(f.t.size:az)):c (rd [f]) left=ak/\v (rd [f]) left=(rd [f],ak):=by
 have h1:=dF.ok (rd [f]) (by rw[gq];simp);refine out _ _ ?_;unfold vo b;rw[h1.1,ay,h1.2,show dF.val (rd [f])=ak from h,ba,aD];have h0:0<[f].length:=by simp
 have c0:aw (rd [f]) 0 0=CV.s f.n:=wd0 (l:=[f]) h0;have c1:aw (rd [f]) 0 1=CV.s f.t:=wd1 (l:=[f]) h0;have c2:aw (rd [f]) 0 (1+1)=CV.i ar f.kp:=wd2 (l:=[f]) h0;have ib:iQ 0 (f.t.size:az) (f.t.size:az)=true:=by simp[iQ]
 have ex:bR f.t 0 (bc (f.t.size:az))=f.t:=Lib.K_ f.t;have w1:bN (0+1)=1:=rfl;have L:(rd [f]).length=1:=rfl;have step:∀(N m:aG),l5 Lib.c9 (λ_ _ _=>aj (([]:aW),ak)) (λ_ _ _ tz=>aj (tz,ak)) (m+1) left 0 (rd [f])=l5a Lib.c9 (λ_ _ _=>aj (([]:aW),ak)) (λ_ _ _ tz=>aj (tz,ak)) m left 1 (rd [f]) (rd [f]):=by
  intro N m;have t0:bc 0=0:=rfl;simp only[l5,r5,L,t0];generalize bY (aw left 0 0)=z;simp only[c0,c1,c2,bH,bY,hk,ib,ex,w1];rw[show decide ((0:az)<((1:aG):az))=ak from rfl,ay,show(decide ((0:az)<=0)&&ak)=ak from rfl,ay];have fin:([]++aE (aT [Ck.s,Ck.s,Ck.i ar] 1) 0 [CV.s f.n,CV.s f.t,CV.i ar (f.t.size:az)]:aW)=rd [f]:=by
   unfold Lib.rd;rw[gk];show [[CV.s f.n,CV.s f.t,CV.i ar (f.t.size:az)]]=[Fi.row f]
   unfold Fi.row;rw[hk]
  simp only[fin];by_cases hl:(0:az)<(left.length:az)
  ·simp only[aJ hl,ay,show decide ((0:az)<=0)=ak from rfl,aP];by_cases a:z>(f.t.size:az)
   ·simp only[aJ a,ay,aM (show¬(f.t.size:az)<(f.t.size:az)by omega),aD]
   ·by_cases b:z<(f.t.size:az)
    ·simp only[aM a,aD,aJ b,ay]
    ·have e:z=(f.t.size:az):=by omega
     simp only[aM a,aD,aM b,e,ib,ex,fin,ay,show decide ((f.t.size:az)<(f.t.size:az))=aq from aM (by omega),show decide ((f.t.size:az)>(f.t.size:az))=aq from aM (by omega)]
  ·simp only[aM hl,aD,ay,aM (show¬(f.t.size:az)<(f.t.size:az)by omega)];try rw[aM (show¬(0:az)>(f.t.size:az)by omega),aD]
   by_cases b:(0:az)<(f.t.size:az)
   ·rw[aJ b,ay]
   ·rw[aM b,aD];have e:(f.t.size:az)=0:=by omega
    rw[e]at ex fin;rw[show(0:az).toNat=0 from rfl]at ex;rw[ex,fin]
 have last:∀(m:aG),l5a Lib.c9 (λ_ _ _=>aj (([]:aW),ak)) (λ_ _ _ tz=>aj (tz,ak)) (m+1) left 1 (rd [f]) (rd [f])=aj (rd [f],ak):=by intro m;simp only[l5a,r5a,L,show decide ((1:az)<((1:aG):az))=aq from rfl,aD]
 obtain⟨n,hn⟩:∃n,Lib.c9=n+2:=⟨Lib.c9-2,by have:=cU (n:=2) (by omega);omega⟩
 have key:∀N,N=n+2->l5 Lib.c9 (λ_ _ _=>aj (([]:aW),ak)) (λ_ _ _ tz=>aj (tz,ak)) N left 0 (rd [f])=aj (rd [f],ak):=by rintro N rfl;rw[step Lib.c9 (n+1),last n]
 exact key _ hn
theorem ok{o:aC (aA En)}(h:(tx (es o)).size<=20000)(left:aW):c (rd (dk o)) left=ak/\v (rd (dk o)) left=(rd (dk o),ak):=by
 cases o with
 |some l=>exact one _ left (ou.K7 h) rfl
 |none=>
  have hd:uY []=true:=ou.K7 (o:=ao) h;have h1:=dF.ok (rd []) (by rw[gq];simp);refine out _ _ ?_;unfold vo b;show(bif dF.c (rd [])then bif !dF.v (rd [])then _ else l5 Lib.c9 _ _ Lib.c9 left 0 (rd [])else ao)=_;rw[h1.1,ay,h1.2,show dF.val (rd [])=ak from hd,ba,aD];obtain⟨n,hn⟩:∃n,Lib.c9=n+1:=⟨Lib.c9-1,by have:=cU (n:=1) (by omega);omega⟩
  have key:∀N,N=n+1->l5 Lib.c9 (λ_ _ _=>aj (([]:aW),ak)) (λ_ _ _ tz=>aj (tz,ak)) N left 0 (rd [])=aj (rd [],ak):=by rintro N rfl;rfl
  exact key _ hn
end vv

namespace m9
open Lib (rr rs re rf rc Px En el qw tV tW tX)
open gW (v9 tQ one A8 HL ES p0)
theorem ok(now:az)(l:aA En)(hl:l.length<=1048576):
  c now (re l)=ak/\v now (re l)=(now,re (v9 now l).en,rs (v9 now l).w,rs (v9 now l).m,rr (v9 now l).s,(v9 now l).a,[],[],0):=by
 refine out _ _ ?_;unfold vo b;have key:=ml l.length (λn (i:aG) (p:Px)=>l4 Lib.c9 (λ(_:az) (_:aW) (_ _ _ _ Ga NQ TW:az) (Od Oe Gb Of Og Oh:aW)=>aj (Ga,Od,Oe,Gb,Of,NQ,Og,Oh,TW)) n now (re l) (i:az) 0 0 0 now p.a 0 (re p.en) (rs p.w) (rs p.m) (rr p.s) [] []) (λi=>v9 now (l.take i)) (aj (now,re (v9 now l).en,rs (v9 now l).w,rs (v9 now l).m,rr (v9 now l).s,(v9 now l).a,[],[],0)) (λn i hi=>by
  have I:=A8 now l i (by omega);have hs:=HL now l i hi;generalize v9 now (l.take i)=p at I hs;rw[hs];unfold one;have hw:bN ((i:az)+1)=((i+1:aG):az):=Lib.de hi (by omega);have Ie:Ez.v (el l i).k (el l i).st (el l i).li (el l i).bo now=tQ (el l i) now:=(Ez.eq _ _ _ _ _).symm;cases hf:tQ (el l i) now with
  |false=>
   rw[hf]at Ie;cases hq:iM.v (el l i).k (el l i).st (el l i).li (el l i).bo with
   |false=>simp only[l4,r4,dU,Lib.dE,hi,aR,Lib.cS,aP,ay,Lib.eG,qw hi,tV hi,tW hi,tX hi,bH,bY,hq,aD,hw]
   |true=>simp only[l4,r4,dU,Lib.dE,hi,aR,Lib.cS,aP,ay,Lib.eG,qw hi,tV hi,tW hi,tX hi,bH,bY,hq,Ie,aD,hw]
  |true=>rw[hf]at Ie;have hq:=ES hf;have hk:=(iM.F7 hq).1;have h4:=xJ.ok p (el l i) [] [] (I.fit (by omega) (by omega)) I.so I.ks (by omega);rw[I.now,I.hits]at h4;simp only[l4,r4,Lib.lt,dU,Lib.dE,hi,aR,Lib.cS,aP,ay,Lib.eG,qw hi,tV hi,tW hi,tX hi,bH,bY,hq,Ie,h4.1,h4.2,hw]) (λn=>by
  simp only[l4,r4,dU,Lib.dE,bu,bm,aD,fH]) Lib.c9 0 (bL _) (cU (by omega))
 exact key
end m9

namespace vt
open Lib (rr rs re rf rc rd Px En el qw tV tW tX)
open j4 (Wo Ev EL nc)
open ou (dk es)
open jA (zk)
open iq (ri Cj DH iR)
theorem walk(N:aG)(L:aA En)(hL:L.length<=1048576)(hN:L.length<N)(K0 K1:az->az->az->az->aW->aW->aW->aW->aW->aW->aW->aW->aW->aW->aW->aC R)(now a5 a8:az)(q1 q2 q3 q4 q6 q7 q9 Ii q11:aW):
  l7 N K0 K1 N 0 now a5 a8 (re L) (re []) q1 q2 q3 q4 q6 q7 q9 Ii q11=K0 (L.length:az) now a5 a8 (re L) (re (L.filter λe=>gW.tQ e now)) q1 q2 q3 q4 q6 q7 q9 Ii q11:=by
 have hw:∀i,i<L.length->bN ((i:az)+1)=((i+1:aG):az):=λi h=>Lib.de h (by omega)
 have key:=Df L (λe=>gW.tQ e now) (λm (i:aG) acc=>l7 N K0 K1 m (i:az) now a5 a8 (re L) (re acc) q1 q2 q3 q4 q6 q7 q9 Ii q11) (λacc=>K0 (L.length:az) now a5 a8 (re L) (re acc) q1 q2 q3 q4 q6 q7 q9 Ii q11) []
  (λm i acc hi ha hp=>by rw[<-eU hi]at hp⊢;unfold gW.tQ at hp;rw[Ez.eq]at hp;simp only[l7,r7,dU,Lib.dE,hi,aR,Lib.cS,aP,ay,Lib.eG,qw hi,tV hi,tW hi,tX hi,bH,bY,hp,hw i hi,iq.tl,iq.DH];rw[Lib.cy (by simp at ha;omega) (by simp at ha;omega),ay])
  (λm i acc hi hp=>by rw[<-eU hi]at hp;unfold gW.tQ at hp;rw[Ez.eq]at hp;simp only[l7,r7,dU,Lib.dE,hi,aR,Lib.cS,aP,ay,Lib.eG,qw hi,tV hi,tW hi,tX hi,bH,bY,hp,hw i hi,aD])
  (λm acc=>by simp only[l7,r7,dU,Lib.dE,bu,bm,aD])
  N hN
 exact key
theorem ok{i:aG}{w:Wo}(h:zk i w)(hi:i<=71)(k id:az)(t:au)(n:az)(left:aW):c w.p.now (re w.p.en) (rs w.p.w) (rs w.p.m) (rr w.p.s) w.p.a (rf w.p.fe) (rc w.p.cl) w.p.hits (rd (dk w.o)) (ri w.cd) (re w.bd) k id t n left=ak/\v w.p.now (re w.p.en) (rs w.p.w) (rs w.p.m) (rr w.p.s) w.p.a (rf w.p.fe) (rc w.p.cl) w.p.hits (rd (dk w.o)) (ri w.cd) (re w.bd) k id t n left=Cj (EL w):=by
 refine out _ _ _ _ _ _ _ _ _ _ _ _ _ _ _ _ _ ?_;have Yb:=h.tx hi;have hlen:=h.len hi;have hdl:=ou.Qb w.o;have A:=vv.ok (o:=w.o) (by omega) left;have B:=(ou.aeH (o:=w.o) (by omega) h.eo).2;have Ig:=jZ.Q4 (es w.o);have hf:=jA.Lk h.eo;have Lp:=jA.G5 w;have htf:=jA.aag _ hf;have C:=mz.ok (rd (dk w.o)) (re (nc w)) (by rw[gq];omega) (by rw[dU];omega);rw[ou.aeG (by omega) hf]at C;have D:=pL.ok (dk w.o) (vd.yH (jZ.tx (nc w))) (by omega) (by unfold vd.yH;simp) (λx hx=>by
  unfold vd.yH at hx;simp only[cz,jC,or_false]at hx;rcases hx with rfl|rfl|rfl
  ·show(jZ.tx (nc w)).size<=_;omega
  ·exact bL _
  ·exact bL _)
 rw[ou.Ux (by omega) (by omega)]at D;have E:=m9.ok w.p.now (nc w) (by omega);unfold vo;generalize hN:Lib.c9=N;have jG:(jZ.kp (es w.o)).length<N:=by rw[<-hN];exact cU (by omega)
 clear hN;unfold b;rw[A.1,ay,A.2,iq.lt_eq];rw[show(rd (dk w.o),ak).2=ak from rfl,ay,show(rd (dk w.o),ak).1=rd (dk w.o)from rfl];rw[B.1,ay,B.2,iq.lt_eq,show aT [Ck.s,Ck.i ar,Ck.i ar,Ck.s] 0=re []from rfl,walk N (jZ.kp (es w.o)) (by omega) jG];have e:((kpp:aA En)->kpp=jZ.kp (es w.o)->kpp.filter (λe=>gW.tQ e w.p.now)=nc w):=λ_ h=>by subst h;rfl
 rw[e _ rfl];simp only[iq.lt_eq,C.1,C.2,D.1,D.2,E.1,E.2,ay];have hinv:=gW.A8 w.p.now (nc w) (nc w).length (cu _);rw[fH]at hinv;unfold Cj EL;dsimp only;rw[hinv.now,hinv.fe,hinv.cl,hinv.hits];rfl
end vt

namespace Cd
open Lib (rr rs re rf rc rd Px En el)
open j4 (Wo Ev closed EL nc o8 flag)
open ou (dk es)
open jA (zk)
open iq (ri Cj DH iR)
theorem fl(b:aY):zj.v b=flag b:=by cases b<;>rfl
theorem left(l:aA Lib.Cl)(id:az):decide ((((l.filter λc=> !decide (c.id=id)).length:aG):az)<(l.length:az))=ed.jr l id:=by
 unfold ed.jr;cases h:l.any λx=>decide (x.id=id)with
 |true=>
  obtain⟨x,hx,hp⟩:=List.any_eq_true.1 h;have:(l.filter λc=> !decide (c.id=id)).length<l.length:=by rw[List.length_filter_lt_length_iff_exists];exact⟨x,hx,by simpa using hp⟩
  exact aJ (by omega)
 |false=>
  rw[Ak]at h;have:l.filter (λc=> !decide (c.id=id))=l:=eN.2 λx hx=>by have:=h x hx;simpa using this
  rw[this];exact aM (by omega)
theorem ok{i:aG}{w:Wo}{e:Ev}(h:zk i w)(hi:i<=71)(he:o8 e=ak):c w.p.now (re w.p.en) (rs w.p.w) (rs w.p.m) (rr w.p.s) w.p.a (rf w.p.fe) (rc w.p.cl) w.p.hits (rd (dk w.o)) (ri w.cd) (re w.bd) e.k e.id e.t e.n e.l=ak/\v w.p.now (re w.p.en) (rs w.p.w) (rs w.p.m) (rr w.p.s) w.p.a (rf w.p.fe) (rc w.p.cl) w.p.hits (rd (dk w.o)) (ri w.cd) (re w.bd) e.k e.id e.t e.n e.l=((j4.act w e).2,Cj (j4.act w e).1):=by
 unfold o8 at he;simp only[aK,bf]at he;obtain⟨hk,B3,ht,hn,hl⟩:=he;have hp:=iR h.px;refine out _ _ _ _ _ _ _ _ _ _ _ _ _ _ _ _ _ ?_;unfold vo b j4.act;by_cases k1:e.k=1
 ·rw[aJ k1,ay];have A:=U9.ok w.p e.id e.t hp (by omega);rw[A.1,ay,A.2,iq.lt_eq];try rfl
 rw[aM k1,aD,aD];by_cases k2:e.k=2
 ·rw[aJ k2,ay];have A:=TF.ok w.p e.id e.t hp;rw[A.1,ay,A.2,iq.lt_eq,fl];unfold Cj gg.rB;cases gg.qV w.p e.id&&(decide (1<=e.t.size/\e.t.size<=40)&&decide ((el w.p.fe e.id.toNat).t.size+e.t.size<=400))<;>rfl
 rw[aM k2,aD,aD];by_cases k3:e.k=3
 ·rw[aJ k3,ay];have A:=Ce.ok h hi e.k e.id e.t e.n e.l hn;rw[k3]at A;rw[k3,A.1,ay,A.2,iq.lt_eq];try rfl
 rw[aM k3,aD,aD];by_cases k4:e.k=4
 ·rw[aJ k4,ay];have A:=TH.ok w.p e.id hp;rw[A.1,ay,A.2,iq.lt_eq,fl];unfold Cj gg.rm;cases gg.qV w.p e.id<;>rfl
 rw[aM k4,aD,aD];by_cases k5:e.k=5
 ·rw[aJ k5,ay];have A:=IE.ok w.p e.n hp;rw[A.1,ay,A.2,iq.lt_eq];try rfl
 rw[aM k5,aD,aD];by_cases k6:e.k=6
 ·rw[aJ k6,ay];have A:=Gq.ok w.p e.id hp;rw[A.1,ay,A.2,iq.lt_eq,fl];dsimp only;rw[eR,eR,show(Gq.val w.p e.id).cl=w.p.cl.filter (λc=> !decide (c.id=e.id))from rfl,left];try rfl
 rw[aM k6,aD,aD];have k7:e.k=7:=by omega
 rw[aJ k7,ay];have A:=vt.ok h hi e.k e.id e.t e.n e.l;rw[k7]at A;rw[k7,A.1,ay,A.2,iq.lt_eq];try rfl
end Cd

namespace xK
open Lib (rr rs re rf rc rd Px En el)
open j4 (Wo Ev closed EL nc o8 flag)
open ou (dk es)
open jA (zk)
open iq (ri Cj DH iR)
theorem aaK(w:Wo)(e:Ev):(j4.act w e).1.cd=w.cd:=by
 unfold j4.act closed;cases decide (e.k=1)<;>cases decide (e.k=2)<;>cases decide (e.k=3)<;>cases decide (e.k=4)<;>cases decide (e.k=5)<;>cases decide (e.k=6)<;>(try rfl)
 all_goals
  dsimp only[ay,aD]
  cases (pZ.cls w.p e.id (e.n%1000000)).2&&decide (e.n%1000000>0)<;>rfl
theorem ok{i:aG}{w:Wo}{e:Ev}(h:zk i w)(hi:i<=71)(he:o8 e=ak):c w.p.now (re w.p.en) (rs w.p.w) (rs w.p.m) (rr w.p.s) w.p.a (rf w.p.fe) (rc w.p.cl) w.p.hits (rd (dk w.o)) (ri w.cd) (re w.bd) e.k e.id e.t e.n e.l=ak/\v w.p.now (re w.p.en) (rs w.p.w) (rs w.p.m) (rr w.p.s) w.p.a (rf w.p.fe) (rc w.p.cl) w.p.hits (rd (dk w.o)) (ri w.cd) (re w.bd) e.k e.id e.t e.n e.l=Cj (j4.step w e):=by
 refine out _ _ _ _ _ _ _ _ _ _ _ _ _ _ _ _ _ ?_;have A:=Cd.ok h hi he;have hcd:=h.cd;unfold vo b;rw[A.1,ay,A.2,iq.lt_eq];have e1:(Cj (j4.act w e).1).2.2.2.2.2.2.2.2.2.2.1=ri w.cd:=by unfold Cj;rw[aaK]
 have r1:cK ((aT [Ck.i ar] 0).length+(ri w.cd).length) 8=true:=by rw[iq.gY];exact Lib.cy (by show(0+w.cd.length)*8<=_;omega) (by show 0+w.cd.length<=_;omega)
 have r2:cK ((ri w.cd).length+(aE (aT [Ck.i ar] 1) 0 [CV.i ar (j4.act w e).2]).length) 8=true:=by rw[iq.gY,iq.tl];exact Lib.cy (by omega) (by omega)
 show(bif cK ((aT [Ck.i ar] 0).length+((Cj (j4.act w e).1).2.2.2.2.2.2.2.2.2.2.1).length) 8 then _ else ao)=_;simp only[e1,iq.ap0,r1,r2,ay,iq.ahl];rfl
end xK

namespace Im
open Lib (rr rs re rf rc rd Px En el)
open j4 (Wo Ev o8)
open ou (dk es)
open jA (zk)
open iq (ri Cj)
open TY (rv run)
open bS (I)
open A_Post (gK)
theorem ids{p:Px}(h:nP.fC p):∀j,j<(rc p.cl).length->0<=bY (aw (rc p.cl) j 0)/\bY (aw (rc p.cl) j 0)<=30:=by
 intro j hj;have N5:j<p.cl.length:=by rw[eR]at hj;exact hj
 have:=h.cl _ (oH N5);unfold nP.FU at this;simp only[aK,bf]at this;rw[show aw (rc p.cl) j 0=CV.i ar (el p.cl j).id from gO _ p.cl j 0 N5];show 0<=(el p.cl j).id/\(el p.cl j).id<=30;omega
theorem step{α:Type}{i:aG}{w:Wo}{X:az×aW×aW×aW×aW×az×aW×aW×az×aW×aW×aW->aC α}{P:α->Prop}(e:Ev)(h:zk i w)(hi:i<=71)(he:o8 e=ak)(hx:gK (X (Cj (j4.step w e))) P):
  gK (bif xK.c w.p.now (re w.p.en) (rs w.p.w) (rs w.p.m) (rr w.p.s) w.p.a (rf w.p.fe) (rc w.p.cl) w.p.hits (rd (dk w.o)) (ri w.cd) (re w.bd) e.k e.id e.t e.n e.l then Lib.lt (xK.v w.p.now (re w.p.en) (rs w.p.w) (rs w.p.m) (rr w.p.s) w.p.a (rf w.p.fe) (rc w.p.cl) w.p.hits (rd (dk w.o)) (ri w.cd) (re w.bd) e.k e.id e.t e.n e.l) X else ao) P:=
 A_Post.call (xK.ok h hi he).1 (xK.ok h hi he).2 hx
end Im

namespace Ib
open Lib (rr rs re rf rc rd Px En el)
open j4 (Wo Ev o8)
open ou (dk es)
open jA (zk)
open iq (ri Cj)
open nP (fC)
open bS (I)
open A_Post (gK)
end Ib

namespace adK
open bS (I)
open A_Post (gK)
open j4 (Ev o8)
open uH (idA idB idC tA opens vo b)
def Dr(q e w m s fe cl dk cd bd:aW)(x:az×az×au×az×aW×aW×az×az×aW×aW×aW×aW×aW×aW×aW×aW×aW):Prop:=
 ∃k id t n a' s',x=(k,id,t,n,[],q,a',s',e,w,m,s,fe,cl,dk,cd,bd)/\I q a'/\o8 ⟨k,id,t,n,[]⟩=ak/\(k=1->t.size=2)
theorem leaf{q e w m s fe cl dk cd bd:aW}{k id:az}{t:au}{n a' s':az}(hI:I q a')(hk:1<=k/\k<=6)(B3:0<=id/\id<=30)(ht:t.size<=60)(hn:0<=n)(h1:k=1->t.size=2):gK (aj (k,id,t,n,([]:aW),q,a',s',e,w,m,s,fe,cl,dk,cd,bd)) (Dr q e w m s fe cl dk cd bd):=by
 refine⟨_,rfl,k,id,t,n,a',s',rfl,hI, ?_,h1⟩
 unfold o8;rw[aJ (show 1<=k/\k<=7 by omega),aJ B3,aJ ht,aJ hn];rfl
theorem ne1{k:az}(h:decide (k=1)=aq)(t:au):k=1->t.size=2:=λe=>cq e (lr h)
theorem ne2{k m:az}(h:decide (k=m)=ak)(t:au)(hm:m≠1):k=1->t.size=2:=λe=>cq ((b9 h).symm.trans e) hm
set_option maxHeartbeats 8000000 in
theorem body(q:aW)(a s:az)(now:az)(en w m sk:aW)(ag:az)(fe cl:aW)(hits:az)(dk cd bd:aW)(hI:I q a)(hf:fe.length<=20)(hc:∀j,j<cl.length->0<=bY (aw cl j 0)/\bY (aw cl j 0)<=30):gK (vo q a s now en w m sk ag fe cl hits dk cd bd) (Dr q en w m sk fe cl dk cd bd):=by
 unfold vo;generalize hN:Lib.c9=N;have hN1:20<N:=by rw[<-hN];exact cU (by omega)
 unfold b;refine A_Post.Zj (λn=>1<=n/\n<=6) ⟨by decide,by decide⟩ hI (λkd a1 s1 I1 hk=> ?_);refine opens N _ _ _ _ _ _ _ _ _ _ _ _ _ _ _ _ _ _ _ _ _ _ _ _ _ _ _ hf (λl hl=> ?_) fe.length 0 N _ (by omega) (by omega) (by omega) (bL _) (λj hj=>cq hj (BW j));dsimp only
 repeat' first
  |refine A_Post.below (by assumption) (λn a s hI h0 h1=> ?_)
  |refine A_Post.once (by assumption) (λn a s hI=> ?_)
  |refine A_Post.key (by assumption) (λn a s hI h0=> ?_)
  |refine A_Post.Zj (λn=>0<=n) ⟨by decide,by decide⟩ (by assumption) (λn a s hI h0=> ?_)
  |refine A_Post.ag8 (λt=>t.size<=60) ⟨by decide,by decide⟩ (by assumption) (λn a s hI h0=> ?_)
  |refine A_Post.ck (A_Post.idx (by assumption) (by assumption) (by assumption)) ?_
  |refine leaf (by assumption) (by first|exact hk|decide) (by first|exact idA (by assumption) (by assumption)|exact idB (by assumption) (by assumption)|exact idC hl (by assumption) (by assumption) (by assumption)|exact idC hc (by assumption) (by assumption) (by assumption)|decide) (by first|exact bL _|assumption|exact tA (by assumption)) (by first|exact Int.le_refl 0|assumption) (by first|exact λ_=>by assumption|exact λe=>cq e (by decide)|exact ne1 (by assumption) _|exact ne2 (m:=2) (by assumption) _ (by decide)|exact ne2 (m:=3) (by assumption) _ (by decide)|exact ne2 (m:=4) (by assumption) _ (by decide)|exact ne2 (m:=5) (by assumption) _ (by decide)|exact ne2 (m:=6) (by assumption) _ (by decide))
  |refine A_Post.br (λh=> ?_) (λh=> ?_)
end adK

namespace IJ
theorem ok(q:aW)(hl:q.length<=1048576):∃h,c q=ak/\v q=(q,0,h):=by
 have key:=s_ (λn (s:aG×az)=>l3 Lib.c9 (λ(y3:aW) (y4 _:az)=>aj (y3,(0:az),y4)) n q s.2 (s.1:az)) (λs=>q.length-s.1) (λs=>s.1<=q.length) (λr=>∃h,r=(q,0,h)) (λn s hs=>by
  obtain⟨i,h⟩:=s;dsimp only at hs⊢;by_cases hi:i<q.length
  ·by_cases h4:(i:az)<4000
   ·right;have lK:bN ((i:az)+1)=((i+1:aG):az):=dh (by omega) (by omega)
    have e:∃h',l3 Lib.c9 (λ(y3:aW) (y4 _:az)=>aj (y3,(0:az),y4)) (n+1) q h (i:az)=l3 Lib.c9 (λ(y3:aW) (y4 _:az)=>aj (y3,(0:az),y4)) n q h' ((i+1:aG):az):=
     ⟨_,by simp only[l3,r3,Lib.dE,hi,h4,aR,Lib.cS,aP,ay,Lib.eG,lK];rfl⟩
    obtain⟨h',e⟩:=e;exact⟨(i+1,h'),hi,by dsimp only;omega,e⟩
   ·left;exact⟨_,by simp only[l3,r3,Lib.dE,hi,h4,aR,bm,ay,aD];rfl,_,rfl⟩
  ·left;exact⟨_,by simp only[l3,r3,Lib.dE,hi,bm,aD];rfl,_,rfl⟩) Lib.c9 (0,bN (34901+(q.length:az))) (bL _) (cU (by omega))
 obtain⟨b',hb,h,rfl⟩:=key;obtain⟨e1,e2⟩:=out q (x:=(q,0,h)) hb;exact⟨h,e1,e2⟩
end IJ

namespace BX
open Lib (rr rs re rf rc Px)
open nP (fC)
end BX

namespace adL
open Lib (rr rs re rf rc rd Px En el)
open j4 (Wo Ev o8)
open ou (dk es)
open jA (zk)
open iq (ri Cj)
open nP (fC)
open Oi (K2)
open bS (I)
open A_Post (gK)
open Ib (l3 r3)
theorem next{α:Type}{i:aG}{w:Wo}{q:aW}{a s:az}{X:az×az×au×az×aW×aW×az×az×aW×aW×aW×aW×aW×aW×aW×aW×aW->aC α}{P:α->Prop}(h:zk i w)(hI:I q a)
  (hx:∀k id t n a' s',I q a'->o8 ⟨k,id,t,n,[]⟩=ak->(k=1->t.size=2)->gK (X (k,id,t,n,[],q,a',s',re w.p.en,rs w.p.w,rs w.p.m,rr w.p.s,rf w.p.fe,rc w.p.cl,rd (dk w.o),ri w.cd,re w.bd)) P):
  gK (bif uH.c q a s w.p.now (re w.p.en) (rs w.p.w) (rs w.p.m) (rr w.p.s) w.p.a (rf w.p.fe) (rc w.p.cl) w.p.hits (rd (dk w.o)) (ri w.cd) (re w.bd)then Lib.lt (uH.v q a s w.p.now (re w.p.en) (rs w.p.w) (rs w.p.m) (rr w.p.s) w.p.a (rf w.p.fe) (rc w.p.cl) w.p.hits (rd (dk w.o)) (ri w.cd) (re w.bd)) X else ao) P:=by obtain⟨x,e,k,id,t,n,a',s',rfl,h1,h2,h3⟩:=adK.body q a s w.p.now (re w.p.en) (rs w.p.w) (rs w.p.m) (rr w.p.s) w.p.a (rf w.p.fe) (rc w.p.cl) w.p.hits (rd (dk w.o)) (ri w.cd) (re w.bd) hI (by rw[dL];exact h.px.fl) (Im.ids h.px);obtain⟨c1,v1⟩:=uH.out _ _ _ _ _ _ _ _ _ _ _ _ _ _ _ e;exact A_Post.call c1 v1 (hx k id t n a' s' h1 h2 h3)
theorem walk{P:R->Prop}(N:aG)(q:aW)(K:az->aW->az->az->az->az->az->az->az->az->aW->aW->aW->aW->aW->aW->aW->aW->aW->aC R)
  (hK:∀(x:az) (w:Wo) (a s:az),fC w.p->K2 w->I q a->gK (K x q a s 0 0 0 w.p.now w.p.a w.p.hits (re w.p.en) (rs w.p.w) (rs w.p.m) (rr w.p.s) (rf w.p.fe) (rc w.p.cl) (rd (dk w.o)) (ri w.cd) (re w.bd)) P):
  ∀(d i n:aG) (w:Wo) (a s:az),30-i<=d->i<=30->d<n->zk i w->K2 w->I q a->
   gK (l3 N K n (i:az) q a s 0 0 0 w.p.now w.p.a w.p.hits (re w.p.en) (rs w.p.w) (rs w.p.m) (rr w.p.s) (rf w.p.fe) (rc w.p.cl) (rd (dk w.o)) (ri w.cd) (re w.bd)) P:=by
 intro d;induction d with
 |zero=>
  intro i n w a s h1 h2 h3 h4 hk h5;obtain⟨n,rfl⟩:∃k,n=k+1:=⟨n-1,by omega⟩
  rw[show l3 N K (n+1)=r3 N (l3 N K n) K from rfl];unfold r3;refine A_Post.below h5 (λx a1 s1 I1 g0 g1=> ?_);have:=g1 (by omega);exact A_Post.cn (aM (by dsimp only;omega)) (hK _ w _ _ h4.px hk I1)
 |succ d ih=>
  intro i n w a s h1 h2 h3 h4 hk h5;obtain⟨n,rfl⟩:∃k,n=k+1:=⟨n-1,by omega⟩
  rw[show l3 N K (n+1)=r3 N (l3 N K n) K from rfl];unfold r3;refine A_Post.below h5 (λx a1 s1 I1 g0 g1=> ?_);have:=g1 (by omega);by_cases h:(i:az)<x
  ·have lK:bN ((i:az)+1)=((i+1:aG):az):=dh (by omega) (by omega);refine A_Post.ck (aJ (by dsimp only;omega)) ?_;refine next h4 I1 (λk id t n0 a2 s2 I2 he ht=> ?_)
   refine Im.step ⟨k,id,t,n0,[]⟩ h4 (by omega) he ?_;have:=ih (i+1) n (j4.step w ⟨k,id,t,n0,[]⟩) a2 s2 (by omega) (by omega) (by omega) (jA.zX h4 he) (Oi.acO hk ht) I2;rw[lK];exact this
  ·exact A_Post.cn (aM (by dsimp only;omega)) (hK _ w _ _ h4.px hk I1)
theorem ok(code:aW)(hc:code.length<=1048576):∃w:Wo,fC w.p/\K2 w/\BX.c code=ak/\BX.v code=(w.p.now,re w.p.en,rs w.p.w,rs w.p.m,rr w.p.s,w.p.a,rf w.p.fe,rc w.p.cl,w.p.hits):=by
 obtain⟨h,c0,v0⟩:=IJ.ok code hc;have main:gK (Ib.vo code 0 h) (λx=>∃(w:Wo) (a' s':az),fC w.p/\K2 w/\x=(w.p.now,re w.p.en,rs w.p.w,rs w.p.m,rr w.p.s,w.p.a,rf w.p.fe,rc w.p.cl,w.p.hits,code,a',s')):=by
  unfold Ib.vo;generalize hN:Lib.c9=N;have hN1:30<N:=by rw[<-hN];exact cU (by omega)
  clear hN;unfold Ib.b;exact walk N code _ (λx w a1 s1 h hk I1=>A_Post.ret ⟨w,a1,s1,h,hk,rfl⟩) 30 0 N TY.w0 0 h (cu _) (bL _) hN1 TY.ah2 ⟨λx h=>cq h jC,λx h=>cq h jC,λx h=>cq h jC⟩ ⟨Int.le_refl _,Int.natCast_nonneg _,hc⟩
 obtain⟨x,hx,w,a',s',h1,h2,rfl⟩:=main;obtain⟨c1,v1⟩:=Ib.out _ _ _ hx;obtain⟨c2,v2⟩:=BX.out code (x:=(w.p.now,re w.p.en,rs w.p.w,rs w.p.m,rr w.p.s,w.p.a,rf w.p.fe,rc w.p.cl,w.p.hits)) (by unfold BX.vo BX.b;rw[c0,ay,v0,iq.lt_eq,c1,ay,v1,iq.lt_eq]);exact⟨w,h1,h2,c2,v2⟩
end adL

namespace NX
theorem ok(q:aW)(hl:q.length<=1048576):∃p,c q=ak/\v q=p/\p.length=12/\∀i,i<12->0<=bY (aw p i 0)/\bY (aw p i 0)<10000:=by
 obtain⟨h,c1,v1⟩:=IJ.ok q hl;obtain⟨n0,a0,s0,c0,v0,I0,g0,u0⟩:=bS.ok q 0 h ⟨by omega,by omega,hl⟩;have key:=s_ (λn (z:aG×az×az×aW)=>l5 Lib.c9 (λ(_:az) (_:aW) (_ _:az) (y9:aW)=>aj y9) n (z.1:az) q z.2.1 z.2.2.1 z.2.2.2) (λz=>12-z.1) (λz=>z.1<=12/\bS.I q z.2.1/\z.2.2.2.length=z.1/\∀i,i<z.1->0<=bY (aw z.2.2.2 i 0)/\bY (aw z.2.2.2 i 0)<10000) (λp=>p.length=12/\∀i,i<12->0<=bY (aw p i 0)/\bY (aw p i 0)<10000) (λn z hz=>by
  obtain⟨i,a,s,p⟩:=z;obtain⟨h1,h2,h3,h4⟩:=hz;dsimp only at h1 h2 h3 h4⊢;by_cases hi:(i:az)<12
  ·right;have lK:bN ((i:az)+1)=((i+1:aG):az):=dh (by omega) (by omega);obtain⟨n1,a1,s1,c1,v1,I1,g1,u1⟩:=gL.ok q a s 10000 h2;have u1':=u1 (by omega);refine⟨(i+1,a1,s1,p++[[CV.i ar n1]]),⟨by dsimp only;omega,I1,by simp[h3],λj hj=> ?_⟩,by dsimp only;omega, ?_⟩
   ·dsimp only at hj⊢;by_cases Hb:j<i
    ·have:=h4 j Hb;rw[show aw (p++[[CV.i ar n1]]) j 0=aw p j 0 from by unfold aw;congr 1;rw[cL,cL,dj (by omega)]];exact this
    ·have N5:j=p.length:=by omega
     rw[show aw (p++[[CV.i ar n1]]) j 0=CV.i ar n1 from by rw[uN p [CV.i ar n1] [] j 0 N5.symm];rfl];exact⟨g1,u1'⟩
   ·simp only[Lib.lt,l5,r5,c1,v1,lK,aJ hi,ay,Lib.jM,bw,Lib.cy (n:=p.length+1) (b:=8) (by omega) (by omega)]
  ·left;have:i=12:=by omega
   subst this;exact⟨p,by simp only[l5,r5,aM hi,aD],h3,h4⟩) Lib.c9 (0,a0,s0,[]) ⟨by omega,I0,rfl,λi hi=>cq hi (BW i)⟩ (cU (by dsimp only;omega))
 obtain⟨p,hb,h1,h2⟩:=key;obtain⟨e1,e2⟩:=out q (x:=p) (by unfold vo b;simp only[Lib.lt,c1,v1,c0,v0,ay];exact hb);exact⟨p,e1,e2,h1,h2⟩
end NX

namespace U5
open Lib (rr rs re rf rc Px En Fe Cl el)
open j4 (Wo)
open nP (fC)
open Oi (K2)
open pZ (cls)
open gg (rm rB)
open A_Post (gK)
open kS (nk t1 t2 t3 mk)
theorem leave{P:R->Prop}(N:aG)(K:aY->az->az->az->az->aW->aW->aW->aW->aW->aW->aW->aC R)(pl:aW)(hK:∀w:Wo,fC w.p->K2 w->w.p.cl=[]->gK (K aq 10 w.p.now w.p.a w.p.hits pl (re w.p.en) (rs w.p.w) (rs w.p.m) (rr w.p.s) (rf w.p.fe) (rc w.p.cl)) P):
  ∀(d i n:aG) (w:Wo),10-i<=d->1<=i->i<=10->d<n->fC w.p->K2 w->(∀c∈w.p.cl,(i:az)<=c.id)->
   gK (l6 N K n aq (i:az) w.p.now w.p.a w.p.hits pl (re w.p.en) (rs w.p.w) (rs w.p.m) (rr w.p.s) (rf w.p.fe) (rc w.p.cl)) P:=by
 have fin:∀(n:aG) (w:Wo),fC w.p->K2 w->(∀c∈w.p.cl,(10:az)<=c.id)->gK (l6 N K (n+1) aq 10 w.p.now w.p.a w.p.hits pl (re w.p.en) (rs w.p.w) (rs w.p.m) (rr w.p.s) (rf w.p.fe) (rc w.p.cl)) P:=λn w ho h2 hc=>by
  have e:w.p.cl=[]:=by
   cases ng:w.p.cl with
   |nil=>rfl
   |cons c l=>
    have hm:c∈w.p.cl:=by rw[ng];exact dy
    have q1:=hc c hm;have q2:=ho.cl c hm;unfold nP.FU at q2;simp only[aK,bf]at q2;omega
  rw[show l6 N K (n+1)=r6 N (l6 N K n) K from rfl];unfold r6;exact A_Post.cn rfl (hK w ho h2 e)
 intro d;induction d with
 |zero=>
  intro i n w h1 h2 h3 h4 ho hk hc;obtain⟨n,rfl⟩:∃k,n=k+1:=⟨n-1,by omega⟩
  have:i=10:=by omega
  subst this;exact fin n w ho hk hc
 |succ d ih=>
  intro i n w h1 h2 h3 h4 ho hk hc;obtain⟨n,rfl⟩:∃k,n=k+1:=⟨n-1,by omega⟩
  by_cases hi:i=10
  ·subst hi;exact fin n w ho hk hc
  ·have lK:bN ((i:az)+1)=((i+1:aG):az):=dh (by omega) (by omega);have A:=FQ.ok w.p (i:az) (iq.iR ho);have nx:=ih (i+1) n {w with p:=Gq.val w.p (i:az)} (by omega) (by omega) (by omega) (by omega) (DL.Hq _ ho) ⟨hk.en,hk.fe,hk.o⟩ (λc Qv=>by
    obtain⟨q1,q2⟩:=du.1 (show c∈w.p.cl.filter λc=> !decide (c.id=(i:az))from Qv);have q3:=hc c q1;have q4:¬c.id=(i:az):=by simpa using q2
    omega)
   rw[show l6 N K (n+1)=r6 N (l6 N K n) K from rfl];unfold r6;refine A_Post.ck (aJ (by omega)) ?_;refine A_Post.ck A.1 ?_;rw[A.2,lK];exact nx
section
variable {P:R->Prop} (N:aG) (K0 K1:aY->az->az->az->az->az->aW->aW->aW->aW->aW->aW->aW->aC R) (pl:aW)
theorem PY{n:aG}{x:az}{id:az}{p:Px}(hp:p.Fit 1048576)(hi:id<=3)(h:(ed.ask p id nk).2=0)(nx:gK (E6 N K0 K1 n aq x (bN (id+1)) (ed.ask p id nk).1.now (ed.ask p id nk).1.a (ed.ask p id nk).1.hits pl (re (ed.ask p id nk).1.en) (rs (ed.ask p id nk).1.w) (rs (ed.ask p id nk).1.m) (rr (ed.ask p id nk).1.s) (rf (ed.ask p id nk).1.fe) (rc (ed.ask p id nk).1.cl)) P):
  gK (E6 N K0 K1 (n+1) aq x id p.now p.a p.hits pl (re p.en) (rs p.w) (rs p.m) (rr p.s) (rf p.fe) (rc p.cl)) P:=by have A:=wB.ok p id nk hp (by decide);rw[show E6 N K0 K1 (n+1)=zU N (E6 N K0 K1 n) K0 K1 from rfl];unfold zU;refine A_Post.ck (aJ hi) ?_;refine A_Post.ck A.1 ?_;rw[A.2];refine A_Post.cn ?_ nx;show((ed.ask p id nk).2 !=0)=aq;rw[h];rfl
theorem al7{n:aG}{x:az}{id:az}{p:Px}(hp:p.Fit 1048576)(hi:id<=3)(h:(ed.ask p id nk).2=2)(nx:gK (K0 (decide (x=20)) x id p.now p.a p.hits pl (re p.en) (rs p.w) (rs p.m) (rr p.s) (rf p.fe) (rc p.cl)) P):
  gK (E6 N K0 K1 (n+1) aq x id p.now p.a p.hits pl (re p.en) (rs p.w) (rs p.m) (rr p.s) (rf p.fe) (rc p.cl)) P:=by
 have A:=wB.ok p id nk hp (by decide);rw[show E6 N K0 K1 (n+1)=zU N (E6 N K0 K1 n) K0 K1 from rfl];unfold zU;refine A_Post.ck (aJ hi) ?_;refine A_Post.ck A.1 ?_;rw[A.2];refine A_Post.ck ?_ ?_
 ·show((ed.ask p id nk).2 !=0)=ak;rw[h];rfl
 refine A_Post.ck ?_ nx;show decide ((ed.ask p id nk).2=2)=ak;rw[h];rfl
theorem al8{n:aG}{x:az}{p:Px}(nx:gK (K1 aq x 4 p.now p.a p.hits pl (re p.en) (rs p.w) (rs p.m) (rr p.s) (rf p.fe) (rc p.cl)) P):
  gK (E6 N K0 K1 (n+1) aq x 4 p.now p.a p.hits pl (re p.en) (rs p.w) (rs p.m) (rr p.s) (rf p.fe) (rc p.cl)) P:=by rw[show E6 N K0 K1 (n+1)=zU N (E6 N K0 K1 n) K0 K1 from rfl];unfold zU;exact A_Post.cn rfl nx
end
theorem find(n:aG)(st:az)(i:az)(hi:i=1\/i=2\/i=3\/i=4):(([1,2,3,4]:aA az).map (mk n st t3)).find? (λc=>decide (c.id=i))=aj (mk n st t3 i):=by rcases hi with rfl|rfl|rfl|rfl<;>rfl
theorem four{P:R->Prop}(N:aG)(K0 K1:aY->aY->aY->az->aY->aY->az->az->az->az->az->az->az->az->az->az->aW->aW->aW->aW->aW->aW->aW->aW->aW->aW->aW->aW->aW->aW->aW->aW->aW->aW->aC R)(b0 b1 b2:aY)(no:az)(b3 b4:aY)(k:aG){p d b:Px}
  (hp:p.cl=[1,2,3,4].map (mk k 1 t3)) (hd:d.cl=[1,2,3,4].map (mk k 2 t3)) (hb:b.cl=[1,2,3,4].map (mk k 3 t3)) (nx:gK (K1 b0 b1 b2 no b3 b4 5 p.now p.a p.hits d.now d.a d.hits b.now b.a b.hits (re p.en) (rs p.w) (rs p.m) (rr p.s) (rf p.fe) (rc p.cl) (re d.en) (rs d.w) (rs d.m) (rr d.s) (rf d.fe) (rc d.cl) (re b.en) (rs b.w) (rs b.m) (rr b.s) (rf b.fe) (rc b.cl)) P) (n:aG) (hn:4<n):
  gK (TS N K0 K1 n b0 b1 b2 no b3 b4 1 p.now p.a p.hits d.now d.a d.hits b.now b.a b.hits (re p.en) (rs p.w) (rs p.m) (rr p.s) (rf p.fe) (rc p.cl) (re d.en) (rs d.w) (rs d.m) (rr d.s) (rf d.fe) (rc d.cl) (re b.en) (rs b.w) (rs b.m) (rr b.s) (rf b.fe) (rc b.cl)) P:=by
 have stp:∀(m:aG) (i:az),(i=1\/i=2\/i=3\/i=4)->gK (TS N K0 K1 m b0 b1 b2 no b3 b4 (i+1) p.now p.a p.hits d.now d.a d.hits b.now b.a b.hits (re p.en) (rs p.w) (rs p.m) (rr p.s) (rf p.fe) (rc p.cl) (re d.en) (rs d.w) (rs d.m) (rr d.s) (rf d.fe) (rc d.cl) (re b.en) (rs b.w) (rs b.m) (rr b.s) (rf b.fe) (rc b.cl)) P->
   gK (TS N K0 K1 (m+1) b0 b1 b2 no b3 b4 i p.now p.a p.hits d.now d.a d.hits b.now b.a b.hits (re p.en) (rs p.w) (rs p.m) (rr p.s) (rf p.fe) (rc p.cl) (re d.en) (rs d.w) (rs d.m) (rr d.s) (rf d.fe) (rc d.cl) (re b.en) (rs b.w) (rs b.m) (rr b.s) (rf b.fe) (rc b.cl)) P:=λm i hi nx=>by
  have len:∀(st:az),(([1,2,3,4]:aA az).map (mk k st t3)).length<=1000:=λst=>by rw[bQ];decide
  have A:=xL.ok i p.now (re p.en) (rs p.w) (rs p.m) (rr p.s) p.a (rf p.fe) p.cl p.hits (by rw[hp];exact len 1)
  have D:=xL.ok i d.now (re d.en) (rs d.w) (rs d.m) (rr d.s) d.a (rf d.fe) d.cl d.hits (by rw[hd];exact len 2)
  have B:=xL.ok i b.now (re b.en) (rs b.w) (rs b.m) (rr b.s) b.a (rf b.fe) b.cl b.hits (by rw[hb];exact len 3)
  have A2:xL.v p.now (re p.en) (rs p.w) (rs p.m) (rr p.s) p.a (rf p.fe) (rc p.cl) p.hits i=(i,nk,(k:az)+1,0,1,t3,0,ak):=by rw[A.2,hp,find k 1 i hi];rfl
  have D2:xL.v d.now (re d.en) (rs d.w) (rs d.m) (rr d.s) d.a (rf d.fe) (rc d.cl) d.hits i=(i,nk,(k:az)+1,0,2,t3,0,ak):=by rw[D.2,hd,find k 2 i hi];rfl
  have B2:xL.v b.now (re b.en) (rs b.w) (rs b.m) (rr b.s) b.a (rf b.fe) (rc b.cl) b.hits i=(i,nk,(k:az)+1,0,3,t3,0,ak):=by rw[B.2,hb,find k 3 i hi];rfl
  have hw:bN (i+1)=i+1:=dh (by omega) (by omega)
  have bq:(!List.beq (aL t3) (aL t3))=false:=by rw[r_];rfl
  rw[show TS N K0 K1 (m+1)=r25 N (TS N K0 K1 m) K0 K1 from rfl]
  unfold r25
  refine A_Post.ck (aJ (by omega)) ?_
  refine A_Post.ck A.1 ?_
  refine A_Post.ck D.1 ?_
  refine A_Post.ck B.1 ?_
  rw[A2,D2,B2]
  refine A_Post.cn rfl ?_
  refine A_Post.cn bq ?_
  refine A_Post.cn rfl ?_
  refine A_Post.cn rfl ?_
  refine A_Post.cn rfl ?_
  refine A_Post.cn bq ?_
  refine A_Post.cn rfl ?_
  refine A_Post.cn rfl ?_
  rw[hw];exact nx
 obtain⟨m,rfl⟩:∃m,n=m+1+1+1+1+1:=⟨n-5,by omega⟩
 refine stp _ 1 (.inl rfl) (stp _ 2 (.inr (.inl rfl)) (stp _ 3 (.inr (.inr (.inl rfl))) (stp _ 4 (.inr (.inr (.inr rfl))) ?_)));rw[show TS N K0 K1 (m+1)=r25 N (TS N K0 K1 m) K0 K1 from rfl];unfold r25;exact A_Post.cn rfl nx
theorem P4(p:Px)(f:az):(rm p f).1.now=p.now/\(rm p f).1.en=p.en/\(rm p f).1.w=p.w/\(rm p f).1.m=p.m/\(rm p f).1.s=p.s/\(rm p f).1.a=p.a/\(rm p f).1.hits=p.hits:=by unfold rm;cases gg.qV p f<;>exact⟨rfl,rfl,rfl,rfl,rfl,rfl,rfl⟩
def je{α:Type}(p:Px)(x:α):az×aW×aW×aW×aW×az×aW×aW×az×α:=(p.now,re p.en,rs p.w,rs p.m,rr p.s,p.a,rf p.fe,rc p.cl,p.hits,x)
theorem pv{F:aA Fe}{t:au}{L:aA az}{p:Px}(q:au)(h:kS.St F t L p)(hq:1<=q.size/\q.size<=40)(ht:t.size+q.size<=400):∃p1,kS.St F (t++q) L p1/\KS.c p.now (re p.en) (rs p.w) (rs p.m) (rr p.s) p.a (rf p.fe) (rc p.cl) p.hits (F.length:az) q=ak/\KS.v p.now (re p.en) (rs p.w) (rs p.m) (rr p.s) p.a (rf p.fe) (rc p.cl) p.hits (F.length:az) q=je p1 true:=by
 obtain⟨e1,S,g1,g2,g3,g4,g5,g6,g7⟩:=kS.part q h hq ht;have P1:=KS.ok p (F.length:az) q (iq.iR h.ok);have f1:(rB p (F.length:az) q).2=true:=mi Prod.snd e1;refine⟨_,S,P1.1, ?_⟩
 unfold je;rw[P1.2,f1,g1,g2,g3,g4,g5,g6,g7]
theorem av{F:aA Fe}{t:au}{L:aA az}{p:Px}{id:az}(h:kS.St F t L p)(B3:1<=id/\id<=9)(hL:∀x∈L,x<id)(hl:L.length<6):∃p1,kS.St F t (L++[id]) p1/\wB.c p.now (re p.en) (rs p.w) (rs p.m) (rr p.s) p.a (rf p.fe) (rc p.cl) p.hits id nk=ak/\wB.v p.now (re p.en) (rs p.w) (rs p.m) (rr p.s) p.a (rf p.fe) (rc p.cl) p.hits id nk=je p1 (0:az):=by
 obtain⟨n,S⟩:=kS.aaU h B3 hL hl;have A:=wB.ok p id nk (iq.iR h.ok) (by decide);refine⟨_,S,A.1, ?_⟩
 rw[A.2];unfold je wB.res;rw[n]
theorem cv{F:aA Fe}{t:au}{L:aA az}{p:Px}(life:az)(h:kS.St F t L p)(hl:0<=life/\life<=999999):∃d,fC d/\d.cl=L.map (mk F.length 2 t)/\NY.c p.now (re p.en) (rs p.w) (rs p.m) (rr p.s) p.a (rf p.fe) (rc p.cl) p.hits (F.length:az) life=ak/\NY.v p.now (re p.en) (rs p.w) (rs p.m) (rr p.s) p.a (rf p.fe) (rc p.cl) p.hits (F.length:az) life=je d true:=by
 obtain⟨e1,h1,h2⟩:=kS.close life h hl;have C:=NY.ok p (F.length:az) life (iq.iR h.ok);obtain⟨s1,s2⟩:=pZ.GN (p:=p) (f:=(F.length:az)) (life:=life);refine⟨_,h1,h2,C.1, ?_⟩
 unfold je;rw[C.2,e1,s1,s2]
theorem bv{F:aA Fe}{t:au}{L:aA az}{p:Px}(h:kS.St F t L p):∃d,fC d/\d.cl=L.map (mk F.length 3 t)/\NZ.c p.now (re p.en) (rs p.w) (rs p.m) (rr p.s) p.a (rf p.fe) (rc p.cl) p.hits (F.length:az)=ak/\NZ.v p.now (re p.en) (rs p.w) (rs p.m) (rr p.s) p.a (rf p.fe) (rc p.cl) p.hits (F.length:az)=je d true:=by
 obtain⟨e1,h1,h2⟩:=kS.ama h;have C:=NZ.ok p (F.length:az) (iq.iR h.ok);obtain⟨g1,g2,g3,g4,g5,g6,g7⟩:=P4 p (F.length:az);refine⟨_,h1,h2,C.1, ?_⟩
 unfold je;rw[C.2,e1,g1,g2,g3,g4,g5,g6,g7]
theorem ahf(a:aW)(ha:ur a):vo a=aj true:=by
 have hb:∀x:aY,U15.v a=x->vo a=aj true:=λx hx=>by
  cases x with
  |true=>unfold vo b;rw[hx,ay]
  |false=>
   have hlen:a.length<=1048576:=by unfold U15.v at hx;have:=lr hx;omega
   obtain⟨w,ho,hk,c0,v0⟩:=adL.ok a hlen;obtain⟨pl,c1,v1,ry,hpr⟩:=NX.ok a hlen;have h99:0<=cG (bY (aw pl (bc 0) 0)) 99/\cG (bY (aw pl (bc 0) 0)) 99<=999999:=by have q:=hpr 0 (by omega);rw[show bc 0=0 from rfl,rV q.1];omega
   have main:gK (vo a) (λx=>x=ak):=by
    unfold vo;generalize hN:Lib.c9=N;have hN1:20<N:=by rw[<-hN];exact cU (by omega)
    clear hN;unfold b;refine A_Post.cn hx ?_;refine A_Post.ck c0 ?_;refine A_Post.ck c1 ?_;rw[v0,v1];refine leave N _ pl (λw ho hk ng=> ?_) 9 1 N w (by omega) (by omega) (by omega) (by omega) ho hk (λc hc=> ?_);rotate_left
    ·have q2:=ho.cl c hc;unfold nP.FU at q2;simp only[aK,bf]at q2;omega
    dsimp only;rw[dL];obtain⟨m,rfl⟩:∃m,N=m+1+1+1+1:=⟨N-4,by omega⟩
    have Lp:=ho.fl;rcases kS.PY ho hk ng with ⟨MW,uS⟩|⟨uS,S1⟩
    ·refine al7 (m+1+1+1+1) _ _ pl (iq.iR ho) (by omega) uS ?_;exact A_Post.ret (aJ (by omega))
    obtain⟨n2,S2⟩:=kS.aaU (id:=2) S1 (by omega) (by intro x hx;rw[aZ.1 hx];omega) (by decide);obtain⟨n3,S3⟩:=kS.aaU (id:=3) S2 (by omega) (by intro x hx;simp at hx;omega) (by decide);refine PY (m+1+1+1+1) _ _ pl (iq.iR ho) (by omega) uS ?_;refine PY (m+1+1+1+1) _ _ pl (id:=2) (iq.iR S1.ok) (by omega) n2 ?_;refine PY (m+1+1+1+1) _ _ pl (id:=3) (iq.iR S2.ok) (by omega) n3 ?_;refine al8 (m+1+1+1+1) _ _ pl ?_;generalize (ed.ask (ed.ask (ed.ask w.p 1 nk).1 2 nk).1 3 nk).1=p at S3;have hF:(rf p.fe).length=w.p.fe.length+1:=by rw[dL,S3.fe,bP];rfl
    obtain⟨p1,S4,C1,V1⟩:=pv t1 S3 (by decide) (by decide);obtain⟨p2,S5,C2,V2⟩:=pv t2 S4 (by decide) (by decide);rw[kS.full]at S5;obtain⟨p4,S6,C4,V4⟩:=av (id:=4) S5 (by omega) (by intro x hx;simp at hx;omega) (by decide);obtain⟨pd,D1,D2,C5,V5⟩:=cv (cG (bY (aw pl (bc 0) 0)) 99) S6 h99;obtain⟨pb,B1,B2,C6,V6⟩:=bv S6;have O1:=Ew.ok pd (iq.iR D1);have O2:=Ew.ok pb (iq.iR B1);rw[nP.mR.2 D1]at O1;rw[nP.mR.2 B1]at O2;refine A_Post.cn ?_ ?_
    ·show(((rf p.fe).length:az) !=bN ((w.p.fe.length:az)+1))=aq;rw[hF,dh (x:=(w.p.fe.length:az)+1) (by omega) (by omega)];exact bne_self_eq_false _
    refine A_Post.call C1 V1 ?_;refine A_Post.call C2 V2 ?_;refine A_Post.call C4 V4 ?_;refine A_Post.ck (aJ (by rw[ry];decide)) ?_;refine A_Post.call C5 V5 ?_;refine A_Post.call C6 V6 ?_;refine four _ _ _ aq ak ak 0 ak ak w.p.fe.length S6.cl D2 B2 ?_ _ (by omega);refine A_Post.ck rfl ?_;refine A_Post.ck rfl ?_;refine A_Post.ck rfl ?_;refine A_Post.ck rfl ?_;refine A_Post.ck rfl ?_;refine A_Post.ck O1.1 ?_;refine A_Post.ck O1.2 ?_;refine A_Post.ck O2.1 ?_;exact A_Post.ret O2.2
   obtain⟨x,h1,h2⟩:=main;rw[h1,h2]
 exact hb _ rfl
theorem law(a:aW)(ha:ur a):v a=true:=(out a (ahf a ha)).2
theorem ao7(a:aW)(ha:ur a):c a=true:=(out a (ahf a ha)).1
end U5

end Go.FG
