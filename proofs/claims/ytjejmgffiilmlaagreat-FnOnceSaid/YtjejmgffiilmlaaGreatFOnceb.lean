/- What the functions come to, in plain numbers, texts and lists; last the law itself. No condition but those that each states. -/
import Derived.Test.YtjejmgffiilmlaaGreatPOnce
import Derived.Test.YtjejmgffiilmlaaGreatFOncea
set_option linter.unusedVariables false
set_option linter.unusedSimpArgs false
set_option maxRecDepth 100000
open Bool renaming true->ak,not_true->ba,true_and->bj,not_false->bX,false->aq,and_self->aP,false_and->pG,and_assoc->mZ,and_eq_true->aK,false_or->nK,and_true->ph,and_false->Gk,false_eq_true->dj,not_eq_true'->dD,or_eq_true->dE
open ByteArray renaming toList->aL,empty_append->o0,extract->bR
open Go.IntKind renaming i64->ar
open Go.Op renaming bytesLess->cf
open Int renaming tmod->cF,tmod_eq_emod_of_nonneg->rZ,toNat_natCast->dx,toNat->bc
open List renaming set->aE,map_append->dh,length->bW,length_append->bO,length_singleton->bw,find?_eq_none->qa,getElem_of_mem->c9,find?_eq_some_iff_getElem->Au,length_map->bP,length_set->cw,set_set->o7,set_getElem_self->eT,getElem_set_self->j4,getD_eq_getElem?_getD->cK,getElem?_append_left->dg,getElem?_append_right->cZ,drop_length->dm,drop_eq_getElem_cons->dG,find?_cons_of_neg->ID,drop_zero->fm,length_filter_le->eF,length_take->eg,take_succ_eq_append_getElem->c6,filter_append->iN,append_nil->di,take_length->fD,nil_append->gg,append_assoc->cj,pairwise_cons->qb,getElem_append_right->FV,mem_of_find?_eq_some->FW,mem_cons->cz,not_mem_nil->jz,any_eq_false->Aq,filter_eq_self->eI,mem_cons_self->du,mem_filter->dq,mem_singleton->aZ
open Nat renaming lt_irrefl->bu,zero_le->bK,not_lt_zero->B4,le_trans->c_,zero_add->bT,le_refl->cu
open Option renaming some->aj,none->ao,map_some->iQ
open _root_ renaming Int->aA,List->az,ByteArray->au,Nat->aG,cond_true->ay,cond_false->aC,decide_eq_true->aJ,decide_eq_false->aM,if_neg->bL,if_pos->bC,decide_true->aR,Option->aD,Bool->aY,of_decide_eq_true->b9,decide_false->bm,absurd->cq,decide_eq_true_eq->bf,decide_eq_false_iff_not->gK,of_decide_eq_false->lu,congrArg->ml
namespace Go.FG
open Lib (EG all_congr jS oH AF se uQ e8 zN eQ gL oK oL Dk Lk vQ mn tf cT lx rc0 rc1 rc2 rc3 rc4 rc5 rc6 eN J0 Zo Zp gm dQ dI Oh Iq gu TW eE pe ly BK wv ou Aa H8 nI BR wy qs qt sQ oa dc Ko Th Ti Tj Tk Tl Tm wd0 wd1 wd2 qz tY tZ t_ Ib Ge W4 yD TX TY)
variable {R:Type}
namespace wG
open Lib (rr rs re rf rc Px Cl Fe En el)
open eS (without)
open jj (ej)
open p8 (iX)
open dY (X6 n_ put Cw CJ Br jm jn qn tV zQ)
open gE (fC)
open nP (fu mS)
def res(q:Px×aA):aA×aX×aX×aX×aX×aA×aX×aX×aA×aA:=(q.1.now,re q.1.en,rs q.1.w,rs q.1.m,rr q.1.s,q.1.a,rf q.1.fe,rc q.1.cl,q.1.hits,q.2)
theorem H3(fe:az Fe)(key:au):rf fe++aE (aT [Ck.s,Ck.s,Ck.i ar,Ck.i ar,Ck.i ar] 1) 0 [CV.s key,CV.s {data:= #[]},CV.i ar 1,CV.i ar 0,CV.i ar 0]=rf (fe++[qn key]):=by unfold Lib.rf;rw[dh];rfl
theorem zT{p:Px}{i:aG}(hi:i<p.en.length)(ho:fu p):bM (p.now-(el p.en i).st)=p.now-(el p.en i).st:=by have h1:=ho.now;have h2:=(iL.Gd (ho.en _ (oK hi))).2.1;exact dc (by omega) (by omega)
theorem ok(p:Px)(id:aA)(key:au)(hp:p.Fit 1048576)(hkz:key.size<=140737488355328):c p.now (re p.en) (rs p.w) (rs p.m) (rr p.s) p.a (rf p.fe) (rc p.cl) p.hits id key=ak/\v p.now (re p.en) (rs p.w) (rs p.m) (rr p.s) p.a (rf p.fe) (rc p.cl) p.hits id key=res (dY.ask p id key):=by
 have h1:=uO.ok p hp;have h2:=ED.ok p hp;have nh:=hp.cl;have Il:=hp.fe;have hen:=hp.en;have Jw:iV.n6 p.s:=⟨hp.s.1,hp.s.2.1⟩
 have h3:=TM.ok p.now (re p.en) (rs p.w) (rs p.m) (rr p.s) p.a (rf p.fe) p.cl p.hits id nh;refine out _ _ _ _ _ _ _ _ _ _ _ ?_;unfold vo b dY.ask;simp only[Lib.lt,h1.1,h1.2,h2.1,h2.2,ay];cases b8:iX p with
 |false=>rfl
 |true=>
 have ho:fu p:=mS.1 b8;rw[ba,aC,bj,show oe.v id 1 9=decide (1<=id/\id<=9)from fg.eM _ _ _];cases B8:decide (1<=id/\id<=9)with
 |false=>rfl
 |true=>
 rw[ba,aC,bj,oF.iu];cases hko:ej key with
 |false=>rfl
 |true=>
 have zw:=js.j_ hko;rw[ba,aC,bj,h3.1,ay,h3.2];cases hhi:jm p.cl id with
 |true=>rfl
 |false=>
 rw[aC,bX,bj,eN];by_cases h6:p.cl.length=6
 ·rw[aJ (show(p.cl.length:aA)=6 by omega),ay,aM (show¬p.cl.length<6 by omega)];rfl
 have hc6:=ho.cll;rw[aM (show¬(p.cl.length:aA)=6 by omega),aC,aJ (show p.cl.length<6 by omega),ay];have h4:=vE.ok (re p.en) key (by rw[dQ];omega);have h5:=IQ.ok p.now (re p.en) (rs p.w) (rs p.m) (rr p.s) p.a (rf p.fe) (rc p.cl) p.hits key (by rw[dI];omega);have h7:=MH.ok p.w p.m p.s p.a key hp.w hp.m Jw (by omega);have h8:=nM.ok p.s p.a key Jw (by omega);have h9:=Ii.ok p.w p.m p.s p.a key hp.w hp.m Jw;have N_:=B6.ok (re p.en) key (gE.Qd _) (by rw[dQ];omega);rw[gE.EP]at N_;have NF:=λ(i0:aA) (q1 q2 q3 q4:aX) (i5:aA) (q6:aX) (i8:aA) (x:Cl) (hx:x.id=id)=>po.ok i0 q1 q2 q3 q4 i5 q6 p.cl i8 x ho.cs (by rw[hx];exact hhi) nh;rw[h4.1,ay,h4.2,dQ];have atF:p.hits<=1000000000:=ho.hits.2;have amK:0<=p.hits:=ho.hits.1;have rD:=ho.fl;have afd:k8 aq (bM (p.hits+1)) 1000000000=bif decide (p.hits<1000000000)then p.hits+1 else p.hits:=by
  rw[dc (by omega) (by omega)];unfold k8;rw[aC];by_cases h:p.hits<1000000000
  ·rw[aJ h,ay,bL (by omega)]
  ·rw[aM h,aC,bC (by omega)];omega
 have hfp:∀i (hi:i<p.fe.length),qd.p (rf p.fe) key i=Br key p.fe[i]:=λi hi=>by unfold qd.p Br Gu.v;rw[Ib hi,W4 hi,eQ hi];simp only[bQ,bY,Lib.fA];cases decide (p.fe[i].k=key)<;>rfl
 have hep:∀i (hi:i<p.en.length),vE.p (re p.en) key i=decide (p.en[i].k=key):=λi hi=>by unfold vE.p;rw[qz hi,eQ hi];exact Lib.fA
 have wn:∀n:aG,n<=1048576->bM ((n:aA)+1)=(n:aA)+1:=λn hn=>dc (by omega) (by omega);have cN:∀(n:aG) (fe:az Fe),n<fe.length->bQ (aw (rf fe) n 1)=(el fe n).t:=λn fe hn=>by rw[Ge hn];rfl
 have Hn:cJ (p.fe.length+1) 56=true:=Lib.cy (by omega) (by omega);have dA:∀key:au,bW (aE (aT [Ck.s,Ck.s,Ck.i ar,Ck.i ar,Ck.i ar] 1) 0 [CV.s key,CV.s {data:= #[]},CV.i ar 1,CV.i ar 0,CV.i ar 0])=1:=λ_=>rfl;rcases zQ p.fe (Br key) _ hfp with ⟨f1,_,f2⟩|⟨j,hj,f1,_,f2⟩
 ·have f2:CJ p.fe key=none:=f2;rw[dI,f1]at h5;rcases zQ p.en (λe=>decide (e.k=key)) _ hep with ⟨e1,e2,_⟩|⟨i,hi,e1,e2,_⟩
  ·have e2:Cw p.en key=none:=e2;rw[e1,e2];unfold n_;rw[f2];dsimp only;by_cases M4:p.fe.length=20
   ·rw[aM (show¬p.fe.length<20 by omega)];simp only[show decide ((-1:aA)≥0)=aq from rfl,aC,h5.1,h5.2,ay,show decide ((-1:aA)<0)=ak from rfl,dI,aJ (show(p.fe.length:aA)=20 by omega)];rfl
   ·have mE:=NF p.now (re p.en) (rs p.w) (rs p.m) (rr (fG.val p.s p.a key).1) (fG.val p.s p.a key).2 (rf (p.fe++[qn key])) p.hits ⟨id,key,(p.fe.length:aA)+1,0,1,(el (p.fe++[qn key]) p.fe.length).t,0⟩ rfl;dsimp only at mE;rw[aJ (show p.fe.length<20 by omega)];simp only[show decide ((-1:aA)≥0)=aq from rfl,aC,h5.1,h5.2,ay,show decide ((-1:aA)<0)=ak from rfl,dI,aM (show¬(p.fe.length:aA)=20 by omega),h8.1,h8.2,dA,Hn,H3,bO,bw,Lib.eB,Lib.dB,aJ (show p.fe.length<p.fe.length+1 by omega),cN p.fe.length (p.fe++[qn key]) (by simp),wn _ Il,mE.1,mE.2];rfl
  ·have e2:Cw p.en key=aj (el p.en i):=e2;rw[e1,e2];have CA:IP.v (bQ (aw (re p.en) i 0)) (bY (aw (re p.en) i 1)) (bY (aw (re p.en) i (1+1))) (bQ (aw (re p.en) i (1+1+1))) p.now=tV (el p.en i) p.now:=by rw[qz hi,tY hi,tZ hi,t_ hi];rfl
   have g1:bY (aw (re p.en) i 1)=(el p.en i).st:=by rw[tY hi];rfl
   have g3:bQ (aw (re p.en) i (1+1+1))=(el p.en i).bo:=by rw[t_ hi];rfl
   dsimp only;cases TT:tV (el p.en i) p.now with
   |true=>
    have g0:bQ (aw (re p.en) i 0)=(el p.en i).k:=by rw[qz hi];rfl
    have g2:bY (aw (re p.en) i (1+1))=(el p.en i).li:=by rw[tZ hi];rfl
    have CA:IP.v (el p.en i).k (el p.en i).st (el p.en i).li (el p.en i).bo p.now=true:=TT;have hw:=zT (p:=p) hi ho;have mE:=NF p.now (re p.en) (rs (js.val p.w p.m p.s p.a key).1) (rs (js.val p.w p.m p.s p.a key).2.1) (rr (js.val p.w p.m p.s p.a key).2.2.1) (js.val p.w p.m p.s p.a key).2.2.2.1 (rf p.fe) p.hits ⟨id,key,0,(el p.en i).st,2,(el p.en i).bo,p.now-(el p.en i).st⟩ rfl;dsimp only at mE;simp only[aJ (show((i:aG):aA)≥0 by omega),Lib.cR,Lib.dB,hi,aR,aP,ay,Lib.eB,g0,g1,g2,g3,CA,h7.1,h7.2,hw,mE.1,mE.2,afd,dQ];rfl
   |false=>
    rw[TT]at CA;unfold n_;rw[f2];dsimp only;by_cases M4:p.fe.length=20
    ·rw[aM (show¬p.fe.length<20 by omega)];simp only[aJ (show((i:aG):aA)≥0 by omega),Lib.cR,Lib.dB,hi,aR,aP,ay,aC,Lib.eB,dQ,CA,h5.1,h5.2,show decide ((-1:aA)<0)=ak from rfl,dI,aJ (show(p.fe.length:aA)=20 by omega)];rfl
    ·have mE:=NF p.now (re (fC p.en key)) (rs (without p.w key)) (rs (without p.m key)) (rr (fG.val p.s p.a key).1) (fG.val p.s p.a key).2 (rf (p.fe++[qn key])) p.hits ⟨id,key,(p.fe.length:aA)+1,0,1,(el (p.fe++[qn key]) p.fe.length).t,0⟩ rfl;dsimp only at mE;rw[aJ (show p.fe.length<20 by omega)];simp only[aJ (show((i:aG):aA)≥0 by omega),Lib.cR,dQ,hi,aR,aP,CA,h9.1,h9.2,N_.1,N_.2,aC,h5.1,h5.2,ay,show decide ((-1:aA)<0)=ak from rfl,dI,aM (show¬(p.fe.length:aA)=20 by omega),h8.1,h8.2,dA,Hn,H3,bO,bw,Lib.eB,Lib.dB,aJ (show p.fe.length<p.fe.length+1 by omega),cN p.fe.length (p.fe++[qn key]) (by simp),wn _ Il,mE.1,mE.2];rfl
 ·have f2:CJ p.fe key=aj j:=f2;rw[dI,f1]at h5;have nj:decide (((j:aG):aA)<0)=false:=aM (by omega);rcases zQ p.en (λe=>decide (e.k=key)) _ hep with ⟨e1,e2,_⟩|⟨i,hi,e1,e2,_⟩
  ·have e2:Cw p.en key=none:=e2;rw[e1,e2];unfold n_;rw[f2];dsimp only;have mE:=NF p.now (re p.en) (rs p.w) (rs p.m) (rr (fG.val p.s p.a key).1) (fG.val p.s p.a key).2 (rf p.fe) p.hits ⟨id,key,(j:aA)+1,0,1,(el p.fe j).t,0⟩ rfl;dsimp only at mE;simp only[show decide ((-1:aA)≥0)=aq from rfl,aC,h5.1,h5.2,ay,nj,dI,h8.1,h8.2,Lib.eB,Lib.cR,Lib.dB,hj,aR,aP,cN j p.fe hj,wn j (by omega),mE.1,mE.2];rfl
  ·have e2:Cw p.en key=aj (el p.en i):=e2;rw[e1,e2];have CA:IP.v (bQ (aw (re p.en) i 0)) (bY (aw (re p.en) i 1)) (bY (aw (re p.en) i (1+1))) (bQ (aw (re p.en) i (1+1+1))) p.now=tV (el p.en i) p.now:=by rw[qz hi,tY hi,tZ hi,t_ hi];rfl
   have g1:bY (aw (re p.en) i 1)=(el p.en i).st:=by rw[tY hi];rfl
   have g3:bQ (aw (re p.en) i (1+1+1))=(el p.en i).bo:=by rw[t_ hi];rfl
   dsimp only;cases TT:tV (el p.en i) p.now with
   |true=>
    have g0:bQ (aw (re p.en) i 0)=(el p.en i).k:=by rw[qz hi];rfl
    have g2:bY (aw (re p.en) i (1+1))=(el p.en i).li:=by rw[tZ hi];rfl
    have CA:IP.v (el p.en i).k (el p.en i).st (el p.en i).li (el p.en i).bo p.now=true:=TT;have hw:=zT (p:=p) hi ho;have mE:=NF p.now (re p.en) (rs (js.val p.w p.m p.s p.a key).1) (rs (js.val p.w p.m p.s p.a key).2.1) (rr (js.val p.w p.m p.s p.a key).2.2.1) (js.val p.w p.m p.s p.a key).2.2.2.1 (rf p.fe) p.hits ⟨id,key,0,(el p.en i).st,2,(el p.en i).bo,p.now-(el p.en i).st⟩ rfl;dsimp only at mE;simp only[aJ (show((i:aG):aA)≥0 by omega),Lib.cR,Lib.dB,hi,aR,aP,ay,Lib.eB,g0,g1,g2,g3,CA,h7.1,h7.2,hw,mE.1,mE.2,afd,dQ];rfl
   |false=>rw[TT]at CA;unfold n_;rw[f2];dsimp only;have mE:=NF p.now (re (fC p.en key)) (rs (without p.w key)) (rs (without p.m key)) (rr (fG.val p.s p.a key).1) (fG.val p.s p.a key).2 (rf p.fe) p.hits ⟨id,key,(j:aA)+1,0,1,(el p.fe j).t,0⟩ rfl;dsimp only at mE;simp only[aJ (show((i:aG):aA)≥0 by omega),Lib.cR,dQ,hi,aR,aP,CA,h9.1,h9.2,N_.1,N_.2,aC,h5.1,h5.2,ay,nj,dI,h8.1,h8.2,Lib.eB,Lib.dB,hj,cN j p.fe hj,wn j (by omega),mE.1,mE.2];rfl
end wG

namespace xP
open Lib (rr rs re rf rc Px Cl el)
def ans:aD Cl->aA×au×aA×aA×aA×au×aA×aY
 |some c=>(c.id,c.k,c.fe,c.fr,c.sta,c.got,c.age,ak)
 |none=>(0,⟨#[]⟩,0,0,0,⟨#[]⟩,0,aq)
theorem walk(N:aG)(kr:aA->au->aA->aA->aA->au->aA->aY->aD R)(id now:aA)(q1 q2 q3 q4:aX)(a5:aA)(q6:aX)(cl:az Cl)(a8:aA)(hl:cl.length<=1000):∀(d i n:aG),cl.length-i<=d->i<=cl.length->d<n->(∀j,j<i->(el cl j).id≠id)->
  l2 N (λCa tD Gg Gh NX TZ Ol On Gi Oo Oq Ot Ms Kr Ks Ts Tt W_ T0=>kr Ms Kr Ks Ts Tt W_ T0 tD) (λy38 y39 y40 y41 Xa Xb NY y45 y46 y47 y48 y49 y50 y51 y52 Xc Xd Xe y56=>kr 0 ({data:= #[]}) 0 0 0 ({data:= #[]}) 0 aq) n id aq (i:aA) now q1 q2 q3 q4 a5 q6 (rc cl) a8 0 ({data:= #[]}) 0 0 0 ({data:= #[]}) 0=(match cl.find? (λc=>decide (c.id=id))with|some c=>kr c.id c.k c.fe c.fr c.sta c.got c.age ak|none=>kr 0 ⟨#[]⟩ 0 0 0 ⟨#[]⟩ 0 aq):=by
 have fin:∀n:aG,(∀j,j<cl.length->(el cl j).id≠id)->l2 N (λCa tD Gg Gh NX TZ Ol On Gi Oo Oq Ot Ms Kr Ks Ts Tt W_ T0=>kr Ms Kr Ks Ts Tt W_ T0 tD) (λy38 y39 y40 y41 Xa Xb NY y45 y46 y47 y48 y49 y50 y51 y52 Xc Xd Xe y56=>kr 0 ({data:= #[]}) 0 0 0 ({data:= #[]}) 0 aq) (n+1) id aq (cl.length:aA) now q1 q2 q3 q4 a5 q6 (rc cl) a8 0 ({data:= #[]}) 0 0 0 ({data:= #[]}) 0=(match cl.find? (λc=>decide (c.id=id))with|some c=>kr c.id c.k c.fe c.fr c.sta c.got c.age ak|none=>kr 0 ⟨#[]⟩ 0 0 0 ⟨#[]⟩ 0 aq):=λn hn=>by
  have:cl.find? (λc=>decide (c.id=id))=none:=by rw[qa];intro x hx q;obtain⟨j,hj,rfl⟩:=c9 hx;have:=hn j hj;rw[eQ hj]at this;exact this (b9 q)
  rw[this];simp only[l2,r2,eN,Lib.dB,bu,bm,aC]
 intro d;induction d with
 |zero=>
  intro i n h1 h2 h3 h4;obtain⟨n,rfl⟩:∃k,n=k+1:=⟨n-1,by omega⟩
  have:i=cl.length:=by omega
  subst this;exact fin n h4
 |succ d ih=>
  intro i n h1 h2 h3 h4;obtain⟨n,rfl⟩:∃k,n=k+1:=⟨n-1,by omega⟩
  by_cases hi:i<cl.length
  ·have lL:bM ((i:aA)+1)=((i+1:aG):aA):=dc (by omega) (by omega);by_cases he:(el cl i).id=id
   ·have hf:cl.find? (λc=>decide (c.id=id))=aj (el cl i):=by
     rw[Au];refine⟨aJ he,i,hi,(eQ hi).symm,λj hj=> ?_⟩
     have:=h4 j hj;rw[eQ (by omega:j<cl.length)]at this;rw[aM this];rfl
    rw[hf];have e0:bY (aw (rc cl) i 0)=(el cl i).id:=by rw[Ko hi];rfl
    have e1:bQ (aw (rc cl) i 1)=(el cl i).k:=by rw[Th hi];rfl
    have e2:bY (aw (rc cl) i (1+1))=(el cl i).fe:=by rw[Ti hi];rfl
    have e3:bY (aw (rc cl) i (1+1+1))=(el cl i).fr:=by rw[Tj hi];rfl
    have e4:bY (aw (rc cl) i (1+1+1+1))=(el cl i).sta:=by rw[Tk hi];rfl
    have e5:bQ (aw (rc cl) i (1+1+1+1+1))=(el cl i).got:=by rw[Tl hi];rfl
    have e6:bY (aw (rc cl) i (1+1+1+1+1+1))=(el cl i).age:=by rw[Tm hi];rfl
    simp only[l2,r2,eN,Lib.dB,hi,aR,Lib.cR,aP,ay,Lib.eB,e0,e1,e2,e3,e4,e5,e6,he]
   ·refine Eq.trans ?_ (ih (i+1) n (by omega) hi (by omega) λj hj=> ?_)
    ·have e0:bY (aw (rc cl) i 0)=(el cl i).id:=by rw[Ko hi];rfl
     simp only[l2,r2,eN,Lib.dB,hi,aR,Lib.cR,aP,ay,aC,Lib.eB,e0,he,bm,lL]
    ·by_cases Hh:j=i
     ·subst Hh;exact he
     ·exact h4 j (by omega)
  ·have:i=cl.length:=by omega
   subst this;exact fin n h4
theorem ok(id now:aA)(q1 q2 q3 q4:aX)(a5:aA)(q6:aX)(cl:az Cl)(a8:aA)(hl:cl.length<=1000):c now q1 q2 q3 q4 a5 q6 (rc cl) a8 id=ak/\v now q1 q2 q3 q4 a5 q6 (rc cl) a8 id=ans (cl.find? λc=>decide (c.id=id)):=by
 refine out _ _ _ _ _ _ _ _ _ _ ?_;unfold vo;generalize hN:Lib.c7=N;have hN1:cl.length<N:=by rw[<-hN];exact cT (by omega)
 clear hN;unfold b;refine(walk N _ id now q1 q2 q3 q4 a5 q6 cl a8 hl cl.length 0 N (by omega) (bK _) hN1 (λj hj=>cq hj (B4 j))).trans ?_;cases cl.find? λc=>decide (c.id=id)<;>rfl
end xP

namespace tL
open Lib (rr rs re rf rc Px)
open p8 (iX)
theorem ok(p:Px)(f:aA)(hp:p.Fit 1048576):c p.now (re p.en) (rs p.w) (rs p.m) (rr p.s) p.a (rf p.fe) (rc p.cl) p.hits f=ak/\v p.now (re p.en) (rs p.w) (rs p.m) (rr p.s) p.a (rf p.fe) (rc p.cl) p.hits f=(iX p&&decide (0<=f/\f<=(p.fe.length:aA)-1)):=by have h:=ED.ok p hp;have hf:=hp.fe;refine out _ _ _ _ _ _ _ _ _ _ ?_;unfold vo b;rw[h.1,h.2,ay,dI,dc (x:=(p.fe.length:aA)-1) (by omega) (by omega),show oe.v f 0 ((p.fe.length:aA)-1)=decide (0<=f/\f<=(p.fe.length:aA)-1)from fg.eM _ _ _];cases iX p<;>rfl
end tL

namespace Ov
theorem put(s:aA)(t q:au)(ht:(t.size:aA)<=400)(hs:1<=s/\s<=3):Cg.v s t [] q=bif decide (s=1)&&(decide (1<=q.size/\q.size<=40)&&decide (t.size+q.size<=400))then(s,t++q,[],ak)else(s,t,[],aq):=by
 unfold Cg.v;have b8:kY.v s t []=true:=by unfold kY.v kY.rest;rw[aJ hs,aJ (show t.size<=400 by omega)];rfl
 by_cases h1:s=1
 ·by_cases h2:1<=q.size/\q.size<=40
  ·by_cases h3:t.size+q.size<=400
   ·rw[bC ⟨b8,h1,h2.1,h2.2,h3⟩,aJ h1,aJ h2,aJ h3];rfl
   ·rw[bL (by omega),aM h3];simp
  ·rw[bL (by omega),aM h2];simp
 ·rw[bL (by simp[h1]),aM h1];rfl
end Ov

namespace zj
open Lib (rr rs re rf rc Px Cl el)
open rW (ec j7 kK)
theorem ok(p:Px)(f:aG)(hf:f<p.fe.length)(hl:p.fe.length<=2097152)(hc:p.cl.length<=2097152):
  c p.now (re p.en) (rs p.w) (rs p.m) (rr p.s) p.a (rf p.fe) (rc p.cl) p.hits (f:aA)=ak/\v p.now (re p.en) (rs p.w) (rs p.m) (rr p.s) p.a (rf p.fe) (rc p.cl) p.hits (f:aA)=(p.now,re p.en,rs p.w,rs p.m,rr p.s,p.a,rf p.fe,rc (j7 p.cl f 1 (el p.fe f).t),p.hits):=by
 refine out _ _ _ _ _ _ _ _ _ _ ?_;unfold vo b;rw[eN];have key:=oa Cl.row p.cl (λ_ c=>ec f 1 (el p.fe f).t c) (λn (i:aG) x=>l1 Lib.c7 (λ(_ _ _ W9 Tq FN:aA) (FP Ca tD Gg Gh NX:aX)=>aj (W9,Ca,tD,Gg,Gh,Tq,NX,FP,FN)) n (f:aA) (p.cl.length:aA) (i:aA) p.now p.a p.hits x (re p.en) (rs p.w) (rs p.m) (rr p.s) (rf p.fe)) (λx=>aj (p.now,re p.en,rs p.w,rs p.m,rr p.s,p.a,rf p.fe,x,p.hits)) (λn i L h h2 hL uT=> ?_) (λn L hL=> ?_) Lib.c7 (cT (by omega))
 ·rw[kK]at key;exact key
 ·have e2:aw (L.map Cl.row) i (1+1)=CV.i ar p.cl[i].fe:=by rw[e8 _ L i _ h2,uT];rfl
  have e4:aw (L.map Cl.row) i (1+1+1+1)=CV.i ar p.cl[i].sta:=by rw[e8 _ L i _ h2,uT];rfl
  have s1:eh (L.map Cl.row) i 5 [CV.s (el p.fe f).t]=(L.set i {p.cl[i]with got:=(el p.fe f).t}).map Cl.row:=ly Cl.row L i 5 _ _ h2 (by rw[uT];rfl);simp only[l1,r1,Lib.dB,h,h2,hf,bP,cw,aR,Lib.cR,aP,ay,Lib.eB,e2,e4,bY,s1,o7,dI,Ge hf,bQ,Lib.db h (by omega:p.cl.length<=9223372036854775807),dc (x:=(f:aA)+1) (by omega) (by omega)];unfold ec;cases decide (p.cl[i].fe=(f:aA)+1)with
  |false=>rw[pG,aC,aC,<-uT,eT]
  |true=>
   cases hd:decide (p.cl[i].sta=1)with
   |false=>rw[bj,ay,aC,aC,<-uT,eT]
   |true=>have e:=b9 hd;rw[bj,ay,ay,ay];rw[show({p.cl[i]with sta:=1,got:=(el p.fe f).t}:Cl)={p.cl[i]with got:=(el p.fe f).t}by rw[<-e]]
 ·simp only[l1,r1,Lib.dB,bu,bm,aC]
end zj

namespace KX
open Lib (rr rs re rf rc Px el)
open fZ (qZ rF told iv np iD wm)
theorem ok(p:Px)(f:aA)(q:au)(hp:p.Fit 1048576):c p.now (re p.en) (rs p.w) (rs p.m) (rr p.s) p.a (rf p.fe) (rc p.cl) p.hits f q=ak/\v p.now (re p.en) (rs p.w) (rs p.m) (rr p.s) p.a (rf p.fe) (rc p.cl) p.hits f q=(p.now,re p.en,rs p.w,rs p.m,rr p.s,p.a,rf (rF p f q).1.fe,rc (rF p f q).1.cl,p.hits,(rF p f q).2):=by
 have h1:=uO.ok p hp;have h2:=tL.ok p f hp;have hf:=hp.fe;have hc:=hp.cl;refine out _ _ _ _ _ _ _ _ _ _ _ ?_;unfold vo b rF;simp only[Lib.lt,h1.1,h1.2,h2.1,h2.2,ay];unfold qZ;cases b8:p8.iX p&&decide (0<=f/\f<=(p.fe.length:aA)-1)with
 |false=>rw[<-mZ (p8.iX p),b8];rfl
 |true=>
  rw[<-mZ (p8.iX p),b8,bj];rw[aK,bf]at b8;obtain⟨n,rfl⟩:∃n:aG,f=(n:aA):=⟨f.toNat,by omega⟩
  have hn:n<p.fe.length:=by omega
  have wI:=fZ.XX b8.1 n hn;unfold m9.nt at wI;simp only[aK,bf]at wI;have mE:=Ov.put (el p.fe n).sta (el p.fe n).t q wI.2.1 wI.2.2.1;simp only[ba,aC,ay,Lib.cR,Lib.dB,dI,hn,aR,aP,Lib.eB,yD hn,Ge hn,bY,bQ,mE];cases hs:decide ((el p.fe n).sta=1)&&(decide (1<=q.size/\q.size<=40)&&decide ((el p.fe n).t.size+q.size<=400))with
  |false=>rfl
  |true=>
   have e1:=wm p.fe n 1 [CV.s ((el p.fe n).t++q)] {el p.fe n with t:=(el p.fe n).t++q} hn rfl;have Na:n<(p.fe.set n {el p.fe n with t:=(el p.fe n).t++q}).length:=by rw[cw];exact hn
   have h3:=zj.ok {p with fe:=p.fe.set n {el p.fe n with t:=(el p.fe n).t++q}} n Na (by rw[cw];omega) (by dsimp only;omega);dsimp only at h3;rw[iD hn]at h3;simp only[ba,aC,ay,e1,h3.1,h3.2];rfl
end KX

namespace uH
open Lib (rr rs re rf rc Px Cl el)
open rW (ec j7 kK)
theorem ok(p:Px)(f:aG)(st:aA)(hf:f<p.fe.length)(hl:p.fe.length<=2097152)(hc:p.cl.length<=2097152):
  c p.now (re p.en) (rs p.w) (rs p.m) (rr p.s) p.a (rf p.fe) (rc p.cl) p.hits (f:aA) st=ak/\v p.now (re p.en) (rs p.w) (rs p.m) (rr p.s) p.a (rf p.fe) (rc p.cl) p.hits (f:aA) st=(p.now,re p.en,rs p.w,rs p.m,rr p.s,p.a,rf p.fe,rc (j7 p.cl f st (el p.fe f).t),p.hits):=by
 refine out _ _ _ _ _ _ _ _ _ _ _ ?_;unfold vo b;rw[eN];have key:=oa Cl.row p.cl (λ_ c=>ec f st (el p.fe f).t c) (λn (i:aG) x=>l1 Lib.c7 (λ(_ _ _ _ FN FP Ca:aA) (tD Gg Gh NX TZ Ol:aX)=>aj (FN,Gg,Gh,NX,TZ,FP,Ol,tD,Ca)) n (f:aA) st (p.cl.length:aA) (i:aA) p.now p.a p.hits x (re p.en) (rs p.w) (rs p.m) (rr p.s) (rf p.fe)) (λx=>aj (p.now,re p.en,rs p.w,rs p.m,rr p.s,p.a,rf p.fe,x,p.hits)) (λn i L h h2 hL uT=> ?_) (λn L hL=> ?_) Lib.c7 (cT (by omega))
 ·rw[kK]at key;exact key
 ·have e2:aw (L.map Cl.row) i (1+1)=CV.i ar p.cl[i].fe:=by rw[e8 _ L i _ h2,uT];rfl
  have e4:aw (L.map Cl.row) i (1+1+1+1)=CV.i ar p.cl[i].sta:=by rw[e8 _ L i _ h2,uT];rfl
  have s1:eh (L.map Cl.row) i 4 [CV.i ar st]=(L.set i {p.cl[i]with sta:=st}).map Cl.row:=ly Cl.row L i 4 _ _ h2 (by rw[uT];rfl);have h3:i<(L.set i {p.cl[i]with sta:=st}).length:=by simpa using h2
  have s2:eh ((L.set i {p.cl[i]with sta:=st}).map Cl.row) i 5 [CV.s (el p.fe f).t]=((L.set i {p.cl[i]with sta:=st}).set i {p.cl[i]with sta:=st,got:=(el p.fe f).t}).map Cl.row:=ly Cl.row _ i 5 _ _ h3 (by rw[j4];rfl);simp only[l1,r1,Lib.dB,h,h2,hf,bP,cw,aR,Lib.cR,aP,ay,Lib.eB,e2,e4,bY,s1,s2,o7,dI,Ge hf,bQ,Lib.db h (by omega:p.cl.length<=9223372036854775807),dc (x:=(f:aA)+1) (by omega) (by omega)];unfold ec;cases decide (p.cl[i].fe=(f:aA)+1)with
  |false=>rw[pG,aC,aC,<-uT,eT]
  |true=>
   cases decide (p.cl[i].sta=1)with
   |false=>rw[bj,ay,aC,aC,<-uT,eT]
   |true=>rw[bj,ay,ay,ay]
 ·simp only[l1,r1,Lib.dB,bu,bm,aC]
end uH

namespace Ci
open Lib (rr rs re rf rc Px En el)
open gE (So fC ma)
open jR (zb)
theorem ok(p:Px)(e:En)(r6 r7:aX)(hp:p.Fit 1048575)(hso:So p.en)(hk:e.k.size<=140737488355328):
  c p.now (re p.en) (rs p.w) (rs p.m) (rr p.s) p.a r6 r7 p.hits e.k e.st e.li e.bo=ak/\v p.now (re p.en) (rs p.w) (rs p.m) (rr p.s) p.a r6 r7 p.hits e.k e.st e.li e.bo=(p.now,re (zb p e).en,rs (zb p e).w,rs (zb p e).m,rr (zb p e).s,(zb p e).a,r6,r7,p.hits):=by have he:=hp.en;have hw:=hp.w;have hm:=hp.m;obtain⟨b1,b2,b3⟩:=js.Kk p.w p.m p.s p.a e.k;have h1:=MH.ok p.w p.m p.s p.a e.k (by omega) (by omega) ⟨c_ hp.s.1 (by omega),λq hq=>c_ (hp.s.2.1 q hq) (by omega)⟩ hk;refine out _ _ _ _ _ _ _ _ _ _ _ _ _ ?_;unfold vo b zb;generalize js.val p.w p.m p.s p.a e.k=V at h1 b1 b2 b3;obtain⟨W,M,T,A,G⟩:=V;dsimp only at h1 b1 b2⊢;have h2:=B6.ok (re p.en) G (gE.Qd _) (by rw[dQ];omega);rw[gE.EP]at h2;have h3:=uK.ok W M (rr T) A e.k (by omega) (by omega);have hd:=gE.vJ p.en G;have h4:=tP.ok (re (fC p.en G)) e.k e.st e.li e.bo (gE.Bs (hso.drop G)) (by rw[dQ];omega);rw[gE.sL]at h4;simp only[Lib.lt,h1.1,h1.2,h2.1,h2.2,h3.1,h3.2,h4.1,h4.2,ay];cases eS.has W e.k||eS.has M e.k<;>rfl
end Ci

namespace N5
open Lib (rr rs re rf rc Px el)
open fZ (qZ told iv np iD wm)
open p9 (cls l8)
theorem ok(p:Px)(f life:aA)(hp:p.Fit 1048576):c p.now (re p.en) (rs p.w) (rs p.m) (rr p.s) p.a (rf p.fe) (rc p.cl) p.hits f life=ak/\v p.now (re p.en) (rs p.w) (rs p.m) (rr p.s) p.a (rf p.fe) (rc p.cl) p.hits f life=(p.now,re (cls p f life).1.en,rs (cls p f life).1.w,rs (cls p f life).1.m,rr (cls p f life).1.s,(cls p f life).1.a,rf (cls p f life).1.fe,rc (cls p f life).1.cl,p.hits,(cls p f life).2):=by
 have h1:=uO.ok p hp;have h2:=tL.ok p f hp;have hf:=hp.fe;have hc:=hp.cl;refine out _ _ _ _ _ _ _ _ _ _ _ ?_;unfold vo b cls;simp only[Lib.lt,h1.1,h1.2,h2.1,h2.2,ay];unfold qZ;cases b8:p8.iX p&&decide (0<=f/\f<=(p.fe.length:aA)-1)with
 |false=>rw[<-mZ (p8.iX p),b8];rfl
 |true=>
  rw[<-mZ (p8.iX p),b8,bj];rw[aK,bf]at b8;obtain⟨n,rfl⟩:∃n:aG,f=(n:aA):=⟨f.toNat,by omega⟩
  have hn:n<p.fe.length:=by omega
  obtain⟨so,_,_,_,_,_,_,_,_,_,wI⟩:=jR.Fu b8.1;have wI:=wI n hn;unfold m9.nt at wI;rw[aK]at wI;have zw:=js.j_ wI.1;simp only[ba,aC,ay,Lib.cR,Lib.dB,dI,hn,aR,aP,Lib.eB,yD hn,bY];rw[show((el p.fe n).sta !=1)= !decide ((el p.fe n).sta=1)from rfl,show oe.v life 0 999999=decide (0<=life/\life<=999999)from fg.eM _ _ _];cases hs:decide ((el p.fe n).sta=1)with
  |false=>rfl
  |true=>
   cases hl:decide (0<=life/\life<=999999)with
   |false=>rfl
   |true=>
    have e1:=wm p.fe n 2 [CV.i ar 2] {el p.fe n with sta:=2} hn rfl;have n1:n<(p.fe.set n {el p.fe n with sta:=2}).length:=by rw[cw];exact hn
    have e2:=wm (p.fe.set n {el p.fe n with sta:=2}) n 3 [CV.i ar life] {el p.fe n with sta:=2,li:=life} n1 (by rw[iD hn];rfl);rw[o7]at e2;have n2:n<(p.fe.set n {el p.fe n with sta:=2,li:=life}).length:=by rw[cw];exact hn
    have e3:=wm (p.fe.set n {el p.fe n with sta:=2,li:=life}) n 4 [CV.i ar p.now] {el p.fe n with sta:=2,li:=life,st:=p.now} n2 (by rw[iD hn];rfl);rw[o7]at e3;generalize hg:({el p.fe n with sta:=2,li:=life,st:=p.now}:Lib.Fe)=g at e3;have n3:n<(p.fe.set n g).length:=by rw[cw];exact hn
    have h3:=uH.ok {p with fe:=p.fe.set n g} n 2 n3 (by rw[cw];omega) (by dsimp only;omega);dsimp only at h3;rw[iD hn]at h3;have hk:g.k=(el p.fe n).k:=by rw[<-hg]
    have h4:=Ci.ok (told p n g 2) (l8 g) (rf (p.fe.set n g)) (rc (told p n g 2).cl) ((np (jR.iP b8.1)).le (by omega)) so (by show g.k.size<=_;rw[hk];omega);have z0:bQ (aw (rf (p.fe.set n g)) n 0)=g.k:=by rw[Ib n3,iD hn];rfl
    have z1:bQ (aw (rf (p.fe.set n g)) n 1)=g.t:=by rw[Ge n3,iD hn];rfl
    have gl:g.li=life:=by rw[<-hg]
    have gs:g.st=p.now:=by rw[<-hg]
    unfold l8 at h4;dsimp only[told]at h4;rw[gl,gs]at h4;unfold l8 told;simp only[ba,aC,ay,e1,e2,e3,h3.1,h3.2,z0,z1,gl,gs];cases decide (life>0)with
    |true=>simp only[ay,h4.1,h4.2];rfl
    |false=>rfl
end N5

namespace N6
open Lib (rr rs re rf rc Px el)
open fZ (qZ rA told iv np iD wm)
theorem ok(p:Px)(f:aA)(hp:p.Fit 1048576):c p.now (re p.en) (rs p.w) (rs p.m) (rr p.s) p.a (rf p.fe) (rc p.cl) p.hits f=ak/\v p.now (re p.en) (rs p.w) (rs p.m) (rr p.s) p.a (rf p.fe) (rc p.cl) p.hits f=(p.now,re p.en,rs p.w,rs p.m,rr p.s,p.a,rf (rA p f).1.fe,rc (rA p f).1.cl,p.hits,(rA p f).2):=by
 have h1:=uO.ok p hp;have h2:=tL.ok p f hp;have hf:=hp.fe;have hc:=hp.cl;refine out _ _ _ _ _ _ _ _ _ _ ?_;unfold vo b rA;simp only[Lib.lt,h1.1,h1.2,h2.1,h2.2,ay];unfold qZ;cases b8:p8.iX p&&decide (0<=f/\f<=(p.fe.length:aA)-1)with
 |false=>rw[<-mZ,b8];rfl
 |true=>
  rw[<-mZ,b8,bj];rw[aK,bf]at b8;obtain⟨n,rfl⟩:∃n:aG,f=(n:aA):=⟨f.toNat,by omega⟩
  have hn:n<p.fe.length:=by omega
  simp only[ba,aC,ay,Lib.cR,Lib.dB,dI,hn,aR,aP,Lib.eB,yD hn,bY];cases hs:decide ((el p.fe n).sta=1)with
  |false=>rw[show((el p.fe n).sta !=1)= !decide ((el p.fe n).sta=1)from rfl,hs];rfl
  |true=>
   have e1:=wm p.fe n 2 [CV.i ar 3] {el p.fe n with sta:=3} hn rfl;have Na:n<(p.fe.set n {el p.fe n with sta:=3}).length:=by rw[cw];exact hn
   have h3:=uH.ok {p with fe:=p.fe.set n {el p.fe n with sta:=3}} n 3 Na (by rw[cw];omega) (by dsimp only;omega);dsimp only at h3;rw[iD hn]at h3;rw[show((el p.fe n).sta !=1)= !decide ((el p.fe n).sta=1)from rfl,hs];simp only[ba,aC,ay,e1,h3.1,h3.2];rfl
end N6

namespace uJ
open bS (I)
open A_Post (gH)
open jZ (Ev pc)
def Dr(q e w m s fe cl dk cd bd:aX)(x:aA×aA×au×aA×aX×aX×aA×aA×aX×aX×aX×aX×aX×aX×aX×aX×aX):Prop:=
 ∃k id t n a' s',x=(k,id,t,n,[],q,a',s',e,w,m,s,fe,cl,dk,cd,bd)/\I q a'/\pc ⟨k,id,t,n,[]⟩=ak/\k<=6
theorem idA{n:aA}(h0:0<=n)(h1:(0:aA)<3->n<3):0<=n/\n<=30:=by omega
theorem idB{n:aA}(h0:0<=n)(h1:(0:aA)<9->n<9):0<=bM (1+n)/\bM (1+n)<=30:=by rw[dc (x:=1+n) (by omega) (by omega)];omega
theorem idC{l:aX}{n:aA}(hl:∀j,j<l.length->0<=bY (aw l j 0)/\bY (aw l j 0)<=30)(h0:0<=n)(h1:0<(l.length:aA)->n<(l.length:aA))(hp:decide ((l.length:aA)>0)=ak):0<=bY (aw l n.toNat 0)/\bY (aw l n.toNat 0)<=30:=by have:=h1 (b9 hp);exact hl _ (by omega)
theorem tA{t:au}(h:t.size=2):t.size<=60:=by omega
theorem opens{P:R->Prop}(N:aG)(K:aA->aA->aA->aA->aX->aA->aA->aX->aX->aX->aX->aX->aX->aX->aX->aX->aA->aA->aA->aA->aA->au->aA->aA->aA->au->aA->aX->aD R)(x1 x2 x3:aA)(x5:aX)(x6 x7:aA)(x8 x9 x10 x11 Kp x13 x14 x15 x16:aX)(x17 x18 x19 x20 x21:aA)(x22:au)(x23 x24 x25:aA)(x26:au)(x27:aA)(hf:Kp.length<=20)
  (hK:∀l:aX,(∀j,j<l.length->0<=bY (aw l j 0)/\bY (aw l j 0)<=30)->gH (K x1 x2 x3 (Kp.length:aA) x5 x6 x7 x8 x9 x10 x11 Kp x13 x14 x15 x16 x17 x18 x19 x20 x21 x22 x23 x24 x25 x26 x27 l) P):
  ∀(d i n:aG) (l:aX),Kp.length-i<=d->i<=Kp.length->d<n->l.length<=i->(∀j,j<l.length->0<=bY (aw l j 0)/\bY (aw l j 0)<=30)->
   gH (l4 N K n x1 x2 x3 (i:aA) x5 x6 x7 x8 x9 x10 x11 Kp x13 x14 x15 x16 x17 x18 x19 x20 x21 x22 x23 x24 x25 x26 x27 l) P:=by
 have fin:∀(n:aG) (l:aX),(∀j,j<l.length->0<=bY (aw l j 0)/\bY (aw l j 0)<=30)->gH (l4 N K (n+1) x1 x2 x3 (Kp.length:aA) x5 x6 x7 x8 x9 x10 x11 Kp x13 x14 x15 x16 x17 x18 x19 x20 x21 x22 x23 x24 x25 x26 x27 l) P:=λn l hl=>by refine A_Post.eq ?_ (hK l hl);simp only[l4,r4,Lib.dB,bu,bm,aC]
 intro d;induction d with
 |zero=>
  intro i n l h1 h2 h3 h4 h5;obtain⟨n,rfl⟩:∃k,n=k+1:=⟨n-1,by omega⟩
  have:i=Kp.length:=by omega
  subst this;exact fin n l h5
 |succ d ih=>
  intro i n l h1 h2 h3 h4 h5;obtain⟨n,rfl⟩:∃k,n=k+1:=⟨n-1,by omega⟩
  by_cases h:i<Kp.length
  ·have lL:bM ((i:aA)+1)=((i+1:aG):aA):=dc (by omega) (by omega);by_cases hs:bY (aw Kp i 2)=1
   ·have hr:cJ (l.length+(aE (aT [Ck.i ar] 1) 0 [CV.i ar (i:aA)]).length) 8=true:=by rw[il.tq];exact Lib.cy (by omega) (by omega)
    refine A_Post.eq (o':=l4 N K n x1 x2 x3 ((i+1:aG):aA) x5 x6 x7 x8 x9 x10 x11 Kp x13 x14 x15 x16 x17 x18 x19 x20 x21 x22 x23 x24 x25 x26 x27 (l++aE (aT [Ck.i ar] 1) 0 [CV.i ar (i:aA)])) ?_ (ih (i+1) n _ (by omega) h (by omega) (by rw[bO,il.tq];omega) λj hj=> ?_)
    ·simp only[l4,r4,Lib.dB,h,aR,Lib.cR,aP,ay,Lib.eB,hs,hr,lL]
    ·rw[bO,il.tq]at hj;by_cases jC:j<l.length
     ·have:aw (l++aE (aT [Ck.i ar] 1) 0 [CV.i ar (i:aA)]) j 0=aw l j 0:=by unfold aw;rw[cK,cK,dg jC];simp only[cK]
      rw[this];exact h5 j jC
     ·have:aw (l++aE (aT [Ck.i ar] 1) 0 [CV.i ar (i:aA)]) j 0=CV.i ar (i:aA):=by unfold aw;rw[cK,cK,cZ (by omega),show j-l.length=0 by omega];rfl
      rw[this];show 0<=(i:aA)/\(i:aA)<=30;omega
   ·refine A_Post.eq (o':=l4 N K n x1 x2 x3 ((i+1:aG):aA) x5 x6 x7 x8 x9 x10 x11 Kp x13 x14 x15 x16 x17 x18 x19 x20 x21 x22 x23 x24 x25 x26 x27 l) ?_ (ih (i+1) n _ (by omega) h (by omega) (by omega) h5);simp only[l4,r4,Lib.dB,h,aR,Lib.cR,aP,ay,aC,Lib.eB,hs,bm,lL]
  ·have:i=Kp.length:=by omega
   subst this;exact fin n l h5
end uJ

namespace KY
open Lib (re el En)
open dY (Cw)
def res(o:aD En):au×aA×aA×au×aY:=match o with|some e=>(e.k,e.st,e.li,e.bo,ak)|none=>(⟨#[]⟩,0,0,⟨#[]⟩,aq)
theorem ok(now:aA)(en:az En)(q2 q3 q4:aX)(q5:aA)(q6 q7:aX)(q8:aA)(key:au)(hl:en.length<=1048576):c now (re en) q2 q3 q4 q5 q6 q7 q8 key=ak/\v now (re en) q2 q3 q4 q5 q6 q7 q8 key=res (Cw en key):=by
 refine out _ _ _ _ _ _ _ _ _ _ ?_;unfold vo b Cw
 have go:∀(d i n:aG),en.length-i<=d->i<=en.length->d<n->
   l2 Lib.c7 (λ(_:au) (FN:aY) (_ _:aA) (_ _ _ _:aX) (_:aA) (_ _:aX) (_:aA) (Oo:au) (Oq Ot:aA) (Ms:au)=>aj (Oo,Oq,Ot,Ms,FN)) (λ(_:au) (_:aY) (_ _:aA) (_ _ _ _:aX) (_:aA) (_ _:aX) (_:aA) (_:au) (_ _:aA) (_:au)=>aj (({data:= #[]}:au),0,0,({data:= #[]}:au),aq)) n key aq (i:aA) now (re en) q2 q3 q4 q5 q6 q7 q8 ({data:= #[]}) 0 0 ({data:= #[]})=aj (res ((en.drop i).find? λe=>decide (e.k=key))):=by
  intro d
  induction d with
  |zero=>
   intro i n h1 h2 h3;obtain⟨n,rfl⟩:∃n',n=n'+1:=⟨n-1,by omega⟩
   have:i=en.length:=by omega
   subst this;simp only[l2,r2,dQ,Lib.dB,bu,bm,aC,dm];rfl
  |succ d ih=>
   intro i n h1 h2 h3;obtain⟨n,rfl⟩:∃n',n=n'+1:=⟨n-1,by omega⟩
   by_cases hi:i<en.length
   ·rw[dG hi];have g:=ih (i+1) n (by omega) hi (by omega);simp only[l2,r2,dQ,Lib.dB,hi,aR,Lib.cR,aP,ay,Lib.eB,qz hi,tY hi,tZ hi,t_ hi,bQ,bY,Lib.fA,eQ hi,Lib.db hi (by omega:en.length<=9223372036854775807)];cases hk:decide (en[i].k=key)with
    |true=>rw[ay,List.find?_cons_of_pos (p:=λe:En=>decide (e.k=key)) hk];rfl
    |false=>rw[aC,ID (p:=λe:En=>decide (e.k=key)) (by simp[hk])];exact g
   ·have:i=en.length:=by omega
    subst this;simp only[l2,r2,dQ,Lib.dB,bu,bm,aC,dm];rfl
 have:=go en.length 0 Lib.c7 (by omega) (bK _) (cT (by omega));rw[fm]at this;exact this
end KY

namespace Ih
open Lib (rr rs)
open eS (without)
theorem ok(w m:az au)(s:az (az aA))(a:aA)(key:au)(hw:w.length<=1048576)(hm:m.length<=1048576)(hf:iV.n6 s):c (rs w) (rs m) (rr s) a key=ak/\v (rs w) (rs m) (rr s) a key=(rs (without w key),rs (without m key),rr s,a):=by have h1:=nz.ok s a hf;have h2:=oE.ok w key hw;have h3:=oE.ok m key hm;exact out _ _ _ _ _ (by unfold vo b;rw[h1.1,h1.2,h2.1,h2.2,h3.1,h3.2];rfl)
end Ih

namespace Cp
open Lib (re el qz tY tZ t_ En)
open gE (fC)
theorem ok(l:az En)(k:au)(hl:l.length<=2097152):c (re l) k=ak/\v (re l) k=re (fC l k):=by
 refine out _ _ ?_;unfold vo b;have key:=mn l.length (λn (i:aG) (x:aX)=>l3 Lib.c7 (λ(_:aX) (_:au) (_:aA) (y7:aX)=>aj y7) n (re l) k (i:aA) x) (λi=>re (fC (l.take i) k)) (aj (re (fC l k))) (λn i hi=>by
  have hlen:(fC (l.take i) k).length<=i:=by refine c_ (eF ..) ?_;rw[eg];omega
  have e:fC (l.take (i+1)) k=fC (l.take i) k++(bif !decide ((el l i).k=k)then [el l i]else []):=by unfold fC;rw[c6 hi,iN,eQ hi];cases hd:decide (l[i].k=k)<;>simp[hd]
  rw[e];simp only[l3,r3,dQ,Lib.dB,hi,aR,Lib.cR,aP,ay,Lib.eB,qz hi,tY hi,tZ hi,t_ hi,bQ,bY,Lib.fA,pe,bw,Lib.db hi (by omega:l.length<=9223372036854775807)];rw[Lib.cy (by omega) (by omega),ay];cases decide ((el l i).k=k)with
  |true=>rw[ba,aC,aC,di]
  |false=>rw[bX,ay,ay];unfold Lib.re;rw[dh];rfl) (λn=>by
  simp only[l3,r3,dQ,Lib.dB,bu,bm,aC,fD]) Lib.c7 0 (bK _) (cT (by omega))
 exact key
end Cp

namespace ud
open Lib (rc el Cl)
open dY (jn)
theorem tail(l:az Cl)(x:Cl)(hl:l.length<=1048576)(c0:az Cl)(hc:c0.length<=1048577):
  l9 Lib.c7 (λ(_:aX) (_ _:aA) (_:au) (_ _ _:aA) (_:au) (_:aA) (y:aX)=>aj y) Lib.c7 (rc l) 0 x.id x.k x.fe x.fr x.sta x.got x.age (rc c0)=aj (rc (c0++l.filter λy=>decide (y.id>x.id))):=by
 refine Dk l (λy=>decide (y.id>x.id)) (λm (i:aG) acc=>l9 Lib.c7 (λ(_:aX) (_ _:aA) (_:au) (_ _ _:aA) (_:au) (_:aA) (y:aX)=>aj y) m (rc l) (i:aA) x.id x.k x.fe x.fr x.sta x.got x.age (rc acc)) (λacc=>aj (rc acc)) c0
  (λm i acc h ha hp=> ?_) (λm i acc h hp=> ?_) (λm acc=> ?_) Lib.c7 (cT (by omega))
 ·have mD:decide (l[i].id>x.id)=true:=hp;simp only[l9,r9,eN,Lib.dB,h,aR,Lib.cR,aP,ay,Lib.eB,rc0 h,rc1 h,rc2 h,rc3 h,rc4 h,rc5 h,rc6 h,bQ,bY,mD,pe,bw,Lib.db h (by omega:l.length<=9223372036854775807),Lib.cy (n:=acc.length+1) (b:=72) (by omega) (by omega)];unfold Lib.rc;rw[dh];rfl
 ·have mD:decide (l[i].id>x.id)=false:=hp;simp only[l9,r9,eN,Lib.dB,h,aR,Lib.cR,aP,ay,aC,Lib.eB,rc0 h,bY,mD,Lib.db h (by omega:l.length<=9223372036854775807)]
 ·simp only[l9,r9,eN,Lib.dB,bu,bm,aC]
theorem ok(l:az Cl)(x:Cl)(hl:l.length<=1048576):c (rc l) x.id x.k x.fe x.fr x.sta x.got x.age=ak/\v (rc l) x.id x.k x.fe x.fr x.sta x.got x.age=rc (jn l x):=by
 refine out _ _ _ _ _ _ _ _ ?_;unfold vo b
 have key:=Dk l (λy=>decide (y.id<x.id))
  (λm (i:aG) acc=>l3 Lib.c7 (λ(Mr:aX) (_ Oj:aA) (Gf:au) (W8 W9 Tq:aA) (FN:au) (FP:aA) (Ca:aX)=>bif(cJ (bW Ca+bW (aE (aT [Ck.i ar,Ck.s,Ck.i ar,Ck.i ar,Ck.i ar,Ck.s,Ck.i ar] 1) 0 [CV.i ar Oj,CV.s Gf,CV.i ar W8,CV.i ar W9,CV.i ar Tq,CV.s FN,CV.i ar FP])) 72)then(l9 Lib.c7 (λ(_:aX) (_ _:aA) (_:au) (_ _ _:aA) (_:au) (_:aA) (y39:aX)=>aj y39) Lib.c7 Mr 0 Oj Gf W8 W9 Tq FN FP (Ca++aE (aT [Ck.i ar,Ck.s,Ck.i ar,Ck.i ar,Ck.i ar,Ck.s,Ck.i ar] 1) 0 [CV.i ar Oj,CV.s Gf,CV.i ar W8,CV.i ar W9,CV.i ar Tq,CV.s FN,CV.i ar FP]))else(ao)) m (rc l) (i:aA) x.id x.k x.fe x.fr x.sta x.got x.age (rc acc))
  (λacc=>bif cJ (acc.length+1) 72 then l9 Lib.c7 (λ(_:aX) (_ _:aA) (_:au) (_ _ _:aA) (_:au) (_:aA) (y:aX)=>aj y) Lib.c7 (rc l) 0 x.id x.k x.fe x.fr x.sta x.got x.age (rc (acc++[x]))else ao) []
  (λm i acc h ha hp=>by
   have mD:decide (l[i].id<x.id)=true:=hp;have ha:acc.length<=i:=by simpa using ha
   simp only[l3,r3,eN,Lib.dB,h,aR,Lib.cR,aP,ay,Lib.eB,rc0 h,rc1 h,rc2 h,rc3 h,rc4 h,rc5 h,rc6 h,bQ,bY,mD,pe,bw,Lib.db h (by omega:l.length<=9223372036854775807),Lib.cy (n:=acc.length+1) (b:=72) (by omega) (by omega)];unfold Lib.rc;rw[dh];rfl)
  (λm i acc h hp=>by have mD:decide (l[i].id<x.id)=false:=hp;simp only[l3,r3,eN,Lib.dB,h,aR,Lib.cR,aP,ay,aC,Lib.eB,rc0 h,bY,mD,Lib.db h (by omega:l.length<=9223372036854775807)])
  (λm acc=>by simp only[l3,r3,eN,Lib.dB,bu,bm,aC,pe,bw];unfold Lib.rc;rw[dh];rfl) Lib.c7 (cT (by omega))
 refine key.trans ?_;have hf:=eF (λy:Cl=>decide (y.id<x.id)) l;rw[gg,Lib.cy (by omega) (by omega),ay,tail l x hl _ (by simp;omega)];unfold jn;rw[cj]
end ud

namespace U9
open Lib (rr rs re rf rc Px Cl Fe En el)
open eS (without)
open jj (ej)
open p8 (iX)
open m9 (lW)
open dY (X6 n_ put Cw CJ Br jm jn qn tV)
open gE (fC)
open nP (fu mS)
open wG (res zT H3)
theorem find(k0 k1:aA->au->aA->aA->aA->aX->aX->aX->aX->aA->aX->aX->aA->aA->aA->aA->aA->aA->aA->aX->aX->aX->aX->aX->aX->aD R)(cl:az Cl)(hl:cl.length<=1048576)(id:aA)(key:au)(z4 z6:aA)(q7 q8 q9 Ip:aX)(Tv:aA)(RZ:aX)(Tw z15 Ic z17 Mt Mu Mv:aA)(R0 R2 R3 R4 R5 R6:aX):
  (jm cl id=aq->l5 Lib.c7 k0 k1 Lib.c7 id key z4 0 z6 q7 q8 q9 Ip Tv RZ (rc cl) Tw z15 Ic z17 Mt Mu Mv R0 R2 R3 R4 R5 R6=k1 id key z4 (cl.length:aA) z6 q7 q8 q9 Ip Tv RZ (rc cl) Tw z15 Ic z17 Mt Mu Mv R0 R2 R3 R4 R5 R6)/\
  (jm cl id=ak->∃j:aA,l5 Lib.c7 k0 k1 Lib.c7 id key z4 0 z6 q7 q8 q9 Ip Tv RZ (rc cl) Tw z15 Ic z17 Mt Mu Mv R0 R2 R3 R4 R5 R6=k0 id key 1 j z6 q7 q8 q9 Ip Tv RZ (rc cl) Tw Mt Mu Mv Mt Mu Mv R0 R2 R3 R4 R5 R6):=by
 have go:∀(d i n:aG),cl.length-i<=d->i<=cl.length->d<n->
   (((cl.drop i).any λx=>decide (x.id=id))=aq->l5 Lib.c7 k0 k1 n id key z4 (i:aA) z6 q7 q8 q9 Ip Tv RZ (rc cl) Tw z15 Ic z17 Mt Mu Mv R0 R2 R3 R4 R5 R6=k1 id key z4 (cl.length:aA) z6 q7 q8 q9 Ip Tv RZ (rc cl) Tw z15 Ic z17 Mt Mu Mv R0 R2 R3 R4 R5 R6)/\
   (((cl.drop i).any λx=>decide (x.id=id))=ak->∃j:aA,l5 Lib.c7 k0 k1 n id key z4 (i:aA) z6 q7 q8 q9 Ip Tv RZ (rc cl) Tw z15 Ic z17 Mt Mu Mv R0 R2 R3 R4 R5 R6=k0 id key 1 j z6 q7 q8 q9 Ip Tv RZ (rc cl) Tw Mt Mu Mv Mt Mu Mv R0 R2 R3 R4 R5 R6):=by
  intro d
  induction d with
  |zero=>
   intro i n h1 h2 h3;obtain⟨n,rfl⟩:∃n',n=n'+1:=⟨n-1,by omega⟩
   have:i=cl.length:=by omega
   subst this;rw[dm];exact⟨λ_=>by simp only[l5,r5,eN,Lib.dB,bu,bm,aC],λh=>by cases h⟩
  |succ d ih=>
   intro i n h1 h2 h3;obtain⟨n,rfl⟩:∃n',n=n'+1:=⟨n-1,by omega⟩
   by_cases hi:i<cl.length
   ·rw[dG hi,List.any_cons];obtain⟨g1,g2⟩:=ih (i+1) n (by omega) hi (by omega);have e:l5 Lib.c7 k0 k1 (n+1) id key z4 (i:aA) z6 q7 q8 q9 Ip Tv RZ (rc cl) Tw z15 Ic z17 Mt Mu Mv R0 R2 R3 R4 R5 R6=bif decide (cl[i].id=id)then k0 id key 1 (i:aA) z6 q7 q8 q9 Ip Tv RZ (rc cl) Tw Mt Mu Mv Mt Mu Mv R0 R2 R3 R4 R5 R6 else l5 Lib.c7 k0 k1 n id key z4 ((i+1:aG):aA) z6 q7 q8 q9 Ip Tv RZ (rc cl) Tw z15 Ic z17 Mt Mu Mv R0 R2 R3 R4 R5 R6:=by simp only[l5,r5,eN,Lib.dB,hi,aR,Lib.cR,aP,ay,Lib.eB,rc0 hi,bY,Lib.db hi (by omega:cl.length<=9223372036854775807)]
    rw[e];cases hc:decide (cl[i].id=id)with
    |true=>exact⟨λh=>by simp at h,λ_=>⟨i,rfl⟩⟩
    |false=>rw[nK,aC];exact⟨g1,g2⟩
   ·have:i=cl.length:=by omega
    subst this;rw[dm];exact⟨λ_=>by simp only[l5,r5,eN,Lib.dB,bu,bm,aC],λh=>by cases h⟩
 have:=go cl.length 0 Lib.c7 (by omega) (bK _) (cT (by omega));rw[fm]at this;exact this
def sc(key:au):az Fe->aG->aA×au->aA×au
 |[],_,s=>s|x::r,i,s=>sc key r (i+1) (bif Br key x then((i:aA)+1,x.t)else s)
theorem scan(k0:au->aY->aA->aA->aX->aX->aX->aX->aA->aX->aX->aA->aA->aA->aA->aA->aA->aA->aA->au->aA->aA->aA->au->aA->aX->aX->aX->aX->aX->aX->aD R)(fe:az Fe)(hl:fe.length<=1048576)(key:au)(h0:aY)(z84:aA)(q85 q86 q87 q88:aX)(z89:aA)(q91:aX)(z92 z93 z94 z95 z96 z97 z98 z99:aA)(WQ:au)(Xf Xg Xh:aA)(WC WD WE WG WH WI:aX):
  Vp Lib.c7 k0 Lib.c7 key h0 0 z84 q85 q86 q87 q88 z89 (rf fe) q91 z92 z93 z94 z95 z96 z97 z98 z99 WQ 0 Xf Xg ({data:= #[]}) Xh WC WD WE WG WH WI=k0 key h0 (fe.length:aA) z84 q85 q86 q87 q88 z89 (rf fe) q91 z92 z93 z94 z95 z96 z97 z98 z99 WQ (sc key fe 0 (0,⟨#[]⟩)).1 Xf Xg (sc key fe 0 (0,⟨#[]⟩)).2 Xh WC WD WE WG WH WI:=by
 have go:∀(d i n:aG) (s:aA×au),fe.length-i<=d->i<=fe.length->d<n->
   Vp Lib.c7 k0 n key h0 (i:aA) z84 q85 q86 q87 q88 z89 (rf fe) q91 z92 z93 z94 z95 z96 z97 z98 z99 WQ s.1 Xf Xg s.2 Xh WC WD WE WG WH WI=k0 key h0 (fe.length:aA) z84 q85 q86 q87 q88 z89 (rf fe) q91 z92 z93 z94 z95 z96 z97 z98 z99 WQ (sc key (fe.drop i) i s).1 Xf Xg (sc key (fe.drop i) i s).2 Xh WC WD WE WG WH WI:=by
  intro d
  induction d with
  |zero=>
   intro i n s h1 h2 h3;obtain⟨n,rfl⟩:∃n',n=n'+1:=⟨n-1,by omega⟩
   have:i=fe.length:=by omega
   subst this;simp only[Vp,r22,dI,Lib.dB,bu,bm,aC,dm,sc]
  |succ d ih=>
   intro i n s h1 h2 h3;obtain⟨n,rfl⟩:∃n',n=n'+1:=⟨n-1,by omega⟩
   by_cases hi:i<fe.length
   ·rw[dG hi];unfold sc;rw[<-ih (i+1) n _ (by omega) hi (by omega)];have w:=Lib.db hi (by omega:fe.length<=9223372036854775807);have w2:((i+1:aG):aA)=(i:aA)+1:=by omega
    simp only[Vp,r22,dI,Lib.dB,hi,aR,Lib.cR,aP,ay,Lib.eB,Ib hi,Ge hi,yD hi,bQ,bY,Lib.fA,w,eQ hi];unfold Br;cases decide (fe[i].k=key)<;>cases decide (fe[i].sta=1)<;>simp only[ph,Gk,aP,pG,ay,aC,w2]
   ·have:i=fe.length:=by omega
    subst this;simp only[Vp,r22,dI,Lib.dB,bu,bm,aC,dm,sc]
 have:=go fe.length 0 Lib.c7 (0,⟨#[]⟩) (by omega) (bK _) (cT (by omega));rw[fm]at this;exact this
theorem WU(key:au):∀(l:az Fe) (i:aG) (s:aA×au),(∀x∈l,Br key x=aq)->sc key l i s=s:=by
 intro l;induction l with
 |nil=>intro i s _;rfl
 |cons x l ih=>intro i s h;unfold sc;rw[h x (by simp),aC];exact ih _ _ λy hy=>h y (by simp[hy])
theorem acE{fe:az Fe}(hp:fe.Pairwise λf g=>lW g f=aq)(key:au):sc key fe 0 (0,⟨#[]⟩)=match CJ fe key with|some j=>((j:aA)+1,(el fe j).t)|none=>(0,⟨#[]⟩):=by
 have go:∀(l:az Fe) (i:aG),l.Pairwise (λf g=>lW g f=aq)->sc key l i (0,⟨#[]⟩)=match l.findIdx? (Br key)with|some j=>(((i+j:aG):aA)+1,(el l j).t)|none=>(0,⟨#[]⟩):=by
  intro l;induction l with
  |nil=>intro i _;rfl
  |cons x l ih=>
   intro i h;rw[qb]at h;unfold sc;rw[List.findIdx?_cons];cases hq:Br key x with
   |true=>
    have hn:∀y∈l,Br key y=false:=λy hy=>by
     have h2:=h.1 y hy;unfold Br at hq⊢;unfold lW at h2;simp only[aK,bf]at hq;rw[hq.1,hq.2]at h2;simp only[Bool.and_eq_false_iff,gK]at h2⊢;rcases h2 with h2|h2
     ·exact .inr h2
     ·rcases h2 with h2|h2
      ·exact cq trivial h2
      ·exact .inl h2
    rw[ay,WU key l _ _ hn];rfl
   |false=>
    rw[aC,ih (i+1) h.2];cases l.findIdx? (Br key)with
    |none=>rfl
    |some j=>simp only[dj,if_false,iQ,show i+1+j=i+(j+1)by omega];rfl
 have:=go fe 0 hp;unfold CJ;rw[this];cases fe.findIdx? (Br key)with
 |none=>rfl
 |some j=>dsimp only;rw[bT]
theorem ok(p:Px)(id:aA)(key:au)(hp:p.Fit 1048576)(hkz:key.size<=140737488355328):c p.now (re p.en) (rs p.w) (rs p.m) (rr p.s) p.a (rf p.fe) (rc p.cl) p.hits id key=ak/\v p.now (re p.en) (rs p.w) (rs p.m) (rr p.s) p.a (rf p.fe) (rc p.cl) p.hits id key=res (dY.ask p id key):=by
 have h1:=kZ.ok p hp;have h2:=p8.ok p hp;have nh:=hp.cl;have Il:=hp.fe;have hen:=hp.en;have Jw:iV.n6 p.s:=⟨hp.s.1,hp.s.2.1⟩
 refine out _ _ _ _ _ _ _ _ _ _ _ ?_;unfold vo b dY.ask;simp only[Lib.lt,h1.1,h1.2,h2.1,h2.2,ay];cases b8:iX p with
 |false=>rfl
 |true=>
 have ho:fu p:=mS.1 b8;rw[ba,aC,bj,show kG.v id 1 9=decide (1<=id/\id<=9)from fg.eM _ _ _];cases B8:decide (1<=id/\id<=9)with
 |false=>rfl
 |true=>
 rw[ba,aC,bj,show Gx.v key=ej key from fg.eM _ _ _];cases hko:ej key with
 |false=>rfl
 |true=>
 have zw:=js.j_ hko;rw[ba,aC,bj,eN];have hc6:=ho.cll;by_cases h6:p.cl.length=6
 ·rw[aJ (show(p.cl.length:aA)≥6 by omega),ay,aM (show¬p.cl.length<6 by omega),Gk];rfl
 rw[aM (show¬(p.cl.length:aA)≥6 by omega),aC,aJ (show p.cl.length<6 by omega),ph];cases hhi:jm p.cl id with
 |true=>obtain⟨j,hj⟩:=(find _ _ p.cl nh id key 0 p.now (re p.en) (rs p.w) (rs p.m) (rr p.s) p.a (rf p.fe) p.hits 0 0 0 p.now p.a p.hits (re p.en) (rs p.w) (rs p.m) (rr p.s) (rf p.fe) (rc p.cl)).2 hhi;refine hj.trans ?_;rfl
 |false=>
 refine((find _ _ p.cl nh id key 0 p.now (re p.en) (rs p.w) (rs p.m) (rr p.s) p.a (rf p.fe) p.hits 0 0 0 p.now p.a p.hits (re p.en) (rs p.w) (rs p.m) (rr p.s) (rf p.fe) (rc p.cl)).1 hhi).trans ?_;rw[bX,ay];have h4:=KY.ok p.now p.en (rs p.w) (rs p.m) (rr p.s) p.a (rf p.fe) (rc p.cl) p.hits key hen;have h7:=js.ok p.w p.m p.s p.a key hp.w hp.m Jw (by omega);have h8:=fG.ok p.s p.a key Jw (by omega);have h9:=Ih.ok p.w p.m p.s p.a key hp.w hp.m Jw;have N_:=Cp.ok p.en key (by omega);have Hv:=λx:Cl=>ud.ok p.cl x nh;have amK:=ho.hits;have rD:=ho.fl;have wK:=acE ho.ap key;have Hn:cJ (p.fe.length+1) 56=true:=Lib.cy (by omega) (by omega);have dA:∀key:au,bW (aE (aT [Ck.s,Ck.s,Ck.i ar,Ck.i ar,Ck.i ar] 1) 0 [CV.s key,CV.s {data:= #[]},CV.i ar 1,CV.i ar 0,CV.i ar 0])=1:=λ_=>rfl;have TS:(el (p.fe++[qn key]) p.fe.length).t=⟨#[]⟩:=by rw[eQ (by simp),FV (by omega)];simp[qn]
 rw[h4.1,h4.2,ay];cases he:Cw p.en key with
 |some e=>
  have aby:e∈p.en:=FW he;obtain⟨i,hi,hie⟩:=c9 aby;dsimp only[KY.res];rw[ay,<-EF.eq,show IP.v e.k e.st e.li e.bo p.now=tV e p.now from rfl];cases CA:tV e p.now with
  |true=>
   have hw:bM (p.now-e.st)=p.now-e.st:=by have:=zT (p:=p) hi ho;rwa[eQ hi,hie]at this
   have hj:=Hv ⟨id,key,0,e.st,2,e.bo,p.now-e.st⟩;dsimp only at hj;rw[ay,h7.1,h7.2,ay,ay,hw,hj.1,hj.2,ay,ay];unfold res X6;cases hh:decide (p.hits<1000000000)with
   |true=>rw[bf]at hh;rw[ay,dc (by omega) (by omega)];rfl
   |false=>rfl
  |false=>
   rw[aC,aC];refine(scan _ p.fe Il key ak p.now (re p.en) (rs p.w) (rs p.m) (rr p.s) p.a (rc p.cl) p.hits 0 0 0 p.now p.a p.hits id key 0 1 0 (re p.en) (rs p.w) (rs p.m) (rr p.s) (rf p.fe) (rc p.cl)).trans ?_;rw[wK];unfold n_;cases hoi:CJ p.fe key with
   |none=>
    dsimp only;by_cases M4:p.fe.length=20
    ·rw[aM (show¬p.fe.length<20 by omega)];simp only[aR,ay,dI,aJ (show(p.fe.length:aA)≥20 by omega)];rfl
    ·rw[aJ (show p.fe.length<20 by omega)];have hj:=Hv ⟨id,key,(p.fe.length:aA)+1,0,1,⟨#[]⟩,0⟩;dsimp only at hj;have hlen:((p.fe.length+1:aG):aA)=(p.fe.length:aA)+1:=by omega
     simp only[aR,ay,aC,dI,aM (show¬(p.fe.length:aA)≥20 by omega),dA,Hn,N_.1,N_.2,h9.1,h9.2,h8.1,h8.2,H3,bO,bw,hlen,hj.1,hj.2];unfold res put;rw[TS];rfl
   |some j=>dsimp only;have hj:=Hv ⟨id,key,(j:aA)+1,0,1,(el p.fe j).t,0⟩;dsimp only at hj;simp only[aM (show¬(j:aA)+1=0 by omega),ay,aC,N_.1,N_.2,h9.1,h9.2,h8.1,h8.2,hj.1,hj.2];rfl
 |none=>
  dsimp only[KY.res];rw[aC];refine(scan _ p.fe Il key aq p.now (re p.en) (rs p.w) (rs p.m) (rr p.s) p.a (rc p.cl) p.hits 0 0 0 p.now p.a p.hits id key 0 1 0 (re p.en) (rs p.w) (rs p.m) (rr p.s) (rf p.fe) (rc p.cl)).trans ?_;rw[wK];unfold n_;cases hoi:CJ p.fe key with
  |none=>
   dsimp only;by_cases M4:p.fe.length=20
   ·rw[aM (show¬p.fe.length<20 by omega)];simp only[aR,ay,dI,aJ (show(p.fe.length:aA)≥20 by omega)];rfl
   ·rw[aJ (show p.fe.length<20 by omega)];have hj:=Hv ⟨id,key,(p.fe.length:aA)+1,0,1,⟨#[]⟩,0⟩;dsimp only at hj;have hlen:((p.fe.length+1:aG):aA)=(p.fe.length:aA)+1:=by omega
    simp only[aR,ay,aC,dI,aM (show¬(p.fe.length:aA)≥20 by omega),dA,Hn,h8.1,h8.2,H3,bO,bw,hlen,hj.1,hj.2];unfold res put;rw[TS];rfl
  |some j=>dsimp only;have hj:=Hv ⟨id,key,(j:aA)+1,0,1,(el p.fe j).t,0⟩;dsimp only at hj;simp only[aM (show¬(j:aA)+1=0 by omega),ay,aC,h8.1,h8.2,hj.1,hj.2];rfl
end U9

namespace tO
open Lib (rr rs re rf rc Px el)
open p8 (iX)
theorem ok(p:Px)(f:aA)(hp:p.Fit 1048576):c p.now (re p.en) (rs p.w) (rs p.m) (rr p.s) p.a (rf p.fe) (rc p.cl) p.hits f=ak/\v p.now (re p.en) (rs p.w) (rs p.m) (rr p.s) p.a (rf p.fe) (rc p.cl) p.hits f=fZ.qZ p f:=by
 have h:=p8.ok p hp;have hf:=hp.fe;refine out _ _ _ _ _ _ _ _ _ _ ?_;unfold vo b fZ.qZ;rw[h.1,h.2,ay,dI,dc (x:=(p.fe.length:aA)-1) (by omega) (by omega),show kG.v f 0 ((p.fe.length:aA)-1)=decide (0<=f/\f<=(p.fe.length:aA)-1)from fg.eM _ _ _];cases iX p with
 |false=>rfl
 |true=>
  cases hd:decide (0<=f/\f<=(p.fe.length:aA)-1)with
  |false=>rfl
  |true=>
   have:=b9 hd;obtain⟨n,rfl⟩:∃n:aG,f=(n:aA):=⟨f.toNat,by omega⟩
   have hn:n<p.fe.length:=by omega
   simp only[ay,bj,Lib.cR,Lib.dB,hn,aR,aP,Lib.eB,yD hn,bY]
end tO

namespace rL
open Lib (rr rs re rf rc Px Cl el)
open rW (ec j7 kK)
theorem ok(p:Px)(f:aG)(st:aA)(hf:f<p.fe.length)(hl:p.fe.length<=2097152)(hc:p.cl.length<=2097152):
  c p.now (re p.en) (rs p.w) (rs p.m) (rr p.s) p.a (rf p.fe) (rc p.cl) p.hits (f:aA) st=ak/\v p.now (re p.en) (rs p.w) (rs p.m) (rr p.s) p.a (rf p.fe) (rc p.cl) p.hits (f:aA) st=(p.now,re p.en,rs p.w,rs p.m,rr p.s,p.a,rf p.fe,rc (j7 p.cl f st (el p.fe f).t),p.hits):=by
 refine out _ _ _ _ _ _ _ _ _ _ _ ?_;unfold vo b;have key:=oa Cl.row p.cl (λ_ c=>ec f st (el p.fe f).t c) (λn (i:aG) x=>l1 Lib.c7 (λ(_ _ _ W9 Tq FN:aA) (FP Ca tD Gg Gh NX:aX)=>aj (W9,FP,Ca,tD,Gg,Tq,Gh,NX,FN)) n (f:aA) st (i:aA) p.now p.a p.hits (re p.en) (rs p.w) (rs p.m) (rr p.s) (rf p.fe) x) (λx=>aj (p.now,re p.en,rs p.w,rs p.m,rr p.s,p.a,rf p.fe,x,p.hits)) (λn i L h h2 hL uT=> ?_) (λn L hL=> ?_) Lib.c7 (cT (by omega))
 ·rw[kK]at key;exact key
 ·have e2:aw (L.map Cl.row) i 2=CV.i ar p.cl[i].fe:=by rw[e8 _ L i _ h2,uT];rfl
  have e4:aw (L.map Cl.row) i 4=CV.i ar p.cl[i].sta:=by rw[e8 _ L i _ h2,uT];rfl
  have s1:eh (L.map Cl.row) i 5 [CV.s (el p.fe f).t]=(L.set i {p.cl[i]with got:=(el p.fe f).t}).map Cl.row:=ly Cl.row L i 5 _ _ h2 (by rw[uT];rfl);have h3:i<(L.set i {p.cl[i]with got:=(el p.fe f).t}).length:=by simpa using h2
  have s2:eh ((L.set i {p.cl[i]with got:=(el p.fe f).t}).map Cl.row) i 4 [CV.i ar st]=((L.set i {p.cl[i]with got:=(el p.fe f).t}).set i {p.cl[i]with sta:=st,got:=(el p.fe f).t}).map Cl.row:=ly Cl.row _ i 4 _ _ h3 (by rw[j4];rfl);simp only[l1,r1,Lib.dB,h2,hf,bP,cw,aR,Lib.cR,aP,ay,Lib.eB,e2,e4,bY,s1,s2,o7,dI,Ge hf,bQ,Lib.db h (by omega:p.cl.length<=9223372036854775807),dc (x:=(f:aA)+1) (by omega) (by omega)];unfold ec;cases decide (p.cl[i].fe=(f:aA)+1)with
  |false=>rw[pG,aC,aC,<-uT,eT]
  |true=>
   cases decide (p.cl[i].sta=1)with
   |false=>rw[bj,ay,aC,aC,<-uT,eT]
   |true=>rw[bj,ay,ay,ay]
 ·simp only[l1,r1,bP,hL,Lib.dB,bu,bm,aC]
end rL

namespace TJ
open Lib (rr rs re rf rc Px el)
open fZ (qZ rF told iv np iD wm)
theorem ok(p:Px)(f:aA)(q:au)(hp:p.Fit 1048576):c p.now (re p.en) (rs p.w) (rs p.m) (rr p.s) p.a (rf p.fe) (rc p.cl) p.hits f q=ak/\v p.now (re p.en) (rs p.w) (rs p.m) (rr p.s) p.a (rf p.fe) (rc p.cl) p.hits f q=(p.now,re p.en,rs p.w,rs p.m,rr p.s,p.a,rf (rF p f q).1.fe,rc (rF p f q).1.cl,p.hits,(rF p f q).2):=by
 have h1:=kZ.ok p hp;have h2:=tO.ok p f hp;have hf:=hp.fe;have hc:=hp.cl;refine out _ _ _ _ _ _ _ _ _ _ _ ?_;unfold vo b rF;simp only[Lib.lt,h1.1,h1.2,h2.1,h2.2,ay];cases ho:qZ p f with
 |false=>rfl
 |true=>
  obtain⟨n,rfl,hn,b8,hs1⟩:=iv ho;have wI:=fZ.XX b8 n hn;unfold m9.nt at wI;simp only[aK,bf]at wI;have mE:EB.v 1 (el p.fe n).t [] q=_:=Ov.put 1 (el p.fe n).t q wI.2.1 (by omega);rw[aJ (show(1:aA)=1 from rfl),bj]at mE;simp only[ba,aC,ay,Lib.cR,Lib.dB,dI,hn,aR,aP,Lib.eB,Ge hn,bQ,mE,bj];cases hs:decide (1<=q.size/\q.size<=40)&&decide ((el p.fe n).t.size+q.size<=400)with
  |false=>rfl
  |true=>
   have e1:=wm p.fe n 1 [CV.s ((el p.fe n).t++q)] {el p.fe n with t:=(el p.fe n).t++q} hn rfl;have Na:n<(p.fe.set n {el p.fe n with t:=(el p.fe n).t++q}).length:=by rw[cw];exact hn
   have h3:=rL.ok {p with fe:=p.fe.set n {el p.fe n with t:=(el p.fe n).t++q}} n 1 Na (by rw[cw];omega) (by dsimp only;omega);dsimp only at h3;rw[iD hn]at h3;simp only[ba,aC,ay,e1,h3.1,h3.2];rfl
end TJ

namespace xN
open Lib (rr rs re rf rc Px En el)
open gE (So fC ma)
open jR (zb)
theorem ok(p:Px)(e:En)(r6 r7:aX)(hp:p.Fit 1048575)(hso:So p.en)(hk1:∀x∈p.en,1<=x.k.size)(hk:e.k.size<=140737488355328):
  c p.now (re p.en) (rs p.w) (rs p.m) (rr p.s) p.a r6 r7 p.hits e.k e.st e.li e.bo=ak/\v p.now (re p.en) (rs p.w) (rs p.m) (rr p.s) p.a r6 r7 p.hits e.k e.st e.li e.bo=(p.now,re (zb p e).en,rs (zb p e).w,rs (zb p e).m,rr (zb p e).s,(zb p e).a,r6,r7,p.hits):=by
 have he:=hp.en;have hw:=hp.w;have hm:=hp.m;obtain⟨b1,b2,b3⟩:=js.Kk p.w p.m p.s p.a e.k;have h1:=js.ok p.w p.m p.s p.a e.k (by omega) (by omega) ⟨c_ hp.s.1 (by omega),λq hq=>c_ (hp.s.2.1 q hq) (by omega)⟩ hk;refine out _ _ _ _ _ _ _ _ _ _ _ _ _ ?_;unfold vo b zb;generalize js.val p.w p.m p.s p.a e.k=V at h1 b1 b2 b3;obtain⟨W,M,T,A,G⟩:=V;dsimp only at h1 b1 b2⊢;have h2:=Cp.ok p.en G (by omega);have h3:=sa.ok W M (rr T) A e.k (by omega) (by omega);have hd:=gE.vJ p.en G;have h4:=fH.ok (re (fC p.en G)) e.k e.st e.li e.bo (by rw[dQ];omega);rw[gE.sL]at h4;simp only[Lib.lt,h1.1,h1.2,h2.1,h2.2,h3.1,h3.2,h4.1,h4.2,ay,Lib.fA];by_cases hG:G=⟨#[]⟩
 ·subst hG;rw[gE.drop_nil hk1]at h4⊢;rw[aJ rfl];simp only[ba,aC,h4.1,h4.2,ay];cases eS.has W e.k||eS.has M e.k<;>rfl
 ·rw[aM hG];simp only[bX,ay];cases eS.has W e.k||eS.has M e.k<;>rfl
end xN

namespace TK
open Lib (rr rs re rf rc Px el)
open fZ (qZ told iv np iD wm)
open p9 (cls l8)
theorem ok(p:Px)(f life:aA)(hp:p.Fit 1048576):c p.now (re p.en) (rs p.w) (rs p.m) (rr p.s) p.a (rf p.fe) (rc p.cl) p.hits f life=ak/\v p.now (re p.en) (rs p.w) (rs p.m) (rr p.s) p.a (rf p.fe) (rc p.cl) p.hits f life=(p.now,re (cls p f life).1.en,rs (cls p f life).1.w,rs (cls p f life).1.m,rr (cls p f life).1.s,(cls p f life).1.a,rf (cls p f life).1.fe,rc (cls p f life).1.cl,p.hits,(cls p f life).2):=by
 have h1:=kZ.ok p hp;have h2:=tO.ok p f hp;have hf:=hp.fe;have hc:=hp.cl;refine out _ _ _ _ _ _ _ _ _ _ _ ?_;unfold vo b cls;simp only[Lib.lt,h1.1,h1.2,h2.1,h2.2,ay];cases ho:qZ p f with
 |false=>rfl
 |true=>
  obtain⟨n,rfl,hn,b8,hs1⟩:=iv ho;obtain⟨so,ks,_,_,_,_,_,_,_,_,wI⟩:=jR.Fu b8;have wI:=wI n hn;unfold m9.nt at wI;rw[aK]at wI;have zw:=js.j_ wI.1;rw[show kG.v life 0 999999=decide (0<=life/\life<=999999)from fg.eM _ _ _];cases hl:decide (0<=life/\life<=999999)with
  |false=>rfl
  |true=>
   generalize hg:({el p.fe n with sta:=2,li:=life,st:=p.now}:Lib.Fe)=g;have hk:g.k=(el p.fe n).k:=by rw[<-hg]
   have ht:g.t=(el p.fe n).t:=by rw[<-hg]
   have gl:g.li=life:=by rw[<-hg]
   have gs:g.st=p.now:=by rw[<-hg]
   have e3:=wm p.fe n 0 [CV.s (el p.fe n).k,CV.s (el p.fe n).t,CV.i ar 2,CV.i ar life,CV.i ar p.now] g hn (by rw[<-hg];rfl);have n3:n<(p.fe.set n g).length:=by rw[cw];exact hn
   have h3:=rL.ok {p with fe:=p.fe.set n g} n 2 n3 (by rw[cw];omega) (by dsimp only;omega);dsimp only at h3;rw[iD hn]at h3;have h4:=xN.ok (told p n g 2) (l8 g) (rf (p.fe.set n g)) (rc (told p n g 2).cl) ((np (jR.iP b8)).le (by omega)) so ks (by show g.k.size<=_;rw[hk];omega);unfold l8 at h4;dsimp only[told]at h4;rw[gl,gs,hk,ht]at h4;unfold l8 told;rw[ht]at h3;simp only[ba,aC,ay,Lib.cR,Lib.dB,dI,hn,aR,aP,bj,Lib.eB,Ib hn,Ge hn,W4 hn,TX hn,TY hn,bY,bQ,e3,h3.1,h3.2,gl,gs,hk,ht];cases decide (life>0)with
   |true=>simp only[ay,h4.1,h4.2];subst hg;rfl
   |false=>subst hg;rfl
end TK

namespace Co
theorem ok(k:au)(s l:aA)(b0:au):c k s l b0=ak/\v k s l b0=jF.val k s l b0:=by
 refine out k s l b0 ?_;have hf:=fP.ok (jN.v k s l b0).1;unfold vo b jF.val;rw[hf.1,hf.2];unfold jN.v fP.val;by_cases h:iL.v k s l b0=ak
 ·have h1:=ix.wx h;have h2:=ix.FK h;rw[bC h,bC h,bC (by dsimp only;omega)];rfl
 ·rw[bL h,bL h];rfl
end Co

namespace kF
open Lib (rd el Fi)
open eC (put)
theorem tail(l:az Fi)(n t:au)(k:aA)(hl:l.length<=1000000)(c0:az Fi)(hc:c0.length<=1000001):
  l9 Lib.c7 (λ(_:aA) (_:aX) (_ _:au) (_:aA) (y:aX)=>aj y) Lib.c7 0 (rd l) n t k (rd c0)=aj (rd (c0++l.filter λx=> !(gE.fO x.n n||decide (x.n=n)))):=by
 refine Dk l (λx=> !(gE.fO x.n n||decide (x.n=n))) (λm (i:aG) acc=>l9 Lib.c7 (λ(_:aA) (_:aX) (_ _:au) (_:aA) (y:aX)=>aj y) m (i:aA) (rd l) n t k (rd acc)) (λacc=>aj (rd acc)) c0
  (λm i acc h ha hp=> ?_) (λm i acc h hp=> ?_) (λm acc=> ?_) Lib.c7 (cT (by omega))
 ·have mD:(!(cf (aL l[i].n) (aL n)||decide (l[i].n=n)))=true:=hp;simp only[l9,r9,gm,Lib.dB,h,aR,Lib.cR,aP,ay,Lib.eB,J0 h,Zo h,Zp h,bQ,bY,Lib.fA,mD,pe,bw,Lib.db h (by omega:l.length<=9223372036854775807),Lib.cy (n:=acc.length+1) (b:=40) (by omega) (by omega)];unfold Lib.rd;rw[dh];rfl
 ·have mD:(!(cf (aL l[i].n) (aL n)||decide (l[i].n=n)))=false:=hp;simp only[l9,r9,gm,Lib.dB,h,aR,Lib.cR,aP,ay,aC,Lib.eB,J0 h,bQ,Lib.fA,mD,Lib.db h (by omega:l.length<=9223372036854775807)]
 ·simp only[l9,r9,gm,Lib.dB,bu,bm,aC]
theorem ok(l:az Fi)(n t:au)(k:aA)(hl:l.length<=1000000):c (rd l) n t k=ak/\v (rd l) n t k=rd (put l ⟨n,t,k⟩):=by
 refine out _ _ _ _ ?_;unfold vo b
 have key:=Lk l (λx=>gE.fO x.n n)
  (λm (i:aG)=>l3 Lib.c7 (λ(_:aA) (y41:aX) (Xa Xb:au) (NY:aA)=>l9 Lib.c7 (λ(_:aA) (_:aX) (_ _:au) (_:aA) (y50:aX)=>aj y50) Lib.c7 0 y41 Xa Xb NY ([]++aE (aT [Ck.s,Ck.s,Ck.i ar] 1) 0 [CV.s Xa,CV.s Xb,CV.i ar NY])) (λ(_:aA) (y52:aX) (Xc Xd:au) (Xe:aA) (y56:aX)=>bif(cJ (bW y56+bW (aE (aT [Ck.s,Ck.s,Ck.i ar] 1) 0 [CV.s Xc,CV.s Xd,CV.i ar Xe])) 40)then(l9 Lib.c7 (λ(_:aA) (_:aX) (_ _:au) (_:aA) (y62:aX)=>aj y62) Lib.c7 0 y52 Xc Xd Xe (y56++aE (aT [Ck.s,Ck.s,Ck.i ar] 1) 0 [CV.s Xc,CV.s Xd,CV.i ar Xe]))else(ao)) m (i:aA) (rd l) n t k)
  (λm (i:aG) acc=>tW Lib.c7 (λ(_:aA) (y41:aX) (Xa Xb:au) (NY:aA)=>l9 Lib.c7 (λ(_:aA) (_:aX) (_ _:au) (_:aA) (y50:aX)=>aj y50) Lib.c7 0 y41 Xa Xb NY ([]++aE (aT [Ck.s,Ck.s,Ck.i ar] 1) 0 [CV.s Xa,CV.s Xb,CV.i ar NY])) (λ(_:aA) (y52:aX) (Xc Xd:au) (Xe:aA) (y56:aX)=>bif(cJ (bW y56+bW (aE (aT [Ck.s,Ck.s,Ck.i ar] 1) 0 [CV.s Xc,CV.s Xd,CV.i ar Xe])) 40)then(l9 Lib.c7 (λ(_:aA) (_:aX) (_ _:au) (_:aA) (y62:aX)=>aj y62) Lib.c7 0 y52 Xc Xd Xe (y56++aE (aT [Ck.s,Ck.s,Ck.i ar] 1) 0 [CV.s Xc,CV.s Xd,CV.i ar Xe]))else(ao)) m (i:aA) (rd l) n t k (rd acc))
  (λacc=>bif cJ (acc.length+1) 40 then l9 Lib.c7 (λ(_:aA) (_:aX) (_ _:au) (_:aA) (y:aX)=>aj y) Lib.c7 0 (rd l) n t k (rd (acc++[⟨n,t,k⟩]))else ao)
  (λm i h hp=>by have mD:cf (aL l[i].n) (aL n)=true:=hp;simp only[l3,r3,gm,Lib.dB,h,aR,Lib.cR,aP,ay,Lib.eB,J0 h,Zo h,Zp h,bQ,bY,mD,pe,Lib.db h (by omega:l.length<=9223372036854775807)];rfl)
  (λm i h hp=>by have mD:cf (aL l[i].n) (aL n)=false:=hp;simp only[l3,r3,gm,Lib.dB,h,aR,Lib.cR,aP,ay,aC,Lib.eB,J0 h,bQ,mD,Lib.db h (by omega:l.length<=9223372036854775807)])
  (λm=>by simp only[l3,r3,gm,Lib.dB,bu,bm,aC];rw[Lib.cy (by simp) (by simp),ay];rfl)
  (λm i acc h ha hp=>by have mD:cf (aL l[i].n) (aL n)=true:=hp;simp only[tW,z7,gm,Lib.dB,h,aR,Lib.cR,aP,ay,Lib.eB,J0 h,Zo h,Zp h,bQ,bY,mD,pe,bw,Lib.db h (by omega:l.length<=9223372036854775807),Lib.cy (n:=acc.length+1) (b:=40) (by omega) (by omega)];unfold Lib.rd;rw[dh];rfl)
  (λm i acc h hp=>by have mD:cf (aL l[i].n) (aL n)=false:=hp;simp only[tW,z7,gm,Lib.dB,h,aR,Lib.cR,aP,ay,aC,Lib.eB,J0 h,bQ,mD,Lib.db h (by omega:l.length<=9223372036854775807)])
  (λm acc=>by simp only[tW,z7,gm,Lib.dB,bu,bm,aC,pe,bw];unfold Lib.rd;rw[dh];rfl) Lib.c7 (cT (by omega))
 refine key.trans ?_;have hf:=eF (λx:Fi=>gE.fO x.n n) l;rw[Lib.cy (by omega) (by omega),ay,tail l n t k hl _ (by simp;omega)];unfold put;rw[cj]
end kF

namespace lZ
open Lib (rd el Fi)
open eC (without)
theorem ok(l:az Fi)(n:au)(hl:l.length<=1000000):c (rd l) n=ak/\v (rd l) n=rd (without l n):=by
 refine out _ _ ?_;unfold vo b
 have key:=Lk l (λx=> !decide (x.n=n))
  (λm (i:aG)=>l3 Lib.c7 (λ(_:au) (_:aA) (_:aX)=>aj ([]:aX)) (λ(_:au) (_:aA) (_:aX) (tD:aX)=>aj tD) m n (i:aA) (rd l))
  (λm (i:aG) acc=>tW Lib.c7 (λ(_:au) (_:aA) (_:aX)=>aj ([]:aX)) (λ(_:au) (_:aA) (_:aX) (tD:aX)=>aj tD) m n (i:aA) (rd l) (rd acc)) (λacc=>aj (rd acc))
  (λm i h hp=>by simp only[l3,r3,gm,Lib.dB,h,aR,Lib.cR,aP,ay,Lib.eB,J0 h,Zo h,Zp h,bQ,bY,Lib.fA,hp,pe,Lib.db h (by omega:l.length<=9223372036854775807)];rfl)
  (λm i h hp=>by simp only[l3,r3,gm,Lib.dB,h,aR,Lib.cR,aP,ay,aC,Lib.eB,J0 h,bQ,Lib.fA,hp,Lib.db h (by omega:l.length<=9223372036854775807)])
  (λm=>by simp only[l3,r3,gm,Lib.dB,bu,bm,aC];rfl)
  (λm i acc h ha hp=>by simp only[tW,z7,gm,Lib.dB,h,aR,Lib.cR,aP,ay,Lib.eB,J0 h,Zo h,Zp h,bQ,bY,Lib.fA,hp,pe,bw,Lib.db h (by omega:l.length<=9223372036854775807),Lib.cy (n:=acc.length+1) (b:=40) (by omega) (by omega)];unfold Lib.rd;rw[dh];rfl)
  (λm i acc h hp=>by simp only[tW,z7,gm,Lib.dB,h,aR,Lib.cR,aP,ay,aC,Lib.eB,J0 h,bQ,Lib.fA,hp,Lib.db h (by omega:l.length<=9223372036854775807)])
  (λm acc=>by simp only[tW,z7,gm,Lib.dB,bu,bm,aC]) Lib.c7 (cT (by omega))
 exact key
end lZ

namespace AD
open Lib (rd el Fi)
open eC (without put SoD u6 act Gb kM)
open kl (res)
theorem okc(d:az Fi)(h:d.length<=1000000):fw.c (rd d)=ak/\fw.v (rd d)=u6 d:=fw.ok (rd d) (by rw[gm];omega)
theorem nm(n:au):uN.v n=decide (1<=(n.size:aA)/\(n.size:aA)<=8):=fw.mr _ _ _
theorem Rk{l:az Fi}{n t:au}{k:aA}(h:¬(1<=(n.size:aA)/\(n.size:aA)<=8)):u6 (put l ⟨n,t,k⟩)=false:=by
 cases hk:u6 (put l ⟨n,t,k⟩)with
 |false=>rfl
 |true=>have:=(kM.1 hk).2.1 ⟨n,t,k⟩ (eC.mW.2 (.inl rfl));unfold eC.nt at this;simp only[aK,bf]at this;exact cq this.1 h
theorem ok(l:az Fi)(k:aA)(n t o:au)(hl:l.length<=1000)(ht:t.size<=2305843009213693952):c (rd l) k n t o=ak/\v (rd l) k n t o=res (act l k n t o):=by
 refine out _ _ _ _ _ ?_;unfold vo b h0;have h1:=jV.ok (rd l) n (by rw[gm];omega);have h2:=okc l (by omega);rw[h2.1,h2.2,ay];unfold act;cases hk:u6 l with
 |false=>rfl
 |true=>
 rw[ba,aC,bj,nm];obtain⟨q1,q2,q3⟩:=kM.1 hk;have rn:∀f∈l,(1<=(f.n.size:aA)/\(f.n.size:aA)<=8)/\(f.t.size:aA)<=20000/\f.kp<=(f.t.size:aA):=λf hf=>by have:=q2 f hf;unfold eC.nt at this;simp only[aK,bf,dD,gK]at this;omega
 by_cases hn:1<=(n.size:aA)/\(n.size:aA)<=8;case neg=>
  rw[aM hn,bX,ay]
  have uV:l.find? (λx=>decide (x.n=n))=none:=by rw[qa];intro x hx;have:=(rn x hx).1;simp only[bf];intro e;rw[e]at this;exact hn this
  cases eC.ld k t o with
  |false=>rfl
  |true=>
   rw[ay];unfold Gb;rw[uV];by_cases k1:k=1
   ·rw[bC k1];dsimp only;rw[Rk hn];rfl
   ·rw[bL k1];rfl
 rw[aJ hn,ba,aC,Lib.fA,Lib.fA,h1.1,h1.2,ay,gm];unfold Lib.lt;by_cases ko:k=3\/o=⟨#[]⟩
 case neg=>
  rw[not_or]at ko
  have:eC.ld k t o=false:=by unfold eC.ld;rw[aM ko.1,aM ko.2];simp
  rw[this,show(k !=3)=ak from bne_iff_ne.2 ko.1,ay,aM ko.2];rfl
 by_cases kt:k=1\/t=⟨#[]⟩
 case neg=>
  rw[not_or]at kt
  have:eC.ld k t o=false:=by unfold eC.ld;rw[aM kt.1,aM kt.2];simp
  rw[this,show(k !=1)=ak from bne_iff_ne.2 kt.1,ay,aM kt.2]
  rcases ko with ko|ko
  ·subst ko;rfl
  ·rw[aJ ko];cases (k !=3)<;>rfl
 have Ya:∀x:aD (aX×aY),(bif k !=3 then(bif !decide (o=⟨#[]⟩)then aj (([]:aX),aq)else(bif k !=1 then(bif !decide (t=⟨#[]⟩)then aj ([],aq)else x)else x))else(bif k !=1 then(bif !decide (t=⟨#[]⟩)then aj ([],aq)else x)else x))=x:=λx=>by
  rcases ko with ko|ko<;>rcases kt with kt|kt
  ·omega
  ·subst ko;rw[aJ kt];rfl
  ·subst kt;rw[aJ ko];rfl
  ·rw[aJ ko,aJ kt];cases (k !=3)<;>cases (k !=1)<;>rfl
 have wp:=λ(m:az Fi) (hml:m.length<=1000) (n t:au) (k:aA)=>kF.ok m n t k (by omega);have wo:=lZ.ok l n (by omega);have wol:=eC.acZ l n;have pl:=λ(m:az Fi) (f:Fi) (hm:m.length<=1000)=>okc (put m f) (c_ (eC.tu f) (by omega));have fin:∀d:az Fi,(bif !u6 d then aj (([]:aX),aq)else aj (rd d,ak))=aj (res (bif u6 d then aj d else ao)):=λd=>by cases u6 d<;>rfl
 by_cases hk4:1<=k/\k<=4;case neg=>
  have ha:eC.ld k t o=false:=by unfold eC.ld;rw[aM hk4];rfl
  rw[ha]
  refine(Ya _).trans ?_
  rcases kl.find l n with ⟨e1,e2⟩|⟨i,hi,e1,e2⟩
  ·rw[e1,aM (show¬k=1 by omega)];rfl
  ·rw[e1];dsimp only;rw[aM (show¬k=1 by omega),aM (show¬k=2 by omega),aM (show¬k=3 by omega),aM (show¬k=4 by omega),aM (show¬((i:aG):aA)<0 by omega),aJ (show((i:aG):aA)≥0 by omega)];simp only[Lib.dB,hi,aR,aP,bj,ay,aC];rfl
 have ha:eC.ld k t o=true:=by unfold eC.ld;rw[aJ hk4,bj,aK,dE,dE,bf,bf,bf,bf];exact⟨kt.symm,ko.symm⟩
 rw[ha,ay];refine(Ya _).trans ?_;unfold Gb;rcases kl.find l n with ⟨e1,e2⟩|⟨i,hi,e1,e2⟩
 ·rw[e1,e2];dsimp only;by_cases k1:k=1
  ·subst k1;have p:=wp l hl n (⟨#[]⟩++t) 0;have d:=pl l ⟨n,⟨#[]⟩++t,0⟩ hl;have et:(⟨#[]⟩:au)++t=t:=o0;rw[show decide ((-1:aA)≥0)=aq from rfl,aC,aJ (show(1:aA)=1 from rfl),ay,aJ (show(⟨#[]⟩:au).size+t.size<=4611686018427387904 from by rw[show(⟨#[]⟩:au).size=0 from rfl];omega),ay,p.1,p.2,ay,d.1,d.2,ay,fin,et];rfl
  ·rw[show decide ((-1:aA)≥0)=aq from rfl,aC,aM k1,aC,bL k1];rfl
 ·have hf:(el l i).n=n:=by have:=List.find?_some e2;exact b9 this
  have wI:=rn _ (oK hi);rw[e1,e2];dsimp only;rw[aM (show¬((i:aG):aA)<0 by omega),aJ (show((i:aG):aA)≥0 by omega),ay];simp only[Lib.dB,hi,aR,Lib.eB,wd0 hi,wd1 hi,wd2 hi,bQ,bY,aP,bj,ay,aC];by_cases k1:k=1
  ·subst k1;have p:=wp l hl (el l i).n ((el l i).t++t) (el l i).kp;have d:=pl l ⟨(el l i).n,(el l i).t++t,(el l i).kp⟩ hl;rw[aJ (show(1:aA)=1 from rfl),ay,aJ (show(el l i).t.size+t.size<=4611686018427387904 by omega),ay,p.1,p.2,ay,d.1,d.2,ay,fin];rfl
  rw[aM k1,aC,bL k1];by_cases k2:k=2
  ·subst k2;have p:=wp l hl (el l i).n (el l i).t ((el l i).t.size:aA);have d:=pl l ⟨(el l i).n,(el l i).t,((el l i).t.size:aA)⟩ hl;rw[aJ (show(2:aA)=2 from rfl),ay,p.1,p.2,ay,d.1,d.2,ay,fin];rfl
  rw[aM k2,aC,bL k2];by_cases k3:k=3
  ·subst k3;rw[aJ (show(3:aA)=3 from rfl),ay,bC rfl];by_cases b1:(el l i).kp=((el l i).t.size:aA)
   ·rw[aM (show¬(el l i).kp<((el l i).t.size:aA)by omega),aC,Lib.fA,nm];by_cases b2:o=n
    ·rw[aJ b2,ay,bC (.inr b2)];rfl
    ·rw[aM b2,aC,bL (by rintro (h|h);exact h b1;exact b2 h)];by_cases b3:1<=(o.size:aA)/\(o.size:aA)<=8
     ·have p:=wp (without l n) (by omega) o (el l i).t (el l i).kp;have d:=pl (without l n) ⟨o,(el l i).t,(el l i).kp⟩ (by omega);rw[aJ b3,ba,aC,wo.1,wo.2,ay,p.1,p.2,ay,d.1,d.2,ay,fin]
     ·rw[aM b3];dsimp only;rw[Rk b3];rfl
   ·rw[aJ (show(el l i).kp<((el l i).t.size:aA)by omega),ay,bC (.inl b1)];rfl
  rw[aM k3,aC,bL k3];have k4:k=4:=by omega
  subst k4;have d:=okc (without l n) (by omega);rw[aJ (show(4:aA)=4 from rfl),ay,wo.1,wo.2,ay,d.1,d.2,ay,fin]
end AD

namespace pN
open Lib (rd el Fi)
open eC (mC act ra Ac wa0 wa1 wa2 wa3 Fv K4)
theorem ok(l:az Fi)(a:az Ac)(hl:l.length<=1000)(ha:a.length<=1000000)(ht:∀x∈a,x.t.size<=2305843009213693952):c (rd l) (ra a)=ak/\v (rd l) (ra a)=(rd (mC l 0 a).1,((mC l 0 a).2:aA)):=by
 refine out _ _ ?_;unfold vo b;rw[Lib.vZ,gm,Lib.cy (by omega) (by omega),ay,show aT [Ck.s,Ck.s,Ck.i ar] 0++rd l=rd l from rfl]
 have key:∀(d i n:aG) (z:aA) (l:az Fi),a.length-i<=d->i<=a.length->l.length<=1000->d<n->
   l3 Lib.c7 (λ(_:aX) (y5 _:aA) (y7:aX)=>aj (y7,y5)) (λ(y8:aX) (_ _:aA) (yE:aX)=>aj (yE,(↑(bW y8):aA))) n (ra a) z (i:aA) (rd l)=aj (rd (mC l i (a.drop i)).1,((mC l i (a.drop i)).2:aA)):=by
  intro d
  induction d with
  |zero=>
   intro i n z l e1 e2 e3 e4;obtain⟨n,rfl⟩:∃n',n=n'+1:=⟨n-1,by omega⟩
   have:i=a.length:=by omega
   subst this;simp only[l3,r3,Lib.dB,bu,bm,aC,Fv,dm,mC]
  |succ d ih=>
   intro i n z l e1 e2 e3 e4;obtain⟨n,rfl⟩:∃n',n=n'+1:=⟨n-1,by omega⟩
   by_cases hi:i<a.length
   ·have hd:=AD.ok l (el a i).k (el a i).n (el a i).t (el a i).o e3 (ht _ (oK hi));simp only[l3,r3,Lib.dB,Fv,hi,aR,Lib.cR,aP,ay,Lib.eB,wa0 hi,wa1 hi,wa2 hi,wa3 hi,bQ,bY,hd.1,hd.2,Lib.db hi (by omega:a.length<=9223372036854775807)];rw[dG hi,<-eQ hi];unfold mC;cases hac:act l (el a i).k (el a i).n (el a i).t (el a i).o with
    |none=>rfl
    |some e=>have:=(K4 hac).2;exact ih (i+1) n z e (by omega) hi (by omega) (by omega)
   ·have:i=a.length:=by omega
    subst this;simp only[l3,r3,Lib.dB,bu,bm,aC,Fv,dm,mC]
 exact key a.length 0 Lib.c7 0 l (by omega) (bK _) hl (cT (by omega))
end pN

namespace Cm
open Lib (rr rs re rf rc rd Px En el Ib Ge TX TY)
open jZ (Wo Ev closed)
open ov (dk es)
open jx (zp)
open il (ri Cq DM iP)
open p9 (cls l8)
theorem ok{i:aG}{w:Wo}(h:zp i w)(hi:i<=71)(k id:aA)(t:au)(nn:aA)(left:aX)(h0:0<=nn):c w.p.now (re w.p.en) (rs w.p.w) (rs w.p.m) (rr w.p.s) w.p.a (rf w.p.fe) (rc w.p.cl) w.p.hits (rd (dk w.o)) (ri w.cd) (re w.bd) k id t nn left=ak/\v w.p.now (re w.p.en) (rs w.p.w) (rs w.p.m) (rr w.p.s) w.p.a (rf w.p.fe) (rc w.p.cl) w.p.hits (rd (dk w.o)) (ri w.cd) (re w.bd) k id t nn left=((closed w id (nn%1000000)).2,Cq (closed w id (nn%1000000)).1):=by
 refine out _ _ _ _ _ _ _ _ _ _ _ _ _ _ _ _ _ ?_;have hl:0<=nn%1000000/\nn%1000000<=999999:=by omega
 have hm:cF nn 1000000=nn%1000000:=rZ h0;have hbd:=h.bd;have Yd:=h.tx hi;have hdl:=ov.Qe w.o;have A:=TK.ok w.p id (nn%1000000) (iP h.px);obtain⟨q1,q2⟩:=jx.I_ (f:=id) h.px hl;obtain⟨s1,s2⟩:=p9.GU (p:=w.p) (f:=id) (life:=nn%1000000);have nD:=iP q1;unfold vo b;rw[hm];generalize nn%1000000=life at*
 rw[A.1,ay,A.2,il.lt_eq];unfold closed Cq;dsimp only;rw[<-s1,<-s2];generalize cls w.p id life=Q at q1 q2 s1 s2 nD;obtain⟨q,ok⟩:=Q;dsimp only at q1 q2 s1 s2 nD⊢;rcases q2 with ⟨r1,r2⟩|⟨r1,n,rn,hn,rf_,rs_,rl⟩
 ·subst r1;rfl
 subst r1;rw[ay,bj];by_cases hz:life=0
 ·rw[aM (show¬life>0 by omega)];rfl
 rw[aJ (show life>0 by omega),ay,ay];obtain⟨t1,t2⟩:=rl (by omega);have Na:n<q.fe.length:=by rw[rf_,cw];exact hn
 have TS:el q.fe n={el w.p.fe n with sta:=2,li:=life,st:=w.p.now}:=by rw[rf_,fZ.iD hn]
 subst rn;rw[dx];have C:=Co.ok (el q.fe n).k (el q.fe n).st (el q.fe n).li (el q.fe n).t;have hE:iL.v (el q.fe n).k (el q.fe n).st (el q.fe n).li (el q.fe n).t=true:=by rw[TS];exact t1
 have CA:=jx.Qr (e:=l8 (el q.fe n)) hE;rw[jF.val,bC hE,show jF.mC (fP.fr (jN.rV (el q.fe n).k (el q.fe n).st (el q.fe n).li (el q.fe n).t))=eC.ra (jY.yV (jY.Jq (l8 (el q.fe n))))from rfl]at C;have D:=pN.ok (dk w.o) (jY.yV (jY.Jq (l8 (el q.fe n)))) (by omega) (by unfold jY.yV;simp) (λx hx=>by
  unfold jY.yV at hx;simp only[cz,jz,or_false]at hx;rcases hx with rfl|rfl
  ·show(jY.Jq (l8 (el q.fe n))).size<=_;omega
  ·exact bK _)
 rw[ov.UA (by omega)]at D;have room:∀y,cJ ((re w.bd).length+(aE (aT [Ck.s,Ck.i ar,Ck.i ar,Ck.s] 1) 0 y).length) 48=true:=λy=>by rw[dQ,il.tq];exact Lib.cy (by omega) (by omega)
 have sn:=DM w.bd (l8 (el q.fe n));unfold l8 at sn C D;dsimp only at sn;have ahe:cJ ((aT [Ck.s,Ck.i ar,Ck.i ar,Ck.s] 0).length+(re w.bd).length) 48=true:=by rw[dQ];exact Lib.cy (by show(0+w.bd.length)*48<=_;omega) (by show 0+w.bd.length<=_;omega)
 simp only[il.lt_eq,il.ap0,ahe,dI,Lib.dB,Na,aR,Lib.cR,aP,ay,Lib.eB,Ib Na,Ge Na,TX Na,TY Na,bQ,bY,C.1,C.2,D.1,D.2,room,sn,show l8 (el q.fe n)=⟨(el q.fe n).k,(el q.fe n).st,(el q.fe n).li,(el q.fe n).t⟩from rfl];rfl
end Cm

namespace TL
open Lib (rr rs re rf rc Px el)
open fZ (qZ rA told iv np iD wm)
theorem ok(p:Px)(f:aA)(hp:p.Fit 1048576):c p.now (re p.en) (rs p.w) (rs p.m) (rr p.s) p.a (rf p.fe) (rc p.cl) p.hits f=ak/\v p.now (re p.en) (rs p.w) (rs p.m) (rr p.s) p.a (rf p.fe) (rc p.cl) p.hits f=(p.now,re p.en,rs p.w,rs p.m,rr p.s,p.a,rf (rA p f).1.fe,rc (rA p f).1.cl,p.hits,(rA p f).2):=by
 have h1:=kZ.ok p hp;have h2:=tO.ok p f hp;have hf:=hp.fe;have hc:=hp.cl;refine out _ _ _ _ _ _ _ _ _ _ ?_;unfold vo b rA;simp only[Lib.lt,h1.1,h1.2,h2.1,h2.2,ay];cases ho:qZ p f with
 |false=>rfl
 |true=>
  obtain⟨n,rfl,hn,_,_⟩:=iv ho;have e1:=wm p.fe n 2 [CV.i ar 3] {el p.fe n with sta:=3} hn rfl;have Na:n<(p.fe.set n {el p.fe n with sta:=3}).length:=by rw[cw];exact hn
  have h3:=rL.ok {p with fe:=p.fe.set n {el p.fe n with sta:=3}} n 3 Na (by rw[cw];omega) (by dsimp only;omega);dsimp only at h3;rw[iD hn]at h3;simp only[ba,aC,ay,Lib.cR,Lib.dB,dI,hn,aR,aP,Lib.eB,e1,h3.1,h3.2];rfl
end TL

namespace vD
open Lib (rd Fi En el wd0 wd1 wd2)
open eC (u6)
open ov (dk es)
open jY (tx base)
theorem one(f:Fi)(left:aX)(h:u6 [f]=ak)(hk:f.kp=(f.t.size:aA)):c (rd [f]) left=ak/\v (rd [f]) left=(rd [f],ak):=by
 have h1:=fw.ok (rd [f]) (by rw[gm];simp);refine out _ _ ?_;unfold vo b;rw[h1.1,ay,h1.2,show fw.val (rd [f])=ak from h,ba,aC];have h0:0<[f].length:=by simp
 have c0:aw (rd [f]) 0 0=CV.s f.n:=wd0 (l:=[f]) h0;have c1:aw (rd [f]) 0 1=CV.s f.t:=wd1 (l:=[f]) h0;have c2:aw (rd [f]) 0 (1+1)=CV.i ar f.kp:=wd2 (l:=[f]) h0;have ib:iO 0 (f.t.size:aA) (f.t.size:aA)=true:=by simp[iO]
 have ex:bR f.t 0 (bc (f.t.size:aA))=f.t:=Lib.Le f.t;have w1:bM (0+1)=1:=rfl;have L:(rd [f]).length=1:=rfl;have step:∀(N m:aG),l5 Lib.c7 (λ_ _ _=>aj (([]:aX),ak)) (λ_ _ _ tD=>aj (tD,ak)) (m+1) left 0 (rd [f])=l5a Lib.c7 (λ_ _ _=>aj (([]:aX),ak)) (λ_ _ _ tD=>aj (tD,ak)) m left 1 (rd [f]) (rd [f]):=by
  intro N m;have t0:bc 0=0:=rfl;simp only[l5,r5,L,t0];generalize bY (aw left 0 0)=z;simp only[c0,c1,c2,bQ,bY,hk,ib,ex,w1];rw[show decide ((0:aA)<((1:aG):aA))=ak from rfl,ay,show(decide ((0:aA)<=0)&&ak)=ak from rfl,ay];have fin:([]++aE (aT [Ck.s,Ck.s,Ck.i ar] 1) 0 [CV.s f.n,CV.s f.t,CV.i ar (f.t.size:aA)]:aX)=rd [f]:=by
   unfold Lib.rd;rw[gg];show [[CV.s f.n,CV.s f.t,CV.i ar (f.t.size:aA)]]=[Fi.row f]
   unfold Fi.row;rw[hk]
  simp only[fin];by_cases hl:(0:aA)<(left.length:aA)
  ·simp only[aJ hl,ay,show decide ((0:aA)<=0)=ak from rfl,aP];by_cases a:z>(f.t.size:aA)
   ·simp only[aJ a,ay,aM (show¬(f.t.size:aA)<(f.t.size:aA)by omega),aC]
   ·by_cases b:z<(f.t.size:aA)
    ·simp only[aM a,aC,aJ b,ay]
    ·have e:z=(f.t.size:aA):=by omega
     simp only[aM a,aC,aM b,e,ib,ex,fin,ay,show decide ((f.t.size:aA)<(f.t.size:aA))=aq from aM (by omega),show decide ((f.t.size:aA)>(f.t.size:aA))=aq from aM (by omega)]
  ·simp only[aM hl,aC,ay,aM (show¬(f.t.size:aA)<(f.t.size:aA)by omega)];try rw[aM (show¬(0:aA)>(f.t.size:aA)by omega),aC]
   by_cases b:(0:aA)<(f.t.size:aA)
   ·rw[aJ b,ay]
   ·rw[aM b,aC];have e:(f.t.size:aA)=0:=by omega
    rw[e]at ex fin;rw[show(0:aA).toNat=0 from rfl]at ex;rw[ex,fin]
 have last:∀(m:aG),l5a Lib.c7 (λ_ _ _=>aj (([]:aX),ak)) (λ_ _ _ tD=>aj (tD,ak)) (m+1) left 1 (rd [f]) (rd [f])=aj (rd [f],ak):=by intro m;simp only[l5a,r5a,L,show decide ((1:aA)<((1:aG):aA))=aq from rfl,aC]
 obtain⟨n,hn⟩:∃n,Lib.c7=n+2:=⟨Lib.c7-2,by have:=cT (n:=2) (by omega);omega⟩
 have key:∀N,N=n+2->l5 Lib.c7 (λ_ _ _=>aj (([]:aX),ak)) (λ_ _ _ tD=>aj (tD,ak)) N left 0 (rd [f])=aj (rd [f],ak):=by rintro N rfl;rw[step Lib.c7 (n+1),last n]
 exact key _ hn
theorem ok{o:aD (az En)}(h:(tx (es o)).size<=20000)(left:aX):c (rd (dk o)) left=ak/\v (rd (dk o)) left=(rd (dk o),ak):=by
 cases o with
 |some l=>exact one _ left (ov.Lb h) rfl
 |none=>
  have hd:u6 []=true:=ov.Lb (o:=ao) h;have h1:=fw.ok (rd []) (by rw[gm];simp);refine out _ _ ?_;unfold vo b;show(bif fw.c (rd [])then bif !fw.v (rd [])then _ else l5 Lib.c7 _ _ Lib.c7 left 0 (rd [])else ao)=_;rw[h1.1,ay,h1.2,show fw.val (rd [])=ak from hd,ba,aC];obtain⟨n,hn⟩:∃n,Lib.c7=n+1:=⟨Lib.c7-1,by have:=cT (n:=1) (by omega);omega⟩
  have key:∀N,N=n+1->l5 Lib.c7 (λ_ _ _=>aj (([]:aX),ak)) (λ_ _ _ tD=>aj (tD,ak)) N left 0 (rd [])=aj (rd [],ak):=by rintro N rfl;rfl
  exact key _ hn
end vD

namespace m_
open Lib (rr rs re rf rc Px En el qz tY tZ t_)
open gU (we tV one Bd HS EY p0)
theorem ok(now:aA)(l:az En)(hl:l.length<=1048576):
  c now (re l)=ak/\v now (re l)=(now,re (we now l).en,rs (we now l).w,rs (we now l).m,rr (we now l).s,(we now l).a,[],[],0):=by
 refine out _ _ ?_;unfold vo b;have key:=mn l.length (λn (i:aG) (p:Px)=>l4 Lib.c7 (λ(_:aA) (_:aX) (_ _ _ _ Gh NX TZ:aA) (Ol On Gi Oo Oq Ot:aX)=>aj (Gh,Ol,On,Gi,Oo,NX,Oq,Ot,TZ)) n now (re l) (i:aA) 0 0 0 now p.a 0 (re p.en) (rs p.w) (rs p.m) (rr p.s) [] []) (λi=>we now (l.take i)) (aj (now,re (we now l).en,rs (we now l).w,rs (we now l).m,rr (we now l).s,(we now l).a,[],[],0)) (λn i hi=>by
  have I:=Bd now l i (by omega);have hs:=HS now l i hi;generalize we now (l.take i)=p at I hs;rw[hs];unfold one;have hw:bM ((i:aA)+1)=((i+1:aG):aA):=Lib.db hi (by omega);have Il:EF.v (el l i).k (el l i).st (el l i).li (el l i).bo now=tV (el l i) now:=(EF.eq _ _ _ _ _).symm;cases hf:tV (el l i) now with
  |false=>
   rw[hf]at Il;cases hq:iL.v (el l i).k (el l i).st (el l i).li (el l i).bo with
   |false=>simp only[l4,r4,dQ,Lib.dB,hi,aR,Lib.cR,aP,ay,Lib.eB,qz hi,tY hi,tZ hi,t_ hi,bQ,bY,hq,aC,hw]
   |true=>simp only[l4,r4,dQ,Lib.dB,hi,aR,Lib.cR,aP,ay,Lib.eB,qz hi,tY hi,tZ hi,t_ hi,bQ,bY,hq,Il,aC,hw]
  |true=>rw[hf]at Il;have hq:=EY hf;have hk:=(iL.Gd hq).1;have h4:=xN.ok p (el l i) [] [] (I.fit (by omega) (by omega)) I.so I.ks (by omega);rw[I.now,I.hits]at h4;simp only[l4,r4,Lib.lt,dQ,Lib.dB,hi,aR,Lib.cR,aP,ay,Lib.eB,qz hi,tY hi,tZ hi,t_ hi,bQ,bY,hq,Il,h4.1,h4.2,hw]) (λn=>by
  simp only[l4,r4,dQ,Lib.dB,bu,bm,aC,fD]) Lib.c7 0 (bK _) (cT (by omega))
 exact key
end m_

namespace vB
open Lib (rr rs re rf rc rd Px En el qz tY tZ t_)
open jZ (Wo Ev ES ng)
open ov (dk es)
open jx (zp)
open il (ri Cq DM iP)
theorem walk(N:aG)(L:az En)(hL:L.length<=1048576)(hN:L.length<N)(K0 K1:aA->aA->aA->aA->aX->aX->aX->aX->aX->aX->aX->aX->aX->aX->aX->aD R)(now a5 a8:aA)(q1 q2 q3 q4 q6 q7 q9 Ip q11:aX):
  l7 N K0 K1 N 0 now a5 a8 (re L) (re []) q1 q2 q3 q4 q6 q7 q9 Ip q11=K0 (L.length:aA) now a5 a8 (re L) (re (L.filter λe=>gU.tV e now)) q1 q2 q3 q4 q6 q7 q9 Ip q11:=by
 have hw:∀i,i<L.length->bM ((i:aA)+1)=((i+1:aG):aA):=λi h=>Lib.db h (by omega)
 have key:=Dk L (λe=>gU.tV e now) (λm (i:aG) acc=>l7 N K0 K1 m (i:aA) now a5 a8 (re L) (re acc) q1 q2 q3 q4 q6 q7 q9 Ip q11) (λacc=>K0 (L.length:aA) now a5 a8 (re L) (re acc) q1 q2 q3 q4 q6 q7 q9 Ip q11) []
  (λm i acc hi ha hp=>by rw[<-eQ hi]at hp⊢;unfold gU.tV at hp;rw[EF.eq]at hp;simp only[l7,r7,dQ,Lib.dB,hi,aR,Lib.cR,aP,ay,Lib.eB,qz hi,tY hi,tZ hi,t_ hi,bQ,bY,hp,hw i hi,il.tq,il.DM];rw[Lib.cy (by simp at ha;omega) (by simp at ha;omega),ay])
  (λm i acc hi hp=>by rw[<-eQ hi]at hp;unfold gU.tV at hp;rw[EF.eq]at hp;simp only[l7,r7,dQ,Lib.dB,hi,aR,Lib.cR,aP,ay,Lib.eB,qz hi,tY hi,tZ hi,t_ hi,bQ,bY,hp,hw i hi,aC])
  (λm acc=>by simp only[l7,r7,dQ,Lib.dB,bu,bm,aC])
  N hN
 exact key
theorem ok{i:aG}{w:Wo}(h:zp i w)(hi:i<=71)(k id:aA)(t:au)(n:aA)(left:aX):c w.p.now (re w.p.en) (rs w.p.w) (rs w.p.m) (rr w.p.s) w.p.a (rf w.p.fe) (rc w.p.cl) w.p.hits (rd (dk w.o)) (ri w.cd) (re w.bd) k id t n left=ak/\v w.p.now (re w.p.en) (rs w.p.w) (rs w.p.m) (rr w.p.s) w.p.a (rf w.p.fe) (rc w.p.cl) w.p.hits (rd (dk w.o)) (ri w.cd) (re w.bd) k id t n left=Cq (ES w):=by
 refine out _ _ _ _ _ _ _ _ _ _ _ _ _ _ _ _ _ ?_;have Yd:=h.tx hi;have hlen:=h.len hi;have hdl:=ov.Qe w.o;have A:=vD.ok (o:=w.o) (by omega) left;have B:=(ov.aeI (o:=w.o) (by omega) h.eo).2;have Im:=jY.Q7 (es w.o);have hf:=jx.Lq h.eo;have Lv:=jx.Ha w;have htf:=jx.aai _ hf;have C:=mB.ok (rd (dk w.o)) (re (ng w)) (by rw[gm];omega) (by rw[dQ];omega);rw[ov.aeH (by omega) hf]at C;have D:=pN.ok (dk w.o) (vg.yM (jY.tx (ng w))) (by omega) (by unfold vg.yM;simp) (λx hx=>by
  unfold vg.yM at hx;simp only[cz,jz,or_false]at hx;rcases hx with rfl|rfl|rfl
  ·show(jY.tx (ng w)).size<=_;omega
  ·exact bK _
  ·exact bK _)
 rw[ov.Uz (by omega) (by omega)]at D;have E:=m_.ok w.p.now (ng w) (by omega);unfold vo;generalize hN:Lib.c7=N;have jD:(jY.kp (es w.o)).length<N:=by rw[<-hN];exact cT (by omega)
 clear hN;unfold b;rw[A.1,ay,A.2,il.lt_eq];rw[show(rd (dk w.o),ak).2=ak from rfl,ay,show(rd (dk w.o),ak).1=rd (dk w.o)from rfl];rw[B.1,ay,B.2,il.lt_eq,show aT [Ck.s,Ck.i ar,Ck.i ar,Ck.s] 0=re []from rfl,walk N (jY.kp (es w.o)) (by omega) jD];have e:((kpp:az En)->kpp=jY.kp (es w.o)->kpp.filter (λe=>gU.tV e w.p.now)=ng w):=λ_ h=>by subst h;rfl
 rw[e _ rfl];simp only[il.lt_eq,C.1,C.2,D.1,D.2,E.1,E.2,ay];have hinv:=gU.Bd w.p.now (ng w) (ng w).length (cu _);rw[fD]at hinv;unfold Cq ES;dsimp only;rw[hinv.now,hinv.fe,hinv.cl,hinv.hits];rfl
end vB

namespace Cj
open Lib (rr rs re rf rc rd Px En el)
open jZ (Wo Ev closed ES ng pc flag)
open ov (dk es)
open jx (zp)
open il (ri Cq DM iP)
theorem fl(b:aY):zo.v b=flag b:=by cases b<;>rfl
theorem left(l:az Lib.Cl)(id:aA):decide ((((l.filter λc=> !decide (c.id=id)).length:aG):aA)<(l.length:aA))=dY.jm l id:=by
 unfold dY.jm;cases h:l.any λx=>decide (x.id=id)with
 |true=>
  obtain⟨x,hx,hp⟩:=List.any_eq_true.1 h;have:(l.filter λc=> !decide (c.id=id)).length<l.length:=by rw[List.length_filter_lt_length_iff_exists];exact⟨x,hx,by simpa using hp⟩
  exact aJ (by omega)
 |false=>
  rw[Aq]at h;have:l.filter (λc=> !decide (c.id=id))=l:=eI.2 λx hx=>by have:=h x hx;simpa using this
  rw[this];exact aM (by omega)
theorem ok{i:aG}{w:Wo}{e:Ev}(h:zp i w)(hi:i<=71)(he:pc e=ak):c w.p.now (re w.p.en) (rs w.p.w) (rs w.p.m) (rr w.p.s) w.p.a (rf w.p.fe) (rc w.p.cl) w.p.hits (rd (dk w.o)) (ri w.cd) (re w.bd) e.k e.id e.t e.n e.l=ak/\v w.p.now (re w.p.en) (rs w.p.w) (rs w.p.m) (rr w.p.s) w.p.a (rf w.p.fe) (rc w.p.cl) w.p.hits (rd (dk w.o)) (ri w.cd) (re w.bd) e.k e.id e.t e.n e.l=((jZ.act w e).2,Cq (jZ.act w e).1):=by
 unfold pc at he;simp only[aK,bf]at he;obtain⟨hk,B8,ht,hn,hl⟩:=he;have hp:=iP h.px;refine out _ _ _ _ _ _ _ _ _ _ _ _ _ _ _ _ _ ?_;unfold vo b jZ.act;by_cases k1:e.k=1
 ·rw[aJ k1,ay];have A:=U9.ok w.p e.id e.t hp (by omega);rw[A.1,ay,A.2,il.lt_eq];try rfl
 rw[aM k1,aC,aC];by_cases k2:e.k=2
 ·rw[aJ k2,ay];have A:=TJ.ok w.p e.id e.t hp;rw[A.1,ay,A.2,il.lt_eq,fl];unfold Cq fZ.rF;cases fZ.qZ w.p e.id&&(decide (1<=e.t.size/\e.t.size<=40)&&decide ((el w.p.fe e.id.toNat).t.size+e.t.size<=400))<;>rfl
 rw[aM k2,aC,aC];by_cases k3:e.k=3
 ·rw[aJ k3,ay];have A:=Cm.ok h hi e.k e.id e.t e.n e.l hn;rw[k3]at A;rw[k3,A.1,ay,A.2,il.lt_eq];try rfl
 rw[aM k3,aC,aC];by_cases k4:e.k=4
 ·rw[aJ k4,ay];have A:=TL.ok w.p e.id hp;rw[A.1,ay,A.2,il.lt_eq,fl];unfold Cq fZ.rA;cases fZ.qZ w.p e.id<;>rfl
 rw[aM k4,aC,aC];by_cases k5:e.k=5
 ·rw[aJ k5,ay];have A:=IL.ok w.p e.n hp;rw[A.1,ay,A.2,il.lt_eq];try rfl
 rw[aM k5,aC,aC];by_cases k6:e.k=6
 ·rw[aJ k6,ay];have A:=Gw.ok w.p e.id hp;rw[A.1,ay,A.2,il.lt_eq,fl];dsimp only;rw[eN,eN,show(Gw.val w.p e.id).cl=w.p.cl.filter (λc=> !decide (c.id=e.id))from rfl,left];try rfl
 rw[aM k6,aC,aC];have k7:e.k=7:=by omega
 rw[aJ k7,ay];have A:=vB.ok h hi e.k e.id e.t e.n e.l;rw[k7]at A;rw[k7,A.1,ay,A.2,il.lt_eq];try rfl
end Cj

namespace xO
open Lib (rr rs re rf rc rd Px En el)
open jZ (Wo Ev closed ES ng pc flag)
open ov (dk es)
open jx (zp)
open il (ri Cq DM iP)
theorem aaL(w:Wo)(e:Ev):(jZ.act w e).1.cd=w.cd:=by
 unfold jZ.act closed;cases decide (e.k=1)<;>cases decide (e.k=2)<;>cases decide (e.k=3)<;>cases decide (e.k=4)<;>cases decide (e.k=5)<;>cases decide (e.k=6)<;>(try rfl)
 all_goals
  dsimp only[ay,aC]
  cases (p9.cls w.p e.id (e.n%1000000)).2&&decide (e.n%1000000>0)<;>rfl
theorem ok{i:aG}{w:Wo}{e:Ev}(h:zp i w)(hi:i<=71)(he:pc e=ak):c w.p.now (re w.p.en) (rs w.p.w) (rs w.p.m) (rr w.p.s) w.p.a (rf w.p.fe) (rc w.p.cl) w.p.hits (rd (dk w.o)) (ri w.cd) (re w.bd) e.k e.id e.t e.n e.l=ak/\v w.p.now (re w.p.en) (rs w.p.w) (rs w.p.m) (rr w.p.s) w.p.a (rf w.p.fe) (rc w.p.cl) w.p.hits (rd (dk w.o)) (ri w.cd) (re w.bd) e.k e.id e.t e.n e.l=Cq (jZ.step w e):=by
 refine out _ _ _ _ _ _ _ _ _ _ _ _ _ _ _ _ _ ?_;have A:=Cj.ok h hi he;have hcd:=h.cd;unfold vo b;rw[A.1,ay,A.2,il.lt_eq];have e1:(Cq (jZ.act w e).1).2.2.2.2.2.2.2.2.2.2.1=ri w.cd:=by unfold Cq;rw[aaL]
 have r1:cJ ((aT [Ck.i ar] 0).length+(ri w.cd).length) 8=true:=by rw[il.gW];exact Lib.cy (by show(0+w.cd.length)*8<=_;omega) (by show 0+w.cd.length<=_;omega)
 have r2:cJ ((ri w.cd).length+(aE (aT [Ck.i ar] 1) 0 [CV.i ar (jZ.act w e).2]).length) 8=true:=by rw[il.gW,il.tq];exact Lib.cy (by omega) (by omega)
 show(bif cJ ((aT [Ck.i ar] 0).length+((Cq (jZ.act w e).1).2.2.2.2.2.2.2.2.2.2.1).length) 8 then _ else ao)=_;simp only[e1,il.ap1,r1,r2,ay,il.ahm];rfl
end xO

namespace Iu
open Lib (rr rs re rf rc rd Px En el)
open jZ (Wo Ev pc)
open ov (dk es)
open jx (zp)
open il (ri Cq)
open T1 (rv run)
open bS (I)
open A_Post (gH)
theorem ids{p:Px}(h:nP.fu p):∀j,j<(rc p.cl).length->0<=bY (aw (rc p.cl) j 0)/\bY (aw (rc p.cl) j 0)<=30:=by
 intro j hj;have Ob:j<p.cl.length:=by rw[eN]at hj;exact hj
 have:=h.cl _ (oK Ob);unfold nP.F8 at this;simp only[aK,bf]at this;rw[show aw (rc p.cl) j 0=CV.i ar (el p.cl j).id from gL _ p.cl j 0 Ob];show 0<=(el p.cl j).id/\(el p.cl j).id<=30;omega
theorem step{α:Type}{i:aG}{w:Wo}{X:aA×aX×aX×aX×aX×aA×aX×aX×aA×aX×aX×aX->aD α}{P:α->Prop}(e:Ev)(h:zp i w)(hi:i<=71)(he:pc e=ak)(hx:gH (X (Cq (jZ.step w e))) P):
  gH (bif xO.c w.p.now (re w.p.en) (rs w.p.w) (rs w.p.m) (rr w.p.s) w.p.a (rf w.p.fe) (rc w.p.cl) w.p.hits (rd (dk w.o)) (ri w.cd) (re w.bd) e.k e.id e.t e.n e.l then Lib.lt (xO.v w.p.now (re w.p.en) (rs w.p.w) (rs w.p.m) (rr w.p.s) w.p.a (rf w.p.fe) (rc w.p.cl) w.p.hits (rd (dk w.o)) (ri w.cd) (re w.bd) e.k e.id e.t e.n e.l) X else ao) P:=
 A_Post.call (xO.ok h hi he).1 (xO.ok h hi he).2 hx
end Iu

namespace Ij
open Lib (rr rs re rf rc rd Px En el)
open jZ (Wo Ev pc)
open ov (dk es)
open jx (zp)
open il (ri Cq)
open nP (fu)
open bS (I)
open A_Post (gH)
end Ij

namespace adL
open bS (I)
open A_Post (gH)
open jZ (Ev pc)
open uJ (idA idB idC tA opens vo b)
def Dr(q e w m s fe cl dk cd bd:aX)(x:aA×aA×au×aA×aX×aX×aA×aA×aX×aX×aX×aX×aX×aX×aX×aX×aX):Prop:=
 ∃k id t n a' s',x=(k,id,t,n,[],q,a',s',e,w,m,s,fe,cl,dk,cd,bd)/\I q a'/\pc ⟨k,id,t,n,[]⟩=ak/\(k=1->t.size=2)
theorem leaf{q e w m s fe cl dk cd bd:aX}{k id:aA}{t:au}{n a' s':aA}(hI:I q a')(hk:1<=k/\k<=6)(B8:0<=id/\id<=30)(ht:t.size<=60)(hn:0<=n)(h1:k=1->t.size=2):gH (aj (k,id,t,n,([]:aX),q,a',s',e,w,m,s,fe,cl,dk,cd,bd)) (Dr q e w m s fe cl dk cd bd):=by
 refine⟨_,rfl,k,id,t,n,a',s',rfl,hI, ?_,h1⟩
 unfold pc;rw[aJ (show 1<=k/\k<=7 by omega),aJ B8,aJ ht,aJ hn];rfl
theorem ne1{k:aA}(h:decide (k=1)=aq)(t:au):k=1->t.size=2:=λe=>cq e (lu h)
theorem ne2{k m:aA}(h:decide (k=m)=ak)(t:au)(hm:m≠1):k=1->t.size=2:=λe=>cq ((b9 h).symm.trans e) hm
set_option maxHeartbeats 8000000 in
theorem body(q:aX)(a s:aA)(now:aA)(en w m sk:aX)(ag:aA)(fe cl:aX)(hits:aA)(dk cd bd:aX)(hI:I q a)(hf:fe.length<=20)(hc:∀j,j<cl.length->0<=bY (aw cl j 0)/\bY (aw cl j 0)<=30):gH (vo q a s now en w m sk ag fe cl hits dk cd bd) (Dr q en w m sk fe cl dk cd bd):=by
 unfold vo;generalize hN:Lib.c7=N;have hN1:20<N:=by rw[<-hN];exact cT (by omega)
 unfold b;refine A_Post.Zl (λn=>1<=n/\n<=6) ⟨by decide,by decide⟩ hI (λkd a1 s1 I1 hk=> ?_);refine opens N _ _ _ _ _ _ _ _ _ _ _ _ _ _ _ _ _ _ _ _ _ _ _ _ _ _ _ hf (λl hl=> ?_) fe.length 0 N _ (by omega) (by omega) (by omega) (bK _) (λj hj=>cq hj (B4 j));dsimp only
 repeat' first
  |refine A_Post.below (by assumption) (λn a s hI h0 h1=> ?_)
  |refine A_Post.once (by assumption) (λn a s hI=> ?_)
  |refine A_Post.key (by assumption) (λn a s hI h0=> ?_)
  |refine A_Post.Zl (λn=>0<=n) ⟨by decide,by decide⟩ (by assumption) (λn a s hI h0=> ?_)
  |refine A_Post.ag9 (λt=>t.size<=60) ⟨by decide,by decide⟩ (by assumption) (λn a s hI h0=> ?_)
  |refine A_Post.ck (A_Post.idx (by assumption) (by assumption) (by assumption)) ?_
  |refine leaf (by assumption) (by first|exact hk|decide) (by first|exact idA (by assumption) (by assumption)|exact idB (by assumption) (by assumption)|exact idC hl (by assumption) (by assumption) (by assumption)|exact idC hc (by assumption) (by assumption) (by assumption)|decide) (by first|exact bK _|assumption|exact tA (by assumption)) (by first|exact Int.le_refl 0|assumption) (by first|exact λ_=>by assumption|exact λe=>cq e (by decide)|exact ne1 (by assumption) _|exact ne2 (m:=2) (by assumption) _ (by decide)|exact ne2 (m:=3) (by assumption) _ (by decide)|exact ne2 (m:=4) (by assumption) _ (by decide)|exact ne2 (m:=5) (by assumption) _ (by decide)|exact ne2 (m:=6) (by assumption) _ (by decide))
  |refine A_Post.br (λh=> ?_) (λh=> ?_)
end adL

namespace IU
theorem ok(q:aX)(hl:q.length<=1048576):∃h,c q=ak/\v q=(q,0,h):=by
 have key:=tf (λn (s:aG×aA)=>l3 Lib.c7 (λ(y3:aX) (y4 _:aA)=>aj (y3,(0:aA),y4)) n q s.2 (s.1:aA)) (λs=>q.length-s.1) (λs=>s.1<=q.length) (λr=>∃h,r=(q,0,h)) (λn s hs=>by
  obtain⟨i,h⟩:=s;dsimp only at hs⊢;by_cases hi:i<q.length
  ·by_cases h4:(i:aA)<4000
   ·right;have lL:bM ((i:aA)+1)=((i+1:aG):aA):=dc (by omega) (by omega)
    have e:∃h',l3 Lib.c7 (λ(y3:aX) (y4 _:aA)=>aj (y3,(0:aA),y4)) (n+1) q h (i:aA)=l3 Lib.c7 (λ(y3:aX) (y4 _:aA)=>aj (y3,(0:aA),y4)) n q h' ((i+1:aG):aA):=
     ⟨_,by simp only[l3,r3,Lib.dB,hi,h4,aR,Lib.cR,aP,ay,Lib.eB,lL];rfl⟩
    obtain⟨h',e⟩:=e;exact⟨(i+1,h'),hi,by dsimp only;omega,e⟩
   ·left;exact⟨_,by simp only[l3,r3,Lib.dB,hi,h4,aR,bm,ay,aC];rfl,_,rfl⟩
  ·left;exact⟨_,by simp only[l3,r3,Lib.dB,hi,bm,aC];rfl,_,rfl⟩) Lib.c7 (0,bM (34901+(q.length:aA))) (bK _) (cT (by omega))
 obtain⟨b',hb,h,rfl⟩:=key;obtain⟨e1,e2⟩:=out q (x:=(q,0,h)) hb;exact⟨h,e1,e2⟩
end IU

namespace B5
open Lib (rr rs re rf rc Px)
open nP (fu)
end B5

namespace adM
open Lib (rr rs re rf rc rd Px En el)
open jZ (Wo Ev pc)
open ov (dk es)
open jx (zp)
open il (ri Cq)
open nP (fu)
open Ou (K2)
open bS (I)
open A_Post (gH)
open Ij (l3 r3)
theorem next{α:Type}{i:aG}{w:Wo}{q:aX}{a s:aA}{X:aA×aA×au×aA×aX×aX×aA×aA×aX×aX×aX×aX×aX×aX×aX×aX×aX->aD α}{P:α->Prop}(h:zp i w)(hI:I q a)
  (hx:∀k id t n a' s',I q a'->pc ⟨k,id,t,n,[]⟩=ak->(k=1->t.size=2)->gH (X (k,id,t,n,[],q,a',s',re w.p.en,rs w.p.w,rs w.p.m,rr w.p.s,rf w.p.fe,rc w.p.cl,rd (dk w.o),ri w.cd,re w.bd)) P):
  gH (bif uJ.c q a s w.p.now (re w.p.en) (rs w.p.w) (rs w.p.m) (rr w.p.s) w.p.a (rf w.p.fe) (rc w.p.cl) w.p.hits (rd (dk w.o)) (ri w.cd) (re w.bd)then Lib.lt (uJ.v q a s w.p.now (re w.p.en) (rs w.p.w) (rs w.p.m) (rr w.p.s) w.p.a (rf w.p.fe) (rc w.p.cl) w.p.hits (rd (dk w.o)) (ri w.cd) (re w.bd)) X else ao) P:=by obtain⟨x,e,k,id,t,n,a',s',rfl,h1,h2,h3⟩:=adL.body q a s w.p.now (re w.p.en) (rs w.p.w) (rs w.p.m) (rr w.p.s) w.p.a (rf w.p.fe) (rc w.p.cl) w.p.hits (rd (dk w.o)) (ri w.cd) (re w.bd) hI (by rw[dI];exact h.px.fl) (Iu.ids h.px);obtain⟨c1,v1⟩:=uJ.out _ _ _ _ _ _ _ _ _ _ _ _ _ _ _ e;exact A_Post.call c1 v1 (hx k id t n a' s' h1 h2 h3)
theorem walk{P:R->Prop}(N:aG)(q:aX)(K:aA->aX->aA->aA->aA->aA->aA->aA->aA->aA->aX->aX->aX->aX->aX->aX->aX->aX->aX->aD R)
  (hK:∀(x:aA) (w:Wo) (a s:aA),fu w.p->K2 w->I q a->gH (K x q a s 0 0 0 w.p.now w.p.a w.p.hits (re w.p.en) (rs w.p.w) (rs w.p.m) (rr w.p.s) (rf w.p.fe) (rc w.p.cl) (rd (dk w.o)) (ri w.cd) (re w.bd)) P):
  ∀(d i n:aG) (w:Wo) (a s:aA),30-i<=d->i<=30->d<n->zp i w->K2 w->I q a->
   gH (l3 N K n (i:aA) q a s 0 0 0 w.p.now w.p.a w.p.hits (re w.p.en) (rs w.p.w) (rs w.p.m) (rr w.p.s) (rf w.p.fe) (rc w.p.cl) (rd (dk w.o)) (ri w.cd) (re w.bd)) P:=by
 intro d;induction d with
 |zero=>
  intro i n w a s h1 h2 h3 h4 hk h5;obtain⟨n,rfl⟩:∃k,n=k+1:=⟨n-1,by omega⟩
  rw[show l3 N K (n+1)=r3 N (l3 N K n) K from rfl];unfold r3;refine A_Post.below h5 (λx a1 s1 I1 g0 g1=> ?_);have:=g1 (by omega);exact A_Post.cn (aM (by dsimp only;omega)) (hK _ w _ _ h4.px hk I1)
 |succ d ih=>
  intro i n w a s h1 h2 h3 h4 hk h5;obtain⟨n,rfl⟩:∃k,n=k+1:=⟨n-1,by omega⟩
  rw[show l3 N K (n+1)=r3 N (l3 N K n) K from rfl];unfold r3;refine A_Post.below h5 (λx a1 s1 I1 g0 g1=> ?_);have:=g1 (by omega);by_cases h:(i:aA)<x
  ·have lL:bM ((i:aA)+1)=((i+1:aG):aA):=dc (by omega) (by omega);refine A_Post.ck (aJ (by dsimp only;omega)) ?_;refine next h4 I1 (λk id t n0 a2 s2 I2 he ht=> ?_)
   refine Iu.step ⟨k,id,t,n0,[]⟩ h4 (by omega) he ?_;have:=ih (i+1) n (jZ.step w ⟨k,id,t,n0,[]⟩) a2 s2 (by omega) (by omega) (by omega) (jx.z_ h4 he) (Ou.acP hk ht) I2;rw[lL];exact this
  ·exact A_Post.cn (aM (by dsimp only;omega)) (hK _ w _ _ h4.px hk I1)
theorem ok(code:aX)(hc:code.length<=1048576):∃w:Wo,fu w.p/\K2 w/\B5.c code=ak/\B5.v code=(w.p.now,re w.p.en,rs w.p.w,rs w.p.m,rr w.p.s,w.p.a,rf w.p.fe,rc w.p.cl,w.p.hits):=by
 obtain⟨h,c0,v0⟩:=IU.ok code hc;have main:gH (Ij.vo code 0 h) (λx=>∃(w:Wo) (a' s':aA),fu w.p/\K2 w/\x=(w.p.now,re w.p.en,rs w.p.w,rs w.p.m,rr w.p.s,w.p.a,rf w.p.fe,rc w.p.cl,w.p.hits,code,a',s')):=by
  unfold Ij.vo;generalize hN:Lib.c7=N;have hN1:30<N:=by rw[<-hN];exact cT (by omega)
  clear hN;unfold Ij.b;exact walk N code _ (λx w a1 s1 h hk I1=>A_Post.ret ⟨w,a1,s1,h,hk,rfl⟩) 30 0 N T1.w0 0 h (cu _) (bK _) hN1 T1.ah3 ⟨λx h=>cq h jz,λx h=>cq h jz,λx h=>cq h jz⟩ ⟨Int.le_refl _,Int.natCast_nonneg _,hc⟩
 obtain⟨x,hx,w,a',s',h1,h2,rfl⟩:=main;obtain⟨c1,v1⟩:=Ij.out _ _ _ hx;obtain⟨c2,v2⟩:=B5.out code (x:=(w.p.now,re w.p.en,rs w.p.w,rs w.p.m,rr w.p.s,w.p.a,rf w.p.fe,rc w.p.cl,w.p.hits)) (by unfold B5.vo B5.b;rw[c0,ay,v0,il.lt_eq,c1,ay,v1,il.lt_eq]);exact⟨w,h1,h2,c2,v2⟩
end adM

namespace N4
theorem ok(q:aX)(hl:q.length<=1048576):∃p,c q=ak/\v q=p/\p.length=12/\∀i,i<12->0<=bY (aw p i 0)/\bY (aw p i 0)<10000:=by
 obtain⟨h,c1,v1⟩:=IU.ok q hl;obtain⟨n0,a0,s0,c0,v0,I0,g0,u0⟩:=bS.ok q 0 h ⟨by omega,by omega,hl⟩;have key:=tf (λn (z:aG×aA×aA×aX)=>l5 Lib.c7 (λ(_:aA) (_:aX) (_ _:aA) (y9:aX)=>aj y9) n (z.1:aA) q z.2.1 z.2.2.1 z.2.2.2) (λz=>12-z.1) (λz=>z.1<=12/\bS.I q z.2.1/\z.2.2.2.length=z.1/\∀i,i<z.1->0<=bY (aw z.2.2.2 i 0)/\bY (aw z.2.2.2 i 0)<10000) (λp=>p.length=12/\∀i,i<12->0<=bY (aw p i 0)/\bY (aw p i 0)<10000) (λn z hz=>by
  obtain⟨i,a,s,p⟩:=z;obtain⟨h1,h2,h3,h4⟩:=hz;dsimp only at h1 h2 h3 h4⊢;by_cases hi:(i:aA)<12
  ·right;have lL:bM ((i:aA)+1)=((i+1:aG):aA):=dc (by omega) (by omega);obtain⟨n1,a1,s1,c1,v1,I1,g1,u1⟩:=gJ.ok q a s 10000 h2;have u1':=u1 (by omega);refine⟨(i+1,a1,s1,p++[[CV.i ar n1]]),⟨by dsimp only;omega,I1,by simp[h3],λj hj=> ?_⟩,by dsimp only;omega, ?_⟩
   ·dsimp only at hj⊢;by_cases Hh:j<i
    ·have:=h4 j Hh;rw[show aw (p++[[CV.i ar n1]]) j 0=aw p j 0 from by unfold aw;congr 1;rw[cK,cK,dg (by omega)]];exact this
    ·have Ob:j=p.length:=by omega
     rw[show aw (p++[[CV.i ar n1]]) j 0=CV.i ar n1 from by rw[uQ p [CV.i ar n1] [] j 0 Ob.symm];rfl];exact⟨g1,u1'⟩
   ·simp only[Lib.lt,l5,r5,c1,v1,lL,aJ hi,ay,Lib.jK,bw,Lib.cy (n:=p.length+1) (b:=8) (by omega) (by omega)]
  ·left;have:i=12:=by omega
   subst this;exact⟨p,by simp only[l5,r5,aM hi,aC],h3,h4⟩) Lib.c7 (0,a0,s0,[]) ⟨by omega,I0,rfl,λi hi=>cq hi (B4 i)⟩ (cT (by dsimp only;omega))
 obtain⟨p,hb,h1,h2⟩:=key;obtain⟨e1,e2⟩:=out q (x:=p) (by unfold vo b;simp only[Lib.lt,c1,v1,c0,v0,ay];exact hb);exact⟨p,e1,e2,h1,h2⟩
end N4

namespace U5
open Lib (rr rs re rf rc Px En Fe Cl el)
open jZ (Wo)
open nP (fu)
open Ou (K2)
open p9 (cls)
open fZ (rA rF)
open A_Post (gH)
open kS (nk t1 t2 t3 mk)
theorem leave{P:R->Prop}(N:aG)(K:aY->aA->aA->aA->aA->aX->aX->aX->aX->aX->aX->aX->aD R)(pl:aX)(hK:∀w:Wo,fu w.p->K2 w->w.p.cl=[]->gH (K aq 10 w.p.now w.p.a w.p.hits pl (re w.p.en) (rs w.p.w) (rs w.p.m) (rr w.p.s) (rf w.p.fe) (rc w.p.cl)) P):
  ∀(d i n:aG) (w:Wo),10-i<=d->1<=i->i<=10->d<n->fu w.p->K2 w->(∀c∈w.p.cl,(i:aA)<=c.id)->
   gH (l6 N K n aq (i:aA) w.p.now w.p.a w.p.hits pl (re w.p.en) (rs w.p.w) (rs w.p.m) (rr w.p.s) (rf w.p.fe) (rc w.p.cl)) P:=by
 have fin:∀(n:aG) (w:Wo),fu w.p->K2 w->(∀c∈w.p.cl,(10:aA)<=c.id)->gH (l6 N K (n+1) aq 10 w.p.now w.p.a w.p.hits pl (re w.p.en) (rs w.p.w) (rs w.p.m) (rr w.p.s) (rf w.p.fe) (rc w.p.cl)) P:=λn w ho h2 hc=>by
  have e:w.p.cl=[]:=by
   cases nh:w.p.cl with
   |nil=>rfl
   |cons c l=>
    have hm:c∈w.p.cl:=by rw[nh];exact du
    have q1:=hc c hm;have q2:=ho.cl c hm;unfold nP.F8 at q2;simp only[aK,bf]at q2;omega
  rw[show l6 N K (n+1)=r6 N (l6 N K n) K from rfl];unfold r6;exact A_Post.cn rfl (hK w ho h2 e)
 intro d;induction d with
 |zero=>
  intro i n w h1 h2 h3 h4 ho hk hc;obtain⟨n,rfl⟩:∃k,n=k+1:=⟨n-1,by omega⟩
  have:i=10:=by omega
  subst this;exact fin n w ho hk hc
 |succ d ih=>
  intro i n w h1 h2 h3 h4 ho hk hc;obtain⟨n,rfl⟩:∃k,n=k+1:=⟨n-1,by omega⟩
  by_cases hi:i=10
  ·subst hi;exact fin n w ho hk hc
  ·have lL:bM ((i:aA)+1)=((i+1:aG):aA):=dc (by omega) (by omega);have A:=FY.ok w.p (i:aA) (il.iP ho);have nx:=ih (i+1) n {w with p:=Gw.val w.p (i:aA)} (by omega) (by omega) (by omega) (by omega) (DQ.Hw _ ho) ⟨hk.en,hk.fe,hk.o⟩ (λc Qy=>by
    obtain⟨q1,q2⟩:=dq.1 (show c∈w.p.cl.filter λc=> !decide (c.id=(i:aA))from Qy);have q3:=hc c q1;have q4:¬c.id=(i:aA):=by simpa using q2
    omega)
   rw[show l6 N K (n+1)=r6 N (l6 N K n) K from rfl];unfold r6;refine A_Post.ck (aJ (by omega)) ?_;refine A_Post.ck A.1 ?_;rw[A.2,lL];exact nx
theorem P3{P:R->Prop}(N:aG)(K0 K1:aY->aA->aA->aA->aA->aA->aX->aX->aX->aX->aX->aX->aX->aD R)(pl:aX){n:aG}{x:aA}{id:aA}{p:Px}(hp:p.Fit 1048576)(hi:id<=3)(h:(dY.ask p id nk).2=0)(nx:gH (Fc N K0 K1 n aq x (bM (id+1)) (dY.ask p id nk).1.now (dY.ask p id nk).1.a (dY.ask p id nk).1.hits pl (re (dY.ask p id nk).1.en) (rs (dY.ask p id nk).1.w) (rs (dY.ask p id nk).1.m) (rr (dY.ask p id nk).1.s) (rf (dY.ask p id nk).1.fe) (rc (dY.ask p id nk).1.cl)) P):
  gH (Fc N K0 K1 (n+1) aq x id p.now p.a p.hits pl (re p.en) (rs p.w) (rs p.m) (rr p.s) (rf p.fe) (rc p.cl)) P:=by have A:=wG.ok p id nk hp (by decide);rw[show Fc N K0 K1 (n+1)=z5 N (Fc N K0 K1 n) K0 K1 from rfl];unfold z5;refine A_Post.ck (aJ hi) ?_;refine A_Post.ck A.1 ?_;rw[A.2];refine A_Post.cn ?_ nx;show((dY.ask p id nk).2 !=0)=aq;rw[h];rfl
theorem al8{P:R->Prop}(N:aG)(K0 K1:aY->aA->aA->aA->aA->aA->aX->aX->aX->aX->aX->aX->aX->aD R)(pl:aX){n:aG}{x:aA}{id:aA}{p:Px}(hp:p.Fit 1048576)(hi:id<=3)(h:(dY.ask p id nk).2=2)(nx:gH (K0 (decide (x=20)) x id p.now p.a p.hits pl (re p.en) (rs p.w) (rs p.m) (rr p.s) (rf p.fe) (rc p.cl)) P):
  gH (Fc N K0 K1 (n+1) aq x id p.now p.a p.hits pl (re p.en) (rs p.w) (rs p.m) (rr p.s) (rf p.fe) (rc p.cl)) P:=by
 have A:=wG.ok p id nk hp (by decide);rw[show Fc N K0 K1 (n+1)=z5 N (Fc N K0 K1 n) K0 K1 from rfl];unfold z5;refine A_Post.ck (aJ hi) ?_;refine A_Post.ck A.1 ?_;rw[A.2];refine A_Post.ck ?_ ?_
 ·show((dY.ask p id nk).2 !=0)=ak;rw[h];rfl
 refine A_Post.ck ?_ nx;show decide ((dY.ask p id nk).2=2)=ak;rw[h];rfl
theorem al9{P:R->Prop}(N:aG)(K0 K1:aY->aA->aA->aA->aA->aA->aX->aX->aX->aX->aX->aX->aX->aD R)(pl:aX){n:aG}{x:aA}{p:Px}(nx:gH (K1 aq x 4 p.now p.a p.hits pl (re p.en) (rs p.w) (rs p.m) (rr p.s) (rf p.fe) (rc p.cl)) P):
  gH (Fc N K0 K1 (n+1) aq x 4 p.now p.a p.hits pl (re p.en) (rs p.w) (rs p.m) (rr p.s) (rf p.fe) (rc p.cl)) P:=by rw[show Fc N K0 K1 (n+1)=z5 N (Fc N K0 K1 n) K0 K1 from rfl];unfold z5;exact A_Post.cn rfl nx
theorem find(n:aG)(st:aA)(i:aA)(hi:i=1\/i=2\/i=3\/i=4):(([1,2,3,4]:az aA).map (mk n st t3)).find? (λc=>decide (c.id=i))=aj (mk n st t3 i):=by rcases hi with rfl|rfl|rfl|rfl<;>rfl
theorem four{P:R->Prop}(N:aG)(K0 K1:aY->aY->aY->aA->aY->aY->aA->aA->aA->aA->aA->aA->aA->aA->aA->aA->aX->aX->aX->aX->aX->aX->aX->aX->aX->aX->aX->aX->aX->aX->aX->aX->aX->aX->aD R)(b0 b1 b2:aY)(no:aA)(b3 b4:aY)(k:aG){p d b:Px}
  (hp:p.cl=[1,2,3,4].map (mk k 1 t3)) (hd:d.cl=[1,2,3,4].map (mk k 2 t3)) (hb:b.cl=[1,2,3,4].map (mk k 3 t3)) (nx:gH (K1 b0 b1 b2 no b3 b4 5 p.now p.a p.hits d.now d.a d.hits b.now b.a b.hits (re p.en) (rs p.w) (rs p.m) (rr p.s) (rf p.fe) (rc p.cl) (re d.en) (rs d.w) (rs d.m) (rr d.s) (rf d.fe) (rc d.cl) (re b.en) (rs b.w) (rs b.m) (rr b.s) (rf b.fe) (rc b.cl)) P) (n:aG) (hn:4<n):
  gH (TV N K0 K1 n b0 b1 b2 no b3 b4 1 p.now p.a p.hits d.now d.a d.hits b.now b.a b.hits (re p.en) (rs p.w) (rs p.m) (rr p.s) (rf p.fe) (rc p.cl) (re d.en) (rs d.w) (rs d.m) (rr d.s) (rf d.fe) (rc d.cl) (re b.en) (rs b.w) (rs b.m) (rr b.s) (rf b.fe) (rc b.cl)) P:=by
 have stp:∀(m:aG) (i:aA),(i=1\/i=2\/i=3\/i=4)->gH (TV N K0 K1 m b0 b1 b2 no b3 b4 (i+1) p.now p.a p.hits d.now d.a d.hits b.now b.a b.hits (re p.en) (rs p.w) (rs p.m) (rr p.s) (rf p.fe) (rc p.cl) (re d.en) (rs d.w) (rs d.m) (rr d.s) (rf d.fe) (rc d.cl) (re b.en) (rs b.w) (rs b.m) (rr b.s) (rf b.fe) (rc b.cl)) P->
   gH (TV N K0 K1 (m+1) b0 b1 b2 no b3 b4 i p.now p.a p.hits d.now d.a d.hits b.now b.a b.hits (re p.en) (rs p.w) (rs p.m) (rr p.s) (rf p.fe) (rc p.cl) (re d.en) (rs d.w) (rs d.m) (rr d.s) (rf d.fe) (rc d.cl) (re b.en) (rs b.w) (rs b.m) (rr b.s) (rf b.fe) (rc b.cl)) P:=λm i hi nx=>by
  have len:∀(st:aA),(([1,2,3,4]:az aA).map (mk k st t3)).length<=1000:=λst=>by rw[bP];decide
  have A:=xP.ok i p.now (re p.en) (rs p.w) (rs p.m) (rr p.s) p.a (rf p.fe) p.cl p.hits (by rw[hp];exact len 1)
  have D:=xP.ok i d.now (re d.en) (rs d.w) (rs d.m) (rr d.s) d.a (rf d.fe) d.cl d.hits (by rw[hd];exact len 2)
  have B:=xP.ok i b.now (re b.en) (rs b.w) (rs b.m) (rr b.s) b.a (rf b.fe) b.cl b.hits (by rw[hb];exact len 3)
  have A2:xP.v p.now (re p.en) (rs p.w) (rs p.m) (rr p.s) p.a (rf p.fe) (rc p.cl) p.hits i=(i,nk,(k:aA)+1,0,1,t3,0,ak):=by rw[A.2,hp,find k 1 i hi];rfl
  have D2:xP.v d.now (re d.en) (rs d.w) (rs d.m) (rr d.s) d.a (rf d.fe) (rc d.cl) d.hits i=(i,nk,(k:aA)+1,0,2,t3,0,ak):=by rw[D.2,hd,find k 2 i hi];rfl
  have B2:xP.v b.now (re b.en) (rs b.w) (rs b.m) (rr b.s) b.a (rf b.fe) (rc b.cl) b.hits i=(i,nk,(k:aA)+1,0,3,t3,0,ak):=by rw[B.2,hb,find k 3 i hi];rfl
  have hw:bM (i+1)=i+1:=dc (by omega) (by omega)
  have bq:(!List.beq (aL t3) (aL t3))=false:=by rw[se];rfl
  rw[show TV N K0 K1 (m+1)=r25 N (TV N K0 K1 m) K0 K1 from rfl]
  unfold r25
  refine A_Post.ck (aJ (by omega)) ?_
  refine A_Post.ck A.1 ?_
  refine A_Post.ck D.1 ?_
  refine A_Post.ck B.1 ?_
  rw[A2,D2,B2]
  refine A_Post.cn rfl ?_
  refine A_Post.cn bq ?_
  refine A_Post.cn rfl ?_
  refine A_Post.cn rfl ?_
  refine A_Post.cn rfl ?_
  refine A_Post.cn bq ?_
  refine A_Post.cn rfl ?_
  refine A_Post.cn rfl ?_
  rw[hw];exact nx
 obtain⟨m,rfl⟩:∃m,n=m+1+1+1+1+1:=⟨n-5,by omega⟩
 refine stp _ 1 (.inl rfl) (stp _ 2 (.inr (.inl rfl)) (stp _ 3 (.inr (.inr (.inl rfl))) (stp _ 4 (.inr (.inr (.inr rfl))) ?_)));rw[show TV N K0 K1 (m+1)=r25 N (TV N K0 K1 m) K0 K1 from rfl];unfold r25;exact A_Post.cn rfl nx
theorem P7(p:Px)(f:aA):(rA p f).1.now=p.now/\(rA p f).1.en=p.en/\(rA p f).1.w=p.w/\(rA p f).1.m=p.m/\(rA p f).1.s=p.s/\(rA p f).1.a=p.a/\(rA p f).1.hits=p.hits:=by unfold rA;cases fZ.qZ p f<;>exact⟨rfl,rfl,rfl,rfl,rfl,rfl,rfl⟩
def jc{α:Type}(p:Px)(x:α):aA×aX×aX×aX×aX×aA×aX×aX×aA×α:=(p.now,re p.en,rs p.w,rs p.m,rr p.s,p.a,rf p.fe,rc p.cl,p.hits,x)
theorem pv{F:az Fe}{t:au}{L:az aA}{p:Px}(q:au)(h:kS.St F t L p)(hq:1<=q.size/\q.size<=40)(ht:t.size+q.size<=400):∃p1,kS.St F (t++q) L p1/\KX.c p.now (re p.en) (rs p.w) (rs p.m) (rr p.s) p.a (rf p.fe) (rc p.cl) p.hits (F.length:aA) q=ak/\KX.v p.now (re p.en) (rs p.w) (rs p.m) (rr p.s) p.a (rf p.fe) (rc p.cl) p.hits (F.length:aA) q=jc p1 true:=by
 obtain⟨e1,S,g1,g2,g3,g4,g5,g6,g7⟩:=kS.part q h hq ht;have P1:=KX.ok p (F.length:aA) q (il.iP h.ok);have f1:(rF p (F.length:aA) q).2=true:=ml Prod.snd e1;refine⟨_,S,P1.1, ?_⟩
 unfold jc;rw[P1.2,f1,g1,g2,g3,g4,g5,g6,g7]
theorem av{F:az Fe}{t:au}{L:az aA}{p:Px}{id:aA}(h:kS.St F t L p)(B8:1<=id/\id<=9)(hL:∀x∈L,x<id)(hl:L.length<6):∃p1,kS.St F t (L++[id]) p1/\wG.c p.now (re p.en) (rs p.w) (rs p.m) (rr p.s) p.a (rf p.fe) (rc p.cl) p.hits id nk=ak/\wG.v p.now (re p.en) (rs p.w) (rs p.m) (rr p.s) p.a (rf p.fe) (rc p.cl) p.hits id nk=jc p1 (0:aA):=by
 obtain⟨n,S⟩:=kS.aaV h B8 hL hl;have A:=wG.ok p id nk (il.iP h.ok) (by decide);refine⟨_,S,A.1, ?_⟩
 rw[A.2];unfold jc wG.res;rw[n]
theorem cv{F:az Fe}{t:au}{L:az aA}{p:Px}(life:aA)(h:kS.St F t L p)(hl:0<=life/\life<=999999):∃d,fu d/\d.cl=L.map (mk F.length 2 t)/\N5.c p.now (re p.en) (rs p.w) (rs p.m) (rr p.s) p.a (rf p.fe) (rc p.cl) p.hits (F.length:aA) life=ak/\N5.v p.now (re p.en) (rs p.w) (rs p.m) (rr p.s) p.a (rf p.fe) (rc p.cl) p.hits (F.length:aA) life=jc d true:=by
 obtain⟨e1,h1,h2⟩:=kS.close life h hl;have C:=N5.ok p (F.length:aA) life (il.iP h.ok);obtain⟨s1,s2⟩:=p9.GU (p:=p) (f:=(F.length:aA)) (life:=life);refine⟨_,h1,h2,C.1, ?_⟩
 unfold jc;rw[C.2,e1,s1,s2]
theorem bv{F:az Fe}{t:au}{L:az aA}{p:Px}(h:kS.St F t L p):∃d,fu d/\d.cl=L.map (mk F.length 3 t)/\N6.c p.now (re p.en) (rs p.w) (rs p.m) (rr p.s) p.a (rf p.fe) (rc p.cl) p.hits (F.length:aA)=ak/\N6.v p.now (re p.en) (rs p.w) (rs p.m) (rr p.s) p.a (rf p.fe) (rc p.cl) p.hits (F.length:aA)=jc d true:=by
 obtain⟨e1,h1,h2⟩:=kS.amb h;have C:=N6.ok p (F.length:aA) (il.iP h.ok);obtain⟨g1,g2,g3,g4,g5,g6,g7⟩:=P7 p (F.length:aA);refine⟨_,h1,h2,C.1, ?_⟩
 unfold jc;rw[C.2,e1,g1,g2,g3,g4,g5,g6,g7]
theorem ahg(a:aX)(ha:uw a):vo a=aj true:=by
 have hb:∀x:aY,U15.v a=x->vo a=aj true:=λx hx=>by
  cases x with
  |true=>unfold vo b;rw[hx,ay]
  |false=>
   have hlen:a.length<=1048576:=by unfold U15.v at hx;have:=lu hx;omega
   obtain⟨w,ho,hk,c0,v0⟩:=adM.ok a hlen;obtain⟨pl,c1,v1,rD,hpr⟩:=N4.ok a hlen;have h99:0<=cF (bY (aw pl (bc 0) 0)) 99/\cF (bY (aw pl (bc 0) 0)) 99<=999999:=by have q:=hpr 0 (by omega);rw[show bc 0=0 from rfl,rZ q.1];omega
   have main:gH (vo a) (λx=>x=ak):=by
    unfold vo;generalize hN:Lib.c7=N;have hN1:20<N:=by rw[<-hN];exact cT (by omega)
    clear hN;unfold b;refine A_Post.cn hx ?_;refine A_Post.ck c0 ?_;refine A_Post.ck c1 ?_;rw[v0,v1];refine leave N _ pl (λw ho hk nh=> ?_) 9 1 N w (by omega) (by omega) (by omega) (by omega) ho hk (λc hc=> ?_);rotate_left
    ·have q2:=ho.cl c hc;unfold nP.F8 at q2;simp only[aK,bf]at q2;omega
    dsimp only;rw[dI];obtain⟨m,rfl⟩:∃m,N=m+1+1+1+1:=⟨N-4,by omega⟩
    have Lv:=ho.fl;rcases kS.P3 ho hk nh with ⟨M4,uV⟩|⟨uV,S1⟩
    ·refine al8 (m+1+1+1+1) _ _ pl (il.iP ho) (by omega) uV ?_;exact A_Post.ret (aJ (by omega))
    obtain⟨n2,S2⟩:=kS.aaV (id:=2) S1 (by omega) (by intro x hx;rw[aZ.1 hx];omega) (by decide);obtain⟨n3,S3⟩:=kS.aaV (id:=3) S2 (by omega) (by intro x hx;simp at hx;omega) (by decide);refine P3 (m+1+1+1+1) _ _ pl (il.iP ho) (by omega) uV ?_;refine P3 (m+1+1+1+1) _ _ pl (id:=2) (il.iP S1.ok) (by omega) n2 ?_;refine P3 (m+1+1+1+1) _ _ pl (id:=3) (il.iP S2.ok) (by omega) n3 ?_;refine al9 (m+1+1+1+1) _ _ pl ?_;generalize (dY.ask (dY.ask (dY.ask w.p 1 nk).1 2 nk).1 3 nk).1=p at S3;have hF:(rf p.fe).length=w.p.fe.length+1:=by rw[dI,S3.fe,bO];rfl
    obtain⟨p1,S4,C1,V1⟩:=pv t1 S3 (by decide) (by decide);obtain⟨p2,S5,C2,V2⟩:=pv t2 S4 (by decide) (by decide);rw[kS.full]at S5;obtain⟨p4,S6,C4,V4⟩:=av (id:=4) S5 (by omega) (by intro x hx;simp at hx;omega) (by decide);obtain⟨pd,D1,D2,C5,V5⟩:=cv (cF (bY (aw pl (bc 0) 0)) 99) S6 h99;obtain⟨pb,B1,B2,C6,V6⟩:=bv S6;have O1:=ED.ok pd (il.iP D1);have O2:=ED.ok pb (il.iP B1);rw[nP.mS.2 D1]at O1;rw[nP.mS.2 B1]at O2;refine A_Post.cn ?_ ?_
    ·show(((rf p.fe).length:aA) !=bM ((w.p.fe.length:aA)+1))=aq;rw[hF,dc (x:=(w.p.fe.length:aA)+1) (by omega) (by omega)];exact bne_self_eq_false _
    refine A_Post.call C1 V1 ?_;refine A_Post.call C2 V2 ?_;refine A_Post.call C4 V4 ?_;refine A_Post.ck (aJ (by rw[rD];decide)) ?_;refine A_Post.call C5 V5 ?_;refine A_Post.call C6 V6 ?_;refine four _ _ _ aq ak ak 0 ak ak w.p.fe.length S6.cl D2 B2 ?_ _ (by omega);refine A_Post.ck rfl ?_;refine A_Post.ck rfl ?_;refine A_Post.ck rfl ?_;refine A_Post.ck rfl ?_;refine A_Post.ck rfl ?_;refine A_Post.ck O1.1 ?_;refine A_Post.ck O1.2 ?_;refine A_Post.ck O2.1 ?_;exact A_Post.ret O2.2
   obtain⟨x,h1,h2⟩:=main;rw[h1,h2]
 exact hb _ rfl
theorem law(a:aX)(ha:uw a):v a=true:=(out a (ahg a ha)).2
theorem ao8(a:aX)(ha:uw a):c a=true:=(out a (ahg a ha)).1
end U5

end Go.FG
