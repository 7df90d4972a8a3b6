/- What the functions come to, in plain numbers, texts and lists; last the law itself. No condition but those that each states. -/
import Derived.Test.YtilcgpcemjeaeaaGreatPTopb
import Derived.Test.YtilcgpcemjeaeaaGreatFTopa
set_option linter.unusedVariables false
set_option linter.unusedSimpArgs false
set_option maxRecDepth 100000
open Bool renaming true->ai,true_and->ba,not_true->aY,false->ak,and_self->aL,and_true->iL,not_false->bP,false_or->ov,and_false->wH,false_and->jf,and_eq_true->aM,false_eq_true->dx,not_eq_true'->dp,or_eq_true->dJ,and_assoc->nS,not_eq_false'->nk
open ByteArray renaming toList->aC,empty_append->lW,extract->bK,size->eu
open Eq renaming trans->KP
open Go.IntKind renaming i64->ao
open Go.Op renaming bytesLess->b9
open Int renaming toNat->aZ,tmod->cF,tmod_eq_emod_of_nonneg->im,toNat_natCast->dK,tdiv->cQ,tdiv_eq_ediv_of_nonneg->h_,le_trans->Ca,neg->KV
open List renaming length_singleton->bC,nodup_append->eM,length_append->bU,mem_append->bf,mem_append_left->bN,mem_singleton->a_,mem_append_right->bO,length_tail->Xz,length->bS,set->aD,map_append->dh,drop_length->di,drop_eq_getElem_cons->dC,find?_cons_of_neg->KW,drop_zero->fg,length_filter_le->eS,length_take->eL,take_succ_eq_append_getElem->cE,filter_append->iq,append_nil->dj,take_length->dR,nil_append->gF,append_assoc->cy,pairwise_cons->qE,getElem_append_right->ES,mem_of_find?_eq_some->qD,getElem_of_mem->c8,getElem_set_self->kL,length_map->bV,length_set->cD,set_set->pN,set_getElem_self->fj,find?_eq_none->Xx,find?_some->vn,mem_cons->cB,not_mem_nil->fQ,any_eq_true->Gu,filter_eq_self->eD,foldl_append->kX,reverse_reverse->vT,reverse_cons->yY,pairwise_append->vS,mem_cons_self->dv,nodup_iff_pairwise_ne->qi,pairwise_map->kY,mem_map->cU,mem_filter->dm,findIdx?_eq_some_iff_getElem->Am,beq->bW,range->b8,all_eq_true->bu,mem_range->gX,pairwise_iff_getElem->dA,getElem_mem->bB,mem_or_eq_of_mem_set->jI,take_set_of_le->wR,drop_set_of_lt->wQ,drop_eq_nil_of_le->gW,take->g7,drop->nt,take_append_of_le_length->pb,take_of_length_le->jg,getElem_take->nC,filter_map->o_,range'->iV,range'_zero->XB,all_cons->u0,range_eq_range'->XD
open List.Pairwise renaming filter->vO
open List.cons renaming inj->kC
open Nat renaming lt_irrefl->bk,zero_le->bD,le_trans->dg,zero_add->bX,le_refl->cG,sub_zero->sA
open Option renaming some->ah,none->aj,map_some->ji
open UInt8 renaming ofNat->ay
open _root_ renaming List->az,ByteArray->aq,Int->ax,cond_true->au,cond_false->aw,decide_eq_true->aG,decide_eq_decide->ca,of_decide_eq_false->me,Nat->aE,decide_true->aN,decide_false->bc,decide_eq_false->aK,if_neg->bJ,if_pos->bA,Option->aA,Bool->aU,decide_eq_true_eq->bh,decide_eq_false_iff_not->e_,absurd->cL,of_decide_eq_true->cq,bne_self_eq_false->eU,eq_comm->W0
namespace Go.FG
open Lib (Hc all_congr gJ pj Cn fU fD xH eG fX jY lS CJ NQ xO ml zT cu mf rc0 rc1 rc2 rc3 rc4 rc5 rc6 eI Kf Xa Xb eg de dD Rf Ki gO Xc eJ pR kW Du ue o6 yF F9 ot DD yG qU qV uh nR c_ II wd0 wd1 wd2 oD qx qy qz Bl BX MD Ag Rh Ri)
variable {R:Type}
namespace zE
open Lib (rr rs)
open e9 (has without gM lT wB iw pH)
open jz (eO LS nH sV)
open eT (Dw zer Tx Wr nI wq kQ Mn tH Dd)
theorem ok(w m:az aq)(s:az (az ax))(a:ax)(key:aq)(hw:w.length<=1048576)(hm:m.length<=1048576)(hf:jq.oQ s)(hk:key.size<=140737488355328):
  c (rs w) (rs m) (rr s) a key=ai/\v (rs w) (rs m) (rr s) a key=(rs (eT.val w m s a key).1,rs (eT.val w m s a key).2.1,rr (eT.val w m s a key).2.2.1,(eT.val w m s a key).2.2.2.1,(eT.val w m s a key).2.2.2.2):=by
 refine out _ _ _ _ _ ?_;have h1:=jw.ok w m s a hw hm hf;have h2:=pd.ok w m s a hw hm hf;have h3:=iJ.ok s a key hf hk;have h5:=sN.ok m key (by omega);have h6:=kh.ok w key hw;have h7:=kh.ok m key hm;have sf:=Mn (a:=a) (key:=key) hf;unfold vo b;simp only[Lib.lt,h1.1,h1.2,h2.1,h2.2,au];unfold eT.val;cases hp:sV w m s a with
 |false=>rfl
 |true=>
  obtain⟨p1,p2,p3,p4⟩:=Dd hp;rw[pd.iQ,ba];cases Az:eO key with
  |false=>rfl
  |true=>
   have Bj:=kQ Az;have l6:=iw (l:=w) (k:=key);have l7:=iw (l:=m) (k:=key);simp only[aY,aw,au,h3.1,h3.2,h5.1,h5.2,h6.1,h6.2,h7.1,h7.2,Dw,zer,eJ,pR,bC];rw[Lib.ch (n:=(without w key).length+1) (by omega) (by omega),Lib.ch (n:=(without m key).length+1) (by omega) (by omega)];simp only[au];cases hA:has w key with
   |true=>
    have hB:has m key=false:=by rw[lT];intro Yf;have:=(wq.1 p1).2;rw[eM]at this;exact this.2.2 key (gM.1 hA) key Yf rfl
    have jt:=pH hA;rw[hB,aw,au,aG (show((without w key++[key]).length:ax)<=2 by rw[bU,bC];omega)];rfl
   |false=>
    rw[wB hA];cases hB:has m key with
    |true=>rfl
    |false=>
     simp only[aw];rw[show decide (((w++[key]).length:ax)<=2)=decide ((w++[key]).length<=2)by rw[ca];omega];cases hC:decide ((w++[key]).length<=2)with
     |true=>rfl
     |false=>
      have hlw:(w++[key]).length=3:=by have:=me hC;rw[bU,bC]at this⊢;omega
      have hfm:(w++[key]).getD 0 ⟨#[]⟩∈w++[key]:=tH (by omega);have LI:((w++[key]).getD 0 ⟨#[]⟩).size<=30:=by
       rcases bf.1 hfm with h|h
       ·exact(kQ (nI p1 (bN _ h))).2
       ·rw[a_]at h;rw[h];exact Bj.2
      have g1:=v9.ok (du.val s a key).1 (du.val s a key).2 ((w++[key]).getD 0 ⟨#[]⟩) sf (by omega);have i1:ic 1 ((w++[key]).length:ax) ((w++[key]).length:ax)=true:=by rw[hlw];rfl
      simp only[aw,aG (show(0:ax)<((w++[key]).length:ax)by omega),i1,au,Tx,Wr,zer,Dw,eJ,Lib.ch (n:=m.length+1) (b:=16) (by omega) (by omega),g1.1,g1.2];rw[show decide ((m.length:ax)<4)=decide (m.length<4)by rw[ca];omega];cases hD:decide (m.length<4)with
      |true=>rfl
      |false=>
       have hm4:m.length=4:=by have:=me hD;omega
       have hmm:m.getD 0 ⟨#[]⟩∈m:=tH (by omega);have hms:=(kQ (nI p1 (bO _ hmm))).2;have g2:=v9.ok (du.val s a key).1 (du.val s a key).2 (m.getD 0 ⟨#[]⟩) sf (by omega);have i2:ic 1 (m.length:ax) (m.length:ax)=true:=by simp[ic];omega
       have HK:m.tail.length=3:=by rw[Xz];omega
       simp only[aw,aG (show(0:ax)<(m.length:ax)by omega),i2,au,Dw,Lib.ch (n:=m.tail.length+1) (b:=16) (by omega) (by omega),g2.1,g2.2];cases decide (mO.val (du.val s a key).1 (du.val s a key).2 ((w++[key]).getD 0 ⟨#[]⟩)>mO.val (du.val s a key).1 (du.val s a key).2 (m.getD 0 ⟨#[]⟩))<;>rfl
end zE

namespace va
open Lib (rr rs)
open e9 (without)
theorem ok(w m:az aq)(s:az (az ax))(a:ax)(key:aq)(hw:w.length<=1048576)(hm:m.length<=1048576)(hf:jq.oQ s):c (rs w) (rs m) (rr s) a key=ai/\v (rs w) (rs m) (rr s) a key=(rs (without w key),rs (without m key),rr s,a):=by have h1:=jw.ok w m s a hw hm hf;have h2:=kh.ok w key hw;have h3:=kh.ok m key hm;exact out _ _ _ _ _ (by unfold vo b;rw[h1.1,h1.2,h2.1,h2.2,h3.1,h3.2];rfl)
end va

namespace jo
open Lib (rc Cl)
open il (lI jn lid T7)
theorem ok(i0:ax)(q1 q2 q3 q4:aQ)(i5:ax)(q6:aQ)(cl:az Cl)(i8:ax)(x:Cl)(cs:cl.Pairwise λa b=>a.id<b.id)(hn:lI cl x.id=ak)(hl:cl.length<=1048576):
  c i0 q1 q2 q3 q4 i5 q6 (rc cl) i8 x.id x.k x.fe x.fr x.sta x.jV x.age=ai/\v i0 q1 q2 q3 q4 i5 q6 (rc cl) i8 x.id x.k x.fe x.fr x.sta x.jV x.age=(i0,q1,q2,q3,q4,i5,q6,rc (jn cl x),i8):=by
 refine out _ _ _ _ _ _ _ _ _ _ _ _ _ _ _ _ ?_;unfold vo b;have hrl:=eI cl
 have:=ue (lid x.id) (rc cl) (λm (i:aE)=>l2 Lib.cJ (λDS Gc EI wD KL KM Wz Xe Rk Rl IJ Rm Rn Ro Rp QN WA=>bif(decide (0<=DS)&&decide (DS<=(↑(bS WA):ax))&&cw (bS WA+bS (aD (aP [Ck.i ao,Ck.s,Ck.i ao,Ck.i ao,Ck.i ao,Ck.s,Ck.i ao] 1) 0 [CV.i ao KL,CV.s KM,CV.i ao Wz,CV.i ao Xe,CV.i ao Rk,CV.s Rl,CV.i ao IJ])) 72)then(ah (Gc,Rm,Rn,Ro,Rp,EI,QN,(Pu.tN WA (aZ DS) (aD (aP [Ck.i ao,Ck.s,Ck.i ao,Ck.i ao,Ck.i ao,Ck.s,Ck.i ao] 1) 0 [CV.i ao KL,CV.s KM,CV.i ao Wz,CV.i ao Xe,CV.i ao Rk,CV.s Rl,CV.i ao IJ])),wD))else(aj)) m (i:ax) i0 i5 i8 x.id x.k x.fe x.fr x.sta x.jV x.age q1 q2 q3 q4 q6 (rc cl))
  (λa=>bif decide ((a:ax)<=((rc cl).length:ax))then ah (i0,q1,q2,q3,q4,i5,q6,Pu.tN (rc cl) a [Cl.row x],i8)else aj)
  (λm i h hp=>by
   have mR:decide (bE (ar (rc cl) i 0)<x.id)=true:=by rw[Lib.cK h];exact hp
   simp only[l2,r2,Lib.c6,h,aN,Lib.cm,aL,au,Lib.dN,mR,Lib.cS h (by omega:(rc cl).length<=9223372036854775807)])
  (λm i h hp=>by
   have mR:decide (bE (ar (rc cl) i 0)<x.id)=false:=by rw[Lib.cK h];exact hp
   simp only[l2,r2,Lib.c6,h,aN,Lib.cm,aL,ba,iL,au,aw,Lib.dN,mR,Lib.ja,bC,Lib.ch (n:=(rc cl).length+1) (b:=72) (by omega) (by omega)];rfl)
  (λm=>by simp only[l2,r2,Lib.c6,bk,bc,aN,Lib.cm,aL,ba,iL,au,aw,Lib.dN,Lib.ja,bC,Lib.ch (n:=(rc cl).length+1) (b:=72) (by omega) (by omega)];rfl) Lib.cJ (cu (by omega))
 refine this.trans ?_;have hle:=F9 (lid x.id) (rc cl);rw[aG (by omega),au];unfold Pu.tN;rw[T7 cs hn]
end jo

namespace SN
open Lib (rr rs re rf rc Px Cl Fe En el)
open e9 (without)
open jz (eO)
open oX (jb)
open il (hit sS put ID On FU lI jn rW pX BH)
open gd (fV)
open uU (ij pD)
def res(q:Px×ax):ax×aQ×aQ×aQ×aQ×ax×aQ×aQ×ax×ax:=(q.1.now,re q.1.en,rs q.1.w,rs q.1.m,rr q.1.s,q.1.a,rf q.1.fe,rc q.1.cl,q.1.hits,q.2)
theorem Ks(fe:az Fe)(key:aq):rf fe++aD (aP [Ck.s,Ck.s,Ck.i ao,Ck.i ao,Ck.i ao] 1) 0 [CV.s key,CV.s {data:= #[]},CV.i ao 1,CV.i ao 0,CV.i ao 0]=rf (fe++[rW key]):=by unfold Lib.rf;rw[dh];rfl
theorem BK{p:Px}{i:aE}(hi:i<p.en.length)(ho:ij p):bG (p.now-(el p.en i).st)=p.now-(el p.en i).st:=by have h1:=ho.now;have h2:=(m8.EC (ho.en _ (jY hi))).2.1;exact c_ (by omega) (by omega)
theorem ok(p:Px)(id:ax)(key:aq)(hp:p.Fit 1048576)(hkz:key.size<=140737488355328):c p.now (re p.en) (rs p.w) (rs p.m) (rr p.s) p.a (rf p.fe) (rc p.cl) p.hits id key=ai/\v p.now (re p.en) (rs p.w) (rs p.m) (rr p.s) p.a (rf p.fe) (rc p.cl) p.hits id key=res (il.ask p id key):=by
 have h1:=iN.ok p hp;have h2:=KE.ok p hp;have n_:=hp.cl;have FF:=hp.fe;have hen:=hp.en;have LI:jq.oQ p.s:=⟨hp.s.1,hp.s.2.1⟩
 have h3:=zA.ok p.now (re p.en) (rs p.w) (rs p.m) (rr p.s) p.a (rf p.fe) p.cl p.hits id n_;refine out _ _ _ _ _ _ _ _ _ _ _ ?_;unfold vo b il.ask;simp only[Lib.lt,h1.1,h1.2,h2.1,h2.2,au];cases cg:jb p with
 |false=>rfl
 |true=>
 have ho:ij p:=pD.1 cg;rw[aY,aw,ba,show lH.v id 1 9=decide (1<=id/\id<=9)from fB.eH _ _ _];cases JG:decide (1<=id/\id<=9)with
 |false=>rfl
 |true=>
 rw[aY,aw,ba,pd.iQ];cases hko:eO key with
 |false=>rfl
 |true=>
 have Bj:=eT.kQ hko;rw[aY,aw,ba,h3.1,au,h3.2];cases hhi:lI p.cl id with
 |true=>rfl
 |false=>
 rw[aw,bP,ba,eI];by_cases h6:p.cl.length=6
 ·rw[aG (show(p.cl.length:ax)=6 by omega),au,aK (show¬p.cl.length<6 by omega)];rfl
 have hc6:=ho.cll;rw[aK (show¬(p.cl.length:ax)=6 by omega),aw,aG (show p.cl.length<6 by omega),au];have h4:=pW.ok (re p.en) key (by rw[de];omega);have h5:=K7.ok p.now (re p.en) (rs p.w) (rs p.m) (rr p.s) p.a (rf p.fe) (rc p.cl) p.hits key (by rw[dD];omega);have h7:=zE.ok p.w p.m p.s p.a key hp.w hp.m LI (by omega);have h8:=iJ.ok p.s p.a key LI (by omega);have h9:=va.ok p.w p.m p.s p.a key hp.w hp.m LI;have Q7:=pP.ok (re p.en) key (gd.S_ _) (by rw[de];omega);rw[gd.Hq]at Q7;have Qp:=λ(i0:ax) (q1 q2 q3 q4:aQ) (i5:ax) (q6:aQ) (i8:ax) (x:Cl) (hx:x.id=id)=>jo.ok i0 q1 q2 q3 q4 i5 q6 p.cl i8 x ho.cs (by rw[hx];exact hhi) n_;rw[h4.1,au,h4.2,de];have aA9:p.hits<=1000000000:=ho.hits.2;have atz:0<=p.hits:=ho.hits.1;have s8:=ho.fl;have akc:iu ak (bG (p.hits+1)) 1000000000=bif decide (p.hits<1000000000)then p.hits+1 else p.hits:=by
  rw[c_ (by omega) (by omega)];unfold iu;rw[aw];by_cases h:p.hits<1000000000
  ·rw[aG h,au,bJ (by omega)]
  ·rw[aK h,aw,bA (by omega)];omega
 have hfp:∀i (hi:i<p.fe.length),qG.p (rf p.fe) key i=FU key p.fe[i]:=λi hi=>by unfold qG.p FU IX.v;rw[Bl hi,MD hi,eG hi];simp only[bz,bE,Lib.eN];cases decide (p.fe[i].k=key)<;>rfl
 have hep:∀i (hi:i<p.en.length),pW.p (re p.en) key i=decide (p.en[i].k=key):=λi hi=>by unfold pW.p;rw[oD hi,eG hi];exact Lib.eN
 have wn:∀n:aE,n<=1048576->bG ((n:ax)+1)=(n:ax)+1:=λn hn=>c_ (by omega) (by omega);have cN:∀(n:aE) (fe:az Fe),n<fe.length->bz (ar (rf fe) n 1)=(el fe n).t:=λn fe hn=>by rw[BX hn];rfl
 have JO:cw (p.fe.length+1) 56=true:=Lib.ch (by omega) (by omega);have dI:∀key:aq,bS (aD (aP [Ck.s,Ck.s,Ck.i ao,Ck.i ao,Ck.i ao] 1) 0 [CV.s key,CV.s {data:= #[]},CV.i ao 1,CV.i ao 0,CV.i ao 0])=1:=λ_=>rfl;rcases BH p.fe (FU key) _ hfp with ⟨f1,_,f2⟩|⟨j,hj,f1,_,f2⟩
 ·have f2:On p.fe key=none:=f2;rw[dD,f1]at h5;rcases BH p.en (λe=>decide (e.k=key)) _ hep with ⟨e1,e2,_⟩|⟨i,hi,e1,e2,_⟩
  ·have e2:ID p.en key=none:=e2;rw[e1,e2];unfold sS;rw[f2];dsimp only;by_cases Q8:p.fe.length=20
   ·rw[aK (show¬p.fe.length<20 by omega)];simp only[show decide ((-1:ax)≥0)=ak from rfl,aw,h5.1,h5.2,au,show decide ((-1:ax)<0)=ai from rfl,dD,aG (show(p.fe.length:ax)=20 by omega)];rfl
   ·have nq:=Qp p.now (re p.en) (rs p.w) (rs p.m) (rr (du.val p.s p.a key).1) (du.val p.s p.a key).2 (rf (p.fe++[rW key])) p.hits ⟨id,key,(p.fe.length:ax)+1,0,1,(el (p.fe++[rW key]) p.fe.length).t,0⟩ rfl;dsimp only at nq;rw[aG (show p.fe.length<20 by omega)];simp only[show decide ((-1:ax)≥0)=ak from rfl,aw,h5.1,h5.2,au,show decide ((-1:ax)<0)=ai from rfl,dD,aK (show¬(p.fe.length:ax)=20 by omega),h8.1,h8.2,dI,JO,Ks,bU,bC,Lib.dN,Lib.c6,aG (show p.fe.length<p.fe.length+1 by omega),cN p.fe.length (p.fe++[rW key]) (by simp),wn _ FF,nq.1,nq.2];rfl
  ·have e2:ID p.en key=ah (el p.en i):=e2;rw[e1,e2];have DO:Ef.v (bz (ar (re p.en) i 0)) (bE (ar (re p.en) i 1)) (bE (ar (re p.en) i (1+1))) (bz (ar (re p.en) i (1+1+1))) p.now=pX (el p.en i) p.now:=by rw[oD hi,qx hi,qy hi,qz hi];rfl
   have g1:bE (ar (re p.en) i 1)=(el p.en i).st:=by rw[qx hi];rfl
   have g3:bz (ar (re p.en) i (1+1+1))=(el p.en i).bo:=by rw[qz hi];rfl
   dsimp only;cases W6:pX (el p.en i) p.now with
   |true=>
    have g0:bz (ar (re p.en) i 0)=(el p.en i).k:=by rw[oD hi];rfl
    have g2:bE (ar (re p.en) i (1+1))=(el p.en i).li:=by rw[qy hi];rfl
    have DO:Ef.v (el p.en i).k (el p.en i).st (el p.en i).li (el p.en i).bo p.now=true:=W6;have hw:=BK (p:=p) hi ho;have nq:=Qp p.now (re p.en) (rs (eT.val p.w p.m p.s p.a key).1) (rs (eT.val p.w p.m p.s p.a key).2.1) (rr (eT.val p.w p.m p.s p.a key).2.2.1) (eT.val p.w p.m p.s p.a key).2.2.2.1 (rf p.fe) p.hits ⟨id,key,0,(el p.en i).st,2,(el p.en i).bo,p.now-(el p.en i).st⟩ rfl;dsimp only at nq;simp only[aG (show((i:aE):ax)≥0 by omega),Lib.cm,Lib.c6,hi,aN,aL,au,Lib.dN,g0,g1,g2,g3,DO,h7.1,h7.2,hw,nq.1,nq.2,akc,de];rfl
   |false=>
    rw[W6]at DO;unfold sS;rw[f2];dsimp only;by_cases Q8:p.fe.length=20
    ·rw[aK (show¬p.fe.length<20 by omega)];simp only[aG (show((i:aE):ax)≥0 by omega),Lib.cm,Lib.c6,hi,aN,aL,au,aw,Lib.dN,de,DO,h5.1,h5.2,show decide ((-1:ax)<0)=ai from rfl,dD,aG (show(p.fe.length:ax)=20 by omega)];rfl
    ·have nq:=Qp p.now (re (fV p.en key)) (rs (without p.w key)) (rs (without p.m key)) (rr (du.val p.s p.a key).1) (du.val p.s p.a key).2 (rf (p.fe++[rW key])) p.hits ⟨id,key,(p.fe.length:ax)+1,0,1,(el (p.fe++[rW key]) p.fe.length).t,0⟩ rfl;dsimp only at nq;rw[aG (show p.fe.length<20 by omega)];simp only[aG (show((i:aE):ax)≥0 by omega),Lib.cm,de,hi,aN,aL,DO,h9.1,h9.2,Q7.1,Q7.2,aw,h5.1,h5.2,au,show decide ((-1:ax)<0)=ai from rfl,dD,aK (show¬(p.fe.length:ax)=20 by omega),h8.1,h8.2,dI,JO,Ks,bU,bC,Lib.dN,Lib.c6,aG (show p.fe.length<p.fe.length+1 by omega),cN p.fe.length (p.fe++[rW key]) (by simp),wn _ FF,nq.1,nq.2];rfl
 ·have f2:On p.fe key=ah j:=f2;rw[dD,f1]at h5;have nj:decide (((j:aE):ax)<0)=false:=aK (by omega);rcases BH p.en (λe=>decide (e.k=key)) _ hep with ⟨e1,e2,_⟩|⟨i,hi,e1,e2,_⟩
  ·have e2:ID p.en key=none:=e2;rw[e1,e2];unfold sS;rw[f2];dsimp only;have nq:=Qp p.now (re p.en) (rs p.w) (rs p.m) (rr (du.val p.s p.a key).1) (du.val p.s p.a key).2 (rf p.fe) p.hits ⟨id,key,(j:ax)+1,0,1,(el p.fe j).t,0⟩ rfl;dsimp only at nq;simp only[show decide ((-1:ax)≥0)=ak from rfl,aw,h5.1,h5.2,au,nj,dD,h8.1,h8.2,Lib.dN,Lib.cm,Lib.c6,hj,aN,aL,cN j p.fe hj,wn j (by omega),nq.1,nq.2];rfl
  ·have e2:ID p.en key=ah (el p.en i):=e2;rw[e1,e2];have DO:Ef.v (bz (ar (re p.en) i 0)) (bE (ar (re p.en) i 1)) (bE (ar (re p.en) i (1+1))) (bz (ar (re p.en) i (1+1+1))) p.now=pX (el p.en i) p.now:=by rw[oD hi,qx hi,qy hi,qz hi];rfl
   have g1:bE (ar (re p.en) i 1)=(el p.en i).st:=by rw[qx hi];rfl
   have g3:bz (ar (re p.en) i (1+1+1))=(el p.en i).bo:=by rw[qz hi];rfl
   dsimp only;cases W6:pX (el p.en i) p.now with
   |true=>
    have g0:bz (ar (re p.en) i 0)=(el p.en i).k:=by rw[oD hi];rfl
    have g2:bE (ar (re p.en) i (1+1))=(el p.en i).li:=by rw[qy hi];rfl
    have DO:Ef.v (el p.en i).k (el p.en i).st (el p.en i).li (el p.en i).bo p.now=true:=W6;have hw:=BK (p:=p) hi ho;have nq:=Qp p.now (re p.en) (rs (eT.val p.w p.m p.s p.a key).1) (rs (eT.val p.w p.m p.s p.a key).2.1) (rr (eT.val p.w p.m p.s p.a key).2.2.1) (eT.val p.w p.m p.s p.a key).2.2.2.1 (rf p.fe) p.hits ⟨id,key,0,(el p.en i).st,2,(el p.en i).bo,p.now-(el p.en i).st⟩ rfl;dsimp only at nq;simp only[aG (show((i:aE):ax)≥0 by omega),Lib.cm,Lib.c6,hi,aN,aL,au,Lib.dN,g0,g1,g2,g3,DO,h7.1,h7.2,hw,nq.1,nq.2,akc,de];rfl
   |false=>rw[W6]at DO;unfold sS;rw[f2];dsimp only;have nq:=Qp p.now (re (fV p.en key)) (rs (without p.w key)) (rs (without p.m key)) (rr (du.val p.s p.a key).1) (du.val p.s p.a key).2 (rf p.fe) p.hits ⟨id,key,(j:ax)+1,0,1,(el p.fe j).t,0⟩ rfl;dsimp only at nq;simp only[aG (show((i:aE):ax)≥0 by omega),Lib.cm,de,hi,aN,aL,DO,h9.1,h9.2,Q7.1,Q7.2,aw,h5.1,h5.2,au,nj,dD,h8.1,h8.2,Lib.dN,Lib.c6,hj,cN j p.fe hj,wn j (by omega),nq.1,nq.2];rfl
end SN

namespace w7
open Lib (re el En)
open il (ID)
def res(o:aA En):aq×ax×ax×aq×aU:=match o with|some e=>(e.k,e.st,e.li,e.bo,ai)|none=>(⟨#[]⟩,0,0,⟨#[]⟩,ak)
theorem ok(now:ax)(en:az En)(q2 q3 q4:aQ)(q5:ax)(q6 q7:aQ)(q8:ax)(key:aq)(hl:en.length<=1048576):c now (re en) q2 q3 q4 q5 q6 q7 q8 key=ai/\v now (re en) q2 q3 q4 q5 q6 q7 q8 key=res (ID en key):=by
 refine out _ _ _ _ _ _ _ _ _ _ ?_;unfold vo b ID
 have go:∀(d i n:aE),en.length-i<=d->i<=en.length->d<n->
   l2 Lib.cJ (λ(_:aq) (DS:aU) (_ _:ax) (_ _ _ _:aQ) (_:ax) (_ _:aQ) (_:ax) (Rm:aq) (Rn Ro:ax) (Rp:aq)=>ah (Rm,Rn,Ro,Rp,DS)) (λ(_:aq) (_:aU) (_ _:ax) (_ _ _ _:aQ) (_:ax) (_ _:aQ) (_:ax) (_:aq) (_ _:ax) (_:aq)=>ah (({data:= #[]}:aq),0,0,({data:= #[]}:aq),ak)) n key ak (i:ax) now (re en) q2 q3 q4 q5 q6 q7 q8 ({data:= #[]}) 0 0 ({data:= #[]})=ah (res ((en.drop i).find? λe=>decide (e.k=key))):=by
  intro d
  induction d with
  |zero=>
   intro i n h1 h2 h3;obtain⟨n,rfl⟩:∃n',n=n'+1:=⟨n-1,by omega⟩
   have:i=en.length:=by omega
   subst this;simp only[l2,r2,de,Lib.c6,bk,bc,aw,di];rfl
  |succ d ih=>
   intro i n h1 h2 h3;obtain⟨n,rfl⟩:∃n',n=n'+1:=⟨n-1,by omega⟩
   by_cases hi:i<en.length
   ·rw[dC hi];have g:=ih (i+1) n (by omega) hi (by omega);simp only[l2,r2,de,Lib.c6,hi,aN,Lib.cm,aL,au,Lib.dN,oD hi,qx hi,qy hi,qz hi,bz,bE,Lib.eN,eG hi,Lib.cS hi (by omega:en.length<=9223372036854775807)];cases hk:decide (en[i].k=key)with
    |true=>rw[au,List.find?_cons_of_pos (p:=λe:En=>decide (e.k=key)) hk];rfl
    |false=>rw[aw,KW (p:=λe:En=>decide (e.k=key)) (by simp[hk])];exact g
   ·have:i=en.length:=by omega
    subst this;simp only[l2,r2,de,Lib.c6,bk,bc,aw,di];rfl
 have:=go en.length 0 Lib.cJ (by omega) (bD _) (cu (by omega));rw[fg]at this;exact this
end w7

namespace vg
open Lib (rr rs)
open e9 (without)
theorem ok(w m:az aq)(s:az (az ax))(a:ax)(key:aq)(hw:w.length<=1048576)(hm:m.length<=1048576)(hf:jq.oQ s):c (rs w) (rs m) (rr s) a key=ai/\v (rs w) (rs m) (rr s) a key=(rs (without w key),rs (without m key),rr s,a):=by have h1:=oa.ok s a hf;have h2:=ph.ok w key hw;have h3:=ph.ok m key hm;exact out _ _ _ _ _ (by unfold vo b;rw[h1.1,h1.2,h2.1,h2.2,h3.1,h3.2];rfl)
end vg

namespace qm
open Lib (re el oD qx qy qz En)
open gd (fV)
theorem ok(l:az En)(k:aq)(hl:l.length<=2097152):c (re l) k=ai/\v (re l) k=re (fV l k):=by
 refine out _ _ ?_;unfold vo b;have key:=ml l.length (λn (i:aE) (x:aQ)=>l3 Lib.cJ (λ(_:aQ) (_:aq) (_:ax) (y7:aQ)=>ah y7) n (re l) k (i:ax) x) (λi=>re (fV (l.take i) k)) (ah (re (fV l k))) (λn i hi=>by
  have hlen:(fV (l.take i) k).length<=i:=by refine dg (eS ..) ?_;rw[eL];omega
  have e:fV (l.take (i+1)) k=fV (l.take i) k++(bif !decide ((el l i).k=k)then [el l i]else []):=by unfold fV;rw[cE hi,iq,eG hi];cases hd:decide (l[i].k=k)<;>simp[hd]
  rw[e];simp only[l3,r3,de,Lib.c6,hi,aN,Lib.cm,aL,au,Lib.dN,oD hi,qx hi,qy hi,qz hi,bz,bE,Lib.eN,pR,bC,Lib.cS hi (by omega:l.length<=9223372036854775807)];rw[Lib.ch (by omega) (by omega),au];cases decide ((el l i).k=k)with
  |true=>rw[aY,aw,aw,dj]
  |false=>rw[bP,au,au];unfold Lib.re;rw[dh];rfl) (λn=>by
  simp only[l3,r3,de,Lib.c6,bk,bc,aw,dR]) Lib.cJ 0 (bD _) (cu (by omega))
 exact key
end qm

namespace lZ
open Lib (rc el Cl)
open il (jn)
theorem tail(l:az Cl)(x:Cl)(hl:l.length<=1048576)(c0:az Cl)(hc:c0.length<=1048577):
  l9 Lib.cJ (λ(_:aQ) (_ _:ax) (_:aq) (_ _ _:ax) (_:aq) (_:ax) (y:aQ)=>ah y) Lib.cJ (rc l) 0 x.id x.k x.fe x.fr x.sta x.jV x.age (rc c0)=ah (rc (c0++l.filter λy=>decide (y.id>x.id))):=by
 refine CJ l (λy=>decide (y.id>x.id)) (λm (i:aE) acc=>l9 Lib.cJ (λ(_:aQ) (_ _:ax) (_:aq) (_ _ _:ax) (_:aq) (_:ax) (y:aQ)=>ah y) m (rc l) (i:ax) x.id x.k x.fe x.fr x.sta x.jV x.age (rc acc)) (λacc=>ah (rc acc)) c0
  (λm i acc h ha hp=> ?_) (λm i acc h hp=> ?_) (λm acc=> ?_) Lib.cJ (cu (by omega))
 ·have mR:decide (l[i].id>x.id)=true:=hp;simp only[l9,r9,eI,Lib.c6,h,aN,Lib.cm,aL,au,Lib.dN,rc0 h,rc1 h,rc2 h,rc3 h,rc4 h,rc5 h,rc6 h,bz,bE,mR,pR,bC,Lib.cS h (by omega:l.length<=9223372036854775807),Lib.ch (n:=acc.length+1) (b:=72) (by omega) (by omega)];unfold Lib.rc;rw[dh];rfl
 ·have mR:decide (l[i].id>x.id)=false:=hp;simp only[l9,r9,eI,Lib.c6,h,aN,Lib.cm,aL,au,aw,Lib.dN,rc0 h,bE,mR,Lib.cS h (by omega:l.length<=9223372036854775807)]
 ·simp only[l9,r9,eI,Lib.c6,bk,bc,aw]
theorem ok(l:az Cl)(x:Cl)(hl:l.length<=1048576):c (rc l) x.id x.k x.fe x.fr x.sta x.jV x.age=ai/\v (rc l) x.id x.k x.fe x.fr x.sta x.jV x.age=rc (jn l x):=by
 refine out _ _ _ _ _ _ _ _ ?_;unfold vo b
 have key:=CJ l (λy=>decide (y.id<x.id))
  (λm (i:aE) acc=>l3 Lib.cJ (λ(KK:aQ) (_ MH:ax) (Ir:aq) (DR Xd Rj:ax) (DS:aq) (Gc:ax) (EI:aQ)=>bif(cw (bS EI+bS (aD (aP [Ck.i ao,Ck.s,Ck.i ao,Ck.i ao,Ck.i ao,Ck.s,Ck.i ao] 1) 0 [CV.i ao MH,CV.s Ir,CV.i ao DR,CV.i ao Xd,CV.i ao Rj,CV.s DS,CV.i ao Gc])) 72)then(l9 Lib.cJ (λ(_:aQ) (_ _:ax) (_:aq) (_ _ _:ax) (_:aq) (_:ax) (y39:aQ)=>ah y39) Lib.cJ KK 0 MH Ir DR Xd Rj DS Gc (EI++aD (aP [Ck.i ao,Ck.s,Ck.i ao,Ck.i ao,Ck.i ao,Ck.s,Ck.i ao] 1) 0 [CV.i ao MH,CV.s Ir,CV.i ao DR,CV.i ao Xd,CV.i ao Rj,CV.s DS,CV.i ao Gc]))else(aj)) m (rc l) (i:ax) x.id x.k x.fe x.fr x.sta x.jV x.age (rc acc))
  (λacc=>bif cw (acc.length+1) 72 then l9 Lib.cJ (λ(_:aQ) (_ _:ax) (_:aq) (_ _ _:ax) (_:aq) (_:ax) (y:aQ)=>ah y) Lib.cJ (rc l) 0 x.id x.k x.fe x.fr x.sta x.jV x.age (rc (acc++[x]))else aj) []
  (λm i acc h ha hp=>by
   have mR:decide (l[i].id<x.id)=true:=hp;have ha:acc.length<=i:=by simpa using ha
   simp only[l3,r3,eI,Lib.c6,h,aN,Lib.cm,aL,au,Lib.dN,rc0 h,rc1 h,rc2 h,rc3 h,rc4 h,rc5 h,rc6 h,bz,bE,mR,pR,bC,Lib.cS h (by omega:l.length<=9223372036854775807),Lib.ch (n:=acc.length+1) (b:=72) (by omega) (by omega)];unfold Lib.rc;rw[dh];rfl)
  (λm i acc h hp=>by have mR:decide (l[i].id<x.id)=false:=hp;simp only[l3,r3,eI,Lib.c6,h,aN,Lib.cm,aL,au,aw,Lib.dN,rc0 h,bE,mR,Lib.cS h (by omega:l.length<=9223372036854775807)])
  (λm acc=>by simp only[l3,r3,eI,Lib.c6,bk,bc,aw,pR,bC];unfold Lib.rc;rw[dh];rfl) Lib.cJ (cu (by omega))
 refine key.trans ?_;have hf:=eS (λy:Cl=>decide (y.id<x.id)) l;rw[gF,Lib.ch (by omega) (by omega),au,tail l x hl _ (by simp;omega)];unfold jn;rw[cy]
end lZ

namespace zC
theorem eq(k:aq)(s l:ax)(b:aq)(n:ax):Ef.v k s l b n=zC.v k s l b n:=EJ.eq k s l b n
end zC

namespace wW
open Lib (rr rs re rf rc Px Cl Fe En el)
open e9 (without)
open jz (eO)
open oX (jb)
open np (lL)
open il (hit sS put ID On FU lI jn rW pX)
open gd (fV)
open uU (ij pD)
open SN (res BK Ks)
theorem find(k0 k1:ax->aq->ax->ax->ax->aQ->aQ->aQ->aQ->ax->aQ->aQ->ax->ax->ax->ax->ax->ax->ax->aQ->aQ->aQ->aQ->aQ->aQ->aA R)(cl:az Cl)(hl:cl.length<=1048576)(id:ax)(key:aq)(z4 z6:ax)(q7 q8 q9 EB:aQ)(WC:ax)(Vl:aQ)(WD z15 KB z17 O4 O5 O6:ax)(Vm Vn Vo Vp Vq Vr:aQ):
  (lI cl id=ak->l5 Lib.cJ k0 k1 Lib.cJ id key z4 0 z6 q7 q8 q9 EB WC Vl (rc cl) WD z15 KB z17 O4 O5 O6 Vm Vn Vo Vp Vq Vr=k1 id key z4 (cl.length:ax) z6 q7 q8 q9 EB WC Vl (rc cl) WD z15 KB z17 O4 O5 O6 Vm Vn Vo Vp Vq Vr)/\
  (lI cl id=ai->∃j:ax,l5 Lib.cJ k0 k1 Lib.cJ id key z4 0 z6 q7 q8 q9 EB WC Vl (rc cl) WD z15 KB z17 O4 O5 O6 Vm Vn Vo Vp Vq Vr=k0 id key 1 j z6 q7 q8 q9 EB WC Vl (rc cl) WD O4 O5 O6 O4 O5 O6 Vm Vn Vo Vp Vq Vr):=by
 have go:∀(d i n:aE),cl.length-i<=d->i<=cl.length->d<n->
   (((cl.drop i).any λx=>decide (x.id=id))=ak->l5 Lib.cJ k0 k1 n id key z4 (i:ax) z6 q7 q8 q9 EB WC Vl (rc cl) WD z15 KB z17 O4 O5 O6 Vm Vn Vo Vp Vq Vr=k1 id key z4 (cl.length:ax) z6 q7 q8 q9 EB WC Vl (rc cl) WD z15 KB z17 O4 O5 O6 Vm Vn Vo Vp Vq Vr)/\
   (((cl.drop i).any λx=>decide (x.id=id))=ai->∃j:ax,l5 Lib.cJ k0 k1 n id key z4 (i:ax) z6 q7 q8 q9 EB WC Vl (rc cl) WD z15 KB z17 O4 O5 O6 Vm Vn Vo Vp Vq Vr=k0 id key 1 j z6 q7 q8 q9 EB WC Vl (rc cl) WD O4 O5 O6 O4 O5 O6 Vm Vn Vo Vp Vq Vr):=by
  intro d
  induction d with
  |zero=>
   intro i n h1 h2 h3;obtain⟨n,rfl⟩:∃n',n=n'+1:=⟨n-1,by omega⟩
   have:i=cl.length:=by omega
   subst this;rw[di];exact⟨λ_=>by simp only[l5,r5,eI,Lib.c6,bk,bc,aw],λh=>by cases h⟩
  |succ d ih=>
   intro i n h1 h2 h3;obtain⟨n,rfl⟩:∃n',n=n'+1:=⟨n-1,by omega⟩
   by_cases hi:i<cl.length
   ·rw[dC hi,List.any_cons];obtain⟨g1,g2⟩:=ih (i+1) n (by omega) hi (by omega);have e:l5 Lib.cJ k0 k1 (n+1) id key z4 (i:ax) z6 q7 q8 q9 EB WC Vl (rc cl) WD z15 KB z17 O4 O5 O6 Vm Vn Vo Vp Vq Vr=bif decide (cl[i].id=id)then k0 id key 1 (i:ax) z6 q7 q8 q9 EB WC Vl (rc cl) WD O4 O5 O6 O4 O5 O6 Vm Vn Vo Vp Vq Vr else l5 Lib.cJ k0 k1 n id key z4 ((i+1:aE):ax) z6 q7 q8 q9 EB WC Vl (rc cl) WD z15 KB z17 O4 O5 O6 Vm Vn Vo Vp Vq Vr:=by simp only[l5,r5,eI,Lib.c6,hi,aN,Lib.cm,aL,au,Lib.dN,rc0 hi,bE,Lib.cS hi (by omega:cl.length<=9223372036854775807)]
    rw[e];cases hc:decide (cl[i].id=id)with
    |true=>exact⟨λh=>by simp at h,λ_=>⟨i,rfl⟩⟩
    |false=>rw[ov,aw];exact⟨g1,g2⟩
   ·have:i=cl.length:=by omega
    subst this;rw[di];exact⟨λ_=>by simp only[l5,r5,eI,Lib.c6,bk,bc,aw],λh=>by cases h⟩
 have:=go cl.length 0 Lib.cJ (by omega) (bD _) (cu (by omega));rw[fg]at this;exact this
def sc(key:aq):az Fe->aE->ax×aq->ax×aq
 |[],_,s=>s|x::r,i,s=>sc key r (i+1) (bif FU key x then((i:ax)+1,x.t)else s)
theorem scan(k0:aq->aU->ax->ax->aQ->aQ->aQ->aQ->ax->aQ->aQ->ax->ax->ax->ax->ax->ax->ax->ax->aq->ax->ax->ax->aq->ax->aQ->aQ->aQ->aQ->aQ->aQ->aA R)(fe:az Fe)(hl:fe.length<=1048576)(key:aq)(h0:aU)(z84:ax)(q85 q86 q87 q88:aQ)(z89:ax)(q91:aQ)(z92 z93 z94 z95 z96 z97 z98 z99:ax)(aag:aq)(aaz aaA aaB:ax)(Z4 Z5 Z6 Z7 Z9 Z_:aQ):
  YF Lib.cJ k0 Lib.cJ key h0 0 z84 q85 q86 q87 q88 z89 (rf fe) q91 z92 z93 z94 z95 z96 z97 z98 z99 aag 0 aaz aaA ({data:= #[]}) aaB Z4 Z5 Z6 Z7 Z9 Z_=k0 key h0 (fe.length:ax) z84 q85 q86 q87 q88 z89 (rf fe) q91 z92 z93 z94 z95 z96 z97 z98 z99 aag (sc key fe 0 (0,⟨#[]⟩)).1 aaz aaA (sc key fe 0 (0,⟨#[]⟩)).2 aaB Z4 Z5 Z6 Z7 Z9 Z_:=by
 have go:∀(d i n:aE) (s:ax×aq),fe.length-i<=d->i<=fe.length->d<n->
   YF Lib.cJ k0 n key h0 (i:ax) z84 q85 q86 q87 q88 z89 (rf fe) q91 z92 z93 z94 z95 z96 z97 z98 z99 aag s.1 aaz aaA s.2 aaB Z4 Z5 Z6 Z7 Z9 Z_=k0 key h0 (fe.length:ax) z84 q85 q86 q87 q88 z89 (rf fe) q91 z92 z93 z94 z95 z96 z97 z98 z99 aag (sc key (fe.drop i) i s).1 aaz aaA (sc key (fe.drop i) i s).2 aaB Z4 Z5 Z6 Z7 Z9 Z_:=by
  intro d
  induction d with
  |zero=>
   intro i n s h1 h2 h3;obtain⟨n,rfl⟩:∃n',n=n'+1:=⟨n-1,by omega⟩
   have:i=fe.length:=by omega
   subst this;simp only[YF,r22,dD,Lib.c6,bk,bc,aw,di,sc]
  |succ d ih=>
   intro i n s h1 h2 h3;obtain⟨n,rfl⟩:∃n',n=n'+1:=⟨n-1,by omega⟩
   by_cases hi:i<fe.length
   ·rw[dC hi];unfold sc;rw[<-ih (i+1) n _ (by omega) hi (by omega)];have w:=Lib.cS hi (by omega:fe.length<=9223372036854775807);have w2:((i+1:aE):ax)=(i:ax)+1:=by omega
    simp only[YF,r22,dD,Lib.c6,hi,aN,Lib.cm,aL,au,Lib.dN,Bl hi,BX hi,Ag hi,bz,bE,Lib.eN,w,eG hi];unfold FU;cases decide (fe[i].k=key)<;>cases decide (fe[i].sta=1)<;>simp only[iL,wH,aL,jf,au,aw,w2]
   ·have:i=fe.length:=by omega
    subst this;simp only[YF,r22,dD,Lib.c6,bk,bc,aw,di,sc]
 have:=go fe.length 0 Lib.cJ (0,⟨#[]⟩) (by omega) (bD _) (cu (by omega));rw[fg]at this;exact this
theorem aak(key:aq):∀(l:az Fe) (i:aE) (s:ax×aq),(∀x∈l,FU key x=ak)->sc key l i s=s:=by
 intro l;induction l with
 |nil=>intro i s _;rfl
 |cons x l ih=>intro i s h;unfold sc;rw[h x (by simp),aw];exact ih _ _ λy hy=>h y (by simp[hy])
theorem ahl{fe:az Fe}(hp:fe.Pairwise λf g=>lL g f=ak)(key:aq):sc key fe 0 (0,⟨#[]⟩)=match On fe key with|some j=>((j:ax)+1,(el fe j).t)|none=>(0,⟨#[]⟩):=by
 have go:∀(l:az Fe) (i:aE),l.Pairwise (λf g=>lL g f=ak)->sc key l i (0,⟨#[]⟩)=match l.findIdx? (FU key)with|some j=>(((i+j:aE):ax)+1,(el l j).t)|none=>(0,⟨#[]⟩):=by
  intro l;induction l with
  |nil=>intro i _;rfl
  |cons x l ih=>
   intro i h;rw[qE]at h;unfold sc;rw[List.findIdx?_cons];cases hq:FU key x with
   |true=>
    have hn:∀y∈l,FU key y=false:=λy hy=>by
     have h2:=h.1 y hy;unfold FU at hq⊢;unfold lL at h2;simp only[aM,bh]at hq;rw[hq.1,hq.2]at h2;simp only[Bool.and_eq_false_iff,e_]at h2⊢;rcases h2 with h2|h2
     ·exact .inr h2
     ·rcases h2 with h2|h2
      ·exact cL trivial h2
      ·exact .inl h2
    rw[au,aak key l _ _ hn];rfl
   |false=>
    rw[aw,ih (i+1) h.2];cases l.findIdx? (FU key)with
    |none=>rfl
    |some j=>simp only[dx,if_false,ji,show i+1+j=i+(j+1)by omega];rfl
 have:=go fe 0 hp;unfold On;rw[this];cases fe.findIdx? (FU key)with
 |none=>rfl
 |some j=>dsimp only;rw[bX]
theorem ok(p:Px)(id:ax)(key:aq)(hp:p.Fit 1048576)(hkz:key.size<=140737488355328):c p.now (re p.en) (rs p.w) (rs p.m) (rr p.s) p.a (rf p.fe) (rc p.cl) p.hits id key=ai/\v p.now (re p.en) (rs p.w) (rs p.m) (rr p.s) p.a (rf p.fe) (rc p.cl) p.hits id key=res (il.ask p id key):=by
 have h1:=fI.ok p hp;have h2:=oX.ok p hp;have n_:=hp.cl;have FF:=hp.fe;have hen:=hp.en;have LI:jq.oQ p.s:=⟨hp.s.1,hp.s.2.1⟩
 refine out _ _ _ _ _ _ _ _ _ _ _ ?_;unfold vo b il.ask;simp only[Lib.lt,h1.1,h1.2,h2.1,h2.2,au];cases cg:jb p with
 |false=>rfl
 |true=>
 have ho:ij p:=pD.1 cg;rw[aY,aw,ba,show ki.v id 1 9=decide (1<=id/\id<=9)from fB.eH _ _ _];cases JG:decide (1<=id/\id<=9)with
 |false=>rfl
 |true=>
 rw[aY,aw,ba,show th.v key=eO key from fB.eH _ _ _];cases hko:eO key with
 |false=>rfl
 |true=>
 have Bj:=eT.kQ hko;rw[aY,aw,ba,eI];have hc6:=ho.cll;by_cases h6:p.cl.length=6
 ·rw[aG (show(p.cl.length:ax)≥6 by omega),au,aK (show¬p.cl.length<6 by omega),wH];rfl
 rw[aK (show¬(p.cl.length:ax)≥6 by omega),aw,aG (show p.cl.length<6 by omega),iL];cases hhi:lI p.cl id with
 |true=>obtain⟨j,hj⟩:=(find _ _ p.cl n_ id key 0 p.now (re p.en) (rs p.w) (rs p.m) (rr p.s) p.a (rf p.fe) p.hits 0 0 0 p.now p.a p.hits (re p.en) (rs p.w) (rs p.m) (rr p.s) (rf p.fe) (rc p.cl)).2 hhi;refine hj.trans ?_;rfl
 |false=>
 refine((find _ _ p.cl n_ id key 0 p.now (re p.en) (rs p.w) (rs p.m) (rr p.s) p.a (rf p.fe) p.hits 0 0 0 p.now p.a p.hits (re p.en) (rs p.w) (rs p.m) (rr p.s) (rf p.fe) (rc p.cl)).1 hhi).trans ?_;rw[bP,au];have h4:=w7.ok p.now p.en (rs p.w) (rs p.m) (rr p.s) p.a (rf p.fe) (rc p.cl) p.hits key hen;have h7:=eT.ok p.w p.m p.s p.a key hp.w hp.m LI (by omega);have h8:=du.ok p.s p.a key LI (by omega);have h9:=vg.ok p.w p.m p.s p.a key hp.w hp.m LI;have Q7:=qm.ok p.en key (by omega);have JV:=λx:Cl=>lZ.ok p.cl x n_;have atz:=ho.hits;have s8:=ho.fl;have yP:=ahl ho.ap key;have JO:cw (p.fe.length+1) 56=true:=Lib.ch (by omega) (by omega);have dI:∀key:aq,bS (aD (aP [Ck.s,Ck.s,Ck.i ao,Ck.i ao,Ck.i ao] 1) 0 [CV.s key,CV.s {data:= #[]},CV.i ao 1,CV.i ao 0,CV.i ao 0])=1:=λ_=>rfl;have PQ:(el (p.fe++[rW key]) p.fe.length).t=⟨#[]⟩:=by rw[eG (by simp),ES (by omega)];simp[rW]
 rw[h4.1,h4.2,au];cases he:ID p.en key with
 |some e=>
  have afU:e∈p.en:=qD he;obtain⟨i,hi,hie⟩:=c8 afU;dsimp only[w7.res];rw[au,<-zC.eq,show Ef.v e.k e.st e.li e.bo p.now=pX e p.now from rfl];cases DO:pX e p.now with
  |true=>
   have hw:bG (p.now-e.st)=p.now-e.st:=by have:=BK (p:=p) hi ho;rwa[eG hi,hie]at this
   have hj:=JV ⟨id,key,0,e.st,2,e.bo,p.now-e.st⟩;dsimp only at hj;rw[au,h7.1,h7.2,au,au,hw,hj.1,hj.2,au,au];unfold res hit;cases hh:decide (p.hits<1000000000)with
   |true=>rw[bh]at hh;rw[au,c_ (by omega) (by omega)];rfl
   |false=>rfl
  |false=>
   rw[aw,aw];refine(scan _ p.fe FF key ai p.now (re p.en) (rs p.w) (rs p.m) (rr p.s) p.a (rc p.cl) p.hits 0 0 0 p.now p.a p.hits id key 0 1 0 (re p.en) (rs p.w) (rs p.m) (rr p.s) (rf p.fe) (rc p.cl)).trans ?_;rw[yP];unfold sS;cases hoi:On p.fe key with
   |none=>
    dsimp only;by_cases Q8:p.fe.length=20
    ·rw[aK (show¬p.fe.length<20 by omega)];simp only[aN,au,dD,aG (show(p.fe.length:ax)≥20 by omega)];rfl
    ·rw[aG (show p.fe.length<20 by omega)];have hj:=JV ⟨id,key,(p.fe.length:ax)+1,0,1,⟨#[]⟩,0⟩;dsimp only at hj;have hlen:((p.fe.length+1:aE):ax)=(p.fe.length:ax)+1:=by omega
     simp only[aN,au,aw,dD,aK (show¬(p.fe.length:ax)≥20 by omega),dI,JO,Q7.1,Q7.2,h9.1,h9.2,h8.1,h8.2,Ks,bU,bC,hlen,hj.1,hj.2];unfold res put;rw[PQ];rfl
   |some j=>dsimp only;have hj:=JV ⟨id,key,(j:ax)+1,0,1,(el p.fe j).t,0⟩;dsimp only at hj;simp only[aK (show¬(j:ax)+1=0 by omega),au,aw,Q7.1,Q7.2,h9.1,h9.2,h8.1,h8.2,hj.1,hj.2];rfl
 |none=>
  dsimp only[w7.res];rw[aw];refine(scan _ p.fe FF key ak p.now (re p.en) (rs p.w) (rs p.m) (rr p.s) p.a (rc p.cl) p.hits 0 0 0 p.now p.a p.hits id key 0 1 0 (re p.en) (rs p.w) (rs p.m) (rr p.s) (rf p.fe) (rc p.cl)).trans ?_;rw[yP];unfold sS;cases hoi:On p.fe key with
  |none=>
   dsimp only;by_cases Q8:p.fe.length=20
   ·rw[aK (show¬p.fe.length<20 by omega)];simp only[aN,au,dD,aG (show(p.fe.length:ax)≥20 by omega)];rfl
   ·rw[aG (show p.fe.length<20 by omega)];have hj:=JV ⟨id,key,(p.fe.length:ax)+1,0,1,⟨#[]⟩,0⟩;dsimp only at hj;have hlen:((p.fe.length+1:aE):ax)=(p.fe.length:ax)+1:=by omega
    simp only[aN,au,aw,dD,aK (show¬(p.fe.length:ax)≥20 by omega),dI,JO,h8.1,h8.2,Ks,bU,bC,hlen,hj.1,hj.2];unfold res put;rw[PQ];rfl
  |some j=>dsimp only;have hj:=JV ⟨id,key,(j:ax)+1,0,1,(el p.fe j).t,0⟩;dsimp only at hj;simp only[aK (show¬(j:ax)+1=0 by omega),au,aw,h8.1,h8.2,hj.1,hj.2];rfl
end wW

namespace vh
open Lib (rr rs re rf rc Px el)
open oX (jb)
theorem ok(p:Px)(f:ax)(hp:p.Fit 1048576):c p.now (re p.en) (rs p.w) (rs p.m) (rr p.s) p.a (rf p.fe) (rc p.cl) p.hits f=ai/\v p.now (re p.en) (rs p.w) (rs p.m) (rr p.s) p.a (rf p.fe) (rc p.cl) p.hits f=gv.s9 p f:=by
 have h:=oX.ok p hp;have hf:=hp.fe;refine out _ _ _ _ _ _ _ _ _ _ ?_;unfold vo b gv.s9;rw[h.1,h.2,au,dD,c_ (x:=(p.fe.length:ax)-1) (by omega) (by omega),show ki.v f 0 ((p.fe.length:ax)-1)=decide (0<=f/\f<=(p.fe.length:ax)-1)from fB.eH _ _ _];cases jb p with
 |false=>rfl
 |true=>
  cases hd:decide (0<=f/\f<=(p.fe.length:ax)-1)with
  |false=>rfl
  |true=>
   have:=cq hd;obtain⟨n,rfl⟩:∃n:aE,f=(n:ax):=⟨f.toNat,by omega⟩
   have hn:n<p.fe.length:=by omega
   simp only[au,ba,Lib.cm,Lib.c6,hn,aN,aL,Lib.dN,Ag hn,bE]
end vh

namespace Rq
theorem put(s:ax)(t q:aq)(ht:(t.size:ax)<=400)(hs:1<=s/\s<=3):D4.v s t [] q=bif decide (s=1)&&(decide (1<=q.size/\q.size<=40)&&decide (t.size+q.size<=400))then(s,t++q,[],ai)else(s,t,[],ak):=by
 unfold D4.v;have cg:lR.v s t []=true:=by unfold lR.v lR.rest;rw[aG hs,aG (show t.size<=400 by omega)];rfl
 by_cases h1:s=1
 ·by_cases h2:1<=q.size/\q.size<=40
  ·by_cases h3:t.size+q.size<=400
   ·rw[bA ⟨cg,h1,h2.1,h2.2,h3⟩,aG h1,aG h2,aG h3];rfl
   ·rw[bJ (by omega),aK h3];simp
  ·rw[bJ (by omega),aK h2];simp
 ·rw[bJ (by simp[h1]),aK h1];rfl
end Rq

namespace sO
open Lib (rr rs re rf rc Px Cl el)
open uV (ec nY lB)
theorem ok(p:Px)(f:aE)(st:ax)(hf:f<p.fe.length)(hl:p.fe.length<=2097152)(hc:p.cl.length<=2097152):
  c p.now (re p.en) (rs p.w) (rs p.m) (rr p.s) p.a (rf p.fe) (rc p.cl) p.hits (f:ax) st=ai/\v p.now (re p.en) (rs p.w) (rs p.m) (rr p.s) p.a (rf p.fe) (rc p.cl) p.hits (f:ax) st=(p.now,re p.en,rs p.w,rs p.m,rr p.s,p.a,rf p.fe,rc (nY p.cl f st (el p.fe f).t),p.hits):=by
 refine out _ _ _ _ _ _ _ _ _ _ _ ?_;unfold vo b;have key:=nR Cl.row p.cl (λ_ c=>ec f st (el p.fe f).t c) (λn (i:aE) x=>l1 Lib.cJ (λ(_ _ _ Xd Rj DS:ax) (Gc EI wD KL KM Wz:aQ)=>ah (Xd,Gc,EI,wD,KL,Rj,KM,Wz,DS)) n (f:ax) st (i:ax) p.now p.a p.hits (re p.en) (rs p.w) (rs p.m) (rr p.s) (rf p.fe) x) (λx=>ah (p.now,re p.en,rs p.w,rs p.m,rr p.s,p.a,rf p.fe,x,p.hits)) (λn i L h h2 hL wh=> ?_) (λn L hL=> ?_) Lib.cJ (cu (by omega))
 ·rw[lB]at key;exact key
 ·have e2:ar (L.map Cl.row) i 2=CV.i ao p.cl[i].fe:=by rw[fD _ L i _ h2,wh];rfl
  have e4:ar (L.map Cl.row) i 4=CV.i ao p.cl[i].sta:=by rw[fD _ L i _ h2,wh];rfl
  have s1:eC (L.map Cl.row) i 5 [CV.s (el p.fe f).t]=(L.set i {p.cl[i]with jV:=(el p.fe f).t}).map Cl.row:=kW Cl.row L i 5 _ _ h2 (by rw[wh];rfl);have h3:i<(L.set i {p.cl[i]with jV:=(el p.fe f).t}).length:=by simpa using h2
  have s2:eC ((L.set i {p.cl[i]with jV:=(el p.fe f).t}).map Cl.row) i 4 [CV.i ao st]=((L.set i {p.cl[i]with jV:=(el p.fe f).t}).set i {p.cl[i]with sta:=st,jV:=(el p.fe f).t}).map Cl.row:=kW Cl.row _ i 4 _ _ h3 (by rw[kL];rfl);simp only[l1,r1,Lib.c6,h2,hf,bV,cD,aN,Lib.cm,aL,au,Lib.dN,e2,e4,bE,s1,s2,pN,dD,BX hf,bz,Lib.cS h (by omega:p.cl.length<=9223372036854775807),c_ (x:=(f:ax)+1) (by omega) (by omega)];unfold ec;cases decide (p.cl[i].fe=(f:ax)+1)with
  |false=>rw[jf,aw,aw,<-wh,fj]
  |true=>
   cases decide (p.cl[i].sta=1)with
   |false=>rw[ba,au,aw,aw,<-wh,fj]
   |true=>rw[ba,au,au,au]
 ·simp only[l1,r1,bV,hL,Lib.c6,bk,bc,aw]
end sO

namespace D7
open Lib (rr rs re rf rc Px el)
open gv (s9 Di told iR n7 iP yB)
theorem ok(p:Px)(f:ax)(q:aq)(hp:p.Fit 1048576):c p.now (re p.en) (rs p.w) (rs p.m) (rr p.s) p.a (rf p.fe) (rc p.cl) p.hits f q=ai/\v p.now (re p.en) (rs p.w) (rs p.m) (rr p.s) p.a (rf p.fe) (rc p.cl) p.hits f q=(p.now,re p.en,rs p.w,rs p.m,rr p.s,p.a,rf (Di p f q).1.fe,rc (Di p f q).1.cl,p.hits,(Di p f q).2):=by
 have h1:=fI.ok p hp;have h2:=vh.ok p f hp;have hf:=hp.fe;have hc:=hp.cl;refine out _ _ _ _ _ _ _ _ _ _ _ ?_;unfold vo b Di;simp only[Lib.lt,h1.1,h1.2,h2.1,h2.2,au];cases ho:s9 p f with
 |false=>rfl
 |true=>
  obtain⟨n,rfl,hn,cg,hs1⟩:=iR ho;have xR:=gv.abx cg n hn;unfold np.nM at xR;simp only[aM,bh]at xR;have nq:Ha.v 1 (el p.fe n).t [] q=_:=Rq.put 1 (el p.fe n).t q xR.2.1 (by omega);rw[aG (show(1:ax)=1 from rfl),ba]at nq;simp only[aY,aw,au,Lib.cm,Lib.c6,dD,hn,aN,aL,Lib.dN,BX hn,bz,nq,ba];cases hs:decide (1<=q.size/\q.size<=40)&&decide ((el p.fe n).t.size+q.size<=400)with
  |false=>rfl
  |true=>
   have e1:=yB p.fe n 1 [CV.s ((el p.fe n).t++q)] {el p.fe n with t:=(el p.fe n).t++q} hn rfl;have HH:n<(p.fe.set n {el p.fe n with t:=(el p.fe n).t++q}).length:=by rw[cD];exact hn
   have h3:=sO.ok {p with fe:=p.fe.set n {el p.fe n with t:=(el p.fe n).t++q}} n 1 HH (by rw[cD];omega) (by dsimp only;omega);dsimp only at h3;rw[iP hn]at h3;simp only[aY,aw,au,e1,h3.1,h3.2];rfl
end D7

namespace Pn
open Lib (rr rs re rf rc Px En el)
open gd (So fV mE)
open kZ (yE)
theorem ok(p:Px)(e:En)(r6 r7:aQ)(hp:p.Fit 1048575)(hso:So p.en)(hk1:∀x∈p.en,1<=x.k.size)(hk:e.k.size<=140737488355328):
  c p.now (re p.en) (rs p.w) (rs p.m) (rr p.s) p.a r6 r7 p.hits e.k e.st e.li e.bo=ai/\v p.now (re p.en) (rs p.w) (rs p.m) (rr p.s) p.a r6 r7 p.hits e.k e.st e.li e.bo=(p.now,re (yE p e).en,rs (yE p e).w,rs (yE p e).m,rr (yE p e).s,(yE p e).a,r6,r7,p.hits):=by
 have he:=hp.en;have hw:=hp.w;have hm:=hp.m;obtain⟨b1,b2,b3⟩:=eT.Mz p.w p.m p.s p.a e.k;have h1:=eT.ok p.w p.m p.s p.a e.k (by omega) (by omega) ⟨dg hp.s.1 (by omega),λq hq=>dg (hp.s.2.1 q hq) (by omega)⟩ hk;refine out _ _ _ _ _ _ _ _ _ _ _ _ _ ?_;unfold vo b yE;generalize eT.val p.w p.m p.s p.a e.k=V at h1 b1 b2 b3;obtain⟨W,M,T,A,G⟩:=V;dsimp only at h1 b1 b2⊢;have h2:=qm.ok p.en G (by omega);have h3:=tl.ok W M (rr T) A e.k (by omega) (by omega);have hd:=gd.xG p.en G;have h4:=lU.ok (re (fV p.en G)) e.k e.st e.li e.bo (by rw[de];omega);rw[gd.t_]at h4;simp only[Lib.lt,h1.1,h1.2,h2.1,h2.2,h3.1,h3.2,h4.1,h4.2,au,Lib.eN];by_cases hG:G=⟨#[]⟩
 ·subst hG;rw[gd.drop_nil hk1]at h4⊢;rw[aG rfl];simp only[aY,aw,h4.1,h4.2,au];cases e9.has W e.k||e9.has M e.k<;>rfl
 ·rw[aK hG];simp only[bP,au];cases e9.has W e.k||e9.has M e.k<;>rfl
end Pn

namespace Ea
open Lib (rr rs re rf rc Px el)
open gv (s9 told iR n7 iP yB)
open s_ (cls kG)
theorem ok(p:Px)(f life:ax)(hp:p.Fit 1048576):c p.now (re p.en) (rs p.w) (rs p.m) (rr p.s) p.a (rf p.fe) (rc p.cl) p.hits f life=ai/\v p.now (re p.en) (rs p.w) (rs p.m) (rr p.s) p.a (rf p.fe) (rc p.cl) p.hits f life=(p.now,re (cls p f life).1.en,rs (cls p f life).1.w,rs (cls p f life).1.m,rr (cls p f life).1.s,(cls p f life).1.a,rf (cls p f life).1.fe,rc (cls p f life).1.cl,p.hits,(cls p f life).2):=by
 have h1:=fI.ok p hp;have h2:=vh.ok p f hp;have hf:=hp.fe;have hc:=hp.cl;refine out _ _ _ _ _ _ _ _ _ _ _ ?_;unfold vo b cls;simp only[Lib.lt,h1.1,h1.2,h2.1,h2.2,au];cases ho:s9 p f with
 |false=>rfl
 |true=>
  obtain⟨n,rfl,hn,cg,hs1⟩:=iR ho;obtain⟨so,ks,_,_,_,_,_,_,_,_,xR⟩:=kZ.H7 cg;have xR:=xR n hn;unfold np.nM at xR;rw[aM]at xR;have Bj:=eT.kQ xR.1;rw[show ki.v life 0 999999=decide (0<=life/\life<=999999)from fB.eH _ _ _];cases hl:decide (0<=life/\life<=999999)with
  |false=>rfl
  |true=>
   generalize hg:({el p.fe n with sta:=2,li:=life,st:=p.now}:Lib.Fe)=g;have hk:g.k=(el p.fe n).k:=by rw[<-hg]
   have ht:g.t=(el p.fe n).t:=by rw[<-hg]
   have gl:g.li=life:=by rw[<-hg]
   have gs:g.st=p.now:=by rw[<-hg]
   have e3:=yB p.fe n 0 [CV.s (el p.fe n).k,CV.s (el p.fe n).t,CV.i ao 2,CV.i ao life,CV.i ao p.now] g hn (by rw[<-hg];rfl);have n3:n<(p.fe.set n g).length:=by rw[cD];exact hn
   have h3:=sO.ok {p with fe:=p.fe.set n g} n 2 n3 (by rw[cD];omega) (by dsimp only;omega);dsimp only at h3;rw[iP hn]at h3;have h4:=Pn.ok (told p n g 2) (kG g) (rf (p.fe.set n g)) (rc (told p n g 2).cl) ((n7 (kZ.jO cg)).le (by omega)) so ks (by show g.k.size<=_;rw[hk];omega);unfold kG at h4;dsimp only[told]at h4;rw[gl,gs,hk,ht]at h4;unfold kG told;rw[ht]at h3;simp only[aY,aw,au,Lib.cm,Lib.c6,dD,hn,aN,aL,ba,Lib.dN,Bl hn,BX hn,MD hn,Rh hn,Ri hn,bE,bz,e3,h3.1,h3.2,gl,gs,hk,ht];cases decide (life>0)with
   |true=>simp only[au,h4.1,h4.2];subst hg;rfl
   |false=>subst hg;rfl
end Ea

namespace Eb
theorem ok(k:aq)(s l:ax)(b0:aq):c k s l b0=ai/\v k s l b0=ve.val k s l b0:=by
 refine out k s l b0 ?_;have hf:=fH.ok (jK.v k s l b0).1;unfold vo b ve.val;rw[hf.1,hf.2];unfold jK.v fH.val;by_cases h:m8.v k s l b0=ai
 ·have h1:=mZ.ug h;have h2:=mZ.BU h;rw[bA h,bA h,bA (by dsimp only;omega)];rfl
 ·rw[bJ h,bJ h];rfl
end Eb

namespace lu
open Lib (rd el Fi)
open dG (put)
theorem tail(l:az Fi)(n t:aq)(k:ax)(hl:l.length<=1000000)(c0:az Fi)(hc:c0.length<=1000001):
  l9 Lib.cJ (λ(_:ax) (_:aQ) (_ _:aq) (_:ax) (y:aQ)=>ah y) Lib.cJ 0 (rd l) n t k (rd c0)=ah (rd (c0++l.filter λx=> !(gd.fc x.n n||decide (x.n=n)))):=by
 refine CJ l (λx=> !(gd.fc x.n n||decide (x.n=n))) (λm (i:aE) acc=>l9 Lib.cJ (λ(_:ax) (_:aQ) (_ _:aq) (_:ax) (y:aQ)=>ah y) m (i:ax) (rd l) n t k (rd acc)) (λacc=>ah (rd acc)) c0
  (λm i acc h ha hp=> ?_) (λm i acc h hp=> ?_) (λm acc=> ?_) Lib.cJ (cu (by omega))
 ·have mR:(!(b9 (aC l[i].n) (aC n)||decide (l[i].n=n)))=true:=hp;simp only[l9,r9,eg,Lib.c6,h,aN,Lib.cm,aL,au,Lib.dN,Kf h,Xa h,Xb h,bz,bE,Lib.eN,mR,pR,bC,Lib.cS h (by omega:l.length<=9223372036854775807),Lib.ch (n:=acc.length+1) (b:=40) (by omega) (by omega)];unfold Lib.rd;rw[dh];rfl
 ·have mR:(!(b9 (aC l[i].n) (aC n)||decide (l[i].n=n)))=false:=hp;simp only[l9,r9,eg,Lib.c6,h,aN,Lib.cm,aL,au,aw,Lib.dN,Kf h,bz,Lib.eN,mR,Lib.cS h (by omega:l.length<=9223372036854775807)]
 ·simp only[l9,r9,eg,Lib.c6,bk,bc,aw]
theorem ok(l:az Fi)(n t:aq)(k:ax)(hl:l.length<=1000000):c (rd l) n t k=ai/\v (rd l) n t k=rd (put l ⟨n,t,k⟩):=by
 refine out _ _ _ _ ?_;unfold vo b
 have key:=NQ l (λx=>gd.fc x.n n)
  (λm (i:aE)=>l3 Lib.cJ (λ(_:ax) (y41:aQ) (y42 y43:aq) (WB:ax)=>l9 Lib.cJ (λ(_:ax) (_:aQ) (_ _:aq) (_:ax) (y50:aQ)=>ah y50) Lib.cJ 0 y41 y42 y43 WB ([]++aD (aP [Ck.s,Ck.s,Ck.i ao] 1) 0 [CV.s y42,CV.s y43,CV.i ao WB])) (λ(_:ax) (y52:aQ) (y53 y54:aq) (y55:ax) (y56:aQ)=>bif(cw (bS y56+bS (aD (aP [Ck.s,Ck.s,Ck.i ao] 1) 0 [CV.s y53,CV.s y54,CV.i ao y55])) 40)then(l9 Lib.cJ (λ(_:ax) (_:aQ) (_ _:aq) (_:ax) (y62:aQ)=>ah y62) Lib.cJ 0 y52 y53 y54 y55 (y56++aD (aP [Ck.s,Ck.s,Ck.i ao] 1) 0 [CV.s y53,CV.s y54,CV.i ao y55]))else(aj)) m (i:ax) (rd l) n t k)
  (λm (i:aE) acc=>sR Lib.cJ (λ(_:ax) (y41:aQ) (y42 y43:aq) (WB:ax)=>l9 Lib.cJ (λ(_:ax) (_:aQ) (_ _:aq) (_:ax) (y50:aQ)=>ah y50) Lib.cJ 0 y41 y42 y43 WB ([]++aD (aP [Ck.s,Ck.s,Ck.i ao] 1) 0 [CV.s y42,CV.s y43,CV.i ao WB])) (λ(_:ax) (y52:aQ) (y53 y54:aq) (y55:ax) (y56:aQ)=>bif(cw (bS y56+bS (aD (aP [Ck.s,Ck.s,Ck.i ao] 1) 0 [CV.s y53,CV.s y54,CV.i ao y55])) 40)then(l9 Lib.cJ (λ(_:ax) (_:aQ) (_ _:aq) (_:ax) (y62:aQ)=>ah y62) Lib.cJ 0 y52 y53 y54 y55 (y56++aD (aP [Ck.s,Ck.s,Ck.i ao] 1) 0 [CV.s y53,CV.s y54,CV.i ao y55]))else(aj)) m (i:ax) (rd l) n t k (rd acc))
  (λacc=>bif cw (acc.length+1) 40 then l9 Lib.cJ (λ(_:ax) (_:aQ) (_ _:aq) (_:ax) (y:aQ)=>ah y) Lib.cJ 0 (rd l) n t k (rd (acc++[⟨n,t,k⟩]))else aj)
  (λm i h hp=>by have mR:b9 (aC l[i].n) (aC n)=true:=hp;simp only[l3,r3,eg,Lib.c6,h,aN,Lib.cm,aL,au,Lib.dN,Kf h,Xa h,Xb h,bz,bE,mR,pR,Lib.cS h (by omega:l.length<=9223372036854775807)];rfl)
  (λm i h hp=>by have mR:b9 (aC l[i].n) (aC n)=false:=hp;simp only[l3,r3,eg,Lib.c6,h,aN,Lib.cm,aL,au,aw,Lib.dN,Kf h,bz,mR,Lib.cS h (by omega:l.length<=9223372036854775807)])
  (λm=>by simp only[l3,r3,eg,Lib.c6,bk,bc,aw];rw[Lib.ch (by simp) (by simp),au];rfl)
  (λm i acc h ha hp=>by have mR:b9 (aC l[i].n) (aC n)=true:=hp;simp only[sR,zZ,eg,Lib.c6,h,aN,Lib.cm,aL,au,Lib.dN,Kf h,Xa h,Xb h,bz,bE,mR,pR,bC,Lib.cS h (by omega:l.length<=9223372036854775807),Lib.ch (n:=acc.length+1) (b:=40) (by omega) (by omega)];unfold Lib.rd;rw[dh];rfl)
  (λm i acc h hp=>by have mR:b9 (aC l[i].n) (aC n)=false:=hp;simp only[sR,zZ,eg,Lib.c6,h,aN,Lib.cm,aL,au,aw,Lib.dN,Kf h,bz,mR,Lib.cS h (by omega:l.length<=9223372036854775807)])
  (λm acc=>by simp only[sR,zZ,eg,Lib.c6,bk,bc,aw,pR,bC];unfold Lib.rd;rw[dh];rfl) Lib.cJ (cu (by omega))
 refine key.trans ?_;have hf:=eS (λx:Fi=>gd.fc x.n n) l;rw[Lib.ch (by omega) (by omega),au,tail l n t k hl _ (by simp;omega)];unfold put;rw[cy]
end lu

namespace mP
open Lib (rd el Fi)
open dG (without)
theorem ok(l:az Fi)(n:aq)(hl:l.length<=1000000):c (rd l) n=ai/\v (rd l) n=rd (without l n):=by
 refine out _ _ ?_;unfold vo b
 have key:=NQ l (λx=> !decide (x.n=n))
  (λm (i:aE)=>l3 Lib.cJ (λ(_:aq) (_:ax) (_:aQ)=>ah ([]:aQ)) (λ(_:aq) (_:ax) (_:aQ) (wD:aQ)=>ah wD) m n (i:ax) (rd l))
  (λm (i:aE) acc=>sR Lib.cJ (λ(_:aq) (_:ax) (_:aQ)=>ah ([]:aQ)) (λ(_:aq) (_:ax) (_:aQ) (wD:aQ)=>ah wD) m n (i:ax) (rd l) (rd acc)) (λacc=>ah (rd acc))
  (λm i h hp=>by simp only[l3,r3,eg,Lib.c6,h,aN,Lib.cm,aL,au,Lib.dN,Kf h,Xa h,Xb h,bz,bE,Lib.eN,hp,pR,Lib.cS h (by omega:l.length<=9223372036854775807)];rfl)
  (λm i h hp=>by simp only[l3,r3,eg,Lib.c6,h,aN,Lib.cm,aL,au,aw,Lib.dN,Kf h,bz,Lib.eN,hp,Lib.cS h (by omega:l.length<=9223372036854775807)])
  (λm=>by simp only[l3,r3,eg,Lib.c6,bk,bc,aw];rfl)
  (λm i acc h ha hp=>by simp only[sR,zZ,eg,Lib.c6,h,aN,Lib.cm,aL,au,Lib.dN,Kf h,Xa h,Xb h,bz,bE,Lib.eN,hp,pR,bC,Lib.cS h (by omega:l.length<=9223372036854775807),Lib.ch (n:=acc.length+1) (b:=40) (by omega) (by omega)];unfold Lib.rd;rw[dh];rfl)
  (λm i acc h hp=>by simp only[sR,zZ,eg,Lib.c6,h,aN,Lib.cm,aL,au,aw,Lib.dN,Kf h,bz,Lib.eN,hp,Lib.cS h (by omega:l.length<=9223372036854775807)])
  (λm acc=>by simp only[sR,zZ,eg,Lib.c6,bk,bc,aw]) Lib.cJ (cu (by omega))
 exact key
end mP

namespace Ci
open Lib (rd el Fi)
open dG (without put WR sU act HX j5)
open rL (res)
theorem ZW(d:az Fi)(h:d.length<=1000000):lG.c (rd d)=ai/\lG.v (rd d)=sU d:=lG.ok (rd d) (by rw[eg];omega)
theorem nm(n:aq):vV.v n=decide (1<=(n.size:ax)/\(n.size:ax)<=8):=lG.nb _ _ _
theorem Uz{l:az Fi}{n t:aq}{k:ax}(h:¬(1<=(n.size:ax)/\(n.size:ax)<=8)):sU (put l ⟨n,t,k⟩)=false:=by
 cases hk:sU (put l ⟨n,t,k⟩)with
 |false=>rfl
 |true=>have:=(j5.1 hk).2.1 ⟨n,t,k⟩ (dG.j6.2 (.inl rfl));unfold dG.nM at this;simp only[aM,bh]at this;exact cL this.1 h
theorem ok(l:az Fi)(k:ax)(n t o:aq)(hl:l.length<=1000)(ht:t.size<=2305843009213693952):c (rd l) k n t o=ai/\v (rd l) k n t o=res (act l k n t o):=by
 refine out _ _ _ _ _ ?_;unfold vo b h0;have h1:=kE.ok (rd l) n (by rw[eg];omega);have h2:=ZW l (by omega);rw[h2.1,h2.2,au];unfold act;cases hk:sU l with
 |false=>rfl
 |true=>
 rw[aY,aw,ba,nm];obtain⟨q1,q2,q3⟩:=j5.1 hk;have rn:∀f∈l,(1<=(f.n.size:ax)/\(f.n.size:ax)<=8)/\(f.t.size:ax)<=20000/\f.kp<=(f.t.size:ax):=λf hf=>by have:=q2 f hf;unfold dG.nM at this;simp only[aM,bh,dp,e_]at this;omega
 by_cases hn:1<=(n.size:ax)/\(n.size:ax)<=8;case neg=>
  rw[aK hn,bP,au]
  have zN:l.find? (λx=>decide (x.n=n))=none:=by rw[Xx];intro x hx;have:=(rn x hx).1;simp only[bh];intro e;rw[e]at this;exact hn this
  cases dG.kj k t o with
  |false=>rfl
  |true=>
   rw[au];unfold HX;rw[zN];by_cases k1:k=1
   ·rw[bA k1];dsimp only;rw[Uz hn];rfl
   ·rw[bJ k1];rfl
 rw[aG hn,aY,aw,Lib.eN,Lib.eN,h1.1,h1.2,au,eg];unfold Lib.lt;by_cases ko:k=3\/o=⟨#[]⟩
 case neg=>
  rw[not_or]at ko
  have:dG.kj k t o=false:=by unfold dG.kj;rw[aK ko.1,aK ko.2];simp
  rw[this,show(k !=3)=ai from bne_iff_ne.2 ko.1,au,aK ko.2];rfl
 by_cases kt:k=1\/t=⟨#[]⟩
 case neg=>
  rw[not_or]at kt
  have:dG.kj k t o=false:=by unfold dG.kj;rw[aK kt.1,aK kt.2];simp
  rw[this,show(k !=1)=ai from bne_iff_ne.2 kt.1,au,aK kt.2]
  rcases ko with ko|ko
  ·subst ko;rfl
  ·rw[aG ko];cases (k !=3)<;>rfl
 have abM:∀x:aA (aQ×aU),(bif k !=3 then(bif !decide (o=⟨#[]⟩)then ah (([]:aQ),ak)else(bif k !=1 then(bif !decide (t=⟨#[]⟩)then ah ([],ak)else x)else x))else(bif k !=1 then(bif !decide (t=⟨#[]⟩)then ah ([],ak)else x)else x))=x:=λx=>by
  rcases ko with ko|ko<;>rcases kt with kt|kt
  ·omega
  ·subst ko;rw[aG kt];rfl
  ·subst kt;rw[aG ko];rfl
  ·rw[aG ko,aG kt];cases (k !=3)<;>cases (k !=1)<;>rfl
 have wp:=λ(m:az Fi) (hml:m.length<=1000) (n t:aq) (k:ax)=>lu.ok m n t k (by omega);have wo:=mP.ok l n (by omega);have wol:=dG.ME l n;have pl:=λ(m:az Fi) (f:Fi) (hm:m.length<=1000)=>ZW (put m f) (dg (dG.sa f) (by omega));have fin:∀d:az Fi,(bif !sU d then ah (([]:aQ),ak)else ah (rd d,ai))=ah (res (bif sU d then ah d else aj)):=λd=>by cases sU d<;>rfl
 by_cases hk4:1<=k/\k<=4;case neg=>
  have ha:dG.kj k t o=false:=by unfold dG.kj;rw[aK hk4];rfl
  rw[ha]
  refine(abM _).trans ?_
  rcases rL.find l n with ⟨e1,e2⟩|⟨i,hi,e1,e2⟩
  ·rw[e1,aK (show¬k=1 by omega)];rfl
  ·rw[e1];dsimp only;rw[aK (show¬k=1 by omega),aK (show¬k=2 by omega),aK (show¬k=3 by omega),aK (show¬k=4 by omega),aK (show¬((i:aE):ax)<0 by omega),aG (show((i:aE):ax)≥0 by omega)];simp only[Lib.c6,hi,aN,aL,ba,au,aw];rfl
 have ha:dG.kj k t o=true:=by unfold dG.kj;rw[aG hk4,ba,aM,dJ,dJ,bh,bh,bh,bh];exact⟨kt.symm,ko.symm⟩
 rw[ha,au];refine(abM _).trans ?_;unfold HX;rcases rL.find l n with ⟨e1,e2⟩|⟨i,hi,e1,e2⟩
 ·rw[e1,e2];dsimp only;by_cases k1:k=1
  ·subst k1;have p:=wp l hl n (⟨#[]⟩++t) 0;have d:=pl l ⟨n,⟨#[]⟩++t,0⟩ hl;have et:(⟨#[]⟩:aq)++t=t:=lW;rw[show decide ((-1:ax)≥0)=ak from rfl,aw,aG (show(1:ax)=1 from rfl),au,aG (show(⟨#[]⟩:aq).size+t.size<=4611686018427387904 from by rw[show(⟨#[]⟩:aq).size=0 from rfl];omega),au,p.1,p.2,au,d.1,d.2,au,fin,et];rfl
  ·rw[show decide ((-1:ax)≥0)=ak from rfl,aw,aK k1,aw,bJ k1];rfl
 ·have hf:(el l i).n=n:=by have:=vn e2;exact cq this
  have xR:=rn _ (jY hi);rw[e1,e2];dsimp only;rw[aK (show¬((i:aE):ax)<0 by omega),aG (show((i:aE):ax)≥0 by omega),au];simp only[Lib.c6,hi,aN,Lib.dN,wd0 hi,wd1 hi,wd2 hi,bz,bE,aL,ba,au,aw];by_cases k1:k=1
  ·subst k1;have p:=wp l hl (el l i).n ((el l i).t++t) (el l i).kp;have d:=pl l ⟨(el l i).n,(el l i).t++t,(el l i).kp⟩ hl;rw[aG (show(1:ax)=1 from rfl),au,aG (show(el l i).t.size+t.size<=4611686018427387904 by omega),au,p.1,p.2,au,d.1,d.2,au,fin];rfl
  rw[aK k1,aw,bJ k1];by_cases k2:k=2
  ·subst k2;have p:=wp l hl (el l i).n (el l i).t ((el l i).t.size:ax);have d:=pl l ⟨(el l i).n,(el l i).t,((el l i).t.size:ax)⟩ hl;rw[aG (show(2:ax)=2 from rfl),au,p.1,p.2,au,d.1,d.2,au,fin];rfl
  rw[aK k2,aw,bJ k2];by_cases k3:k=3
  ·subst k3;rw[aG (show(3:ax)=3 from rfl),au,bA rfl];by_cases b1:(el l i).kp=((el l i).t.size:ax)
   ·rw[aK (show¬(el l i).kp<((el l i).t.size:ax)by omega),aw,Lib.eN,nm];by_cases b2:o=n
    ·rw[aG b2,au,bA (.inr b2)];rfl
    ·rw[aK b2,aw,bJ (by rintro (h|h);exact h b1;exact b2 h)];by_cases b3:1<=(o.size:ax)/\(o.size:ax)<=8
     ·have p:=wp (without l n) (by omega) o (el l i).t (el l i).kp;have d:=pl (without l n) ⟨o,(el l i).t,(el l i).kp⟩ (by omega);rw[aG b3,aY,aw,wo.1,wo.2,au,p.1,p.2,au,d.1,d.2,au,fin]
     ·rw[aK b3];dsimp only;rw[Uz b3];rfl
   ·rw[aG (show(el l i).kp<((el l i).t.size:ax)by omega),au,bA (.inl b1)];rfl
  rw[aK k3,aw,bJ k3];have k4:k=4:=by omega
  subst k4;have d:=ZW (without l n) (by omega);rw[aG (show(4:ax)=4 from rfl),au,wo.1,wo.2,au,d.1,d.2,au,fin]
end Ci

namespace qn
open Lib (rd el Fi)
open dG (kl act ra Ac wa0 wa1 wa2 wa3 sb Bw)
theorem ok(l:az Fi)(a:az Ac)(hl:l.length<=1000)(ha:a.length<=1000000)(ht:∀x∈a,x.t.size<=2305843009213693952):c (rd l) (ra a)=ai/\v (rd l) (ra a)=(rd (kl l 0 a).1,((kl l 0 a).2:ax)):=by
 refine out _ _ ?_;unfold vo b;rw[Lib.rU,eg,Lib.ch (by omega) (by omega),au,show aP [Ck.s,Ck.s,Ck.i ao] 0++rd l=rd l from rfl]
 have key:∀(d i n:aE) (z:ax) (l:az Fi),a.length-i<=d->i<=a.length->l.length<=1000->d<n->
   l3 Lib.cJ (λ(_:aQ) (y5 _:ax) (y7:aQ)=>ah (y7,y5)) (λ(y8:aQ) (_ _:ax) (wC:aQ)=>ah (wC,(↑(bS y8):ax))) n (ra a) z (i:ax) (rd l)=ah (rd (kl l i (a.drop i)).1,((kl l i (a.drop i)).2:ax)):=by
  intro d
  induction d with
  |zero=>
   intro i n z l e1 e2 e3 e4;obtain⟨n,rfl⟩:∃n',n=n'+1:=⟨n-1,by omega⟩
   have:i=a.length:=by omega
   subst this;simp only[l3,r3,Lib.c6,bk,bc,aw,sb,di,kl]
  |succ d ih=>
   intro i n z l e1 e2 e3 e4;obtain⟨n,rfl⟩:∃n',n=n'+1:=⟨n-1,by omega⟩
   by_cases hi:i<a.length
   ·have hd:=Ci.ok l (el a i).k (el a i).n (el a i).t (el a i).o e3 (ht _ (jY hi));simp only[l3,r3,Lib.c6,sb,hi,aN,Lib.cm,aL,au,Lib.dN,wa0 hi,wa1 hi,wa2 hi,wa3 hi,bz,bE,hd.1,hd.2,Lib.cS hi (by omega:a.length<=9223372036854775807)];rw[dC hi,<-eG hi];unfold kl;cases hac:act l (el a i).k (el a i).n (el a i).t (el a i).o with
    |none=>rfl
    |some e=>have:=(Bw hac).2;exact ih (i+1) n z e (by omega) hi (by omega) (by omega)
   ·have:i=a.length:=by omega
    subst this;simp only[l3,r3,Lib.c6,bk,bc,aw,sb,di,kl]
 exact key a.length 0 Lib.cJ 0 l (by omega) (bD _) hl (cu (by omega))
end qn

namespace D8
open Lib (rr rs re rf rc rd Px En el Bl BX Rh Ri)
open gz (Wo Ev closed)
open jS (dk es)
open gV (rN)
open fA (ri uC ud jO)
open s_ (cls kG)
theorem ok{i:aE}{w:Wo}(h:rN i w)(hi:i<=71)(k id:ax)(t:aq)(nn:ax)(left:aQ)(h0:0<=nn):c w.p.now (re w.p.en) (rs w.p.w) (rs w.p.m) (rr w.p.s) w.p.a (rf w.p.fe) (rc w.p.cl) w.p.hits (rd (dk w.o)) (ri w.cd) (re w.bd) k id t nn left=ai/\v w.p.now (re w.p.en) (rs w.p.w) (rs w.p.m) (rr w.p.s) w.p.a (rf w.p.fe) (rc w.p.cl) w.p.hits (rd (dk w.o)) (ri w.cd) (re w.bd) k id t nn left=((closed w id (nn%1000000)).2,uC (closed w id (nn%1000000)).1):=by
 refine out _ _ _ _ _ _ _ _ _ _ _ _ _ _ _ _ _ ?_;have hl:0<=nn%1000000/\nn%1000000<=999999:=by omega
 have hm:cF nn 1000000=nn%1000000:=im h0;have PN:=h.bd;have W8:=h.tx hi;have hdl:=jS.zF w.o;have A:=Ea.ok w.p id (nn%1000000) (jO h.px);obtain⟨q1,q2⟩:=gV.Lh (f:=id) h.px hl;obtain⟨s1,s2⟩:=s_.Jl (p:=w.p) (f:=id) (life:=nn%1000000);have mQ:=jO q1;unfold vo b;rw[hm];generalize nn%1000000=life at*
 rw[A.1,au,A.2,fA.lt_eq];unfold closed uC;dsimp only;rw[<-s1,<-s2];generalize cls w.p id life=Q at q1 q2 s1 s2 mQ;obtain⟨q,ok⟩:=Q;dsimp only at q1 q2 s1 s2 mQ⊢;rcases q2 with ⟨r1,r2⟩|⟨r1,n,rn,hn,rf_,rs_,rl⟩
 ·subst r1;rfl
 subst r1;rw[au,ba];by_cases hz:life=0
 ·rw[aK (show¬life>0 by omega)];rfl
 rw[aG (show life>0 by omega),au,au];obtain⟨t1,t2⟩:=rl (by omega);have HH:n<q.fe.length:=by rw[rf_,cD];exact hn
 have PQ:el q.fe n={el w.p.fe n with sta:=2,li:=life,st:=w.p.now}:=by rw[rf_,gv.iP hn]
 subst rn;rw[dK];have C:=Eb.ok (el q.fe n).k (el q.fe n).st (el q.fe n).li (el q.fe n).t;have hE:m8.v (el q.fe n).k (el q.fe n).st (el q.fe n).li (el q.fe n).t=true:=by rw[PQ];exact t1
 have DO:=gV.Lx (e:=kG (el q.fe n)) hE;rw[ve.val,bA hE,show ve.kl (fH.fr (jK.s5 (el q.fe n).k (el q.fe n).st (el q.fe n).li (el q.fe n).t))=dG.ra (iB.sG (iB.IE (kG (el q.fe n))))from rfl]at C;have D:=qn.ok (dk w.o) (iB.sG (iB.IE (kG (el q.fe n)))) (by omega) (by unfold iB.sG;simp) (λx hx=>by
  unfold iB.sG at hx;simp only[cB,fQ,or_false]at hx;rcases hx with rfl|rfl
  ·show(iB.IE (kG (el q.fe n))).size<=_;omega
  ·exact bD _)
 rw[jS.NH (by omega)]at D;have room:∀y,cw ((re w.bd).length+(aD (aP [Ck.s,Ck.i ao,Ck.i ao,Ck.s] 1) 0 y).length) 48=true:=λy=>by rw[de,fA.nO];exact Lib.ch (by omega) (by omega)
 have sn:=ud w.bd (kG (el q.fe n));unfold kG at sn C D;dsimp only at sn;have amW:cw ((aP [Ck.s,Ck.i ao,Ck.i ao,Ck.s] 0).length+(re w.bd).length) 48=true:=by rw[de];exact Lib.ch (by show(0+w.bd.length)*48<=_;omega) (by show 0+w.bd.length<=_;omega)
 simp only[fA.lt_eq,fA.axr,amW,dD,Lib.c6,HH,aN,Lib.cm,aL,au,Lib.dN,Bl HH,BX HH,Rh HH,Ri HH,bz,bE,C.1,C.2,D.1,D.2,room,sn,show kG (el q.fe n)=⟨(el q.fe n).k,(el q.fe n).st,(el q.fe n).li,(el q.fe n).t⟩from rfl];rfl
end D8

namespace D9
open Lib (rr rs re rf rc Px el)
open gv (s9 Cu told iR n7 iP yB)
theorem ok(p:Px)(f:ax)(hp:p.Fit 1048576):c p.now (re p.en) (rs p.w) (rs p.m) (rr p.s) p.a (rf p.fe) (rc p.cl) p.hits f=ai/\v p.now (re p.en) (rs p.w) (rs p.m) (rr p.s) p.a (rf p.fe) (rc p.cl) p.hits f=(p.now,re p.en,rs p.w,rs p.m,rr p.s,p.a,rf (Cu p f).1.fe,rc (Cu p f).1.cl,p.hits,(Cu p f).2):=by
 have h1:=fI.ok p hp;have h2:=vh.ok p f hp;have hf:=hp.fe;have hc:=hp.cl;refine out _ _ _ _ _ _ _ _ _ _ ?_;unfold vo b Cu;simp only[Lib.lt,h1.1,h1.2,h2.1,h2.2,au];cases ho:s9 p f with
 |false=>rfl
 |true=>
  obtain⟨n,rfl,hn,_,_⟩:=iR ho;have e1:=yB p.fe n 2 [CV.i ao 3] {el p.fe n with sta:=3} hn rfl;have HH:n<(p.fe.set n {el p.fe n with sta:=3}).length:=by rw[cD];exact hn
  have h3:=sO.ok {p with fe:=p.fe.set n {el p.fe n with sta:=3}} n 3 HH (by rw[cD];omega) (by dsimp only;omega);dsimp only at h3;rw[iP hn]at h3;simp only[aY,aw,au,Lib.cm,Lib.c6,dD,hn,aN,aL,Lib.dN,e1,h3.1,h3.2];rfl
end D9

namespace w8
open Lib (rd Fi En el wd0 wd1 wd2)
open dG (sU)
open jS (dk es)
open iB (tx base)
theorem one(f:Fi)(left:aQ)(h:sU [f]=ai)(hk:f.kp=(f.t.size:ax)):c (rd [f]) left=ai/\v (rd [f]) left=(rd [f],ai):=by
 have h1:=lG.ok (rd [f]) (by rw[eg];simp);refine out _ _ ?_;unfold vo b;rw[h1.1,au,h1.2,show lG.val (rd [f])=ai from h,aY,aw];have h0:0<[f].length:=by simp
 have c0:ar (rd [f]) 0 0=CV.s f.n:=wd0 (l:=[f]) h0;have c1:ar (rd [f]) 0 1=CV.s f.t:=wd1 (l:=[f]) h0;have c2:ar (rd [f]) 0 (1+1)=CV.i ao f.kp:=wd2 (l:=[f]) h0;have ib:ic 0 (f.t.size:ax) (f.t.size:ax)=true:=by simp[ic]
 have ex:bK f.t 0 (aZ (f.t.size:ax))=f.t:=Lib.Hr f.t;have w1:bG (0+1)=1:=rfl;have L:(rd [f]).length=1:=rfl;have step:∀(N m:aE),l5 Lib.cJ (λ_ _ _=>ah (([]:aQ),ai)) (λ_ _ _ wD=>ah (wD,ai)) (m+1) left 0 (rd [f])=l5a Lib.cJ (λ_ _ _=>ah (([]:aQ),ai)) (λ_ _ _ wD=>ah (wD,ai)) m left 1 (rd [f]) (rd [f]):=by
  intro N m;have t0:aZ 0=0:=rfl;simp only[l5,r5,L,t0];generalize bE (ar left 0 0)=z;simp only[c0,c1,c2,bz,bE,hk,ib,ex,w1];rw[show decide ((0:ax)<((1:aE):ax))=ai from rfl,au,show(decide ((0:ax)<=0)&&ai)=ai from rfl,au];have fin:([]++aD (aP [Ck.s,Ck.s,Ck.i ao] 1) 0 [CV.s f.n,CV.s f.t,CV.i ao (f.t.size:ax)]:aQ)=rd [f]:=by
   unfold Lib.rd;rw[gF];show [[CV.s f.n,CV.s f.t,CV.i ao (f.t.size:ax)]]=[Fi.row f]
   unfold Fi.row;rw[hk]
  simp only[fin];by_cases hl:(0:ax)<(left.length:ax)
  ·simp only[aG hl,au,show decide ((0:ax)<=0)=ai from rfl,aL];by_cases a:z>(f.t.size:ax)
   ·simp only[aG a,au,aK (show¬(f.t.size:ax)<(f.t.size:ax)by omega),aw]
   ·by_cases b:z<(f.t.size:ax)
    ·simp only[aK a,aw,aG b,au]
    ·have e:z=(f.t.size:ax):=by omega
     simp only[aK a,aw,aK b,e,ib,ex,fin,au,show decide ((f.t.size:ax)<(f.t.size:ax))=ak from aK (by omega),show decide ((f.t.size:ax)>(f.t.size:ax))=ak from aK (by omega)]
  ·simp only[aK hl,aw,au,aK (show¬(f.t.size:ax)<(f.t.size:ax)by omega)];try rw[aK (show¬(0:ax)>(f.t.size:ax)by omega),aw]
   by_cases b:(0:ax)<(f.t.size:ax)
   ·rw[aG b,au]
   ·rw[aK b,aw];have e:(f.t.size:ax)=0:=by omega
    rw[e]at ex fin;rw[show(0:ax).toNat=0 from rfl]at ex;rw[ex,fin]
 have last:∀(m:aE),l5a Lib.cJ (λ_ _ _=>ah (([]:aQ),ai)) (λ_ _ _ wD=>ah (wD,ai)) (m+1) left 1 (rd [f]) (rd [f])=ah (rd [f],ai):=by intro m;simp only[l5a,r5a,L,show decide ((1:ax)<((1:aE):ax))=ak from rfl,aw]
 obtain⟨n,hn⟩:∃n,Lib.cJ=n+2:=⟨Lib.cJ-2,by have:=cu (n:=2) (by omega);omega⟩
 have key:∀N,N=n+2->l5 Lib.cJ (λ_ _ _=>ah (([]:aQ),ai)) (λ_ _ _ wD=>ah (wD,ai)) N left 0 (rd [f])=ah (rd [f],ai):=by rintro N rfl;rw[step Lib.cJ (n+1),last n]
 exact key _ hn
theorem ok{o:aA (az En)}(h:(tx (es o)).size<=20000)(left:aQ):c (rd (dk o)) left=ai/\v (rd (dk o)) left=(rd (dk o),ai):=by
 cases o with
 |some l=>exact one _ left (jS.Jp h) rfl
 |none=>
  have hd:sU []=true:=jS.Jp (o:=aj) h;have h1:=lG.ok (rd []) (by rw[eg];simp);refine out _ _ ?_;unfold vo b;show(bif lG.c (rd [])then bif !lG.v (rd [])then _ else l5 Lib.cJ _ _ Lib.cJ left 0 (rd [])else aj)=_;rw[h1.1,au,h1.2,show lG.val (rd [])=ai from hd,aY,aw];obtain⟨n,hn⟩:∃n,Lib.cJ=n+1:=⟨Lib.cJ-1,by have:=cu (n:=1) (by omega);omega⟩
  have key:∀N,N=n+1->l5 Lib.cJ (λ_ _ _=>ah (([]:aQ),ai)) (λ_ _ _ wD=>ah (wD,ai)) N left 0 (rd [])=ah (rd [],ai):=by rintro N rfl;rfl
  exact key _ hn
end w8

namespace Ao
open Lib (rr rs re rf rc Px En el oD qx qy qz)
open fP (qu pX one tO yu zL p0)
theorem ok(now:ax)(l:az En)(hl:l.length<=1048576):
  c now (re l)=ai/\v now (re l)=(now,re (qu now l).en,rs (qu now l).w,rs (qu now l).m,rr (qu now l).s,(qu now l).a,[],[],0):=by
 refine out _ _ ?_;unfold vo b;have key:=ml l.length (λn (i:aE) (p:Px)=>l4 Lib.cJ (λ(_:ax) (_:aQ) (_ _ _ _ KM Wz Xe:ax) (Rk Rl IJ Rm Rn Ro:aQ)=>ah (KM,Rk,Rl,IJ,Rm,Wz,Rn,Ro,Xe)) n now (re l) (i:ax) 0 0 0 now p.a 0 (re p.en) (rs p.w) (rs p.m) (rr p.s) [] []) (λi=>qu now (l.take i)) (ah (now,re (qu now l).en,rs (qu now l).w,rs (qu now l).m,rr (qu now l).s,(qu now l).a,[],[],0)) (λn i hi=>by
  have I:=tO now l i (by omega);have hs:=yu now l i hi;generalize qu now (l.take i)=p at I hs;rw[hs];unfold one;have hw:bG ((i:ax)+1)=((i+1:aE):ax):=Lib.cS hi (by omega);have FF:zC.v (el l i).k (el l i).st (el l i).li (el l i).bo now=pX (el l i) now:=(zC.eq _ _ _ _ _).symm;cases hf:pX (el l i) now with
  |false=>
   rw[hf]at FF;cases hq:m8.v (el l i).k (el l i).st (el l i).li (el l i).bo with
   |false=>simp only[l4,r4,de,Lib.c6,hi,aN,Lib.cm,aL,au,Lib.dN,oD hi,qx hi,qy hi,qz hi,bz,bE,hq,aw,hw]
   |true=>simp only[l4,r4,de,Lib.c6,hi,aN,Lib.cm,aL,au,Lib.dN,oD hi,qx hi,qy hi,qz hi,bz,bE,hq,FF,aw,hw]
  |true=>rw[hf]at FF;have hq:=zL hf;have hk:=(m8.EC hq).1;have h4:=Pn.ok p (el l i) [] [] (I.fit (by omega) (by omega)) I.so I.ks (by omega);rw[I.now,I.hits]at h4;simp only[l4,r4,Lib.lt,de,Lib.c6,hi,aN,Lib.cm,aL,au,Lib.dN,oD hi,qx hi,qy hi,qz hi,bz,bE,hq,FF,h4.1,h4.2,hw]) (λn=>by
  simp only[l4,r4,de,Lib.c6,bk,bc,aw,dR]) Lib.cJ 0 (bD _) (cu (by omega))
 exact key
end Ao

namespace wX
open Lib (rr rs re rf rc rd Px En el oD qx qy qz)
open gz (Wo Ev zJ kH)
open jS (dk es)
open gV (rN)
open fA (ri uC ud jO)
theorem walk(N:aE)(L:az En)(hL:L.length<=1048576)(hN:L.length<N)(K0 K1:ax->ax->ax->ax->aQ->aQ->aQ->aQ->aQ->aQ->aQ->aQ->aQ->aQ->aQ->aA R)(now a5 a8:ax)(q1 q2 q3 q4 q6 q7 q9 EB Z8:aQ):
  l7 N K0 K1 N 0 now a5 a8 (re L) (re []) q1 q2 q3 q4 q6 q7 q9 EB Z8=K0 (L.length:ax) now a5 a8 (re L) (re (L.filter λe=>fP.pX e now)) q1 q2 q3 q4 q6 q7 q9 EB Z8:=by
 have hw:∀i,i<L.length->bG ((i:ax)+1)=((i+1:aE):ax):=λi h=>Lib.cS h (by omega)
 have key:=CJ L (λe=>fP.pX e now) (λm (i:aE) acc=>l7 N K0 K1 m (i:ax) now a5 a8 (re L) (re acc) q1 q2 q3 q4 q6 q7 q9 EB Z8) (λacc=>K0 (L.length:ax) now a5 a8 (re L) (re acc) q1 q2 q3 q4 q6 q7 q9 EB Z8) []
  (λm i acc hi ha hp=>by rw[<-eG hi]at hp⊢;unfold fP.pX at hp;rw[zC.eq]at hp;simp only[l7,r7,de,Lib.c6,hi,aN,Lib.cm,aL,au,Lib.dN,oD hi,qx hi,qy hi,qz hi,bz,bE,hp,hw i hi,fA.nO,fA.ud];rw[Lib.ch (by simp at ha;omega) (by simp at ha;omega),au])
  (λm i acc hi hp=>by rw[<-eG hi]at hp;unfold fP.pX at hp;rw[zC.eq]at hp;simp only[l7,r7,de,Lib.c6,hi,aN,Lib.cm,aL,au,Lib.dN,oD hi,qx hi,qy hi,qz hi,bz,bE,hp,hw i hi,aw])
  (λm acc=>by simp only[l7,r7,de,Lib.c6,bk,bc,aw])
  N hN
 exact key
theorem ok{i:aE}{w:Wo}(h:rN i w)(hi:i<=71)(k id:ax)(t:aq)(n:ax)(left:aQ):c w.p.now (re w.p.en) (rs w.p.w) (rs w.p.m) (rr w.p.s) w.p.a (rf w.p.fe) (rc w.p.cl) w.p.hits (rd (dk w.o)) (ri w.cd) (re w.bd) k id t n left=ai/\v w.p.now (re w.p.en) (rs w.p.w) (rs w.p.m) (rr w.p.s) w.p.a (rf w.p.fe) (rc w.p.cl) w.p.hits (rd (dk w.o)) (ri w.cd) (re w.bd) k id t n left=uC (zJ w):=by
 refine out _ _ _ _ _ _ _ _ _ _ _ _ _ _ _ _ _ ?_;have W8:=h.tx hi;have hlen:=h.len hi;have hdl:=jS.zF w.o;have A:=w8.ok (o:=w.o) (by omega) left;have B:=(jS.Ta (o:=w.o) (by omega) h.eo).2;have Eo:=iB.HO (es w.o);have hf:=gV.Hz h.eo;have PR:=gV.CN w;have htf:=gV.Wt _ hf;have C:=jL.ok (rd (dk w.o)) (re (kH w)) (by rw[eg];omega) (by rw[de];omega);rw[jS.abv (by omega) hf]at C;have D:=qn.ok (dk w.o) (pT.tv (iB.tx (kH w))) (by omega) (by unfold pT.tv;simp) (λx hx=>by
  unfold pT.tv at hx;simp only[cB,fQ,or_false]at hx;rcases hx with rfl|rfl|rfl
  ·show(iB.tx (kH w)).size<=_;omega
  ·exact bD _
  ·exact bD _)
 rw[jS.NG (by omega) (by omega)]at D;have E:=Ao.ok w.p.now (kH w) (by omega);unfold vo;generalize hN:Lib.cJ=N;have jt:(iB.kp (es w.o)).length<N:=by rw[<-hN];exact cu (by omega)
 clear hN;unfold b;rw[A.1,au,A.2,fA.lt_eq];rw[show(rd (dk w.o),ai).2=ai from rfl,au,show(rd (dk w.o),ai).1=rd (dk w.o)from rfl];rw[B.1,au,B.2,fA.lt_eq,show aP [Ck.s,Ck.i ao,Ck.i ao,Ck.s] 0=re []from rfl,walk N (iB.kp (es w.o)) (by omega) jt];have e:((kpp:az En)->kpp=iB.kp (es w.o)->kpp.filter (λe=>fP.pX e w.p.now)=kH w):=λ_ h=>by subst h;rfl
 rw[e _ rfl];simp only[fA.lt_eq,C.1,C.2,D.1,D.2,E.1,E.2,au];have hinv:=fP.tO w.p.now (kH w) (kH w).length (cG _);rw[dR]at hinv;unfold uC zJ;dsimp only;rw[hinv.now,hinv.fe,hinv.cl,hinv.hits];rfl
end wX

namespace D1
open Lib (rr rs re rf rc rd Px En el)
open gz (Wo Ev closed zJ kH gG flag)
open jS (dk es)
open gV (rN)
open fA (ri uC ud jO)
theorem fl(b:aU):A_.v b=flag b:=by cases b<;>rfl
theorem left(l:az Lib.Cl)(id:ax):decide ((((l.filter λc=> !decide (c.id=id)).length:aE):ax)<(l.length:ax))=il.lI l id:=by
 unfold il.lI;cases h:l.any λx=>decide (x.id=id)with
 |true=>
  obtain⟨x,hx,hp⟩:=Gu.1 h;have:(l.filter λc=> !decide (c.id=id)).length<l.length:=by rw[List.length_filter_lt_length_iff_exists];exact⟨x,hx,by simpa using hp⟩
  exact aG (by omega)
 |false=>
  rw[List.any_eq_false]at h;have:l.filter (λc=> !decide (c.id=id))=l:=eD.2 λx hx=>by have:=h x hx;simpa using this
  rw[this];exact aK (by omega)
theorem ok{i:aE}{w:Wo}{e:Ev}(h:rN i w)(hi:i<=71)(he:gG e=ai):c w.p.now (re w.p.en) (rs w.p.w) (rs w.p.m) (rr w.p.s) w.p.a (rf w.p.fe) (rc w.p.cl) w.p.hits (rd (dk w.o)) (ri w.cd) (re w.bd) e.k e.id e.t e.n e.l=ai/\v w.p.now (re w.p.en) (rs w.p.w) (rs w.p.m) (rr w.p.s) w.p.a (rf w.p.fe) (rc w.p.cl) w.p.hits (rd (dk w.o)) (ri w.cd) (re w.bd) e.k e.id e.t e.n e.l=((gz.act w e).2,uC (gz.act w e).1):=by
 unfold gG at he;simp only[aM,bh]at he;obtain⟨hk,JG,ht,hn,hl⟩:=he;have hp:=jO h.px;refine out _ _ _ _ _ _ _ _ _ _ _ _ _ _ _ _ _ ?_;unfold vo b gz.act;by_cases k1:e.k=1
 ·rw[aG k1,au];have A:=wW.ok w.p e.id e.t hp (by omega);rw[A.1,au,A.2,fA.lt_eq];try rfl
 rw[aK k1,aw,aw];by_cases k2:e.k=2
 ·rw[aG k2,au];have A:=D7.ok w.p e.id e.t hp;rw[A.1,au,A.2,fA.lt_eq,fl];unfold uC gv.Di;cases gv.s9 w.p e.id&&(decide (1<=e.t.size/\e.t.size<=40)&&decide ((el w.p.fe e.id.toNat).t.size+e.t.size<=400))<;>rfl
 rw[aK k2,aw,aw];by_cases k3:e.k=3
 ·rw[aG k3,au];have A:=D8.ok h hi e.k e.id e.t e.n e.l hn;rw[k3]at A;rw[k3,A.1,au,A.2,fA.lt_eq];try rfl
 rw[aK k3,aw,aw];by_cases k4:e.k=4
 ·rw[aG k4,au];have A:=D9.ok w.p e.id hp;rw[A.1,au,A.2,fA.lt_eq,fl];unfold uC gv.Cu;cases gv.s9 w.p e.id<;>rfl
 rw[aK k4,aw,aw];by_cases k5:e.k=5
 ·rw[aG k5,au];have A:=qI.ok w.p e.n hp;rw[A.1,au,A.2,fA.lt_eq];try rfl
 rw[aK k5,aw,aw];by_cases k6:e.k=6
 ·rw[aG k6,au];have A:=tn.ok w.p e.id hp;rw[A.1,au,A.2,fA.lt_eq,fl];dsimp only;rw[eI,eI,show(tn.val w.p e.id).cl=w.p.cl.filter (λc=> !decide (c.id=e.id))from rfl,left];try rfl
 rw[aK k6,aw,aw];have k7:e.k=7:=by omega
 rw[aG k7,au];have A:=wX.ok h hi e.k e.id e.t e.n e.l;rw[k7]at A;rw[k7,A.1,au,A.2,fA.lt_eq];try rfl
end D1

namespace Hb
open Lib (rr rs re rf rc rd Px En el)
open gz (Wo Ev closed zJ kH gG flag)
open jS (dk es)
open gV (rN)
open fA (ri uC ud jO)
theorem SQ(w:Wo)(e:Ev):(gz.act w e).1.cd=w.cd:=by
 unfold gz.act closed;cases decide (e.k=1)<;>cases decide (e.k=2)<;>cases decide (e.k=3)<;>cases decide (e.k=4)<;>cases decide (e.k=5)<;>cases decide (e.k=6)<;>(try rfl)
 all_goals
  dsimp only[au,aw]
  cases (s_.cls w.p e.id (e.n%1000000)).2&&decide (e.n%1000000>0)<;>rfl
theorem ok{i:aE}{w:Wo}{e:Ev}(h:rN i w)(hi:i<=71)(he:gG e=ai):c w.p.now (re w.p.en) (rs w.p.w) (rs w.p.m) (rr w.p.s) w.p.a (rf w.p.fe) (rc w.p.cl) w.p.hits (rd (dk w.o)) (ri w.cd) (re w.bd) e.k e.id e.t e.n e.l=ai/\v w.p.now (re w.p.en) (rs w.p.w) (rs w.p.m) (rr w.p.s) w.p.a (rf w.p.fe) (rc w.p.cl) w.p.hits (rd (dk w.o)) (ri w.cd) (re w.bd) e.k e.id e.t e.n e.l=uC (gz.step w e):=by
 refine out _ _ _ _ _ _ _ _ _ _ _ _ _ _ _ _ _ ?_;have A:=D1.ok h hi he;have hcd:=h.cd;unfold vo b;rw[A.1,au,A.2,fA.lt_eq];have e1:(uC (gz.act w e).1).2.2.2.2.2.2.2.2.2.2.1=ri w.cd:=by unfold uC;rw[SQ]
 have r1:cw ((aP [Ck.i ao] 0).length+(ri w.cd).length) 8=true:=by rw[fA.gf];exact Lib.ch (by show(0+w.cd.length)*8<=_;omega) (by show 0+w.cd.length<=_;omega)
 have r2:cw ((ri w.cd).length+(aD (aP [Ck.i ao] 1) 0 [CV.i ao (gz.act w e).2]).length) 8=true:=by rw[fA.gf,fA.nO];exact Lib.ch (by omega) (by omega)
 show(bif cw ((aP [Ck.i ao] 0).length+((uC (gz.act w e).1).2.2.2.2.2.2.2.2.2.2.1).length) 8 then _ else aj)=_;simp only[e1,fA.axs,r1,r2,au,fA.adm];rfl
end Hb

namespace vE
open Lib (rr rs re rf rc rd Px En el)
open gz (Wo Ev gG)
open jS (dk es)
open gV (rN)
open fA (ri uC)
open oE (rv run)
open dr (I)
open A_Post (jJ)
theorem ids{p:Px}(h:uU.ij p):∀j,j<(rc p.cl).length->0<=bE (ar (rc p.cl) j 0)/\bE (ar (rc p.cl) j 0)<=30:=by
 intro j hj;have Em:j<p.cl.length:=by rw[eI]at hj;exact hj
 have:=h.cl _ (jY Em);unfold uU.Jf at this;simp only[aM,bh]at this;rw[show ar (rc p.cl) j 0=CV.i ao (el p.cl j).id from fX _ p.cl j 0 Em];show 0<=(el p.cl j).id/\(el p.cl j).id<=30;omega
theorem next{α:Type}{i:aE}{w:Wo}{q:aQ}{a s:ax}{X:ax×ax×aq×ax×aQ×aQ×ax×ax×aQ×aQ×aQ×aQ×aQ×aQ×aQ×aQ×aQ->aA α}{P:α->Prop}(h:rN i w)(hI:I q a)
  (hx:∀k id t n a' s',I q a'->gG ⟨k,id,t,n,[]⟩=ai->k<=6->jJ (X (k,id,t,n,[],q,a',s',re w.p.en,rs w.p.w,rs w.p.m,rr w.p.s,rf w.p.fe,rc w.p.cl,rd (dk w.o),ri w.cd,re w.bd)) P):
  jJ (bif K8.c q a s w.p.now (re w.p.en) (rs w.p.w) (rs w.p.m) (rr w.p.s) w.p.a (rf w.p.fe) (rc w.p.cl) w.p.hits (rd (dk w.o)) (ri w.cd) (re w.bd)then Lib.lt (K8.v q a s w.p.now (re w.p.en) (rs w.p.w) (rs w.p.m) (rr w.p.s) w.p.a (rf w.p.fe) (rc w.p.cl) w.p.hits (rd (dk w.o)) (ri w.cd) (re w.bd)) X else aj) P:=by obtain⟨x,e,k,id,t,n,a',s',rfl,h1,h2,h3⟩:=K8.body q a s w.p.now (re w.p.en) (rs w.p.w) (rs w.p.m) (rr w.p.s) w.p.a (rf w.p.fe) (rc w.p.cl) w.p.hits (rd (dk w.o)) (ri w.cd) (re w.bd) hI (by rw[dD];exact h.px.fl) (ids h.px);obtain⟨c1,v1⟩:=K8.out _ _ _ _ _ _ _ _ _ _ _ _ _ _ _ e;exact A_Post.call c1 v1 (hx k id t n a' s' h1 h2 h3)
theorem step{α:Type}{i:aE}{w:Wo}{X:ax×aQ×aQ×aQ×aQ×ax×aQ×aQ×ax×aQ×aQ×aQ->aA α}{P:α->Prop}(e:Ev)(h:rN i w)(hi:i<=71)(he:gG e=ai)(hx:jJ (X (uC (gz.step w e))) P):
  jJ (bif Hb.c w.p.now (re w.p.en) (rs w.p.w) (rs w.p.m) (rr w.p.s) w.p.a (rf w.p.fe) (rc w.p.cl) w.p.hits (rd (dk w.o)) (ri w.cd) (re w.bd) e.k e.id e.t e.n e.l then Lib.lt (Hb.v w.p.now (re w.p.en) (rs w.p.w) (rs w.p.m) (rr w.p.s) w.p.a (rf w.p.fe) (rc w.p.cl) w.p.hits (rd (dk w.o)) (ri w.cd) (re w.bd) e.k e.id e.t e.n e.l) X else aj) P:=
 A_Post.call (Hb.ok h hi he).1 (Hb.ok h hi he).2 hx
theorem Kn(l:az Ev)(e:Ev):run (l++[e])=gz.step (run l) e:=by unfold run;rw[kX];rfl
theorem Ow(l:az Ev)(e:Ev):rv l++aD (aP [Ck.i ao,Ck.i ao,Ck.s,Ck.i ao,Ck.l 3] 1) 0 [CV.i ao e.k,CV.i ao e.id,CV.s e.t,CV.i ao e.n,CV.l 3 e.l]=rv (l++[e]):=by unfold rv;rw[dh];rfl
theorem NM(n:ax):gG ⟨7,0,⟨#[]⟩,0,aD (aP [Ck.i ao] 1) 0 [CV.i ao n]⟩=true:=rfl
theorem I_{l:az Ev}{e:Ev}(h:∀x∈l,gG x=ai)(he:gG e=ai):∀x∈l++[e],gG x=true:=by
 intro x hx;rcases bf.1 hx with h1|h1
 ·exact h x h1
 ·rw[a_.1 h1];exact he
end vE

namespace Q2
open Lib (rr rs re rf rc rd Px En el)
open gz (Wo Ev gG)
open jS (dk es)
open gV (rN)
open fA (ri uC)
open oE (rv run)
open vE (Kn Ow I_)
open dr (I)
open A_Post (jJ)
theorem rm{l:az Ev}(h:l.length<=70)(y:az CV):cw ((rv l).length+(aD (aP [Ck.i ao,Ck.i ao,Ck.s,Ck.i ao,Ck.l 3] 1) 0 y).length) 64=true:=by rw[oE.mF,fA.nO];exact Lib.ch (by omega) (by omega)
theorem walk{P:R->Prop}(N:aE)(q:aQ)(m:aE)(hm:m<=65)(K:ax->ax->aQ->ax->ax->ax->ax->ax->aQ->aQ->aQ->aQ->aQ->aQ->aQ->aQ->aQ->aQ->aA R)
  (hK:∀(l:az Ev) (a s:ax),l.length=m->(∀x∈l,gG x=ai)->I q a->jJ (K (m:ax) (m:ax) q a s (run l).p.now (run l).p.a (run l).p.hits (rv l) (re (run l).p.en) (rs (run l).p.w) (rs (run l).p.m) (rr (run l).p.s) (rf (run l).p.fe) (rc (run l).p.cl) (rd (dk (run l).o)) (ri (run l).cd) (re (run l).bd)) P):
  ∀(d i n:aE) (l:az Ev) (a s:ax),m-i<=d->l.length=i->i<=m->d<n->(∀x∈l,gG x=ai)->I q a->
   jJ (l7 N K n (m:ax) (i:ax) q a s (run l).p.now (run l).p.a (run l).p.hits (rv l) (re (run l).p.en) (rs (run l).p.w) (rs (run l).p.m) (rr (run l).p.s) (rf (run l).p.fe) (rc (run l).p.cl) (rd (dk (run l).o)) (ri (run l).cd) (re (run l).bd)) P:=by
 have fin:∀(n:aE) (l:az Ev) (a s:ax),l.length=m->(∀x∈l,gG x=ai)->I q a->jJ (l7 N K (n+1) (m:ax) (m:ax) q a s (run l).p.now (run l).p.a (run l).p.hits (rv l) (re (run l).p.en) (rs (run l).p.w) (rs (run l).p.m) (rr (run l).p.s) (rf (run l).p.fe) (rc (run l).p.cl) (rd (dk (run l).o)) (ri (run l).cd) (re (run l).bd)) P:=λn l a s hl he hI=>by rw[show l7 N K (n+1)=r7 N (l7 N K n) K from rfl];unfold r7;exact A_Post.cn (aK (Int.lt_irrefl _)) (hK l a s hl he hI)
 intro d;induction d with
 |zero=>
  intro i n l a s h1 h2 h3 h4 h5 h6;obtain⟨n,rfl⟩:∃k,n=k+1:=⟨n-1,by omega⟩
  have:i=m:=by omega
  subst this;exact fin n l a s h2 h5 h6
 |succ d ih=>
  intro i n l a s h1 h2 h3 h4 h5 h6;obtain⟨n,rfl⟩:∃k,n=k+1:=⟨n-1,by omega⟩
  by_cases h:i<m
  ·have kI:bG ((i:ax)+1)=((i+1:aE):ax):=c_ (by omega) (by omega);have hW:rN l.length (run l):=oE.Dt h5;have go:∀(e:Ev) (a s:ax),gG e=ai->I q a->jJ (l7 N K n (m:ax) (bG ((i:ax)+1)) q a s (gz.step (run l) e).p.now (gz.step (run l) e).p.a (gz.step (run l) e).p.hits (rv l++aD (aP [Ck.i ao,Ck.i ao,Ck.s,Ck.i ao,Ck.l 3] 1) 0 [CV.i ao e.k,CV.i ao e.id,CV.s e.t,CV.i ao e.n,CV.l 3 e.l]) (re (gz.step (run l) e).p.en) (rs (gz.step (run l) e).p.w) (rs (gz.step (run l) e).p.m) (rr (gz.step (run l) e).p.s) (rf (gz.step (run l) e).p.fe) (rc (gz.step (run l) e).p.cl) (rd (dk (gz.step (run l) e).o)) (ri (gz.step (run l) e).cd) (re (gz.step (run l) e).bd)) P:=λe a s he hI=>by have:=ih (i+1) n (l++[e]) a s (by omega) (by rw[bU,h2];rfl) h (by omega) (I_ h5 he) hI;rw[Kn,<-Ow]at this;rw[kI];exact this
   rw[show l7 N K (n+1)=r7 N (l7 N K n) K from rfl];unfold r7;refine A_Post.ck (aG (by omega)) ?_;refine vE.next hW h6 (λk id t n0 a1 s1 I1 he hk=> ?_);refine A_Post.once I1 (λx a2 s2 I2=> ?_);cases x with
   |true=>refine A_Post.ck rfl ?_;refine A_Post.below I2 (λn1 a3 s3 I3 _ _=> ?_);refine vE.step ⟨7,0,⟨#[]⟩,0,aD (aP [Ck.i ao] 1) 0 [CV.i ao n1]⟩ hW (by omega) (vE.NM n1) ?_;refine A_Post.ck (rm (by omega) _) ?_;exact go ⟨7,0,⟨#[]⟩,0,aD (aP [Ck.i ao] 1) 0 [CV.i ao n1]⟩ a3 s3 (vE.NM n1) I3
   |false=>refine A_Post.cn rfl ?_;refine vE.step ⟨k,id,t,n0,[]⟩ hW (by omega) he ?_;refine A_Post.ck (rm (by omega) _) ?_;exact go ⟨k,id,t,n0,[]⟩ a2 s2 he I2
  ·have:i=m:=by omega
   subst this;exact fin n l a s h2 h5 h6
theorem ok(q:aQ)(a s:ax)(code:aQ)(hI:I q a)(hc:code.length<=1048576):∃(l:az Ev) (a' s':ax),c q a s code=ai/\v q a s code=(rv l,q,a',s')/\l.length<=65/\(∀e∈l,gG e=ai):=by
 have key:∃m:aE,m<=65/\(decide (bG (20+bG (cQ (code.length:ax) 6))>65)=ai/\m=65\/decide (bG (20+bG (cQ (code.length:ax) 6))>65)=ak/\bG (20+bG (cQ (code.length:ax) 6))=(m:ax)):=by
  have h0:0<=cQ (code.length:ax) 6/\cQ (code.length:ax) 6<=1048576:=by rw[h_ (by omega)];omega
  generalize cQ (code.length:ax) 6=z at*
  rw[c_ (x:=z) (by omega) (by omega),c_ (x:=20+z) (by omega) (by omega)];by_cases h:20+z>65
  ·exact⟨65,by omega, .inl ⟨aG h,rfl⟩⟩
  ·exact⟨(20+z).toNat,by omega, .inr ⟨aK h,by omega⟩⟩
 have main:jJ (vo q a s code) (λx=>∃(l:az Ev) (a' s':ax),x=(rv l,q,a',s')/\l.length<=65/\(∀e∈l,gG e=ai)):=by
  obtain⟨m,hm,hk⟩:=key;unfold vo;generalize hN:Lib.cJ=N;have hN1:65<N:=by rw[<-hN];exact cu (by omega)
  clear hN;unfold b;rcases hk with ⟨h1,h2⟩|⟨h1,h2⟩
  ·subst h2;refine A_Post.ck h1 ?_;exact walk N q 65 (by omega) _ (λl a1 s1 hl he hI1=>A_Post.ret ⟨l,a1,s1,rfl,by omega,he⟩) 65 0 N [] a s (by omega) rfl (by omega) hN1 (λe h=>by cases h) hI
  ·refine A_Post.cn h1 ?_;rw[h2];exact walk N q m hm _ (λl a1 s1 hl he hI1=>A_Post.ret ⟨l,a1,s1,rfl,by omega,he⟩) m 0 N [] a s (by omega) rfl (by omega) (by omega) (λe h=>by cases h) hI
 obtain⟨x,hx,l,a',s',rfl,h1,h2⟩:=main;obtain⟨c1,v1⟩:=out _ _ _ _ hx;exact⟨l,a',s',c1,v1,h1,h2⟩
end Q2

namespace U9
open gz (Ev gG)
open oE (rv)
theorem ok(code:aQ)(hc:code.length<=1048576):∃l:az Ev,c code=ai/\v code=rv l/\l.length<=65/\(∀e∈l,gG e=ai):=by obtain⟨h,c0,v0⟩:=Q3.ok code hc;obtain⟨l,a',s',c1,v1,h1,h2⟩:=Q2.ok code 0 h code ⟨by omega,by omega,hc⟩ hc;obtain⟨c2,v2⟩:=out code (x:=rv l) (by unfold vo b;simp only[c0,v0,au,fA.lt_eq,c1,v1]);exact⟨l,c2,v2,h1,h2⟩
end U9

namespace MJ
open Lib (Px Cl Fe En el)
open iB (kp HQ LV)
open gd (mE fV)
open BZ (jr j6)
open s_ (cls kG)
open gv (Cu Di s9 told iP)
open uV (nY ec)
open il (hit sS put ID On FU lI jn rW)
open fP (pX qu one p0)
open kZ (yE)
open gz (Wo Ev closed zJ kH gG flag)
open jS (es)
open uU (ij)
open gV (rN)
theorem xQ{e:En}{now:ax}(hn:1<=now/\now<=1000000000):pX e now=ai↔m8.v e.k e.st e.li e.bo=ai/\e.st<=now/\now-e.st<e.li:=by
 unfold pX;rw[EJ.eq];unfold EJ.fv;rw[show ki.v now e.st 1000000000=decide (e.st<=now/\now<=1000000000)from fB.eH _ _ _];cases h:m8.v e.k e.st e.li e.bo with
 |false=>simp
 |true=>
  have hr:=m8.EC h;rw[au,c_ (x:=now-e.st) (by omega) (by omega)];by_cases h2:e.st<=now
  ·rw[aG (⟨h2,hn.2⟩:e.st<=now/\now<=1000000000),au];simp[h2]
  ·rw[aK (λq:e.st<=now/\now<=1000000000=>h2 q.1),aw];simp[h2]
theorem agm:∀(l:az En),(l.Pairwise λa b=>a.k≠b.k)->∀x∈l,x∈kp l:=by
 intro l;rw[<-vT l];generalize l.reverse=r;induction r with
 |nil=>intro _ x hx;cases hx
 |cons e r ih=>
  intro h x hx;rw[yY]at h hx⊢;rw[HQ];rw[vS]at h;obtain⟨h1,_,h3⟩:=h;rcases bf.1 hx with hx|hx
  ·exact j6.2 (.inr ⟨ih h1 x hx,h3 x hx e dv⟩)
  ·rw[a_.1 hx];exact j6.2 (.inl rfl)
theorem PH(w:Wo):(kH w).Pairwise λa b=>a.k≠b.k:=by have h:=BZ.Dx (iB.ak0 (es w.o));rw[qi,kY]at h;exact vO _ h
def Gp(fe:az Fe)(bd:az En)(c:Cl):Prop:=
 (c.fe=0/\c.sta=2/\∃e∈bd,e.k=c.k/\e.st=c.fr/\e.bo=c.jV/\e.li>c.age)\/
 ∃n:aE,c.fe=(n:ax)+1/\n<fe.length/\(el fe n).k=c.k/\c.jV=(el fe n).t/\(el fe n).sta=c.sta/\(1<=c.sta/\c.sta<=3)
structure wF (w:Wo):Prop where
 st:∀e∈w.p.en,e.st<=w.p.now
 bd:∀e∈w.p.en,e∈w.bd
 ob:∀e∈es w.o,e∈w.bd
 fr:∀e∈w.p.en,pX e w.p.now=ai->e∈kp (es w.o)
 cl:∀c∈w.p.cl,Gp w.p.fe w.bd c
theorem Gp.bd{fe:az Fe}{b b':az En}{c:Cl}(h:Gp fe b c)(hb:∀e∈b,e∈b'):Gp fe b' c:=by
 rcases h with ⟨h1,h2,e,he,h3⟩|h
 ·exact .inl ⟨h1,h2,e,hb e he,h3⟩
 ·exact .inr h
theorem Gp.app{fe:az Fe}{b:az En}{c:Cl}(h:Gp fe b c)(g:Fe):Gp (fe++[g]) b c:=by
 rcases h with h|⟨n,h1,h2,h3,h4,h5,h6⟩
 ·exact .inl h
 ·have e:el (fe++[g]) n=el fe n:=by rw[eG (by rw[bU];omega),eG h2,List.getElem_append_left h2]
  exact .inr ⟨n,h1,by rw[bU];omega,by rw[e];exact h3,by rw[e];exact h4,by rw[e];exact h5,h6⟩
theorem Ai{p:Px}{b:az En}{n:aE}{g:Fe}{st:ax}(hn:n<p.fe.length)(ho:(el p.fe n).sta=1)(hk:g.k=(el p.fe n).k)(hg:g.sta=st)(h1:1<=st/\st<=3)(h:∀c∈p.cl,Gp p.fe b c):∀c∈(told p n g st).cl,Gp (told p n g st).fe b c:=by
 intro c hc;obtain⟨x,hx,rfl⟩:=cU.1 (show c∈p.cl.map (ec n st g.t)from hc);have Rc:=h x hx;show Gp (p.fe.set n g) b (ec n st g.t x);rcases Rc with h0|⟨m,m1,m2,m3,m4,m5,m6⟩
 ·have e:ec n st g.t x=x:=by unfold ec;rw[aK (show¬x.fe=(n:ax)+1 by have:=h0.1;omega)];rfl
  rw[e];exact .inl h0
 ·by_cases hm:m=n
  ·subst hm;have e:ec m st g.t x={x with sta:=st,jV:=g.t}:=by unfold ec;rw[aG m1,aG (show x.sta=1 by rw[<-m5];exact ho)];rfl
   rw[e];refine .inr ⟨m,m1,by rw[cD];exact m2, ?_, ?_, ?_,h1⟩
   ·rw[iP m2,hk];exact m3
   ·rw[iP m2]
   ·rw[iP m2];exact hg
  ·have e:ec n st g.t x=x:=by unfold ec;rw[aK (show¬x.fe=(n:ax)+1 by omega)];rfl
   have e2:el (p.fe.set n g) m=el p.fe m:=by rw[eG (by rw[cD];exact m2),eG m2,List.getElem_set_ne (by omega)]
   rw[e];exact .inr ⟨m,m1,by rw[cD];exact m2,by rw[e2];exact m3,by rw[e2];exact m4,by rw[e2];exact m5,m6⟩
theorem aar{p:Px}{e x:En}(h:x∈(yE p e).en):x=e\/x∈p.en:=by
 unfold yE at h;dsimp only at h;cases hb:e9.has (eT.val p.w p.m p.s p.a e.k).1 e.k||e9.has (eT.val p.w p.m p.s p.a e.k).2.1 e.k with
 |true=>
  rw[hb,au]at h;rcases j6.1 h with h|h
  ·exact .inl h
  ·exact .inr (jr.1 h.1).1
 |false=>rw[hb,aw]at h;exact .inr (jr.1 h).1
theorem Wm{p:Px}{e x:En}(hp:jz.sV p.w p.m p.s p.a=ai)(hk:jz.eO e.k=ai)(h:x∈(yE p e).en):x=e\/(x∈p.en/\x.k≠e.k):=by
 have hb:=Gd.Kx (key:=e.k) hp hk;unfold yE at h;dsimp only at h;rw[hb,au]at h;rcases j6.1 h with h|h
 ·exact .inl h
 ·exact .inr ⟨(jr.1 h.1).1,h.2⟩
theorem T8{l:az Cl}{c x:Cl}(h:x∈jn l c):x=c\/x∈l:=by
 unfold jn at h;rcases bf.1 h with h|h
 ·rcases bf.1 h with h|h
  ·exact .inr (dm.1 h).1
  ·exact .inl (a_.1 h)
 ·exact .inr (dm.1 h).1
theorem zY{w:Wo}{p:Px}(h:wF w)(hn:p.now=w.p.now)(he:∀x∈p.en,x∈w.p.en)(hc:∀c∈p.cl,Gp p.fe w.bd c):wF {w with p:=p}:=
 ⟨λx hx=>by show x.st<=p.now;rw[hn];exact h.st x (he x hx),λx hx=>h.bd x (he x hx),h.ob,λx hx hf=>h.fr x (he x hx) (by rw[<-hn];exact hf),hc⟩
theorem Oq{w:Wo}{id:ax}{key:aq}{b:aU}{fe:az Fe}{i:aE}(h:wF w)(FF:∀c,Gp w.p.fe w.bd c->Gp fe w.bd c)(hi:i<fe.length)(hk:(el fe i).k=key)(hs:(el fe i).sta=1):wF {w with p:=put w.p id key b fe i}:=by
 refine zY h rfl (λx hx=> ?_) (λc hc=> ?_)
 ·unfold put at hx;cases b with
  |true=>exact(jr.1 hx).1
  |false=>exact hx
 ·rcases T8 hc with rfl|hc
  ·exact .inr ⟨i,rfl,hi,hk,rfl,hs,by dsimp only;omega⟩
  ·exact FF c (h.cl c hc)
theorem J3{w:Wo}{id:ax}{key:aq}{b:aU}(h:wF w):wF {w with p:=(sS w.p id key b).1}:=by
 unfold sS;cases Yh:On w.p.fe key with
 |some i=>obtain⟨hi,hq,_⟩:=Am.1 Yh;unfold FU at hq;rw[aM,bh,bh]at hq;exact Oq h (λ_ q=>q) hi (by rw[eG hi];exact hq.1) (by rw[eG hi];exact hq.2)
 |none=>
  dsimp only;by_cases Q8:w.p.fe.length<20
  ·rw[aG Q8,au];have e:el (w.p.fe++[rW key]) w.p.fe.length=rW key:=by rw[eG (by rw[bU];show w.p.fe.length<w.p.fe.length+1;omega),ES (cG _)];simp
   exact Oq h (λc q=>q.app _) (by rw[bU];show w.p.fe.length<w.p.fe.length+1;omega) (by rw[e];rfl) (by rw[e];rfl)
  ·rw[aK Q8];exact h
theorem XN{w:Wo}(id:ax)(key:aq)(ho:ij w.p)(h:wF w):wF {w with p:=(il.ask w.p id key).1}:=by
 unfold il.ask;cases hg:oX.jb w.p&&(decide (1<=id/\id<=9)&&(jz.eO key&&(!lI w.p.cl id&&decide (w.p.cl.length<6))))with
 |false=>exact h
 |true=>
  rw[au];cases he:ID w.p.en key with
  |none=>exact J3 h
  |some e=>
   dsimp only;cases hf:il.pX e w.p.now with
   |false=>exact J3 h
   |true=>
    unfold ID at he;have h1:=qD he;have h2:e.k=key:=by have:=vn he;exact cq this
    obtain⟨f1,f2,f3⟩:=(xQ ho.now).1 (show pX e w.p.now=ai from hf);refine zY h rfl (λx hx=>hx) (λc hc=> ?_);rcases T8 hc with rfl|hc
    ·exact .inl ⟨rfl,rfl,e,h.bd e h1,h2,rfl,rfl,by dsimp only;omega⟩
    ·exact h.cl c hc
theorem Z3{w:Wo}(f:ax)(t:aq)(h:wF w):wF {w with p:=(Di w.p f t).1}:=by
 unfold Di;cases ho:s9 w.p f&&(decide (1<=t.size/\t.size<=40)&&decide ((el w.p.fe f.toNat).t.size+t.size<=400))with
 |false=>exact h
 |true=>rw[aM]at ho;obtain⟨n,rfl,hn,_,h1⟩:=gv.iR ho.1;rw[au,dK];exact zY h rfl (λx hx=>hx) (Ai hn h1 rfl h1 (by omega) h.cl)
theorem XQ{w:Wo}(f:ax)(h:wF w):wF {w with p:=(Cu w.p f).1}:=by
 unfold Cu;cases ho:s9 w.p f with
 |false=>exact h
 |true=>obtain⟨n,rfl,hn,_,h1⟩:=gv.iR ho;rw[au,dK];exact zY h rfl (λx hx=>hx) (Ai hn h1 rfl rfl (by omega) h.cl)
theorem Lf{w:Wo}(f life:ax)(ho:ij w.p)(hl:0<=life/\life<=999999)(h:wF w):wF (closed w f life).1:=by
 unfold closed;dsimp only;unfold cls;cases Yh:s9 w.p f&&decide (0<=life/\life<=999999)with
 |false=>exact h
 |true=>
  rw[aM]at Yh;obtain⟨n,rfl,hn,_,h1⟩:=gv.iR Yh.1;obtain⟨g1,g2,g3,g4,g5⟩:=BZ.Jv ho hn;rw[au,dK];have ht:∀c∈(told w.p n {el w.p.fe n with sta:=2,li:=life,st:=w.p.now} 2).cl,Gp (told w.p n {el w.p.fe n with sta:=2,li:=life,st:=w.p.now} 2).fe w.bd c:=Ai hn h1 rfl rfl (by omega) h.cl;by_cases PW:life>0
  ·rw[aG PW,au];dsimp only[ba,au];have ee:el (yE (told w.p n {el w.p.fe n with sta:=2,li:=life,st:=w.p.now} 2) (kG {el w.p.fe n with sta:=2,li:=life,st:=w.p.now})).fe n={el w.p.fe n with sta:=2,li:=life,st:=w.p.now}:=iP hn;rw[ee];generalize hE:kG {el w.p.fe n with sta:=2,li:=life,st:=w.p.now}=E;have hEk:E.k=(el w.p.fe n).k:=by rw[<-hE];rfl
   have hEs:E.st=w.p.now:=by rw[<-hE];rfl
   have mem:∀x∈(yE (told w.p n {el w.p.fe n with sta:=2,li:=life,st:=w.p.now} 2) E).en,x=E\/(x∈w.p.en/\x.k≠E.k):=λx hx=>Wm (p:=told w.p n {el w.p.fe n with sta:=2,li:=life,st:=w.p.now} 2) ho.pol (by rw[hEk];exact g1) hx;refine⟨λx hx=> ?_,λx hx=> ?_,λx hx=> ?_,λx hx hf=> ?_,λc hc=>(ht c hc).bd λx hx=>bN _ hx⟩
   ·rcases mem x hx with rfl|hx
    ·exact Int.le_of_eq hEs
    ·exact h.st x hx.1
   ·rcases mem x hx with rfl|hx
    ·exact bO _ dv
    ·exact bN _ (h.bd x hx.1)
   ·rcases bf.1 (show x∈es w.o++[E]from hx)with hx|hx
    ·exact bN _ (h.ob x hx)
    ·exact bO _ hx
   ·show x∈kp (es w.o++[E]);rw[HQ];rcases mem x hx with rfl|hx
    ·exact j6.2 (.inl rfl)
    ·exact j6.2 (.inr ⟨h.fr x hx.1 hf,hx.2⟩)
  ·rw[aK PW,aw];exact zY h rfl (λx hx=>hx) ht
theorem Vg{w:Wo}(n:ax)(ho:ij w.p)(h:wF w):wF {w with p:=qI.val w.p n}:=by
 obtain⟨l1,l2⟩:=Ge.zS (n:=n) ho.now;have akg:=ho.now;refine⟨λx hx=>Ca (h.st x hx) l1,h.bd,h.ob,λx hx hf=>h.fr x hx ?_,h.cl⟩
 obtain⟨f1,f2,f3⟩:=(xQ (now:=qI.later w.p.now n) ⟨by omega,l2⟩).1 hf;have:=h.st x hx;exact(xQ ho.now).2 ⟨f1,this,by omega⟩
theorem P_{w:Wo}(id:ax)(h:wF w):wF {w with p:=tn.val w.p id}:=
 zY h rfl (λx hx=>hx) (λc hc=>h.cl c (dm.1 hc).1)
theorem Ia{now:ax}:∀(l:az En),∀x∈(qu now l).en,x∈l/\pX x now=true:=by
 intro l;rw[<-vT l];generalize l.reverse=r;induction r with
 |nil=>intro x hx;cases hx
 |cons e r ih=>
  intro x hx;rw[yY]at hx⊢;have e1:qu now (r.reverse++[e])=one now (qu now r.reverse) e:=by unfold qu;rw[kX];rfl
  rw[e1]at hx;unfold one at hx;cases hf:pX e now with
  |false=>rw[hf,aw]at hx;exact⟨bN _ (ih x hx).1,(ih x hx).2⟩
  |true=>
   rw[hf,au]at hx;rcases aar hx with rfl|hx
   ·exact⟨bO _ dv,hf⟩
   ·exact⟨bN _ (ih x hx).1,(ih x hx).2⟩
theorem Ti{w:Wo}(ho:ij w.p)(h:wF w):wF (zJ w):=by
 have V:=fP.tO w.p.now (kH w) (kH w).length (cG _);rw[dR]at V;have hm:∀x∈kH w,x∈es w.o:=λx hx=>LV (dm.1 hx).1;refine⟨λx hx=> ?_,λx hx=>h.ob x (hm x (Ia _ x hx).1),λx hx=>h.ob x (hm x hx),λx hx _=>agm _ (PH w) x (Ia _ x hx).1,λc hc=> ?_⟩
 ·show x.st<=(qu w.p.now (kH w)).now;rw[V.now];exact((xQ ho.now).1 (Ia _ x hx).2).2.1
 ·have:c∈(qu w.p.now (kH w)).cl:=hc;rw[V.cl]at this;cases this
theorem afm{w:Wo}{l:az ax}(h:wF w):wF {w with cd:=l}:=⟨h.st,h.bd,h.ob,h.fr,h.cl⟩
theorem Wl{i:aE}{w:Wo}{e:Ev}(hW:rN i w)(h:wF w):wF (gz.step w e):=by
 unfold gz.step;refine afm ?_;unfold gz.act;cases decide (e.k=1)
 ·cases decide (e.k=2)
  ·cases decide (e.k=3)
   ·cases decide (e.k=4)
    ·cases decide (e.k=5)
     ·cases decide (e.k=6)
      ·exact Ti hW.px h
      ·exact P_ _ h
     ·exact Vg _ hW.px h
    ·exact XQ _ h
   ·exact Lf _ _ hW.px (by omega) h
  ·exact Z3 _ _ h
 ·exact XN _ _ hW.px h
theorem aaf:∀{l:az Ev},(∀e∈l,gG e=ai)->wF (oE.run l):=by
 intro l;rw[<-vT l];generalize l.reverse=r;induction r with
 |nil=>intro _;show wF oE.w0;exact⟨λx h=>cL h fQ,λx h=>cL h fQ,λx h=>cL h fQ,λx h=>cL h fQ,λx h=>cL h fQ⟩
 |cons e r ih=>
  intro h;rw[yY]at h⊢;have e1:oE.run (r.reverse++[e])=gz.step (oE.run r.reverse) e:=by unfold oE.run;rw[kX];rfl
  have h2:∀x∈r.reverse,gG x=true:=λx hx=>h x (bN _ hx);rw[e1];exact Wl (oE.Dt h2) (ih h2)
end MJ

namespace wa
def p(s:aQ)(k:aq)(a l:ax)(t:aq)(i:aE):aU:=bW (aC (bz (ar s i 0))) (aC k)&&(decide (bE (ar s i 1)=a)&&(decide (bE (ar s i (1+1))=l)&&(bW (aC (bz (ar s i (1+1+1)))) (aC t)&&ai)))
def val(s:aQ)(k:aq)(a l:ax)(t:aq):aU:=decide (Lib.fi (p s k a l t) s.length 0≥0)
theorem ok(s:aQ)(k:aq)(a l:ax)(t:aq)(hl:s.length<=4294967296):c s k a l t=ai/\v s k a l t=val s k a l t:=by
 refine out s k a l t ?_;unfold vo b;refine lS (p s k a l t) s.length (λm (i:aE)=>l2 Lib.cJ (λ(_:aQ) (y8:aU) (_:ax) (_:aq) (_ _:ax) (_:aq)=>ah y8) (λ(_:aQ) (_:aU) (_:ax) (_:aq) (_ _:ax) (_:aq)=>ah ak) m s ak (i:ax) k a l t) (λx=>ah (decide (x≥0))) (λm i hi hp=> ?_) (λm i hi hp=> ?_) (λm=> ?_) Lib.cJ (cu (by omega))
 ·unfold p at hp;rw[show decide ((i:ax)≥0)=ai from aG (by omega)];simp only[l2,r2,Lib.c6,Lib.cm,Lib.dN,hi,aN,aL,au];rw[hp,au]
 ·unfold p at hp;simp only[l2,r2,Lib.c6,Lib.cm,Lib.dN,hi,aN,aL,au];rw[hp,aw,Lib.cS hi (by omega:s.length<=9223372036854775807)]
 ·simp only[l2,r2,Lib.c6,bk,bc,aw];rfl
end wa

namespace fN
open Lib (Cl Fe el)
def hb(bd:aQ)(k:aq)(fr:ax)(jV:aq)(age:ax)(i:aE):aU:=bW (aC (bz (ar bd i 0))) (aC k)&&(decide (bE (ar bd i 1)=fr)&&(bW (aC (bz (ar bd i (1+1+1)))) (aC jV)&&decide (bE (ar bd i (1+1))>age)))
def has(bd:aQ)(k:aq)(fr:ax)(jV:aq)(age:ax):aU:=decide (Lib.fi (hb bd k fr jV age) bd.length 0≥0)
def bg(t jV:aq):aU:=decide (((t.size:aE):ax)≥((jV.size:aE):ax))&&bW (aC (bK t (aZ 0) (aZ (↑(eu jV):ax)))) (aC jV)
def wt(f:Fe)(c:Cl):aU:=bW (aC f.k) (aC c.k)&&(bif decide (c.sta=1)then bW (aC c.jV) (aC f.t)&&decide (f.sta=1)else bif decide (c.sta=2)then bW (aC c.jV) (aC f.t)&&decide (f.sta=2)else decide (c.sta=3)&&(bg f.t c.jV&&decide (f.sta=3)))
def W1(fe:az Fe)(bd:aQ)(c:Cl):aU:=bif decide (c.fe=0)then has bd c.k c.fr c.jV c.age&&decide (c.sta=2)else wt (el fe (c.fe-1).toNat) c
def HC(fe:az Fe)(cl:az Cl)(bd:aQ):aU:=(b8 cl.length).all λi=>W1 fe bd (el cl i)
end fN

namespace Cj
def q(a s:aQ)(i:aE):aU:=wa.val s (bz (ar a i 0)) (bE (ar a i 1)) (bE (ar a i (1+1))) (bz (ar a i (1+1+1)))
def val(a s:aQ):aU:=bif(b8 a.length).all (q a s)then ai else ak
theorem ok(i0:ax)(p1 p2 p3 p4:aQ)(i5:ax)(p6 p7:aQ)(i8:ax)(p9 IH Ke:aQ)(hl:p1.length<=4294967296)(HG:Ke.length<=4294967296):c i0 p1 p2 p3 p4 i5 p6 p7 i8 p9 IH Ke=ai/\v i0 p1 p2 p3 p4 i5 p6 p7 i8 p9 IH Ke=val p1 Ke:=by
 refine out _ _ _ _ _ _ _ _ _ _ _ _ ?_;unfold vo b;have hw:∀i,i<p1.length->bG ((i:ax)+1)=((i+1:aE):ax):=λi h=>Lib.cS h (by omega);have ho:=λk a l t=>wa.ok Ke k a l t HG
 have key:=gJ (q p1 Ke) p1.length (λm (i:aE)=>l2 Lib.cJ (λ(DR:aU) (_ _:ax) (_ _ _ _:aQ) (_:ax) (_ _:aQ) (_:ax) (_ _ _:aQ)=>ah DR) (λ(_:aU) (_ _:ax) (_ _ _ _:aQ) (_:ax) (_ _:aQ) (_:ax) (_ _ _:aQ)=>ah ai) m ak (i:ax) i0 p1 p2 p3 p4 i5 p6 p7 i8 p9 IH Ke) (ah ak) (ah ai)
  (λm i hi hp=>by unfold q at hp;simp only[l2,r2,Lib.c6,hi,aN,Lib.cm,aL,au,Lib.dN,(ho _ _ _ _).1,(ho _ _ _ _).2,hp,aY,aw,hw i hi])
  (λm i hi hp=>by unfold q at hp;simp only[l2,r2,Lib.c6,hi,aN,Lib.cm,aL,au,Lib.dN,(ho _ _ _ _).1,(ho _ _ _ _).2,hp,bP])
  (λm=>by simp only[l2,r2,Lib.c6,bk,bc,aw]) Lib.cJ (cu (by omega))
 refine key.trans ?_;unfold val;cases (b8 p1.length).all (q p1 Ke)<;>rfl
end Cj

namespace rh
open Lib (rr rs re rf rc Px)
def qe(a:aQ)(now:ax)(kp:aQ)(i:aE):aU:=bif zC.v (bz (ar a i 0)) (bE (ar a i 1)) (bE (ar a i (1+1))) (bz (ar a i (1+1+1))) now then wa.val kp (bz (ar a i 0)) (bE (ar a i 1)) (bE (ar a i (1+1))) (bz (ar a i (1+1+1)))else ai
def sw(p:Px)(kp bd:aQ):aU:=(b8 p.en.length).all (qe (re p.en) p.now kp)&&(oX.jb p&&(dZ.val (rf p.fe)&&(fN.HC p.fe p.cl bd&&Cj.val (re p.en) bd)))
theorem cls{p:Px}(h:oX.jb p=ai):∀i,i<p.cl.length->0<=(Lib.el p.cl i).fe/\(Lib.el p.cl i).fe<=p.fe.length:=by intro i hi;have:=(uU.pD.1 h).cl _ (jY hi);unfold uU.Jf at this;simp only[aM,bh]at this;exact this.2.2.2.1
end rh

namespace aiL
open Lib (Px Cl Fe En el re rf rc)
open MJ (wF Gp xQ)
open uU (ij)
open gz (Wo)
open jS (es)
open iB (kp)
theorem TP{l:az En}{e:En}(h:e∈l):wa.val (re l) e.k e.st e.li e.bo=true:=by
 unfold wa.val;rw[de,il.CI l (λx=>bW (aC x.k) (aC e.k)&&(decide (x.st=e.st)&&(decide (x.li=e.li)&&(bW (aC x.bo) (aC e.bo)&&ai)))) (wa.p (re l) e.k e.st e.li e.bo) (λi hi=> ?_),Gu]
 ·exact⟨e,h,by simp[fU]⟩
 ·unfold wa.p;rw[oD hi,qx hi,qy hi,qz hi,eG hi];rfl
theorem stored{en bd:az En}(h:∀e∈en,e∈bd):Cj.val (re en) (re bd)=true:=by
 unfold Cj.val;have:(b8 (re en).length).all (Cj.q (re en) (re bd))=true:=by
  rw[bu];intro i hi;have sE:i<en.length:=by rw[de]at hi;exact gX.1 hi
  unfold Cj.q;rw[oD sE,qx sE,qy sE,qz sE];exact TP (h _ (jY sE))
 rw[this];rfl
theorem one{fe:az Fe}(h:fe.Pairwise λf g=>np.lL g f=ak):dZ.val (rf fe)=true:=by
 unfold dZ.val;rw[bu];intro i hi;rw[bu];intro j hj;have sE:i<fe.length:=by rw[dD]at hi;exact gX.1 hi
 have Em:j<i:=gX.1 hj;have:=dA.1 h j i (by omega) sE Em;unfold np.lL at this;unfold dZ.g dZ.op;rw[Bl sE,MD sE,Bl (by omega:j<fe.length),MD (by omega:j<fe.length),eG sE,eG (by omega:j<fe.length)];show(!(decide ((fe[i]).sta=1)&&(decide ((fe[j]).sta=1)&&bW (aC (fe[i]).k) (aC (fe[j]).k))))=ai;rw[Lib.eN,this];rfl
theorem XO(t:aq):fN.bg t t=true:=by
 unfold fN.bg;rw[aG (Int.le_refl _),ba];have:bK t (aZ 0) (aZ (t.size:ax))=t:=by rw[dK];show t.extract 0 t.size=t;exact ByteArray.extract_zero_size
 rw[this];exact fU _
theorem jV{fe:az Fe}{cl:az Cl}{bd:az En}(h:∀c∈cl,Gp fe bd c):fN.HC fe cl (re bd)=true:=by
 unfold fN.HC;rw[bu];intro i hi;have sE:=gX.1 hi;have hc:=h _ (jY sE);generalize el cl i=c at hc;unfold fN.W1;rcases hc with ⟨h1,h2,e,he,h3,h4,h5,h6⟩|⟨n,h1,h2,h3,h4,h5,h6⟩
 ·rw[aG h1,au,aG h2,iL];unfold fN.has;rw[de,il.CI bd (λx=>bW (aC x.k) (aC c.k)&&(decide (x.st=c.fr)&&(bW (aC x.bo) (aC c.jV)&&decide (x.li>c.age)))) (fN.hb (re bd) c.k c.fr c.jV c.age) (λi hi=> ?_),Gu]
  ·exact⟨e,he,by simp[h3,h4,h5,h6,fU]⟩
  ·unfold fN.hb;rw[oD hi,qx hi,qy hi,qz hi,eG hi];rfl
 ·rw[aK (show¬c.fe=0 by omega),aw,show(c.fe-1).toNat=n by omega];unfold fN.wt;rw[h3,h4,h5,fU,ba];have:c.sta=1\/c.sta=2\/c.sta=3:=by omega
  rcases this with q|q|q
  ·rw[q];simp[fU]
  ·rw[q];simp[fU]
  ·rw[q];simp[XO]
theorem anH{w:Wo}(ho:ij w.p)(h:wF w):rh.sw w.p (re (kp (es w.o))) (re w.bd)=true:=by
 unfold rh.sw;rw[uU.pD.2 ho,one ho.ap,jV h.cl,stored h.bd];simp only[iL];rw[bu];intro i hi;have sE:=gX.1 hi;unfold rh.qe;rw[oD sE,qx sE,qy sE,qz sE];show(bif zC.v (el w.p.en i).k (el w.p.en i).st (el w.p.en i).li (el w.p.en i).bo w.p.now then wa.val (re (kp (es w.o))) (el w.p.en i).k (el w.p.en i).st (el w.p.en i).li (el w.p.en i).bo else ai)=ai;cases hf:zC.v (el w.p.en i).k (el w.p.en i).st (el w.p.en i).li (el w.p.en i).bo w.p.now with
 |false=>rfl
 |true=>refine TP (h.fr _ (jY sE) ?_);unfold fP.pX;rw[zC.eq];exact hf
end aiL

namespace aeO
open Lib (rr rs re rf rc rd Px En el)
open gz (Wo Ev gG)
open jS (dk es)
open oE (rv run life Bg W13)
open fA (ri)
open iB (kp)
open MJ (wF)
theorem runs{l:az Ev}(hl:l.length<=70)(he:∀e∈l,gG e=ai):life l=W13 (run l) ai/\gV.rN l.length (run l)/\wF (run l):=by
 refine⟨?_,oE.Dt he,MJ.aaf he⟩
 unfold life;rw[oE.tJ.2 ⟨hl,he⟩,au]
theorem sound{l:az Ev}(hl:l.length<=70)(he:∀e∈l,gG e=ai):
  (Bv.c (rd (dk (run l).o))=ai/\Bv.v (rd (dk (run l).o))=re (kp (es (run l).o)))/\(U61.c (rd (dk (run l).o))=ai/\U61.v (rd (dk (run l).o))=re (kp (es (run l).o)))/\(re (kp (es (run l).o))).length<=1048576/\(re (run l).bd).length<=1048576/\rh.sw (run l).p (re (kp (es (run l).o))) (re (run l).bd)=true:=by obtain⟨_,hW,hS⟩:=runs hl he;have t:=hW.tx (by omega);have f:=jS.Ta (by omega) hW.eo;have h1:=hW.len (by omega);have h2:=iB.HO (es (run l).o);have h3:=hW.bd;exact⟨f.2,f.1,by rw[de];omega,by rw[de];omega,aiL.anH hW.px hS⟩
end aeO

namespace vd
open Lib (rr rs re rf rc Px)
open oX (jb)
theorem ok(p:Px)(f:ax)(hp:p.Fit 1048576):c p.now (re p.en) (rs p.w) (rs p.m) (rr p.s) p.a (rf p.fe) (rc p.cl) p.hits f=ai/\v p.now (re p.en) (rs p.w) (rs p.m) (rr p.s) p.a (rf p.fe) (rc p.cl) p.hits f=(jb p&&decide (0<=f/\f<=(p.fe.length:ax)-1)):=by have h:=KE.ok p hp;have hf:=hp.fe;refine out _ _ _ _ _ _ _ _ _ _ ?_;unfold vo b;rw[h.1,h.2,au,dD,c_ (x:=(p.fe.length:ax)-1) (by omega) (by omega),show lH.v f 0 ((p.fe.length:ax)-1)=decide (0<=f/\f<=(p.fe.length:ax)-1)from fB.eH _ _ _];cases jb p<;>rfl
end vd

namespace A3
open Lib (rr rs re rf rc Px Cl el)
open uV (ec nY lB)
theorem ok(p:Px)(f:aE)(hf:f<p.fe.length)(hl:p.fe.length<=2097152)(hc:p.cl.length<=2097152):
  c p.now (re p.en) (rs p.w) (rs p.m) (rr p.s) p.a (rf p.fe) (rc p.cl) p.hits (f:ax)=ai/\v p.now (re p.en) (rs p.w) (rs p.m) (rr p.s) p.a (rf p.fe) (rc p.cl) p.hits (f:ax)=(p.now,re p.en,rs p.w,rs p.m,rr p.s,p.a,rf p.fe,rc (nY p.cl f 1 (el p.fe f).t),p.hits):=by
 refine out _ _ _ _ _ _ _ _ _ _ ?_;unfold vo b;rw[eI];have key:=nR Cl.row p.cl (λ_ c=>ec f 1 (el p.fe f).t c) (λn (i:aE) x=>l1 Lib.cJ (λ(_ _ _ Xd Rj DS:ax) (Gc EI wD KL KM Wz:aQ)=>ah (Xd,EI,wD,KL,KM,Rj,Wz,Gc,DS)) n (f:ax) (p.cl.length:ax) (i:ax) p.now p.a p.hits x (re p.en) (rs p.w) (rs p.m) (rr p.s) (rf p.fe)) (λx=>ah (p.now,re p.en,rs p.w,rs p.m,rr p.s,p.a,rf p.fe,x,p.hits)) (λn i L h h2 hL wh=> ?_) (λn L hL=> ?_) Lib.cJ (cu (by omega))
 ·rw[lB]at key;exact key
 ·have e2:ar (L.map Cl.row) i (1+1)=CV.i ao p.cl[i].fe:=by rw[fD _ L i _ h2,wh];rfl
  have e4:ar (L.map Cl.row) i (1+1+1+1)=CV.i ao p.cl[i].sta:=by rw[fD _ L i _ h2,wh];rfl
  have s1:eC (L.map Cl.row) i 5 [CV.s (el p.fe f).t]=(L.set i {p.cl[i]with jV:=(el p.fe f).t}).map Cl.row:=kW Cl.row L i 5 _ _ h2 (by rw[wh];rfl);simp only[l1,r1,Lib.c6,h,h2,hf,bV,cD,aN,Lib.cm,aL,au,Lib.dN,e2,e4,bE,s1,pN,dD,BX hf,bz,Lib.cS h (by omega:p.cl.length<=9223372036854775807),c_ (x:=(f:ax)+1) (by omega) (by omega)];unfold ec;cases decide (p.cl[i].fe=(f:ax)+1)with
  |false=>rw[jf,aw,aw,<-wh,fj]
  |true=>
   cases hd:decide (p.cl[i].sta=1)with
   |false=>rw[ba,au,aw,aw,<-wh,fj]
   |true=>have e:=cq hd;rw[ba,au,au,au];rw[show({p.cl[i]with sta:=1,jV:=(el p.fe f).t}:Cl)={p.cl[i]with jV:=(el p.fe f).t}by rw[<-e]]
 ·simp only[l1,r1,Lib.c6,bk,bc,aw]
end A3

namespace WX
open Lib (rr rs re rf rc Px el)
open gv (s9 Di told iR n7 iP yB)
theorem ok(p:Px)(f:ax)(q:aq)(hp:p.Fit 1048576):c p.now (re p.en) (rs p.w) (rs p.m) (rr p.s) p.a (rf p.fe) (rc p.cl) p.hits f q=ai/\v p.now (re p.en) (rs p.w) (rs p.m) (rr p.s) p.a (rf p.fe) (rc p.cl) p.hits f q=(p.now,re p.en,rs p.w,rs p.m,rr p.s,p.a,rf (Di p f q).1.fe,rc (Di p f q).1.cl,p.hits,(Di p f q).2):=by
 have h1:=iN.ok p hp;have h2:=vd.ok p f hp;have hf:=hp.fe;have hc:=hp.cl;refine out _ _ _ _ _ _ _ _ _ _ _ ?_;unfold vo b Di;simp only[Lib.lt,h1.1,h1.2,h2.1,h2.2,au];unfold s9;cases cg:oX.jb p&&decide (0<=f/\f<=(p.fe.length:ax)-1)with
 |false=>rw[<-nS (oX.jb p),cg];rfl
 |true=>
  rw[<-nS (oX.jb p),cg,ba];rw[aM,bh]at cg;obtain⟨n,rfl⟩:∃n:aE,f=(n:ax):=⟨f.toNat,by omega⟩
  have hn:n<p.fe.length:=by omega
  have xR:=gv.abx cg.1 n hn;unfold np.nM at xR;simp only[aM,bh]at xR;have nq:=Rq.put (el p.fe n).sta (el p.fe n).t q xR.2.1 xR.2.2.1;simp only[aY,aw,au,Lib.cm,Lib.c6,dD,hn,aN,aL,Lib.dN,Ag hn,BX hn,bE,bz,nq];cases hs:decide ((el p.fe n).sta=1)&&(decide (1<=q.size/\q.size<=40)&&decide ((el p.fe n).t.size+q.size<=400))with
  |false=>rfl
  |true=>
   have e1:=yB p.fe n 1 [CV.s ((el p.fe n).t++q)] {el p.fe n with t:=(el p.fe n).t++q} hn rfl;have HH:n<(p.fe.set n {el p.fe n with t:=(el p.fe n).t++q}).length:=by rw[cD];exact hn
   have h3:=A3.ok {p with fe:=p.fe.set n {el p.fe n with t:=(el p.fe n).t++q}} n HH (by rw[cD];omega) (by dsimp only;omega);dsimp only at h3;rw[iP hn]at h3;simp only[aY,aw,au,e1,h3.1,h3.2];rfl
end WX

namespace v7
open Lib (rr rs re rf rc Px Cl el)
open uV (ec nY lB)
theorem ok(p:Px)(f:aE)(st:ax)(hf:f<p.fe.length)(hl:p.fe.length<=2097152)(hc:p.cl.length<=2097152):
  c p.now (re p.en) (rs p.w) (rs p.m) (rr p.s) p.a (rf p.fe) (rc p.cl) p.hits (f:ax) st=ai/\v p.now (re p.en) (rs p.w) (rs p.m) (rr p.s) p.a (rf p.fe) (rc p.cl) p.hits (f:ax) st=(p.now,re p.en,rs p.w,rs p.m,rr p.s,p.a,rf p.fe,rc (nY p.cl f st (el p.fe f).t),p.hits):=by
 refine out _ _ _ _ _ _ _ _ _ _ _ ?_;unfold vo b;rw[eI];have key:=nR Cl.row p.cl (λ_ c=>ec f st (el p.fe f).t c) (λn (i:aE) x=>l1 Lib.cJ (λ(_ _ _ _ DS Gc EI:ax) (wD KL KM Wz Xe Rk:aQ)=>ah (DS,KL,KM,Wz,Xe,Gc,Rk,wD,EI)) n (f:ax) st (p.cl.length:ax) (i:ax) p.now p.a p.hits x (re p.en) (rs p.w) (rs p.m) (rr p.s) (rf p.fe)) (λx=>ah (p.now,re p.en,rs p.w,rs p.m,rr p.s,p.a,rf p.fe,x,p.hits)) (λn i L h h2 hL wh=> ?_) (λn L hL=> ?_) Lib.cJ (cu (by omega))
 ·rw[lB]at key;exact key
 ·have e2:ar (L.map Cl.row) i (1+1)=CV.i ao p.cl[i].fe:=by rw[fD _ L i _ h2,wh];rfl
  have e4:ar (L.map Cl.row) i (1+1+1+1)=CV.i ao p.cl[i].sta:=by rw[fD _ L i _ h2,wh];rfl
  have s1:eC (L.map Cl.row) i 4 [CV.i ao st]=(L.set i {p.cl[i]with sta:=st}).map Cl.row:=kW Cl.row L i 4 _ _ h2 (by rw[wh];rfl);have h3:i<(L.set i {p.cl[i]with sta:=st}).length:=by simpa using h2
  have s2:eC ((L.set i {p.cl[i]with sta:=st}).map Cl.row) i 5 [CV.s (el p.fe f).t]=((L.set i {p.cl[i]with sta:=st}).set i {p.cl[i]with sta:=st,jV:=(el p.fe f).t}).map Cl.row:=kW Cl.row _ i 5 _ _ h3 (by rw[kL];rfl);simp only[l1,r1,Lib.c6,h,h2,hf,bV,cD,aN,Lib.cm,aL,au,Lib.dN,e2,e4,bE,s1,s2,pN,dD,BX hf,bz,Lib.cS h (by omega:p.cl.length<=9223372036854775807),c_ (x:=(f:ax)+1) (by omega) (by omega)];unfold ec;cases decide (p.cl[i].fe=(f:ax)+1)with
  |false=>rw[jf,aw,aw,<-wh,fj]
  |true=>
   cases decide (p.cl[i].sta=1)with
   |false=>rw[ba,au,aw,aw,<-wh,fj]
   |true=>rw[ba,au,au,au]
 ·simp only[l1,r1,Lib.c6,bk,bc,aw]
end v7

namespace Pm
open Lib (rr rs re rf rc Px En el)
open gd (So fV mE)
open kZ (yE)
theorem ok(p:Px)(e:En)(r6 r7:aQ)(hp:p.Fit 1048575)(hso:So p.en)(hk:e.k.size<=140737488355328):
  c p.now (re p.en) (rs p.w) (rs p.m) (rr p.s) p.a r6 r7 p.hits e.k e.st e.li e.bo=ai/\v p.now (re p.en) (rs p.w) (rs p.m) (rr p.s) p.a r6 r7 p.hits e.k e.st e.li e.bo=(p.now,re (yE p e).en,rs (yE p e).w,rs (yE p e).m,rr (yE p e).s,(yE p e).a,r6,r7,p.hits):=by have he:=hp.en;have hw:=hp.w;have hm:=hp.m;obtain⟨b1,b2,b3⟩:=eT.Mz p.w p.m p.s p.a e.k;have h1:=zE.ok p.w p.m p.s p.a e.k (by omega) (by omega) ⟨dg hp.s.1 (by omega),λq hq=>dg (hp.s.2.1 q hq) (by omega)⟩ hk;refine out _ _ _ _ _ _ _ _ _ _ _ _ _ ?_;unfold vo b yE;generalize eT.val p.w p.m p.s p.a e.k=V at h1 b1 b2 b3;obtain⟨W,M,T,A,G⟩:=V;dsimp only at h1 b1 b2⊢;have h2:=pP.ok (re p.en) G (gd.S_ _) (by rw[de];omega);rw[gd.Hq]at h2;have h3:=sM.ok W M (rr T) A e.k (by omega) (by omega);have hd:=gd.xG p.en G;have h4:=u9.ok (re (fV p.en G)) e.k e.st e.li e.bo (gd.C_ (hso.drop G)) (by rw[de];omega);rw[gd.t_]at h4;simp only[Lib.lt,h1.1,h1.2,h2.1,h2.2,h3.1,h3.2,h4.1,h4.2,au];cases e9.has W e.k||e9.has M e.k<;>rfl
end Pm

namespace D5
open Lib (rr rs re rf rc Px el)
open gv (s9 told iR n7 iP yB)
open s_ (cls kG)
theorem ok(p:Px)(f life:ax)(hp:p.Fit 1048576):c p.now (re p.en) (rs p.w) (rs p.m) (rr p.s) p.a (rf p.fe) (rc p.cl) p.hits f life=ai/\v p.now (re p.en) (rs p.w) (rs p.m) (rr p.s) p.a (rf p.fe) (rc p.cl) p.hits f life=(p.now,re (cls p f life).1.en,rs (cls p f life).1.w,rs (cls p f life).1.m,rr (cls p f life).1.s,(cls p f life).1.a,rf (cls p f life).1.fe,rc (cls p f life).1.cl,p.hits,(cls p f life).2):=by
 have h1:=iN.ok p hp;have h2:=vd.ok p f hp;have hf:=hp.fe;have hc:=hp.cl;refine out _ _ _ _ _ _ _ _ _ _ _ ?_;unfold vo b cls;simp only[Lib.lt,h1.1,h1.2,h2.1,h2.2,au];unfold s9;cases cg:oX.jb p&&decide (0<=f/\f<=(p.fe.length:ax)-1)with
 |false=>rw[<-nS (oX.jb p),cg];rfl
 |true=>
  rw[<-nS (oX.jb p),cg,ba];rw[aM,bh]at cg;obtain⟨n,rfl⟩:∃n:aE,f=(n:ax):=⟨f.toNat,by omega⟩
  have hn:n<p.fe.length:=by omega
  obtain⟨so,_,_,_,_,_,_,_,_,_,xR⟩:=kZ.H7 cg.1;have xR:=xR n hn;unfold np.nM at xR;rw[aM]at xR;have Bj:=eT.kQ xR.1;simp only[aY,aw,au,Lib.cm,Lib.c6,dD,hn,aN,aL,Lib.dN,Ag hn,bE];rw[show((el p.fe n).sta !=1)= !decide ((el p.fe n).sta=1)from rfl,show lH.v life 0 999999=decide (0<=life/\life<=999999)from fB.eH _ _ _];cases hs:decide ((el p.fe n).sta=1)with
  |false=>rfl
  |true=>
   cases hl:decide (0<=life/\life<=999999)with
   |false=>rfl
   |true=>
    have e1:=yB p.fe n 2 [CV.i ao 2] {el p.fe n with sta:=2} hn rfl;have n1:n<(p.fe.set n {el p.fe n with sta:=2}).length:=by rw[cD];exact hn
    have e2:=yB (p.fe.set n {el p.fe n with sta:=2}) n 3 [CV.i ao life] {el p.fe n with sta:=2,li:=life} n1 (by rw[iP hn];rfl);rw[pN]at e2;have n2:n<(p.fe.set n {el p.fe n with sta:=2,li:=life}).length:=by rw[cD];exact hn
    have e3:=yB (p.fe.set n {el p.fe n with sta:=2,li:=life}) n 4 [CV.i ao p.now] {el p.fe n with sta:=2,li:=life,st:=p.now} n2 (by rw[iP hn];rfl);rw[pN]at e3;generalize hg:({el p.fe n with sta:=2,li:=life,st:=p.now}:Lib.Fe)=g at e3;have n3:n<(p.fe.set n g).length:=by rw[cD];exact hn
    have h3:=v7.ok {p with fe:=p.fe.set n g} n 2 n3 (by rw[cD];omega) (by dsimp only;omega);dsimp only at h3;rw[iP hn]at h3;have hk:g.k=(el p.fe n).k:=by rw[<-hg]
    have h4:=Pm.ok (told p n g 2) (kG g) (rf (p.fe.set n g)) (rc (told p n g 2).cl) ((n7 (kZ.jO cg.1)).le (by omega)) so (by show g.k.size<=_;rw[hk];omega);have z0:bz (ar (rf (p.fe.set n g)) n 0)=g.k:=by rw[Bl n3,iP hn];rfl
    have z1:bz (ar (rf (p.fe.set n g)) n 1)=g.t:=by rw[BX n3,iP hn];rfl
    have gl:g.li=life:=by rw[<-hg]
    have gs:g.st=p.now:=by rw[<-hg]
    unfold kG at h4;dsimp only[told]at h4;rw[gl,gs]at h4;unfold kG told;simp only[aY,aw,au,e1,e2,e3,h3.1,h3.2,z0,z1,gl,gs];cases decide (life>0)with
    |true=>simp only[au,h4.1,h4.2];rfl
    |false=>rfl
end D5

namespace v5
open Lib (rd el Fi)
open dG (kl act ra Ac wa0 wa1 wa2 wa3 sb Bw)
theorem ok(l:az Fi)(a:az Ac)(hl:l.length<=1000)(ha:a.length<=1000000)(ht:∀x∈a,x.t.size<=2305843009213693952):c (rd l) (ra a)=ai/\v (rd l) (ra a)=(rd (kl l 0 a).1,((kl l 0 a).2:ax)):=by
 refine out _ _ ?_;unfold vo b;have h1:=tq.ok (rd l) (by rw[eg];omega);rw[h1.1,h1.2,au,sb]
 have key:∀(d i n:aE) (l:az Fi),a.length-i<=d->i<=a.length->l.length<=1000->d<n->
   l3 Lib.cJ (λ(_:aQ) (y7:ax) (_:aQ) (_ _:ax) (wC:aQ)=>ah (wC,y7)) (λ(MH:aQ) (_:ax) (_:aQ) (_ _:ax) (DS:aQ)=>ah (DS,(↑(bS MH):ax))) n (ra a) 0 (ra a) (a.length:ax) (i:ax) (rd l)=ah (rd (kl l i (a.drop i)).1,((kl l i (a.drop i)).2:ax)):=by
  intro d
  induction d with
  |zero=>
   intro i n l e1 e2 e3 e4;obtain⟨n,rfl⟩:∃n',n=n'+1:=⟨n-1,by omega⟩
   have:i=a.length:=by omega
   subst this;simp only[l3,r3,Lib.c6,bk,bc,aw,sb,di,kl]
  |succ d ih=>
   intro i n l e1 e2 e3 e4;obtain⟨n,rfl⟩:∃n',n=n'+1:=⟨n-1,by omega⟩
   by_cases hi:i<a.length
   ·have hd:=rL.ok l (el a i).k (el a i).n (el a i).t (el a i).o e3 (ht _ (jY hi));simp only[l3,r3,Lib.c6,sb,hi,aN,Lib.cm,aL,au,Lib.dN,wa0 hi,wa1 hi,wa2 hi,wa3 hi,bz,bE,hd.1,hd.2,Lib.cS hi (by omega:a.length<=9223372036854775807)];rw[dC hi,<-eG hi];unfold kl;cases hac:act l (el a i).k (el a i).n (el a i).t (el a i).o with
    |none=>rfl
    |some e=>have:=(Bw hac).2;exact ih (i+1) n e (by omega) hi (by omega) (by omega)
   ·have:i=a.length:=by omega
    subst this;simp only[l3,r3,Lib.c6,bk,bc,aw,sb,di,kl]
 exact key a.length 0 Lib.cJ l (by omega) (bD _) hl (cu (by omega))
end v5

namespace WY
open Lib (rr rs re rf rc rd Px En el Bl BX Rh Ri)
open gz (Wo Ev closed)
open jS (dk es)
open gV (rN)
open fA (ri uC ud jO)
open s_ (cls kG)
theorem ok{i:aE}{w:Wo}(h:rN i w)(hi:i<=71)(id life:ax)(hl:0<=life/\life<=999999):c w.p.now (re w.p.en) (rs w.p.w) (rs w.p.m) (rr w.p.s) w.p.a (rf w.p.fe) (rc w.p.cl) w.p.hits (rd (dk w.o)) (ri w.cd) (re w.bd) id life=ai/\v w.p.now (re w.p.en) (rs w.p.w) (rs w.p.m) (rr w.p.s) w.p.a (rf w.p.fe) (rc w.p.cl) w.p.hits (rd (dk w.o)) (ri w.cd) (re w.bd) id life=((cls w.p id life).2,uC (closed w id life).1):=by
 refine out _ _ _ _ _ _ _ _ _ _ _ _ _ _ ?_;have PN:=h.bd;have W8:=h.tx hi;have hdl:=jS.zF w.o;have A:=D5.ok w.p id life (jO h.px);obtain⟨q1,q2⟩:=gV.Lh (f:=id) h.px hl;obtain⟨s1,s2⟩:=s_.Jl (p:=w.p) (f:=id) (life:=life);have mQ:=jO q1;unfold vo b;rw[A.1,au,A.2,fA.lt_eq];unfold closed uC;dsimp only;rw[<-s1,<-s2];generalize cls w.p id life=Q at q1 q2 s1 s2 mQ;obtain⟨q,ok⟩:=Q;dsimp only at q1 q2 s1 s2 mQ⊢;rcases q2 with ⟨r1,r2⟩|⟨r1,n,rn,hn,rf_,rs_,rl⟩
 ·subst r1;rfl
 subst r1;rw[aY,aw];by_cases hz:life=0
 ·rw[aG hz,au,ba,aK (show¬life>0 by omega)];rfl
 rw[aK hz,aw,ba,aG (show life>0 by omega),au];obtain⟨t1,t2⟩:=rl (by omega);have HH:n<q.fe.length:=by rw[rf_,cD];exact hn
 have PQ:el q.fe n={el w.p.fe n with sta:=2,li:=life,st:=w.p.now}:=by rw[rf_,gv.iP hn]
 subst rn;rw[dK];have B:=sM.ok q.w q.m (rr q.s) q.a (el q.fe n).k mQ.w mQ.m;have C:=ve.ok (el q.fe n).k (el q.fe n).st (el q.fe n).li (el q.fe n).t;have hE:m8.v (el q.fe n).k (el q.fe n).st (el q.fe n).li (el q.fe n).t=true:=by rw[PQ];exact t1
 have DO:=gV.Lx (e:=kG (el q.fe n)) hE;rw[ve.val,bA hE,show ve.kl (fH.fr (jK.s5 (el q.fe n).k (el q.fe n).st (el q.fe n).li (el q.fe n).t))=dG.ra (iB.sG (iB.IE (kG (el q.fe n))))from rfl]at C;have D:=v5.ok (dk w.o) (iB.sG (iB.IE (kG (el q.fe n)))) (by omega) (by unfold iB.sG;simp) (λx hx=>by
  unfold iB.sG at hx;simp only[cB,fQ,or_false]at hx;rcases hx with rfl|rfl
  ·show(iB.IE (kG (el q.fe n))).size<=_;omega
  ·exact bD _)
 rw[jS.NH (by omega)]at D;have hP:(e9.has q.w (el q.fe n).k||e9.has q.m (el q.fe n).k)=true:=by rw[PQ];exact t2
 rw[hP]at B;have room:∀y,cw ((re w.bd).length+(aD (aP [Ck.s,Ck.i ao,Ck.i ao,Ck.s] 1) 0 y).length) 48=true:=λy=>by rw[de,fA.nO];exact Lib.ch (by omega) (by omega)
 have sn:=ud w.bd (kG (el q.fe n));unfold kG at sn C D;dsimp only at sn;simp only[fA.lt_eq,dD,Lib.c6,HH,aN,Lib.cm,aL,au,Lib.dN,Bl HH,BX HH,Rh HH,Ri HH,bz,bE,B.1,B.2,C.1,C.2,D.1,D.2,room,sn,show kG (el q.fe n)=⟨(el q.fe n).k,(el q.fe n).st,(el q.fe n).li,(el q.fe n).t⟩from rfl]
end WY

namespace WZ
open Lib (rr rs re rf rc Px el)
open gv (s9 Cu told iR n7 iP yB)
theorem ok(p:Px)(f:ax)(hp:p.Fit 1048576):c p.now (re p.en) (rs p.w) (rs p.m) (rr p.s) p.a (rf p.fe) (rc p.cl) p.hits f=ai/\v p.now (re p.en) (rs p.w) (rs p.m) (rr p.s) p.a (rf p.fe) (rc p.cl) p.hits f=(p.now,re p.en,rs p.w,rs p.m,rr p.s,p.a,rf (Cu p f).1.fe,rc (Cu p f).1.cl,p.hits,(Cu p f).2):=by
 have h1:=iN.ok p hp;have h2:=vd.ok p f hp;have hf:=hp.fe;have hc:=hp.cl;refine out _ _ _ _ _ _ _ _ _ _ ?_;unfold vo b Cu;simp only[Lib.lt,h1.1,h1.2,h2.1,h2.2,au];unfold s9;cases cg:oX.jb p&&decide (0<=f/\f<=(p.fe.length:ax)-1)with
 |false=>rw[<-nS,cg];rfl
 |true=>
  rw[<-nS,cg,ba];rw[aM,bh]at cg;obtain⟨n,rfl⟩:∃n:aE,f=(n:ax):=⟨f.toNat,by omega⟩
  have hn:n<p.fe.length:=by omega
  simp only[aY,aw,au,Lib.cm,Lib.c6,dD,hn,aN,aL,Lib.dN,Ag hn,bE];cases hs:decide ((el p.fe n).sta=1)with
  |false=>rw[show((el p.fe n).sta !=1)= !decide ((el p.fe n).sta=1)from rfl,hs];rfl
  |true=>
   have e1:=yB p.fe n 2 [CV.i ao 3] {el p.fe n with sta:=3} hn rfl;have HH:n<(p.fe.set n {el p.fe n with sta:=3}).length:=by rw[cD];exact hn
   have h3:=v7.ok {p with fe:=p.fe.set n {el p.fe n with sta:=3}} n 3 HH (by rw[cD];omega) (by dsimp only;omega);dsimp only at h3;rw[iP hn]at h3;rw[show((el p.fe n).sta !=1)= !decide ((el p.fe n).sta=1)from rfl,hs];simp only[aY,aw,au,e1,h3.1,h3.2];rfl
end WZ

namespace DZ
open Lib (rr rs re rf rc Px)
open qI (tm later)
theorem md(n:ax):A5.c n 1000=ai/\A5.v n 1000=n%1000:=by
 refine A5.out _ _ ?_;unfold A5.vo A5.b;have t:=tm n;rw[show(!decide ((1000:ax)=0))=ai from rfl,au,au];congr 1;by_cases hn:cF n 1000<0
 ·have e:=t.2 hn;rw[e,c_ (x:=n%1000) (by omega) (by omega),im (by omega)];omega
 ·have e:=t.1 (by omega);rw[e,c_ (x:=n%1000+1000) (by omega) (by omega),im (by omega)];omega
theorem ok(p:Px)(n:ax)(hp:p.Fit 1048576):c p.now (re p.en) (rs p.w) (rs p.m) (rr p.s) p.a (rf p.fe) (rc p.cl) p.hits n=ai/\v p.now (re p.en) (rs p.w) (rs p.m) (rr p.s) p.a (rf p.fe) (rc p.cl) p.hits n=((qI.val p n).now,re p.en,rs p.w,rs p.m,rr p.s,p.a,rf p.fe,rc p.cl,p.hits):=by have h:=iN.ok p hp;have hm:=md n;refine out _ _ _ _ _ _ _ _ _ _ ?_;unfold vo b qI.val later;simp only[Lib.lt,h.1,h.2,hm.1,hm.2,au];rw[c_ (x:=1000000000-n%1000) (by omega) (by omega)];cases decide (p.now>1000000000-n%1000)<;>rfl
end DZ

namespace ny
def p(s:aQ)(k:ax)(i:aE):aU:=decide (bE (ar s i 0)=k)
theorem ok(d:aQ)(n:ax)(hl:d.length<=4294967296):c d n=ai/\v d n=Lib.fi (p d n) d.length 0:=by
 refine out d n ?_;unfold vo b;refine lS (p d n) d.length (λm (i:aE)=>l2 Lib.cJ (λ(_:aQ) (_:ax) (y7 _ _:ax)=>ah y7) (λ(_:aQ) (_:ax) (_ _ _:ax)=>ah (-1)) m d n 0 (d.length:ax) (i:ax)) ah (λm i hi hp=> ?_) (λm i hi hp=> ?_) (λm=> ?_) Lib.cJ (cu (by omega))
 ·unfold p at hp;simp only[l2,r2,Lib.c6,Lib.cm,Lib.dN,hi,aN,aL,au,A6.v,hp]
 ·unfold p at hp;simp only[l2,r2,Lib.c6,Lib.cm,Lib.dN,hi,aN,aL,au,A6.v,hp,aw,Lib.cS hi (by omega:d.length<=9223372036854775807)]
 ·simp only[l2,r2,Lib.c6,bk,bc,aw]
end ny

namespace wU
def cn(y:az CV):aU:=match y with|[.i .i64 _, .s _, .i .i64 _, .i .i64 _, .i .i64 _, .s _, .i .i64 _]=>ai|_=>ak
def cr(y:az CV):az CV:=[CV.i ao (bE (y.getD 0 (.b ak))),CV.s (bz (y.getD 1 (.b ak))),CV.i ao (bE (y.getD 2 (.b ak))),CV.i ao (bE (y.getD 3 (.b ak))),CV.i ao (bE (y.getD 4 (.b ak))),CV.s (bz (y.getD 5 (.b ak))),CV.i ao (bE (y.getD 6 (.b ak)))]
theorem tE{y:az CV}(h:cn y=ai):cr y=y:=by
 unfold cn at h;split at h
 ·rfl
 ·cases h
theorem mB{y:az CV}(h:cn y=ai):y.length=7:=by rw[<-tE h];rfl
def keep(d:ax)(y:az CV):aU:= !decide (bE (y.getD 0 (.b ak))=d)
theorem ir(d:ax){s:aQ}{i:aE}(h:i<s.length):(s.take (i+1)).filter (keep d)=(s.take i).filter (keep d)++(bif keep d s[i]then [s[i]]else []):=by rw[cE h,iq];cases hk:keep d s[i]<;>simp[hk]
theorem run(N:aE)(s0:aQ)(d:ax)(hc:s0.all cn=ai)(hn:s0.length<=9223372036854775807)(K:ax->ax->ax->aQ->aA R)(kr:aQ->aA R)
  (hK:∀(j:aE) x,x.length=s0.length->j<=s0.length->K d j s0.length x=kr (x.take j)) (m j i:aE) (x:aQ)
  (hi:j<i/\i<=s0.length/\x.length=s0.length/\(∀y∈x,y.length=7)/\x.take j=(s0.take i).filter (keep d)/\x.drop i=s0.drop i) (hm:s0.length-i<m):
  l5 N K m d j i x=kr (s0.filter (keep d)):=by
 have LF:∀y∈s0,cn y=true:=bu.1 hc
 refine Lib.fE (λm (s:aE×aE×aQ)=>l5 N K m d s.1 s.2.1 s.2.2) (λs=>s0.length-s.2.1)
  (λs=>s.1<s.2.1/\s.2.1<=s0.length/\s.2.2.length=s0.length/\(∀y∈s.2.2,y.length=7)/\s.2.2.take s.1=(s0.take s.2.1).filter (keep d)/\s.2.2.drop s.2.1=s0.drop s.2.1)
  (λ_=>kr (s0.filter (keep d))) (λm s hs=> ?_) m (j,i,x) hi hm
 obtain⟨j,i,x⟩:=s;obtain⟨h1,h2,h3,h4,h5,h6⟩:=hs;simp only at h1 h2 h3 h4 h5 h6⊢;by_cases gC:i<s0.length
 ·right;have oC:i<x.length:=by omega
  have HF:j<x.length:=by omega
  have hx:x[i]=s0[i]:=by have e1:=Lib.eE oC;have e2:=Lib.eE gC;rw[h6,e2]at e1;exact(kC e1).1.symm
  have hd:x.drop (i+1)=s0.drop (i+1):=by have e1:=Lib.eE oC;have e2:=Lib.eE gC;rw[h6,e2]at e1;exact(kC e1).2.symm
  have LH:=LF _ (bB gC);have hf:=ir d gC;cases hk:keep d s0[i]with
  |true=>
   refine⟨(j+1,i+1,x.set j s0[i]), ?_,by simp only;omega,trivial, ?_⟩
   ·rw[hk,au,<-h5]at hf;refine⟨by simp only;omega,by simp only;omega,by simpa using h3, ?_, ?_, ?_⟩
    ·intro y hy;rcases jI hy with h|h
     ·exact h4 y h
     ·rw[h];exact mB LH
    ·rw[hf];rw[cE (by simpa using HF)];simp[wR]
    ·simp only;rw[wQ (by omega)];exact hd
   ·have e:A6.v (bE (ar x i 0)) (bz (ar x i 1)) (bE (ar x i (1+1))) (bE (ar x i (1+1+1))) (bE (ar x i (1+1+1+1))) (bz (ar x i (1+1+1+1+1))) (bE (ar x i (1+1+1+1+1+1))) d=false:=by
     have:(!A6.v (bE (ar x i 0)) (bz (ar x i 1)) (bE (ar x i (1+1))) (bE (ar x i (1+1+1))) (bE (ar x i (1+1+1+1))) (bz (ar x i (1+1+1+1+1))) (bE (ar x i (1+1+1+1+1+1))) d)=true:=by rw[Lib.cK oC,hx];exact hk
     simpa using this
    have es:eC x j 0 [CV.i ao (bE (ar x i 0)),CV.s (bz (ar x i 1)),CV.i ao (bE (ar x i (1+1))),CV.i ao (bE (ar x i (1+1+1))),CV.i ao (bE (ar x i (1+1+1+1))),CV.s (bz (ar x i (1+1+1+1+1))),CV.i ao (bE (ar x i (1+1+1+1+1+1)))]=x.set j s0[i]:=by
     have hl:=h4 _ (bB HF);rw[Lib.BR HF,Lib.cK oC,Lib.cK oC,Lib.cK oC,Lib.cK oC,Lib.cK oC,Lib.cK oC,Lib.cK oC,hx];have:iF x[j] 0 (cr s0[i])=s0[i]:=by rw[tE LH];unfold iF;have:=mB LH;simp[hl,this,gW]
     unfold cr at this;rw[this]
    have b1:(j:ax)<(x.length:ax):=by omega
    simp only[l5,r5,Lib.c6,Lib.cm,Lib.dN,oC,HF,aN,ba,au,e,bP,es,Lib.cS gC hn,Lib.cS (show j<s0.length by omega) hn]
  |false=>
   refine⟨(j,i+1,x), ?_,by simp only;omega,trivial, ?_⟩
   ·rw[hk,aw,dj,<-h5]at hf;exact⟨by simp only;omega,by simp only;omega,h3,h4,hf.symm,hd⟩
   ·have e:A6.v (bE (ar x i 0)) (bz (ar x i 1)) (bE (ar x i (1+1))) (bE (ar x i (1+1+1))) (bE (ar x i (1+1+1+1))) (bz (ar x i (1+1+1+1+1))) (bE (ar x i (1+1+1+1+1+1))) d=true:=by
     have:(!A6.v (bE (ar x i 0)) (bz (ar x i 1)) (bE (ar x i (1+1))) (bE (ar x i (1+1+1))) (bE (ar x i (1+1+1+1))) (bz (ar x i (1+1+1+1+1))) (bE (ar x i (1+1+1+1+1+1))) d)=false:=by rw[Lib.cK oC,hx];exact hk
     simpa using this
    simp only[l5,r5,Lib.c6,Lib.cm,Lib.dN,oC,aN,ba,au,e,aY,aw,Lib.cS gC hn]
 ·left;have:i=s0.length:=by omega
  subst this;rw[dR]at h5;have e:=hK j x h3 (by omega);rw[h5]at e;have oC:¬s0.length<x.length:=by omega
  simp only[l5,r5,Lib.c6,oC,bc,aw,e]
theorem ok(s0:aQ)(i9:ax)(hc:s0.all cn=ai)(hn:s0.length<=4294967296):c s0 i9=ai/\v s0 i9=s0.filter (keep i9):=by
 refine out s0 i9 ?_;have hv:=ny.ok s0 i9 hn;unfold vo b;rw[hv.1,hv.2,au];rcases Lib.py (ny.p s0 i9) s0.length 0 with ⟨h,n5⟩|⟨k,_,Az,hk,LJ,LD⟩
 ·rw[h];have:s0.filter (keep i9)=s0:=by rw[eD];intro y hy;obtain⟨i,hi,rfl⟩:=c8 hy;have:=n5 i (bD _) (by omega);unfold ny.p at this;rw[Lib.cK hi]at this;unfold keep;rw[this];rfl
  rw[this];rfl
 ·rw[hk];have Eo:k<s0.length:=by omega
  have iz:decide ((k:ax)=KV 1)=false:=aK (by show¬(k:ax)= -1;omega);rw[iz,aw,Lib.cS Eo (by omega)];have LF:∀y∈s0,cn y=true:=bu.1 hc;refine run _ s0 i9 hc (by omega) _ ah (λj x hx hj=> ?_) _ k (k+1) s0 ⟨by omega,by omega,rfl,λy hy=>mB (LF y hy), ?_,rfl⟩ (cu (by omega))
  ·have b1:ic (j:ax) (s0.length:ax) (s0.length:ax)=true:=by simp[ic];omega
   have e:g7 j x++aP [Ck.i ao,Ck.s,Ck.i ao,Ck.i ao,Ck.i ao,Ck.s,Ck.i ao] (s0.length-j)++nt s0.length x=g7 j x++aP [Ck.i ao,Ck.s,Ck.i ao,Ck.i ao,Ck.i ao,Ck.s,Ck.i ao] (s0.length-j):=by rw[gW (by omega),dj]
   have hl:(g7 j x).length=j:=by simp;omega
   simp only[hx,Lib.dN,b1,au,e];rw[Lib.tz (by simp[ic];omega)];unfold eW;rw[show aZ 0=0 from rfl,fg,sA,pb (by omega),jg (by omega)]
  ·rw[ir i9 Eo];have e1:keep i9 s0[k]=false:=by unfold ny.p at LJ;rw[Lib.cK Eo]at LJ;unfold keep;rw[LJ];rfl
   have e2:(s0.take k).filter (keep i9)=s0.take k:=by
    rw[eD];intro y hy;obtain⟨i,hi,rfl⟩:=c8 hy;have W7:i<k:=by simp at hi;omega
    have:=LD i (bD _) W7;unfold ny.p at this;rw[Lib.cK (by omega)]at this;rw[nC];unfold keep;rw[this];rfl
   rw[e1,e2,aw,dj]
end wU

namespace D0
open Lib (rr rs re rf rc Px Cl)
theorem ajF(l:az Cl):(rc l).all wU.cn=true:=by rw[bu];intro y hy;unfold Lib.rc at hy;obtain⟨z,_,rfl⟩:=cU.1 hy;rfl
theorem afy(l:az Cl)(id:ax):(rc l).filter (wU.keep id)=rc (l.filter λc=> !decide (c.id=id)):=by unfold Lib.rc;rw[o_];rfl
theorem ok(p:Px)(id:ax)(hp:p.Fit 1048576):c p.now (re p.en) (rs p.w) (rs p.m) (rr p.s) p.a (rf p.fe) (rc p.cl) p.hits id=ai/\v p.now (re p.en) (rs p.w) (rs p.m) (rr p.s) p.a (rf p.fe) (rc p.cl) p.hits id=(p.now,re p.en,rs p.w,rs p.m,rr p.s,p.a,rf p.fe,rc (tn.val p id).cl,p.hits):=by have h:=iN.ok p hp;have hc:=hp.cl;have h2:=wU.ok (rc p.cl) id (ajF _) (by rw[eI];omega);rw[afy]at h2;exact out _ _ _ _ _ _ _ _ _ _ (by unfold vo b;simp only[Lib.lt,h.1,h.2,h2.1,h2.2,au];rfl)
end D0

namespace A7
theorem ok(d l:aQ)(hd:d.length<=1048576)(hl:l.length<=1048576):c d l=ai/\v d l=jL.val d l:=by
 refine out d l ?_;have k1:=kg.ok d (by omega);have k2:=u6.ok d {data:= #[ay 110,ay 101,ay 119]} (by omega);have e2:wb.val d {data:= #[ay 110,ay 101,ay 119]}=wb.val d jL.nm:=rfl;unfold vo b jL.val;rw[k1.1,k1.2,au];cases lG.val d with
 |false=>rfl
 |true=>
  rw[aY,aw,au];have tr:∀(K0 K1:aU->aq->aQ->ax->ax->aQ->aA (aQ×aU)) (kt:aq->aA (aQ×aU)) (h0:∀x i,K0 ak x l l.length i d=ah ([],ak)) (h1:∀x i,K1 ak x l l.length i d=kt x),l5 Lib.cJ K0 K1 Lib.cJ ak ⟨#[]⟩ l l.length 0 d=jL.fin (jL.fs l l.length 0 ⟨#[]⟩) (ah ([],ak)) kt:=by
   intro K0 K1 kt h0 h1;refine jL.NC l hl (λm i acc=>l5 Lib.cJ K0 K1 m ak acc l l.length (i:ax) d) _ kt (λm i acc hi ha hf ho=> ?_) (λm i acc hi ho=> ?_) (λm acc=> ?_)
   ·have kI:bG ((i:ax)+1)=((i+1:aE):ax):=c_ (by omega) (by omega);have f1:=mZ.ok (bz (ar l i 0)) (bE (ar l i 1)) (bE (ar l i (1+1))) (bz (ar l i (1+1+1)));have f2:mZ.val (bz (ar l i 0)) (bE (ar l i 1)) (bE (ar l i (1+1))) (bz (ar l i (1+1+1)))=(fH.fr (jL.tx l i),ai):=by unfold mZ.val;exact bA ho
    simp only[l5,r5,Lib.c6,Lib.cm,Lib.dN,hi,aN,aL,au,aw,f1.1,f1.2,f2,aY,aG (show acc.size+(fH.fr (jL.tx l i)).size<=4611686018427387904 by omega),kI]
   ·have f1:=mZ.ok (bz (ar l i 0)) (bE (ar l i 1)) (bE (ar l i (1+1))) (bz (ar l i (1+1+1)));have f2:mZ.val (bz (ar l i 0)) (bE (ar l i 1)) (bE (ar l i (1+1))) (bz (ar l i (1+1+1)))=(⟨#[]⟩,ak):=by unfold mZ.val;rw[bJ (by intro h;have h':jL.eo l i=true:=h;rw[ho]at h';cases h')]
    simp only[l5,r5,Lib.c6,Lib.cm,Lib.dN,hi,aN,aL,au,f1.1,f1.2,f2,bP];exact h0 acc i
   ·simp only[l5,r5,Lib.c6,bk,bc,aw];exact h1 acc _
  refine(tr _ _ (λx=>ah (jL.kl (wb.val d jL.nm).2 x,ai)) (λ_ _=>rfl) (λx _=> ?_)).trans ?_
  ·rw[k2.1,au,k2.2,e2];cases (wb.val d jL.nm).2<;>rfl
  ·cases jL.fs l l.length 0 ⟨#[]⟩<;>rfl
end A7

namespace QZ
open Lib (rr rs re rf rc Px En el oD qx qy qz)
open fP (qu pX one tO yu zL p0)
theorem ok(now:ax)(l:az En)(hl:l.length<=1048576):
  c now (re l)=ai/\v now (re l)=(now,re (qu now l).en,rs (qu now l).w,rs (qu now l).m,rr (qu now l).s,(qu now l).a,[],[],0):=by
 refine out _ _ ?_;unfold vo b;rw[de];have key:=ml l.length (λn (i:aE) (p:Px)=>l4 Lib.cJ (λ(_:ax) (_:aQ) (_ _ _ _ _ Xe Rk Rl:ax) (IJ Rm Rn Ro Rp QN:aQ)=>ah (Xe,IJ,Rm,Rn,Ro,Rk,Rp,QN,Rl)) n now (re l) (l.length:ax) (i:ax) 0 0 0 now p.a 0 (re p.en) (rs p.w) (rs p.m) (rr p.s) [] []) (λi=>qu now (l.take i)) (ah (now,re (qu now l).en,rs (qu now l).w,rs (qu now l).m,rr (qu now l).s,(qu now l).a,[],[],0)) (λn i hi=>by
  have I:=tO now l i (by omega);have hs:=yu now l i hi;generalize qu now (l.take i)=p at I hs;rw[hs];unfold one;have hw:bG ((i:ax)+1)=((i+1:aE):ax):=Lib.cS hi (by omega);cases hf:pX (el l i) now with
  |false=>have vt:Ef.v (el l i).k (el l i).st (el l i).li (el l i).bo now=false:=hf;simp only[l4,r4,de,Lib.c6,hi,aN,Lib.cm,aL,au,Lib.dN,oD hi,qx hi,qy hi,qz hi,bz,bE,vt,aw,hw]
  |true=>have vt:Ef.v (el l i).k (el l i).st (el l i).li (el l i).bo now=true:=hf;have hk:=(m8.EC (zL hf)).1;have h4:=Pm.ok p (el l i) [] [] (I.fit (by omega) (by omega)) I.so (by omega);rw[I.now,I.hits]at h4;simp only[l4,r4,Lib.lt,de,Lib.c6,hi,aN,Lib.cm,aL,au,Lib.dN,oD hi,qx hi,qy hi,qz hi,bz,bE,vt,h4.1,h4.2,hw]) (λn=>by
  simp only[l4,r4,Lib.c6,bk,bc,aw,dR]) Lib.cJ 0 (bD _) (cu (by omega))
 exact key
end QZ

namespace AZ
open Lib (rr rs re rf rc rd Px En el oD qx qy qz)
open gz (Wo Ev zJ kH)
open jS (dk es)
open gV (rN)
open fA (ri uC ud jO)
theorem walk(N:aE)(L:az En)(hL:L.length<=1048576)(hN:L.length<N)(K0:ax->ax->ax->ax->ax->aQ->aQ->aQ->aQ->aQ->aQ->aQ->aQ->aQ->aQ->aQ->aA R)(now a5 a8:ax)(q1 q2 q3 q4 q6 q7 q9 EB Z8:aQ):
  l3 N K0 N (L.length:ax) 0 now a5 a8 (re []) (re L) q1 q2 q3 q4 q6 q7 q9 EB Z8=K0 (L.length:ax) (L.length:ax) now a5 a8 (re (L.filter λe=>fP.pX e now)) (re L) q1 q2 q3 q4 q6 q7 q9 EB Z8:=by
 have hw:∀i,i<L.length->bG ((i:ax)+1)=((i+1:aE):ax):=λi h=>Lib.cS h (by omega)
 have key:=CJ L (λe=>fP.pX e now) (λm (i:aE) acc=>l3 N K0 m (L.length:ax) (i:ax) now a5 a8 (re acc) (re L) q1 q2 q3 q4 q6 q7 q9 EB Z8) (λacc=>K0 (L.length:ax) (L.length:ax) now a5 a8 (re acc) (re L) q1 q2 q3 q4 q6 q7 q9 EB Z8) []
  (λm i acc hi ha hp=>by rw[<-eG hi]at hp⊢;unfold fP.pX at hp;simp only[l3,r3,de,Lib.c6,hi,aN,Lib.cm,aL,au,Lib.dN,oD hi,qx hi,qy hi,qz hi,bz,bE,hp,hw i hi,fA.nO,fA.ud];rw[Lib.ch (by simp at ha;omega) (by simp at ha;omega),au])
  (λm i acc hi hp=>by rw[<-eG hi]at hp;unfold fP.pX at hp;simp only[l3,r3,de,Lib.c6,hi,aN,Lib.cm,aL,au,Lib.dN,oD hi,qx hi,qy hi,qz hi,bz,bE,hp,hw i hi,aw])
  (λm acc=>by simp only[l3,r3,Lib.c6,bk,bc,aw])
  N hN
 exact key
theorem ok{i:aE}{w:Wo}(h:rN i w)(hi:i<=71)(left:aQ):c w.p.now (re w.p.en) (rs w.p.w) (rs w.p.m) (rr w.p.s) w.p.a (rf w.p.fe) (rc w.p.cl) w.p.hits (rd (dk w.o)) (ri w.cd) (re w.bd) left=ai/\v w.p.now (re w.p.en) (rs w.p.w) (rs w.p.m) (rr w.p.s) w.p.a (rf w.p.fe) (rc w.p.cl) w.p.hits (rd (dk w.o)) (ri w.cd) (re w.bd) left=uC (zJ w):=by
 refine out _ _ _ _ _ _ _ _ _ _ _ _ _ ?_;have W8:=h.tx hi;have hlen:=h.len hi;have hdl:=jS.zF w.o;have A:=wV.ok (dk w.o) left (by omega);rw[jS.XU (by omega) left,show rL.res (ah (dk w.o))=(rd (dk w.o),ai)from rfl]at A;have B:=(jS.Ta (o:=w.o) (by omega) h.eo).1;have Eo:=iB.HO (es w.o);have hf:=gV.Hz h.eo;have PR:=gV.CN w;have htf:=gV.Wt _ hf;have C:=A7.ok (rd (dk w.o)) (re (kH w)) (by rw[eg];omega) (by rw[de];omega);rw[jS.abv (by omega) hf]at C;have D:=v5.ok (dk w.o) (pT.tv (iB.tx (kH w))) (by omega) (by unfold pT.tv;simp) (λx hx=>by
  unfold pT.tv at hx;simp only[cB,fQ,or_false]at hx;rcases hx with rfl|rfl|rfl
  ·show(iB.tx (kH w)).size<=_;omega
  ·exact bD _
  ·exact bD _)
 rw[jS.NG (by omega) (by omega)]at D;have E:=QZ.ok w.p.now (kH w) (by omega);unfold vo;generalize hN:Lib.cJ=N;have jt:(iB.kp (es w.o)).length<N:=by rw[<-hN];exact cu (by omega)
 clear hN;unfold b;rw[A.1,au,A.2,fA.lt_eq];show(bif U61.c (rd (dk w.o))then Lib.lt (U61.v (rd (dk w.o))) _ else aj)=_;rw[B.1,au,B.2,fA.lt_eq,de,show aP [Ck.s,Ck.i ao,Ck.i ao,Ck.s] 0=re []from rfl,walk N (iB.kp (es w.o)) (by omega) jt];have e:((kpp:az En)->kpp=iB.kp (es w.o)->kpp.filter (λe=>fP.pX e w.p.now)=kH w):=λ_ h=>by subst h;rfl
 rw[e _ rfl];simp only[fA.lt_eq,C.1,C.2,D.1,D.2,E.1,E.2,au];have hinv:=fP.tO w.p.now (kH w) (kH w).length (cG _);rw[dR]at hinv;unfold uC zJ;dsimp only;rw[hinv.now,hinv.fe,hinv.cl,hinv.hits];rfl
end AZ

namespace WS
open Lib (rr rs re rf rc rd Px En el)
open gz (Wo Ev closed zJ kH gG flag)
open jS (dk es)
open gV (rN)
open fA (ri uC ud jO)
theorem fl(b:aU):G8.v b=flag b:=by cases b<;>rfl
theorem ok{i:aE}{w:Wo}{e:Ev}(h:rN i w)(hi:i<=71)(he:gG e=ai):c w.p.now (re w.p.en) (rs w.p.w) (rs w.p.m) (rr w.p.s) w.p.a (rf w.p.fe) (rc w.p.cl) w.p.hits (rd (dk w.o)) (ri w.cd) (re w.bd) e.k e.id e.t e.n e.l=ai/\v w.p.now (re w.p.en) (rs w.p.w) (rs w.p.m) (rr w.p.s) w.p.a (rf w.p.fe) (rc w.p.cl) w.p.hits (rd (dk w.o)) (ri w.cd) (re w.bd) e.k e.id e.t e.n e.l=((gz.act w e).2,uC (gz.act w e).1):=by
 unfold gG at he;simp only[aM,bh]at he;obtain⟨hk,JG,ht,hn,hl⟩:=he;have hp:=jO h.px;refine out _ _ _ _ _ _ _ _ _ _ _ _ _ _ _ _ _ ?_;unfold vo b gz.act;by_cases k1:e.k=1
 ·rw[aG k1,au];have A:=SN.ok w.p e.id e.t hp (by omega);rw[A.1,au,A.2,fA.lt_eq];try rfl
 rw[aK k1,aw,aw];by_cases k2:e.k=2
 ·rw[aG k2,au];have A:=WX.ok w.p e.id e.t hp;rw[A.1,au,A.2,fA.lt_eq,fl];unfold uC gv.Di;cases gv.s9 w.p e.id&&(decide (1<=e.t.size/\e.t.size<=40)&&decide ((el w.p.fe e.id.toNat).t.size+e.t.size<=400))<;>rfl
 rw[aK k2,aw,aw];by_cases k3:e.k=3
 ·rw[aG k3,au,im hn];have A:=WY.ok h hi e.id (e.n%1000000) (by omega);rw[A.1,au,A.2,fA.lt_eq,fl];try rfl
 rw[aK k3,aw,aw];by_cases k4:e.k=4
 ·rw[aG k4,au];have A:=WZ.ok w.p e.id hp;rw[A.1,au,A.2,fA.lt_eq,fl];unfold uC gv.Cu;cases gv.s9 w.p e.id<;>rfl
 rw[aK k4,aw,aw];by_cases k5:e.k=5
 ·rw[aG k5,au];have A:=DZ.ok w.p e.n hp;rw[A.1,au,A.2,fA.lt_eq];try rfl
 rw[aK k5,aw,aw];by_cases k6:e.k=6
 ·rw[aG k6,au];have A:=D0.ok w.p e.id hp;have B:=zA.ok w.p.now (re w.p.en) (rs w.p.w) (rs w.p.m) (rr w.p.s) w.p.a (rf w.p.fe) w.p.cl w.p.hits e.id hp.cl;rw[B.1,au,fA.lt_eq,A.1,au,A.2,fA.lt_eq,fl,B.2];try rfl
 rw[aK k6,aw,aw];have A:=AZ.ok h hi e.l;rw[A.1,au,A.2,fA.lt_eq];try rfl
end WS

namespace Nr
open Lib (rr rs re rf rc rd Px En el)
open gz (Wo Ev gG)
open jS (dk es)
open gV (rN)
open fA (ri uC)
open oE (rv mF wv0 wv1 wv2 wv3 wv4 run Dm uc Bg life W13 tJ)
theorem chk(N n:aE)(l:az Ev)(hl:l.length<=1048576)(hn:l.length<n)(K0 K1:aQ->aU->aQ->ax->ax->ax->ax->ax->aA R)(kf:aA R)(hK:∀i:ax,K0 (rv l) ak (rv l) (l.length:ax) i 0 0 0=kf):
  l4 N K0 K1 n (rv l) ak (rv l) (l.length:ax) 0 0 0 0=bif(b8 l.length).all λi=>gG (el l i)then K1 (rv l) ak (rv l) (l.length:ax) (l.length:ax) 0 0 0 else kf:=by
 have hw:∀i,i<l.length->bG ((i:ax)+1)=((i+1:aE):ax):=λi h=>Lib.cS h (by omega)
 have key:=gJ (λi=>gG (el l i)) l.length (λm (i:aE)=>l4 N K0 K1 m (rv l) ak (rv l) (l.length:ax) (i:ax) 0 0 0) kf (K1 (rv l) ak (rv l) (l.length:ax) (l.length:ax) 0 0 0)
  (λm i hi hp=>by simp only[l4,r4,mF,Lib.c6,hi,aN,Lib.cm,aL,au,Lib.dN,wv0 hi,wv1 hi,wv2 hi,wv3 hi,wv4 hi,bE,bz,iX,oE.HY,hp,aY,aw,hw i hi])
  (λm i hi hp=>by simp only[l4,r4,mF,Lib.c6,hi,aN,Lib.cm,aL,au,Lib.dN,wv0 hi,wv1 hi,wv2 hi,wv3 hi,wv4 hi,bE,bz,iX,oE.HY,hp,bP,hK])
  (λm=>by simp only[l4,r4,Lib.c6,bk,bc,aw]) n hn
 exact key
theorem go(N:aE)(l:az Ev)(hl:l.length<=70)(he:∀e∈l,gG e=ai)(K:aQ->ax->ax->ax->ax->ax->ax->ax->ax->aQ->aQ->aQ->aQ->aQ->aQ->aQ->aQ->aQ->aA R):∀(d i n:aE) (w:Wo),w=run (l.take i)->l.length-i<=d->i<=l.length->d<n->
  P7 N K n (rv l) (l.length:ax) (i:ax) 0 0 0 w.p.now w.p.a w.p.hits (re w.p.en) (rs w.p.w) (rs w.p.m) (rr w.p.s) (rf w.p.fe) (rc w.p.cl) (rd (dk w.o)) (ri w.cd) (re w.bd)=K (rv l) (l.length:ax) (l.length:ax) 0 0 0 (run l).p.now (run l).p.a (run l).p.hits (re (run l).p.en) (rs (run l).p.w) (rs (run l).p.m) (rr (run l).p.s) (rf (run l).p.fe) (rc (run l).p.cl) (rd (dk (run l).o)) (ri (run l).cd) (re (run l).bd):=by
 have fin:∀(n:aE) (w:Wo),w=run (l.take l.length)->P7 N K (n+1) (rv l) (l.length:ax) (l.length:ax) 0 0 0 w.p.now w.p.a w.p.hits (re w.p.en) (rs w.p.w) (rs w.p.m) (rr w.p.s) (rf w.p.fe) (rc w.p.cl) (rd (dk w.o)) (ri w.cd) (re w.bd)=K (rv l) (l.length:ax) (l.length:ax) 0 0 0 (run l).p.now (run l).p.a (run l).p.hits (re (run l).p.en) (rs (run l).p.w) (rs (run l).p.m) (rr (run l).p.s) (rf (run l).p.fe) (rc (run l).p.cl) (rd (dk (run l).o)) (ri (run l).cd) (re (run l).bd):=by intro n w hw;rw[dR]at hw;subst hw;simp only[P7,wG,Lib.c6,bk,bc,aw]
 intro d;induction d with
 |zero=>
  intro i n w hw h1 h2 h3;obtain⟨n,rfl⟩:∃m,n=m+1:=⟨n-1,by omega⟩
  have:i=l.length:=by omega
  subst this;exact fin n w hw
 |succ d ih=>
  intro i n w hw h1 h2 h3;obtain⟨n,rfl⟩:∃m,n=m+1:=⟨n-1,by omega⟩
  by_cases hi:i<l.length
  ·have hW:rN i w:=by rw[hw];exact Dm he i h2
   have hE:=he _ (jY hi);have A:=WS.ok hW (by omega) hE;have hcd:=hW.cd;have e1:(gz.act w (el l i)).1.cd=w.cd:=Hb.SQ w _;have rm:cw ((ri w.cd).length+(aD (aP [Ck.i ao] 1) 0 [CV.i ao (gz.act w (el l i)).2]).length) 8=true:=by rw[fA.gf,fA.nO];exact Lib.ch (by omega) (by omega)
   have nx:=ih (i+1) n (gz.step w (el l i)) (by rw[uc l i hi,hw]) (by omega) hi (by omega);refine KP ?_ nx;have TL:bG ((i:ax)+1)=((i+1:aE):ax):=Lib.cS hi (by omega);simp only[P7,wG,mF,Lib.c6,hi,aN,Lib.cm,aL,au,Lib.dN,wv0 hi,wv1 hi,wv2 hi,wv3 hi,wv4 hi,bE,bz,iX,TL];rw[A.1,au,A.2,fA.lt_eq];unfold uC;dsimp only;rw[e1,rm,au,fA.adm];rfl
  ·have:i=l.length:=by omega
   subst this;exact fin n w hw
theorem ok(l:az Ev)(hl:l.length<=1048576):c (rv l)=ai/\v (rv l)=life l:=by
 refine out _ ?_;unfold vo;generalize hN:Lib.cJ=N;have jt:l.length<N:=by rw[<-hN];exact cu (by omega)
 clear hN;unfold b life Bg;rw[mF];by_cases h:l.length<=70
 ·rw[aG h,ba,aK (show¬(l.length:ax)>70 by omega),aw];rw[chk N N l hl jt _ _ (ah (0,[],[],[],[],0,[],[],0,[],[],[],ak)) (λ_=>rfl)];cases ha:(b8 l.length).all λi=>gG (el l i)with
  |false=>rfl
  |true=>have he:∀e∈l,gG e=true:=(tJ.1 (by unfold Bg;rw[ha,aG h];rfl)).2;rw[au,au];simp only[mF];exact(go N l h he _ l.length 0 N oE.w0 rfl (by omega) (by omega) jt).trans rfl
 ·rw[aK h,jf,aG (show(l.length:ax)>70 by omega),au,aw]
end Nr

namespace WT
open Lib (rr rs re rf rc rd Px En el)
open gz (Wo)
open jS (dk)
open gV (rN)
open fA (ri uC jO)
theorem ok{i:aE}{w:Wo}(h:rN i w)(hi:i<=71):c w.p.now (re w.p.en) (rs w.p.w) (rs w.p.m) (rr w.p.s) w.p.a (rf w.p.fe) (rc w.p.cl) w.p.hits (rd (dk w.o)) (ri w.cd) (re w.bd)=ai/\v w.p.now (re w.p.en) (rs w.p.w) (rs w.p.m) (rr w.p.s) w.p.a (rf w.p.fe) (rc w.p.cl) w.p.hits (rd (dk w.o)) (ri w.cd) (re w.bd)=uC w:=by
 refine out _ _ _ _ _ _ _ _ _ _ _ _ ?_;have A:=fI.ok w.p (jO h.px);have hdl:=jS.zF w.o;have hcd:=h.cd;have PN:=h.bd;have r1:cw ((aP [Ck.s,Ck.s,Ck.i ao] 0).length+(rd (dk w.o)).length) 40=true:=by rw[eg];exact Lib.ch (by show(0+(dk w.o).length)*40<=_;omega) (by show 0+(dk w.o).length<=_;omega)
 have r2:cw ((aP [Ck.i ao] 0).length+(ri w.cd).length) 8=true:=by rw[fA.gf];exact Lib.ch (by show(0+w.cd.length)*8<=_;omega) (by show 0+w.cd.length<=_;omega)
 have r3:cw ((aP [Ck.s,Ck.i ao,Ck.i ao,Ck.s] 0).length+(re w.bd).length) 48=true:=by rw[de];exact Lib.ch (by show(0+w.bd.length)*48<=_;omega) (by show 0+w.bd.length<=_;omega)
 unfold vo b;rw[A.1,au,A.2,fA.lt_eq,r1,au,r2,au,r3,au];rfl
end WT

namespace Ns
open Lib (rr rs re rf rc rd Px En el)
open gz (Wo Ev gG)
open jS (dk es)
open gV (rN)
open fA (ri uC)
open oE (rv mF wv0 wv1 wv2 wv3 wv4 run Dm uc Dt Bg life W13 tJ)
theorem chk(N:aE)(l:az Ev)(hl:l.length<=1048576)(K:aQ->aU->ax->ax->ax->ax->aA R)(kf:aA R)(hK:∀(i:ax),K (rv l) ak i 0 0 0=kf):∀(d i n:aE) (b:aU),l.length-i<=d->i<=l.length->d<n->
  l3 N K n (rv l) b (i:ax) 0 0 0=bif(b&&(iV i (l.length-i)).all λi=>gG (el l i))then K (rv l) ai (l.length:ax) 0 0 0 else kf:=by
 have fin:∀(n:aE) (b:aU),l3 N K (n+1) (rv l) b (l.length:ax) 0 0 0=bif(b&&(iV l.length (l.length-l.length)).all λi=>gG (el l i))then K (rv l) ai (l.length:ax) 0 0 0 else kf:=by
  intro n b;simp only[l3,r3,mF,Lib.c6,bk,bc,aw,Nat.sub_self,XB,List.all_nil,iL];cases b with
  |true=>rfl
  |false=>exact hK _
 intro d;induction d with
 |zero=>
  intro i n b h1 h2 h3;obtain⟨n,rfl⟩:∃m,n=m+1:=⟨n-1,by omega⟩
  have:i=l.length:=by omega
  subst this;exact fin n b
 |succ d ih=>
  intro i n b h1 h2 h3;obtain⟨n,rfl⟩:∃m,n=m+1:=⟨n-1,by omega⟩
  by_cases hi:i<l.length
  ·cases b with
   |false=>simp only[l3,r3,mF,Lib.c6,hi,aN,au,aw,hK,jf]
   |true=>
    have TL:bG ((i:ax)+1)=((i+1:aE):ax):=Lib.cS hi (by omega);have e:(iV i (l.length-i)).all (λi=>gG (el l i))=(gG (el l i)&&(iV (i+1) (l.length-(i+1))).all λi=>gG (el l i)):=by rw[show l.length-i=(l.length-(i+1))+1 by omega,List.range'_succ,u0]
    have nx:=ih (i+1) n (gG (el l i)) (by omega) hi (by omega);rw[e,ba,<-nx];simp only[l3,r3,mF,Lib.c6,hi,aN,Lib.cm,aL,au,Lib.dN,wv0 hi,wv1 hi,wv2 hi,wv3 hi,wv4 hi,bE,bz,iX,oE.ZV,TL]
  ·have:i=l.length:=by omega
   subst this;exact fin n b
theorem go(N:aE)(l:az Ev)(hl:l.length<=70)(he:∀e∈l,gG e=ai)(K:aQ->ax->ax->ax->ax->ax->ax->ax->aQ->aQ->aQ->aQ->aQ->aQ->aQ->aQ->aQ->aA R):∀(d i n:aE) (w:Wo),w=run (l.take i)->l.length-i<=d->i<=l.length->d<n->
  l10 N K n (rv l) (i:ax) 0 0 0 w.p.now w.p.a w.p.hits (re w.p.en) (rs w.p.w) (rs w.p.m) (rr w.p.s) (rf w.p.fe) (rc w.p.cl) (rd (dk w.o)) (ri w.cd) (re w.bd)=K (rv l) (l.length:ax) 0 0 0 (run l).p.now (run l).p.a (run l).p.hits (re (run l).p.en) (rs (run l).p.w) (rs (run l).p.m) (rr (run l).p.s) (rf (run l).p.fe) (rc (run l).p.cl) (rd (dk (run l).o)) (ri (run l).cd) (re (run l).bd):=by
 have fin:∀(n:aE) (w:Wo),w=run (l.take l.length)->l10 N K (n+1) (rv l) (l.length:ax) 0 0 0 w.p.now w.p.a w.p.hits (re w.p.en) (rs w.p.w) (rs w.p.m) (rr w.p.s) (rf w.p.fe) (rc w.p.cl) (rd (dk w.o)) (ri w.cd) (re w.bd)=K (rv l) (l.length:ax) 0 0 0 (run l).p.now (run l).p.a (run l).p.hits (re (run l).p.en) (rs (run l).p.w) (rs (run l).p.m) (rr (run l).p.s) (rf (run l).p.fe) (rc (run l).p.cl) (rd (dk (run l).o)) (ri (run l).cd) (re (run l).bd):=by intro n w hw;rw[dR]at hw;subst hw;simp only[l10,AG,mF,Lib.c6,bk,bc,aw]
 intro d;induction d with
 |zero=>
  intro i n w hw h1 h2 h3;obtain⟨n,rfl⟩:∃m,n=m+1:=⟨n-1,by omega⟩
  have:i=l.length:=by omega
  subst this;exact fin n w hw
 |succ d ih=>
  intro i n w hw h1 h2 h3;obtain⟨n,rfl⟩:∃m,n=m+1:=⟨n-1,by omega⟩
  by_cases hi:i<l.length
  ·have hW:rN i w:=by rw[hw];exact Dm he i h2
   have hE:=he _ (jY hi);have A:=Hb.ok hW (by omega) hE;have nx:=ih (i+1) n (gz.step w (el l i)) (by rw[uc l i hi,hw]) (by omega) hi (by omega);refine KP ?_ nx;have TL:bG ((i:ax)+1)=((i+1:aE):ax):=Lib.cS hi (by omega);simp only[l10,AG,mF,Lib.c6,hi,aN,Lib.cm,aL,au,Lib.dN,wv0 hi,wv1 hi,wv2 hi,wv3 hi,wv4 hi,bE,bz,iX,TL];rw[A.1,au,A.2,fA.lt_eq];rfl
  ·have:i=l.length:=by omega
   subst this;exact fin n w hw
theorem ok(l:az Ev)(hl:l.length<=1048576):c (rv l)=ai/\v (rv l)=life l:=by
 refine out _ ?_;unfold vo;generalize hN:Lib.cJ=N;have jt:l.length<N:=by rw[<-hN];exact cu (by omega)
 clear hN;unfold b;simp only[mF];have e:(decide (l.length<=70)&&(iV 0 (l.length-0)).all λi=>gG (el l i))=Bg l:=by unfold Bg;rw[sA,XD]
 have d70:decide (((l.length:aE):ax)<=70)=decide (l.length<=70):=by rw[ca];omega
 rw[d70];rw[show l3 N _ N (rv l) (decide (l.length<=70)) 0 0 0 0=_ from chk N l hl _ (ah (0,[],[],[],[],0,[],[],0,[],[],[],ak)) (λ_=>rfl) l.length 0 N (decide (l.length<=70)) (by omega) (by omega) jt,e];unfold life;cases hg:Bg l with
 |false=>rfl
 |true=>obtain⟨h70,he⟩:=tJ.1 hg;rw[au,au,aY,aw];refine(go N l h70 he _ l.length 0 N oE.w0 rfl (by omega) (by omega) jt).trans ?_;have C:=WT.ok (Dt he) (by omega);rw[C.1,au,C.2,fA.lt_eq];rfl
end Ns

namespace KZ
theorem run(a:aQ)(hl:a.length<=9223372036854775807):vo a a=ah true:=by
 unfold vo b;rw[show((a.length:ax) !=(a.length:ax))=ak from eU _,aw];have:=Lib.fE (λn (i:aE)=>l4 Lib.cJ (λ(_ _:aQ) (y:aU) (_:ax)=>ah y) (λ(_ _:aQ) (_:aU) (_:ax)=>ah ai) n a a ak (i:ax)) (λi=>a.length-i) (λi=>i<=a.length) (λ_=>ah ai) (λn i hi=>by
  by_cases h:i<a.length
  ·right;refine⟨i+1,h,by omega,rfl, ?_⟩
   have kI:bG ((i:ax)+1)=((i+1:aE):ax):=c_ (by omega) (by omega);simp only[l4,r4,Lib.c6,h,aN,Lib.cm,aL,au,Lib.dN,kI,fU,eU,aY,aw]
  ·left;simp only[l4,r4,Lib.c6,h,bc,aw]) Lib.cJ 0 (bD _) (cu (by omega))
 exact this
theorem ok(a:aQ)(hl:a.length<=9223372036854775807):c a a=ai/\v a a=true:=out a a (run a hl)
end KZ

namespace QY
theorem run(a:aQ)(hl:a.length<=9223372036854775807):vo a a=ah true:=by
 unfold vo b;rw[show((a.length:ax) !=(a.length:ax))=ak from eU _,aw];have:=Lib.fE (λn (i:aE)=>l4 Lib.cJ (λ(_ _:aQ) (y:aU) (_:ax)=>ah y) (λ(_ _:aQ) (_:aU) (_:ax)=>ah ai) n a a ak (i:ax)) (λi=>a.length-i) (λi=>i<=a.length) (λ_=>ah ai) (λn i hi=>by
  by_cases h:i<a.length
  ·right;refine⟨i+1,h,by omega,rfl, ?_⟩
   have kI:bG ((i:ax)+1)=((i+1:aE):ax):=c_ (by omega) (by omega);simp only[l4,r4,Lib.c6,h,aN,Lib.cm,aL,au,Lib.dN,kI,fU,aY,aw]
  ·left;simp only[l4,r4,Lib.c6,h,bc,aw]) Lib.cJ 0 (bD _) (cu (by omega))
 exact this
theorem ok(a:aQ)(hl:a.length<=9223372036854775807):c a a=ai/\v a a=true:=out a a (run a hl)
end QY

namespace vW
theorem run(a:aQ)(hl:a.length<=9223372036854775807):vo a a=ah true:=by
 unfold vo b;rw[show((a.length:ax) !=(a.length:ax))=ak from eU _,aw];have:=Lib.fE (λn (i:aE)=>l4 Lib.cJ (λ(_ _:aQ) (y:aU) (_:ax)=>ah y) (λ(_ _:aQ) (_:aU) (_:ax)=>ah ai) n a a ak (i:ax)) (λi=>a.length-i) (λi=>i<=a.length) (λ_=>ah ai) (λn i hi=>by
  by_cases h:i<a.length
  ·right;refine⟨i+1,h,by omega,rfl, ?_⟩
   have kI:bG ((i:ax)+1)=((i+1:aE):ax):=c_ (by omega) (by omega);simp only[l4,r4,Lib.c6,h,aN,Lib.cm,aL,au,Lib.dN,kI,fU,eU,aY,aw]
  ·left;simp only[l4,r4,Lib.c6,h,bc,aw]) Lib.cJ 0 (bD _) (cu (by omega))
 exact this
theorem ok(a:aQ)(hl:a.length<=9223372036854775807):c a a=ai/\v a a=true:=out a a (run a hl)
end vW

namespace A1
open Lib (rr)
theorem run(s:az (az ax))(n:ax)(hl:s.length<=1048576)(hq:∀q∈s,q.length<=1048576):vo (rr s) n (rr s) n=ah true:=by
 have hlen:(rr s).length=s.length:=gO s;unfold vo b;rw[show(n !=n)=ak from eU _,aw,show(((rr s).length:ax) !=((rr s).length:ax))=ak from eU _,aw];have:=Lib.fE (λm (i:aE)=>l4 Lib.cJ (λ(y:aU) (_:ax) (_:aQ) (_:ax) (_:aQ) (_:ax)=>ah y) (λ(_:aU) (_:ax) (_:aQ) (_:ax) (_:aQ) (_:ax)=>ah ai) m ak (i:ax) (rr s) n (rr s) n) (λi=>(rr s).length-i) (λi=>i<=(rr s).length) (λ_=>ah ai) (λm i hi=>by
  by_cases h:i<(rr s).length
  ·right;refine⟨i+1,h,by omega,rfl, ?_⟩
   have kI:bG ((i:ax)+1)=((i+1:aE):ax):=c_ (by omega) (by omega);have hA:=KZ.ok (iX (ar (rr s) i 0)) (by rw[Ki (show i<s.length by omega)];show(Lib.ri _).length<=_;rw[Lib.gf];have:=hq _ (bB (show i<s.length by omega));omega);simp only[l4,r4,Lib.c6,h,aN,Lib.cm,aL,au,Lib.dN,kI,hA.1,hA.2,aY,aw]
  ·left;simp only[l4,r4,Lib.c6,h,bc,aw]) Lib.cJ 0 (bD _) (cu (by omega))
 exact this
theorem ok(s:az (az ax))(n:ax)(hl:s.length<=1048576)(hq:∀q∈s,q.length<=1048576):c (rr s) n (rr s) n=ai/\v (rr s) n (rr s) n=true:=out _ _ _ _ (run s n hl hq)
end A1

namespace WU
open Lib (rr rs)
theorem ok(w m:az aq)(s:az (az ax))(n:ax)(hw:w.length<=1048576)(hm:m.length<=1048576)(hl:s.length<=1048576)(hq:∀q∈s,q.length<=1048576):c (rs w) (rs m) (rr s) n (rs w) (rs m) (rr s) n=ai/\v (rs w) (rs m) (rr s) n (rs w) (rs m) (rr s) n=true:=by have h1:=vW.ok (rs w) (by rw[eJ];omega);have h2:=vW.ok (rs m) (by rw[eJ];omega);have h3:=A1.ok s n hl hq;refine out _ _ _ _ _ _ _ _ ?_;unfold vo b;rw[h1.1,au,h1.2,au,h2.1,au,h2.2,au,h3.1,au,h3.2]
end WU

namespace Nt
open Lib (rr rs re rf rc Px)
theorem w4(N:aE)(k0 k1:aU->ax->ax->aQ->aQ->aQ->aQ->ax->aQ->aQ->ax->ax->aQ->aQ->aQ->aQ->ax->aQ->aQ->ax->aA R)(i0:ax)(q1 q2 q3 q4:aQ)(i5:ax)(fe cl:aQ)(i8:ax)(hl:fe.length<=1048576):∀(d i n:aE),fe.length-i<=d->i<=fe.length->d<n->
  l4 N k0 k1 n ak (i:ax) i0 q1 q2 q3 q4 i5 fe cl i8 i0 q1 q2 q3 q4 i5 fe cl i8=k1 ak (fe.length:ax) i0 q1 q2 q3 q4 i5 fe cl i8 i0 q1 q2 q3 q4 i5 fe cl i8:=by
 have fin:∀n:aE,l4 N k0 k1 (n+1) ak (fe.length:ax) i0 q1 q2 q3 q4 i5 fe cl i8 i0 q1 q2 q3 q4 i5 fe cl i8=k1 ak (fe.length:ax) i0 q1 q2 q3 q4 i5 fe cl i8 i0 q1 q2 q3 q4 i5 fe cl i8:=λn=>by simp only[l4,r4,Lib.c6,bk,bc,aw]
 intro d;induction d with
 |zero=>
  intro i n h1 h2 h3;obtain⟨n,rfl⟩:∃k,n=k+1:=⟨n-1,by omega⟩
  have:i=fe.length:=by omega
  subst this;exact fin n
 |succ d ih=>
  intro i n h1 h2 h3;obtain⟨n,rfl⟩:∃k,n=k+1:=⟨n-1,by omega⟩
  by_cases h:i<fe.length
  ·have kI:bG ((i:ax)+1)=((i+1:aE):ax):=c_ (by omega) (by omega);refine KP ?_ (ih (i+1) n (by omega) h (by omega));simp only[l4,r4,Lib.c6,h,aN,Lib.cm,aL,au,Lib.dN,kI,fU,aY,aw]
  ·have:i=fe.length:=by omega
   subst this;exact fin n
theorem w9(N:aE)(k0 k1:aU->ax->ax->aQ->aQ->aQ->aQ->ax->aQ->aQ->ax->ax->aQ->aQ->aQ->aQ->ax->aQ->aQ->ax->aA R)(i0:ax)(q1 q2 q3 q4:aQ)(i5:ax)(fe cl:aQ)(i8:ax)(hl:cl.length<=1048576):∀(d i n:aE),cl.length-i<=d->i<=cl.length->d<n->
  l9 N k0 k1 n ak (i:ax) i0 q1 q2 q3 q4 i5 fe cl i8 i0 q1 q2 q3 q4 i5 fe cl i8=k1 ak (cl.length:ax) i0 q1 q2 q3 q4 i5 fe cl i8 i0 q1 q2 q3 q4 i5 fe cl i8:=by
 have fin:∀n:aE,l9 N k0 k1 (n+1) ak (cl.length:ax) i0 q1 q2 q3 q4 i5 fe cl i8 i0 q1 q2 q3 q4 i5 fe cl i8=k1 ak (cl.length:ax) i0 q1 q2 q3 q4 i5 fe cl i8 i0 q1 q2 q3 q4 i5 fe cl i8:=λn=>by simp only[l9,r9,Lib.c6,bk,bc,aw]
 intro d;induction d with
 |zero=>
  intro i n h1 h2 h3;obtain⟨n,rfl⟩:∃k,n=k+1:=⟨n-1,by omega⟩
  have:i=cl.length:=by omega
  subst this;exact fin n
 |succ d ih=>
  intro i n h1 h2 h3;obtain⟨n,rfl⟩:∃k,n=k+1:=⟨n-1,by omega⟩
  by_cases h:i<cl.length
  ·have kI:bG ((i:ax)+1)=((i+1:aE):ax):=c_ (by omega) (by omega);refine KP ?_ (ih (i+1) n (by omega) h (by omega));simp only[l9,r9,Lib.c6,h,aN,Lib.cm,aL,au,Lib.dN,kI,fU,aY,aw]
  ·have:i=cl.length:=by omega
   subst this;exact fin n
theorem ok(p:Px)(h:p.Fit 1048576):c p.now (re p.en) (rs p.w) (rs p.m) (rr p.s) p.a (rf p.fe) (rc p.cl) p.hits p.now (re p.en) (rs p.w) (rs p.m) (rr p.s) p.a (rf p.fe) (rc p.cl) p.hits=ai/\v p.now (re p.en) (rs p.w) (rs p.m) (rr p.s) p.a (rf p.fe) (rc p.cl) p.hits p.now (re p.en) (rs p.w) (rs p.m) (rr p.s) p.a (rf p.fe) (rc p.cl) p.hits=true:=by have hf:=h.fe;have hc:=h.cl;have he:=h.en;have h1:=QY.ok (re p.en) (by rw[de];omega);have h2:=WU.ok p.w p.m p.s p.a h.w h.m h.s.1 h.s.2.1;refine out _ _ _ _ _ _ _ _ _ _ _ _ _ _ _ _ _ _ ?_;unfold vo b;rw[show(p.now !=p.now)=ak from eU _,aw,show(p.hits !=p.hits)=ak from eU _,aw,h1.1,au,h1.2,aY,aw,h2.1,au,h2.2,aY,aw,show(((rf p.fe).length:ax) !=((rf p.fe).length:ax))=ak from eU _,aw,show(((rc p.cl).length:ax) !=((rc p.cl).length:ax))=ak from eU _,aw];refine(w4 Lib.cJ _ _ p.now (re p.en) (rs p.w) (rs p.m) (rr p.s) p.a (rf p.fe) (rc p.cl) p.hits (by rw[dD];omega) (rf p.fe).length 0 Lib.cJ (by omega) (bD _) (cu (by rw[dD];omega))).trans ?_;exact(w9 Lib.cJ _ _ p.now (re p.en) (rs p.w) (rs p.m) (rr p.s) p.a (rf p.fe) (rc p.cl) p.hits (by rw[eI];omega) (rc p.cl).length 0 Lib.cJ (by omega) (bD _) (cu (by rw[eI];omega))).trans rfl
end Nt

namespace QW
theorem run(a:aQ)(hl:a.length<=9223372036854775807):vo a a=ah true:=by
 unfold vo b;rw[show((a.length:ax) !=(a.length:ax))=ak from eU _,aw];have:=Lib.fE (λn (i:aE)=>l4 Lib.cJ (λ(y:aU) (_:ax) (_ _:aQ)=>ah y) (λ(_:aU) (_:ax) (_ _:aQ)=>ah ai) n ak (i:ax) a a) (λi=>a.length-i) (λi=>i<=a.length) (λ_=>ah ai) (λn i hi=>by
  by_cases h:i<a.length
  ·right;refine⟨i+1,h,by omega,rfl, ?_⟩
   have kI:bG ((i:ax)+1)=((i+1:aE):ax):=c_ (by omega) (by omega);simp only[l4,r4,Lib.c6,h,aN,Lib.cm,aL,au,Lib.dN,kI,fU,eU,aY,aw]
  ·left;simp only[l4,r4,Lib.c6,h,bc,aw]) Lib.cJ 0 (bD _) (cu (by omega))
 exact this
theorem ok(a:aQ)(hl:a.length<=9223372036854775807):c a a=ai/\v a a=true:=out a a (run a hl)
end QW

namespace A2
theorem sym(s:aQ)(k:aq)(a l:ax)(t:aq)(i:aE):(bW (aC k) (aC (bz (ar s i 0)))&&(decide (a=bE (ar s i 1))&&(decide (l=bE (ar s i (1+1)))&&(bW (aC t) (aC (bz (ar s i (1+1+1))))&&ai))))=wa.p s k a l t i:=by
 have e:∀{α:Type} [DecidableEq α] (x y:α),decide (x=y)=decide (y=x):=λx y=>by rw[ca];exact W0
 unfold wa.p;rw[Lib.eN,Lib.eN,Lib.eN,Lib.eN,e k,e t,e a,e l]
theorem ok(s:aQ)(k:aq)(a l:ax)(t:aq)(hl:s.length<=4294967296):c s k a l t=ai/\v s k a l t=Lib.fi (wa.p s k a l t) s.length 0:=by
 refine out s k a l t ?_;unfold vo b;refine lS (wa.p s k a l t) s.length (λm (i:aE)=>l2 Lib.cJ (λ(_:aQ) (y9 _ _:ax) (_:aq) (_ _:ax) (_:aq)=>ah y9) (λ(_:aQ) (_ _ _:ax) (_:aq) (_ _:ax) (_:aq)=>ah (-1)) m s 0 (s.length:ax) (i:ax) k a l t) ah (λm i hi hp=> ?_) (λm i hi hp=> ?_) (λm=> ?_) Lib.cJ (cu (by omega))
 ·rw[<-sym]at hp;simp only[l2,r2,Lib.c6,Lib.cm,Lib.dN,hi,aN,aL,au];rw[hp,au]
 ·rw[<-sym]at hp;simp only[l2,r2,Lib.c6,Lib.cm,Lib.dN,hi,aN,aL,au];rw[hp,aw,Lib.cS hi (by omega:s.length<=9223372036854775807)]
 ·simp only[l2,r2,Lib.c6,bk,bc,aw]
end A2

namespace Ph
theorem ok(s:aQ)(k:aq)(a l:ax)(t:aq)(hl:s.length<=4294967296):c s k a l t=ai/\v s k a l t=wa.val s k a l t:=by have h:=A2.ok s k a l t hl;exact out s k a l t (by unfold vo b;rw[h.1,h.2,au];rfl)
end Ph

namespace D_
theorem ok(a0 a1:aq):c a0 a1=ai/\v a0 a1=fN.bg a0 a1:=by
 refine out _ _ ?_;unfold vo b fN.bg;by_cases h:((a0.size:aE):ax)≥((a1.size:aE):ax)
 ·rw[aG h,au,show ic 0 (a1.size:ax) (a0.size:ax)=ai by simp[ic];omega,au,ba]
 ·rw[aK h,aw,jf]
end D_

namespace D3
theorem ok(a0 a1:aq):c a0 a1=ai/\v a0 a1=fN.bg a0 a1:=by have h:=D_.ok a0 a1;exact out _ _ (by unfold vo b;rw[h.1,h.2,au])
end D3

namespace WV
open Lib (rf Bl BX MD)
theorem ok(a0:ax)(a1 a2 a3 a4:aQ)(a5:ax)(fe:az Lib.Fe)(a7:aQ)(a8:ax)(x:Lib.Cl)(h1:1<=x.fe)(h2:x.fe<=fe.length)(hl:fe.length<=1048576):c a0 a1 a2 a3 a4 a5 (rf fe) a7 a8 x.id x.k x.fe x.fr x.sta x.jV x.age=ai/\v a0 a1 a2 a3 a4 a5 (rf fe) a7 a8 x.id x.k x.fe x.fr x.sta x.jV x.age=fN.wt (Lib.el fe (x.fe-1).toNat) x:=by
 refine out _ _ _ _ _ _ _ _ _ _ _ _ _ _ _ _ ?_;unfold vo b fN.wt;have hw:bG (x.fe-1)=(((x.fe-1).toNat:aE):ax):=by rw[c_ (by omega) (by omega)];omega
 have hi:(x.fe-1).toNat<fe.length:=by omega
 have hp:=D3.ok;simp only[dD,aK (show¬x.fe>(fe.length:ax)by omega),aw,hw,Lib.c6,hi,aN,Lib.cm,aL,au,Lib.dN,Bl hi,BX hi,MD hi,bz,bE,(hp _ _).1,(hp _ _).2];generalize bW (aC (Lib.el fe (x.fe-1).toNat).k) (aC x.k)=u;generalize bW (aC x.jV) (aC (Lib.el fe (x.fe-1).toNat).t)=u2;generalize fN.bg _ _=u3;cases u<;>cases decide (x.sta=1)<;>cases decide (x.sta=2)<;>cases decide (x.sta=3)<;>cases u2<;>cases u3<;>rfl
end WV

namespace XF
theorem eq(bd:aQ)(i:aE)(id:ax)(k:aq)(f fr st:ax)(jV:aq)(age:ax):v (bz (ar bd i 0)) (bE (ar bd i 1)) (bE (ar bd i (1+1))) (bz (ar bd i (1+1+1))) id k f fr st jV age=fN.hb bd k fr jV age i:=by unfold v fN.hb;cases bW (aC (bz (ar bd i 0))) (aC k)<;>cases decide (bE (ar bd i 1)=fr)<;>cases bW (aC (bz (ar bd i (1+1+1)))) (aC jV)<;>rfl
end XF

namespace sB
theorem ok(d:aQ)(id:ax)(k:aq)(f fr st:ax)(jV:aq)(age:ax)(hl:d.length<=4294967296):c d id k f fr st jV age=ai/\v d id k f fr st jV age=Lib.fi (fN.hb d k fr jV age) d.length 0:=by
 refine out _ _ _ _ _ _ _ _ ?_;unfold vo b;refine lS (fN.hb d k fr jV age) d.length (λm (i:aE)=>l2 Lib.cJ (λ(_:aQ) (_:ax) (_:aq) (_ _ _:ax) (_:aq) (_ y _ _:ax)=>ah y) (λ(_:aQ) (_:ax) (_:aq) (_ _ _:ax) (_:aq) (_ _ _ _:ax)=>ah (-1)) m d id k f fr st jV age 0 (d.length:ax) (i:ax)) ah (λm i hi hp=> ?_) (λm i hi hp=> ?_) (λm=> ?_) Lib.cJ (cu (by omega))
 ·simp only[l2,r2,Lib.c6,Lib.cm,Lib.dN,hi,aN,aL,au,XF.eq,hp]
 ·simp only[l2,r2,Lib.c6,Lib.cm,Lib.dN,hi,aN,aL,au,XF.eq,hp,aw,Lib.cS hi (by omega:d.length<=9223372036854775807)]
 ·simp only[l2,r2,Lib.c6,bk,bc,aw]
end sB

namespace WW
theorem ok(d:aQ)(id:ax)(k:aq)(f fr st:ax)(jV:aq)(age:ax)(hl:d.length<=4294967296):c d id k f fr st jV age=ai/\v d id k f fr st jV age=fN.has d k fr jV age:=by have h:=sB.ok d id k f fr st jV age hl;exact out _ _ _ _ _ _ _ _ (by unfold vo b;rw[h.1,h.2,au];rfl)
end WW

namespace Q0
open Lib (rf rc el II QG QH QI QJ QK QL)
theorem ok(i0:ax)(p1 p2 p3 p4:aQ)(i5:ax)(fe:az Lib.Fe)(cl:az Lib.Cl)(i8:ax)(p9 IH bd:aQ)(hc:∀i,i<cl.length->0<=(el cl i).fe/\(el cl i).fe<=fe.length)(hl:fe.length<=1048576)(n_:cl.length<=1048576)(PN:bd.length<=1048576):c i0 p1 p2 p3 p4 i5 (rf fe) (rc cl) i8 p9 IH bd=ai/\v i0 p1 p2 p3 p4 i5 (rf fe) (rc cl) i8 p9 IH bd=fN.HC fe cl bd:=by
 refine out _ _ _ _ _ _ _ _ _ _ _ _ ?_;unfold vo b;have hw:∀i,i<cl.length->bG ((i:ax)+1)=((i+1:aE):ax):=λi h=>Lib.cS h (by omega);have hk:=λi hi h1=>WV.ok i0 p1 p2 p3 p4 i5 fe (rc cl) i8 (el cl i) h1 (hc i hi).2 hl;have hs:=λi=>WW.ok bd (el cl i).id (el cl i).k (el cl i).fe (el cl i).fr (el cl i).sta (el cl i).jV (el cl i).age (by omega);have st:∀(m i:aE) (hi:i<cl.length),l2 Lib.cJ (λ(DR:aU) (_:aQ) (_ _ _:ax) (_ _ _ _:aQ) (_:ax) (_ _:aQ) (_:ax) (_ _ _:aQ)=>ah DR) (λ(_:aU) (_:aQ) (_ _ _:ax) (_ _ _ _:aQ) (_:ax) (_ _:aQ) (_:ax) (_ _ _:aQ)=>ah ai) (m+1) ak (rc cl) (cl.length:ax) (i:ax) i0 p1 p2 p3 p4 i5 (rf fe) (rc cl) i8 p9 IH bd=bif fN.W1 fe bd (el cl i)then l2 Lib.cJ (λ(DR:aU) (_:aQ) (_ _ _:ax) (_ _ _ _:aQ) (_:ax) (_ _:aQ) (_:ax) (_ _ _:aQ)=>ah DR) (λ(_:aU) (_:aQ) (_ _ _:ax) (_ _ _ _:aQ) (_:ax) (_ _:aQ) (_:ax) (_ _ _:aQ)=>ah ai) m ak (rc cl) (cl.length:ax) ((i+1:aE):ax) i0 p1 p2 p3 p4 i5 (rf fe) (rc cl) i8 p9 IH bd else ah false:=by
  intro m i hi;unfold fN.W1;simp only[l2,r2,eI,Lib.c6,hi,aN,Lib.cm,aL,au,Lib.dN,II hi,QG hi,QH hi,QI hi,QJ hi,QK hi,QL hi,bz,bE,hw i hi];by_cases h:(el cl i).fe=0
  ·rw[aG h,au,aK (show¬(el cl i).fe>0 by omega),aw,(hs i).1,(hs i).2,au];cases decide ((el cl i).sta=2)<;>cases fN.has bd (el cl i).k (el cl i).fr (el cl i).jV (el cl i).age<;>rfl
  ·have h1:=(hc i hi).1;rw[aK h,aw,aG (show(el cl i).fe>0 by omega),au,(hk i hi (by omega)).1,(hk i hi (by omega)).2,au];cases fN.wt (el fe ((el cl i).fe-1).toNat) (el cl i)<;>rfl
 rw[eI]
 have key:=gJ (λi=>fN.W1 fe bd (el cl i)) cl.length (λm (i:aE)=>l2 Lib.cJ (λ(DR:aU) (_:aQ) (_ _ _:ax) (_ _ _ _:aQ) (_:ax) (_ _:aQ) (_:ax) (_ _ _:aQ)=>ah DR) (λ(_:aU) (_:aQ) (_ _ _:ax) (_ _ _ _:aQ) (_:ax) (_ _:aQ) (_:ax) (_ _ _:aQ)=>ah ai) m ak (rc cl) (cl.length:ax) (i:ax) i0 p1 p2 p3 p4 i5 (rf fe) (rc cl) i8 p9 IH bd) (ah ak) (ah ai)
  (λm i hi hp=>by rw[st m i hi,hp,au])
  (λm i hi hp=>by rw[st m i hi,hp,aw])
  (λm=>by simp only[l2,r2,Lib.c6,bk,bc,aw]) Lib.cJ (cu (by omega))
 refine key.trans ?_;unfold fN.HC;cases (b8 cl.length).all λi=>fN.W1 fe bd (el cl i)<;>rfl
end Q0

namespace Q1
theorem ok(i0:ax)(p1 p2 p3 p4:aQ)(i5:ax)(p6 p7:aQ)(i8:ax)(p9 IH Ke:aQ)(hl:p1.length<=4294967296)(HG:Ke.length<=4294967296):c i0 p1 p2 p3 p4 i5 p6 p7 i8 p9 IH Ke=ai/\v i0 p1 p2 p3 p4 i5 p6 p7 i8 p9 IH Ke=Cj.val p1 Ke:=by
 refine out _ _ _ _ _ _ _ _ _ _ _ _ ?_;unfold vo b;have hw:∀i,i<p1.length->bG ((i:ax)+1)=((i+1:aE):ax):=λi h=>Lib.cS h (by omega);have ho:=λk a l t=>Ph.ok Ke k a l t HG
 have key:=gJ (Cj.q p1 Ke) p1.length (λm (i:aE)=>l2 Lib.cJ (λ(DR:aU) (_:aQ) (_ _ _:ax) (_ _ _ _:aQ) (_:ax) (_ _:aQ) (_:ax) (_ _ _:aQ)=>ah DR) (λ(_:aU) (_:aQ) (_ _ _:ax) (_ _ _ _:aQ) (_:ax) (_ _:aQ) (_:ax) (_ _ _:aQ)=>ah ai) m ak p1 (p1.length:ax) (i:ax) i0 p1 p2 p3 p4 i5 p6 p7 i8 p9 IH Ke) (ah ak) (ah ai)
  (λm i hi hp=>by unfold Cj.q at hp;simp only[l2,r2,Lib.c6,hi,aN,Lib.cm,aL,au,Lib.dN,(ho _ _ _ _).1,(ho _ _ _ _).2,hp,aY,aw,hw i hi])
  (λm i hi hp=>by unfold Cj.q at hp;simp only[l2,r2,Lib.c6,hi,aN,Lib.cm,aL,au,Lib.dN,(ho _ _ _ _).1,(ho _ _ _ _).2,hp,bP])
  (λm=>by simp only[l2,r2,Lib.c6,bk,bc,aw]) Lib.cJ (cu (by omega))
 refine key.trans ?_;unfold Cj.val;cases (b8 p1.length).all (Cj.q p1 Ke)<;>rfl
end Q1

namespace QX
open Lib (rr rs re rf rc Px)
open rh (qe sw cls)
theorem walk(K1:aU->aQ->ax->ax->ax->aQ->aQ->aQ->aQ->ax->aQ->aQ->ax->aQ->aQ->aQ->aQ->aA aU)(p:Px)(d Ew bd L:aQ)(hen:p.en.length<=1048576)(hL:L.length<=1048576):l3 Lib.cJ (λ(y:aU) (_:aQ) (_ _ _:ax) (_ _ _ _:aQ) (_:ax) (_ _:aQ) (_:ax) (_ _ _ _:aQ)=>ah y) K1 Lib.cJ ak (re p.en) (p.en.length:ax) 0 p.now (re p.en) (rs p.w) (rs p.m) (rr p.s) p.a (rf p.fe) (rc p.cl) p.hits d Ew bd L=bif(b8 p.en.length).all (qe (re p.en) p.now L)then K1 ak (re p.en) (p.en.length:ax) (p.en.length:ax) p.now (re p.en) (rs p.w) (rs p.m) (rr p.s) p.a (rf p.fe) (rc p.cl) p.hits d Ew bd L else ah false:=by
 have hw:∀i,i<p.en.length->bG ((i:ax)+1)=((i+1:aE):ax):=λi h=>Lib.cS h (by omega);have ho:=λk a l t=>Ph.ok L k a l t (by omega)
 exact gJ (qe (re p.en) p.now L) p.en.length (λm (i:aE)=>l3 Lib.cJ (λ(y:aU) (_:aQ) (_ _ _:ax) (_ _ _ _:aQ) (_:ax) (_ _:aQ) (_:ax) (_ _ _ _:aQ)=>ah y) K1 m ak (re p.en) (p.en.length:ax) (i:ax) p.now (re p.en) (rs p.w) (rs p.m) (rr p.s) p.a (rf p.fe) (rc p.cl) p.hits d Ew bd L) (ah ak) (K1 ak (re p.en) (p.en.length:ax) (p.en.length:ax) p.now (re p.en) (rs p.w) (rs p.m) (rr p.s) p.a (rf p.fe) (rc p.cl) p.hits d Ew bd L)
  (λm i hi hq=>by unfold qe at hq;simp only[l3,r3,de,Lib.c6,hi,aN,Lib.cm,aL,au,Lib.dN,(ho _ _ _ _).1,(ho _ _ _ _).2,hw i hi,zC.eq];revert hq;generalize zC.v _ _ _ _ _=u1;generalize wa.val _ _ _ _ _=u2;cases u1<;>cases u2<;>intro hq<;>first|rfl|cases hq)
  (λm i hi hq=>by unfold qe at hq;simp only[l3,r3,de,Lib.c6,hi,aN,Lib.cm,aL,au,Lib.dN,(ho _ _ _ _).1,(ho _ _ _ _).2,hw i hi,zC.eq];revert hq;generalize zC.v _ _ _ _ _=u1;generalize wa.val _ _ _ _ _=u2;cases u1<;>cases u2<;>intro hq<;>first|rfl|cases hq)
  (λm=>by simp only[l3,r3,Lib.c6,bk,bc,aw]) Lib.cJ (cu (by omega))
theorem ok(p:Px)(d Ew bd L:aQ)(hp:p.Fit 1048576)(PN:bd.length<=1048576)(hL:L.length<=1048576)(hk:U61.c d=ai/\U61.v d=L):c p.now (re p.en) (rs p.w) (rs p.m) (rr p.s) p.a (rf p.fe) (rc p.cl) p.hits d Ew bd=ai/\v p.now (re p.en) (rs p.w) (rs p.m) (rr p.s) p.a (rf p.fe) (rc p.cl) p.hits d Ew bd=sw p L bd:=by
 refine out _ _ _ _ _ _ _ _ _ _ _ _ ?_;have hen:=hp.en;have FF:=hp.fe;have n_:=hp.cl;unfold vo b;rw[hk.1,hk.2,au,de];refine(walk _ p d Ew bd L hen hL).trans ?_;unfold sw;cases (b8 p.en.length).all (qe (re p.en) p.now L)with
 |false=>rfl
 |true=>
 rw[au,ba];have I1:=KE.ok p hp;have I2:=IZ.ok p.now (re p.en) (rs p.w) (rs p.m) (rr p.s) p.a (rf p.fe) (rc p.cl) p.hits (by rw[dD];omega);dsimp only;rw[I1.1,au,I1.2];cases cg:oX.jb p with
 |false=>rfl
 |true=>
 rw[au,ba,I2.1,au,I2.2];cases dZ.val (rf p.fe)with
 |false=>rfl
 |true=>
 have I3:=Q0.ok p.now (re p.en) (rs p.w) (rs p.m) (rr p.s) p.a p.fe p.cl p.hits d Ew bd (cls cg) FF n_ PN;rw[au,ba,I3.1,au,I3.2];cases fN.HC p.fe p.cl bd with
 |false=>rfl
 |true=>
 have I4:=Q1.ok p.now (re p.en) (rs p.w) (rs p.m) (rr p.s) p.a (rf p.fe) (rc p.cl) p.hits d Ew bd (by rw[de];omega) (by omega);rw[au,ba,I4.1,au,I4.2]
end QX

namespace Nu
open dZ (op g val)
theorem ok(i0:ax)(p1 p2 p3 p4:aQ)(i5:ax)(p6 p7:aQ)(i8:ax)(hl:p6.length<=4294967296):c i0 p1 p2 p3 p4 i5 p6 p7 i8=ai/\v i0 p1 p2 p3 p4 i5 p6 p7 i8=dZ.val p6:=by
 refine out _ _ _ _ _ _ _ _ _ ?_;unfold vo b;have hw:∀i,i<p6.length->bG ((i:ax)+1)=((i+1:aE):ax):=λi h=>Lib.cS h (by omega);have inner:∀(i:aE) (hi:i<p6.length) (K0 K1:aU->ax->ax->ax->aQ->aQ->aQ->aQ->ax->aQ->aQ->ax->aA aU) (kf kt:aA aU) (h0:∀j:ax,K0 ak i j i0 p1 p2 p3 p4 i5 p6 p7 i8=kf) (h1:∀j:ax,K1 ak i j i0 p1 p2 p3 p4 i5 p6 p7 i8=kt),l5 Lib.cJ K0 K1 Lib.cJ ak i 0 i0 p1 p2 p3 p4 i5 p6 p7 i8=bif(b8 i).all (g p6 i)then kt else kf:=λi hi K0 K1 kf kt h0 h1=>
  gJ (g p6 i) i (λm (j:aE)=>l5 Lib.cJ K0 K1 m ak i j i0 p1 p2 p3 p4 i5 p6 p7 i8) kf kt
  (λm j hj hp=>by
   have Em:j<p6.length:=by omega
   unfold g op at hp;cases e1:decide (bE (ar p6 i 2)=1)with
   |false=>simp only[l5,r5,Lib.c6,hj,Em,hi,aN,Lib.cm,aL,au,Lib.dN,e1,aw,hw j Em]
   |true=>
    cases e2:decide (bE (ar p6 j 2)=1)with
    |false=>simp only[l5,r5,Lib.c6,hj,Em,hi,aN,Lib.cm,aL,au,Lib.dN,e1,e2,aw,hw j Em]
    |true=>rw[e1,e2,ba,ba,dp]at hp;simp only[l5,r5,Lib.c6,hj,Em,hi,aN,Lib.cm,aL,au,Lib.dN,e1,e2,hp,aw,hw j Em])
  (λm j hj hp=>by
   have Em:j<p6.length:=by omega
   unfold g op at hp;rw[nk]at hp;simp only[aM]at hp;obtain⟨e1,e2,e3⟩:=hp;simp only[l5,r5,Lib.c6,hj,Em,hi,aN,Lib.cm,aL,au,Lib.dN,e1,e2,e3,h0])
  (λm=>by simp only[l5,r5,Lib.c6,bk,bc,aw,h1]) Lib.cJ (cu (by omega))
 have st:∀(m i:aE) (hi:i<p6.length),l2 Lib.cJ (λ(y47:aU) (_ _:ax) (_ _ _ _:aQ) (_:ax) (_ _:aQ) (_:ax)=>ah y47) (λ(_:aU) (_ _:ax) (_ _ _ _:aQ) (_:ax) (_ _:aQ) (_:ax)=>ah ai) (m+1) ak (i:ax) i0 p1 p2 p3 p4 i5 p6 p7 i8=bif(b8 i).all (g p6 i)then l2 Lib.cJ (λ(y47:aU) (_ _:ax) (_ _ _ _:aQ) (_:ax) (_ _:aQ) (_:ax)=>ah y47) (λ(_:aU) (_ _:ax) (_ _ _ _:aQ) (_:ax) (_ _:aQ) (_:ax)=>ah ai) m ak ((i+1:aE):ax) i0 p1 p2 p3 p4 i5 p6 p7 i8 else ah false:=by
  intro m i hi;simp only[l2,r2,Lib.c6,hi,aN,au];refine inner i hi _ _ _ _ ?_ ?_
  ·intro _;rfl
  ·intro _;rw[hw i hi]
 have key:=gJ (λi=>(b8 i).all (g p6 i)) p6.length (λm (i:aE)=>l2 Lib.cJ (λ(y47:aU) (_ _:ax) (_ _ _ _:aQ) (_:ax) (_ _:aQ) (_:ax)=>ah y47) (λ(_:aU) (_ _:ax) (_ _ _ _:aQ) (_:ax) (_ _:aQ) (_:ax)=>ah ai) m ak (i:ax) i0 p1 p2 p3 p4 i5 p6 p7 i8) (ah ak) (ah ai)
  (λm i hi hp=>by rw[st m i hi,hp,au])
  (λm i hi hp=>by rw[st m i hi,hp,aw])
  (λm=>by simp only[l2,r2,Lib.c6,bk,bc,aw]) Lib.cJ (cu (by omega))
 refine key.trans ?_;unfold dZ.val;cases (b8 p6.length).all λi=>(b8 i).all (g p6 i)<;>rfl
end Nu

namespace D6
theorem ok(a0 a1:aq):c a0 a1=ai/\v a0 a1=fN.bg a0 a1:=by
 refine out _ _ ?_;unfold vo b fN.bg;by_cases h:((a0.size:aE):ax)≥((a1.size:aE):ax)
 ·rw[aG h,au,show ic 0 (a1.size:ax) (a0.size:ax)=ai by simp[ic];omega,au,ba]
 ·rw[aK h,aw,jf]
end D6

namespace A0
open Lib (rf Bl BX MD)
theorem ok(a0:ax)(a1 a2 a3 a4:aQ)(a5:ax)(fe:az Lib.Fe)(a7:aQ)(a8:ax)(a9 a10 bd:aQ)(x:Lib.Cl)(h1:0<=x.fe)(h2:x.fe<=fe.length)(hl:fe.length<=1048576)(hb:bd.length<=1048576):c a0 a1 a2 a3 a4 a5 (rf fe) a7 a8 a9 a10 bd x.id x.k x.fe x.fr x.sta x.jV x.age=ai/\v a0 a1 a2 a3 a4 a5 (rf fe) a7 a8 a9 a10 bd x.id x.k x.fe x.fr x.sta x.jV x.age=fN.W1 fe bd x:=by
 refine out _ _ _ _ _ _ _ _ _ _ _ _ _ _ _ _ _ _ _ ?_;unfold vo b fN.W1;cases h0:decide (x.fe=0)with
 |true=>
  rw[au,au];refine(lS (fN.hb bd x.k x.fr x.jV x.age) bd.length (λm (i:aE)=>l3 Lib.cJ (λ(y:aU) (_ _:ax) (_ _ _ _:aQ) (_:ax) (_ _:aQ) (_:ax) (_ _ _:aQ) (_:ax) (_:aq) (_ _ _:ax) (_:aq) (_:ax)=>ah y) (λ(_:aU) (_ _:ax) (_ _ _ _:aQ) (_:ax) (_ _:aQ) (_:ax) (_ _ _:aQ) (_:ax) (_:aq) (_ _ _:ax) (_:aq) (_:ax)=>ah ak) m ak (i:ax) a0 a1 a2 a3 a4 a5 (rf fe) a7 a8 a9 a10 bd x.id x.k x.fe x.fr x.sta x.jV x.age) (λj=>ah (decide (j≥0)&&decide (x.sta=2))) (λm i hi hp=> ?_) (λm i hi hp=> ?_) (λm=> ?_) Lib.cJ (cu (by omega))).trans rfl
  ·unfold fN.hb at hp;simp only[aM]at hp;obtain⟨e1,e2,e3,e4⟩:=hp;simp only[l3,r3,Lib.c6,Lib.cm,Lib.dN,hi,aN,aL,au,e1,e2,e3,e4,aG (show(i:ax)≥0 by omega),ba]
  ·unfold fN.hb at hp;have hw:=Lib.cS hi (by omega:bd.length<=9223372036854775807);simp only[l3,r3,Lib.c6,Lib.cm,Lib.dN,hi,aN,aL,au,hw];revert hp;cases bW (aC (bz (ar bd i 0))) (aC x.k)<;>cases decide (bE (ar bd i 1)=x.fr)<;>cases bW (aC (bz (ar bd i (1+1+1)))) (aC x.jV)<;>cases decide (bE (ar bd i (1+1))>x.age)<;>intro hp<;>first|rfl|cases hp
  ·simp only[l3,r3,Lib.c6,bk,bc,aw];rfl
 |false=>
  have h0:=me h0;have hw:bG (x.fe-1)=(((x.fe-1).toNat:aE):ax):=by rw[c_ (by omega) (by omega)];omega
  have hi:(x.fe-1).toNat<fe.length:=by omega
  have hp:=D6.ok;rw[aw,aw];unfold fN.wt;simp only[Lib.lt,ki.v,dD,aG (show x.fe≥1 by omega),aG h2,aY,aw,hw,Lib.c6,hi,aN,Lib.cm,aL,au,Lib.dN,Bl hi,BX hi,MD hi,bz,bE,(hp _ _).1,(hp _ _).2];generalize bW (aC (Lib.el fe (x.fe-1).toNat).k) (aC x.k)=u;generalize bW (aC x.jV) (aC (Lib.el fe (x.fe-1).toNat).t)=u2;generalize fN.bg _ _=u3;cases u<;>cases decide (x.sta=1)<;>cases decide (x.sta=2)<;>cases decide (x.sta=3)<;>cases u2<;>cases u3<;>cases decide ((Lib.el fe (x.fe-1).toNat).sta=3)<;>rfl
end A0

namespace Q4
open Lib (rf rc el II QG QH QI QJ QK QL)
theorem ok(i0:ax)(p1 p2 p3 p4:aQ)(i5:ax)(fe:az Lib.Fe)(cl:az Lib.Cl)(i8:ax)(p9 IH bd:aQ)(hc:∀i,i<cl.length->0<=(el cl i).fe/\(el cl i).fe<=fe.length)(hl:fe.length<=1048576)(n_:cl.length<=1048576)(PN:bd.length<=1048576):c i0 p1 p2 p3 p4 i5 (rf fe) (rc cl) i8 p9 IH bd=ai/\v i0 p1 p2 p3 p4 i5 (rf fe) (rc cl) i8 p9 IH bd=fN.HC fe cl bd:=by
 refine out _ _ _ _ _ _ _ _ _ _ _ _ ?_;unfold vo b;have hw:∀i,i<cl.length->bG ((i:ax)+1)=((i+1:aE):ax):=λi h=>Lib.cS h (by omega);have hk:=λi hi=>A0.ok i0 p1 p2 p3 p4 i5 fe (rc cl) i8 p9 IH bd (el cl i) (hc i hi).1 (hc i hi).2 hl PN
 have key:=gJ (λi=>fN.W1 fe bd (el cl i)) cl.length (λm (i:aE)=>l2 Lib.cJ (λ(DR:aU) (_ _:ax) (_ _ _ _:aQ) (_:ax) (_ _:aQ) (_:ax) (_ _ _:aQ)=>ah DR) (λ(_:aU) (_ _:ax) (_ _ _ _:aQ) (_:ax) (_ _:aQ) (_:ax) (_ _ _:aQ)=>ah ai) m ak (i:ax) i0 p1 p2 p3 p4 i5 (rf fe) (rc cl) i8 p9 IH bd) (ah ak) (ah ai)
  (λm i hi hp=>by simp only[l2,r2,eI,Lib.c6,hi,aN,Lib.cm,aL,au,Lib.dN,II hi,QG hi,QH hi,QI hi,QJ hi,QK hi,QL hi,bz,bE,hw i hi,(hk i hi).1,(hk i hi).2,hp,aY,aw])
  (λm i hi hp=>by simp only[l2,r2,eI,Lib.c6,hi,aN,Lib.cm,aL,au,Lib.dN,II hi,QG hi,QH hi,QI hi,QJ hi,QK hi,QL hi,bz,bE,hw i hi,(hk i hi).1,(hk i hi).2,hp,bP])
  (λm=>by simp only[l2,r2,eI,Lib.c6,bk,bc,aw]) Lib.cJ (cu (by omega))
 refine key.trans ?_;unfold fN.HC;cases (b8 cl.length).all λi=>fN.W1 fe bd (el cl i)<;>rfl
end Q4

namespace QV
open Lib (rr rs re rf rc Px)
open rh (qe sw cls)
theorem walk(K1:aU->ax->ax->aQ->aQ->aQ->aQ->ax->aQ->aQ->ax->aQ->aQ->aQ->aQ->aA aU)(p:Px)(d Ew bd L:aQ)(hen:p.en.length<=1048576)(hL:L.length<=1048576):l3 Lib.cJ (λ(y:aU) (_ _:ax) (_ _ _ _:aQ) (_:ax) (_ _:aQ) (_:ax) (_ _ _ _:aQ)=>ah y) K1 Lib.cJ ak 0 p.now (re p.en) (rs p.w) (rs p.m) (rr p.s) p.a (rf p.fe) (rc p.cl) p.hits d Ew bd L=bif(b8 p.en.length).all (qe (re p.en) p.now L)then K1 ak (p.en.length:ax) p.now (re p.en) (rs p.w) (rs p.m) (rr p.s) p.a (rf p.fe) (rc p.cl) p.hits d Ew bd L else ah false:=by
 have hw:∀i,i<p.en.length->bG ((i:ax)+1)=((i+1:aE):ax):=λi h=>Lib.cS h (by omega);have ho:=λk a l t=>wa.ok L k a l t (by omega)
 exact gJ (qe (re p.en) p.now L) p.en.length (λm (i:aE)=>l3 Lib.cJ (λ(y:aU) (_ _:ax) (_ _ _ _:aQ) (_:ax) (_ _:aQ) (_:ax) (_ _ _ _:aQ)=>ah y) K1 m ak (i:ax) p.now (re p.en) (rs p.w) (rs p.m) (rr p.s) p.a (rf p.fe) (rc p.cl) p.hits d Ew bd L) (ah ak) (K1 ak (p.en.length:ax) p.now (re p.en) (rs p.w) (rs p.m) (rr p.s) p.a (rf p.fe) (rc p.cl) p.hits d Ew bd L)
  (λm i hi hq=>by unfold qe at hq;simp only[l3,r3,de,Lib.c6,hi,aN,Lib.cm,aL,au,Lib.dN,(ho _ _ _ _).1,(ho _ _ _ _).2,hw i hi];revert hq;generalize zC.v _ _ _ _ _=u1;generalize wa.val _ _ _ _ _=u2;cases u1<;>cases u2<;>intro hq<;>first|rfl|cases hq)
  (λm i hi hq=>by unfold qe at hq;simp only[l3,r3,de,Lib.c6,hi,aN,Lib.cm,aL,au,Lib.dN,(ho _ _ _ _).1,(ho _ _ _ _).2,hw i hi];revert hq;generalize zC.v _ _ _ _ _=u1;generalize wa.val _ _ _ _ _=u2;cases u1<;>cases u2<;>intro hq<;>first|rfl|cases hq)
  (λm=>by simp only[l3,r3,de,Lib.c6,bk,bc,aw]) Lib.cJ (cu (by omega))
theorem ok(p:Px)(d Ew bd L:aQ)(hp:p.Fit 1048576)(PN:bd.length<=1048576)(hL:L.length<=1048576)(hk:Bv.c d=ai/\Bv.v d=L):c p.now (re p.en) (rs p.w) (rs p.m) (rr p.s) p.a (rf p.fe) (rc p.cl) p.hits d Ew bd=ai/\v p.now (re p.en) (rs p.w) (rs p.m) (rr p.s) p.a (rf p.fe) (rc p.cl) p.hits d Ew bd=sw p L bd:=by
 refine out _ _ _ _ _ _ _ _ _ _ _ _ ?_;have hen:=hp.en;have FF:=hp.fe;have n_:=hp.cl;unfold vo b;rw[hk.1,hk.2,au];refine(walk _ p d Ew bd L hen hL).trans ?_;unfold sw;cases (b8 p.en.length).all (qe (re p.en) p.now L)with
 |false=>rfl
 |true=>
 rw[au,ba];have I1:=oX.ok p hp;have I2:=Nu.ok p.now (re p.en) (rs p.w) (rs p.m) (rr p.s) p.a (rf p.fe) (rc p.cl) p.hits (by rw[dD];omega);dsimp only;rw[I1.1,au,I1.2];cases cg:oX.jb p with
 |false=>rfl
 |true=>
 rw[au,ba,I2.1,au,I2.2];cases dZ.val (rf p.fe)with
 |false=>rfl
 |true=>
 have I3:=Q4.ok p.now (re p.en) (rs p.w) (rs p.m) (rr p.s) p.a p.fe p.cl p.hits d Ew bd (cls cg) FF n_ PN;rw[au,ba,I3.1,au,I3.2];cases fN.HC p.fe p.cl bd with
 |false=>rfl
 |true=>
 have I4:=Cj.ok p.now (re p.en) (rs p.w) (rs p.m) (rr p.s) p.a (rf p.fe) (rc p.cl) p.hits d Ew bd (by rw[de];omega) (by omega);rw[au,ba,I4.1,au,I4.2]
end QV

namespace U4
open Lib (rr rs re rf rc rd Px En el)
open gz (Wo Ev gG)
open jS (dk es)
open oE (rv run life Bg W13)
open fA (ri)
open A_Post (jJ)
theorem amY(a:aQ)(ha:vM a):vo a=ah true:=by
 have hb:∀x:aU,U8.v a=x->vo a=ah true:=λx hx=>by
  cases x with
  |true=>unfold vo b;rw[hx,au]
  |false=>
   have hlen:a.length<=1048576:=by unfold U8.v at hx;have:=me hx;omega
   obtain⟨l,c0,v0,hl,he⟩:=U9.ok a hlen;obtain⟨el,hW,hS⟩:=aeO.runs (by omega) he;obtain⟨k1,k2,k3,k4,sw⟩:=aeO.sound (by omega) he;have A:=Nr.ok l (by omega);have B:=Ns.ok l (by omega);rw[el]at A B;have hpf:=fA.jO hW.px;have D:=KZ.ok (ri (run l).cd) (by rw[fA.gf,hW.cd];omega);have K:=Nt.ok (run l).p hpf;have hd1:=jS.zF (run l).o;have E:=QW.ok (rd (dk (run l).o)) (by rw[eg];omega);have S1:=QX.ok (run l).p (rd (dk (run l).o)) (ri (run l).cd) (re (run l).bd) _ hpf k4 k3 k2;have S2:=QV.ok (run l).p (rd (dk (run l).o)) (ri (run l).cd) (re (run l).bd) _ hpf k4 k3 k1;rw[sw]at S1 S2;have main:jJ (vo a) (λx=>x=ai):=by
    unfold vo b;refine A_Post.cn hx ?_;refine A_Post.call c0 v0 ?_;refine A_Post.call A.1 A.2 ?_;refine A_Post.call B.1 B.2 ?_;refine A_Post.ck rfl ?_;refine A_Post.call D.1 D.2 ?_;refine A_Post.ck rfl ?_;refine A_Post.call K.1 K.2 ?_;refine A_Post.ck rfl ?_;refine A_Post.call E.1 E.2 ?_;refine A_Post.ck rfl ?_;refine A_Post.ck (aG ?_) ?_
    ·show(((ri (run l).cd).length:aE):ax)=((rv l).length:ax)
     rw[fA.gf,hW.cd,oE.mF]
    refine A_Post.call S1.1 S1.2 ?_;refine A_Post.ck rfl ?_;refine A_Post.call S2.1 S2.2 ?_;exact A_Post.ret rfl
   obtain⟨x,h1,h2⟩:=main;rw[h1,h2]
 exact hb _ rfl
theorem law(a:aQ)(ha:vM a):v a=true:=(out a (amY a ha)).2
theorem awt(a:aQ)(ha:vM a):c a=true:=(out a (amY a ha)).1
end U4

end Go.FG
