/- What the functions come to, in plain numbers, texts and lists; last the law itself. No condition but those that each states. -/
import Derived.Test.YtilcgpcemjeaeaaGreatPLivesb
import Derived.Test.YtilcgpcemjeaeaaGreatFLivesa
set_option linter.unusedVariables false
set_option linter.unusedSimpArgs false
set_option maxRecDepth 100000
open Bool renaming true->ai,true_and->bh,not_true->aY,false->ak,and_self->aM,and_true->jY,not_false->bQ,false_or->n_,and_false->wh,false_and->ly,and_eq_true->aL,false_eq_true->du,not_eq_true'->dv,or_eq_true->dM,and_assoc->nF
open ByteArray renaming toList->aF,empty_append->lJ,extract->bO
open Eq renaming trans->JU
open Go.IntKind renaming i64->ao,u8->ba,wrap->bE
open Go.Op renaming bytesLess->bY
open Int renaming toNat->aZ,tmod->cK,tmod_eq_emod_of_nonneg->ij,toNat_natCast->eQ,tdiv->cL,tdiv_eq_ediv_of_nonneg->g7,neg->oS
open List renaming length_singleton->bz,nodup_append->eK,length_append->bV,mem_append->bc,mem_append_left->bW,mem_singleton->a_,mem_append_right->bP,length_tail->Wq,length->bM,set->aA,map_append->dh,drop_length->di,drop_eq_getElem_cons->dD,find?_cons_of_neg->J0,drop_zero->fu,length_filter_le->eS,length_take->eJ,take_succ_eq_append_getElem->cB,filter_append->ik,append_nil->dj,take_length->dK,nil_append->gD,append_assoc->cq,pairwise_cons->qn,mem_of_find?_eq_some->Hp,getElem_of_mem->c8,getElem_set_self->kB,length_map->bR,length_set->cQ,set_set->pC,set_getElem_self->fw,find?_eq_none->Wn,find?_some->Fj,mem_cons->cu,not_mem_nil->lL,any_eq_false->Z1,filter_eq_self->eE,foldl_append->Aj,all_eq_true->bu,getElem_mem->bA,mem_or_eq_of_mem_set->jD,take_set_of_le->wx,drop_set_of_lt->wv,drop_eq_nil_of_le->gT,take->gW,drop->m8,take_append_of_le_length->oU,take_of_length_le->ja,getElem_take->nh,mem_map->cX,filter_map->oT,range->cR,range'->iP,range'_zero->Ws,all_cons->uI,range_eq_range'->Wt,mem_cons_self->dL
open List.cons renaming inj->kg
open Nat renaming lt_irrefl->bm,zero_le->bB,le_trans->dg,zero_add->bS,le_refl->cw,sub_zero->rX
open Option renaming some->ah,none->aj,map_some->jc
open UInt8 renaming ofNat->aw
open _root_ renaming List->aC,ByteArray->aq,Int->ax,cond_true->au,cond_false->ay,decide_eq_true->aG,decide_eq_decide->ca,of_decide_eq_false->oH,Nat->aE,decide_true->aP,decide_false->bf,decide_eq_false->aK,if_neg->bG,if_pos->bw,Option->az,Bool->aW,decide_eq_true_eq->bg,decide_eq_false_iff_not->e_,absurd->cO,of_decide_eq_true->cm,bne_self_eq_false->fT
namespace Go.FG
open Lib (Gf all_congr jQ o0 BK kD fE wR fF fY mh nY B3 MX wY lY qz cC lS rc0 rc1 rc2 rc3 rc4 rc5 rc6 e9 Jj VY VZ er dA dP P9 Jm gH V0 eH pF kO CM tL oO xX EW n8 CU xY qF qG tO nE c9 PJ wd0 wd1 wd2 pz rR rS rT Hg E0 Zi zK Qa Qb)
variable {R:Type}
namespace zg
open Lib (rr rs)
open fg (has without gG lG wb ir pk)
open jP (eU KX nt sM)
open eV (CO zer Sf Vg nu vW kG Lq th Cz)
theorem ok(w m:aC aq)(s:aC (aC ax))(a:ax)(key:aq)(hw:w.length<=1048576)(hm:m.length<=1048576)(hf:jj.oC s)(hk:key.size<=140737488355328):
  c (rs w) (rs m) (rr s) a key=ai/\v (rs w) (rs m) (rr s) a key=(rs (eV.val w m s a key).1,rs (eV.val w m s a key).2.1,rr (eV.val w m s a key).2.2.1,(eV.val w m s a key).2.2.2.1,(eV.val w m s a key).2.2.2.2):=by
 refine out _ _ _ _ _ ?_;have h1:=jr.ok w m s a hw hm hf;have h2:=oW.ok w m s a hw hm hf;have h3:=iH.ok s a key hf hk;have h5:=sw.ok m key (by omega);have h6:=j4.ok w key hw;have h7:=j4.ok m key hm;have sf:=Lq (a:=a) (key:=key) hf;unfold vo b;simp only[Lib.lt,h1.1,h1.2,h2.1,h2.2,au];unfold eV.val;cases hp:sM w m s a with
 |false=>rfl
 |true=>
  obtain⟨p1,p2,p3,p4⟩:=Cz hp;rw[oW.iN,bh];cases zW:eU key with
  |false=>rfl
  |true=>
   have AH:=kG zW;have l6:=ir (l:=w) (k:=key);have l7:=ir (l:=m) (k:=key);simp only[aY,ay,au,h3.1,h3.2,h5.1,h5.2,h6.1,h6.2,h7.1,h7.2,CO,zer,eH,pF,bz];rw[Lib.b_ (n:=(without w key).length+1) (by omega) (by omega),Lib.b_ (n:=(without m key).length+1) (by omega) (by omega)];simp only[au];cases hA:has w key with
   |true=>
    have hB:has m key=false:=by rw[lG];intro W5;have:=(vW.1 p1).2;rw[eK]at this;exact this.2.2 key (gG.1 hA) key W5 rfl
    have jm:=pk hA;rw[hB,ay,au,aG (show((without w key++[key]).length:ax)<=2 by rw[bV,bz];omega)];rfl
   |false=>
    rw[wb hA];cases hB:has m key with
    |true=>rfl
    |false=>
     simp only[ay];rw[show decide (((w++[key]).length:ax)<=2)=decide ((w++[key]).length<=2)by rw[ca];omega];cases hC:decide ((w++[key]).length<=2)with
     |true=>rfl
     |false=>
      have hlw:(w++[key]).length=3:=by have:=oH hC;rw[bV,bz]at this⊢;omega
      have hfm:(w++[key]).getD 0 ⟨#[]⟩∈w++[key]:=th (by omega);have KM:((w++[key]).getD 0 ⟨#[]⟩).size<=30:=by
       rcases bc.1 hfm with h|h
       ·exact(kG (nu p1 (bW _ h))).2
       ·rw[a_]at h;rw[h];exact AH.2
      have g1:=vM.ok (dt.val s a key).1 (dt.val s a key).2 ((w++[key]).getD 0 ⟨#[]⟩) sf (by omega);have i1:iy 1 ((w++[key]).length:ax) ((w++[key]).length:ax)=true:=by rw[hlw];rfl
      simp only[ay,aG (show(0:ax)<((w++[key]).length:ax)by omega),i1,au,Sf,Vg,zer,CO,eH,Lib.b_ (n:=m.length+1) (b:=16) (by omega) (by omega),g1.1,g1.2];rw[show decide ((m.length:ax)<4)=decide (m.length<4)by rw[ca];omega];cases hD:decide (m.length<4)with
      |true=>rfl
      |false=>
       have hm4:m.length=4:=by have:=oH hD;omega
       have hmm:m.getD 0 ⟨#[]⟩∈m:=th (by omega);have hms:=(kG (nu p1 (bP _ hmm))).2;have g2:=vM.ok (dt.val s a key).1 (dt.val s a key).2 (m.getD 0 ⟨#[]⟩) sf (by omega);have i2:iy 1 (m.length:ax) (m.length:ax)=true:=by simp[iy];omega
       have GK:m.tail.length=3:=by rw[Wq];omega
       simp only[ay,aG (show(0:ax)<(m.length:ax)by omega),i2,au,CO,Lib.b_ (n:=m.tail.length+1) (b:=16) (by omega) (by omega),g2.1,g2.2];cases decide (mC.val (dt.val s a key).1 (dt.val s a key).2 ((w++[key]).getD 0 ⟨#[]⟩)>mC.val (dt.val s a key).1 (dt.val s a key).2 (m.getD 0 ⟨#[]⟩))<;>rfl
end zg

namespace uN
open Lib (rr rs)
open fg (without)
theorem ok(w m:aC aq)(s:aC (aC ax))(a:ax)(key:aq)(hw:w.length<=1048576)(hm:m.length<=1048576)(hf:jj.oC s):c (rs w) (rs m) (rr s) a key=ai/\v (rs w) (rs m) (rr s) a key=(rs (without w key),rs (without m key),rr s,a):=by have h1:=jr.ok w m s a hw hm hf;have h2:=j4.ok w key hw;have h3:=j4.ok m key hm;exact out _ _ _ _ _ (by unfold vo b;rw[h1.1,h1.2,h2.1,h2.2,h3.1,h3.2];rfl)
end uN

namespace ji
open Lib (rc Cl)
open je (mr jn lid SR)
theorem ok(i0:ax)(q1 q2 q3 q4:aQ)(i5:ax)(q6:aQ)(cl:aC Cl)(i8:ax)(x:Cl)(cs:cl.Pairwise λa b=>a.id<b.id)(hn:mr cl x.id=ak)(hl:cl.length<=1048576):
  c i0 q1 q2 q3 q4 i5 q6 (rc cl) i8 x.id x.k x.fe x.fr x.sta x.got x.age=ai/\v i0 q1 q2 q3 q4 i5 q6 (rc cl) i8 x.id x.k x.fe x.fr x.sta x.got x.age=(i0,q1,q2,q3,q4,i5,q6,rc (jn cl x),i8):=by
 refine out _ _ _ _ _ _ _ _ _ _ _ _ _ _ _ _ ?_;unfold vo b;have hrl:=e9 cl
 have:=tL (lid x.id) (rc cl) (λm (i:aE)=>l2 Lib.cU (λC_ E1 DS wc JO JP Vp V3 Qd Qe HC Qf Qg Qh Qi PM Vq=>bif(decide (0<=C_)&&decide (C_<=(↑(bM Vq):ax))&&cg (bM Vq+bM (aA (aN [Ck.i ao,Ck.s,Ck.i ao,Ck.i ao,Ck.i ao,Ck.s,Ck.i ao] 1) 0 [CV.i ao JO,CV.s JP,CV.i ao Vp,CV.i ao V3,CV.i ao Qd,CV.s Qe,CV.i ao HC])) 72)then(ah (E1,Qf,Qg,Qh,Qi,DS,PM,(Pu.tu Vq (aZ C_) (aA (aN [Ck.i ao,Ck.s,Ck.i ao,Ck.i ao,Ck.i ao,Ck.s,Ck.i ao] 1) 0 [CV.i ao JO,CV.s JP,CV.i ao Vp,CV.i ao V3,CV.i ao Qd,CV.s Qe,CV.i ao HC])),wc))else(aj)) m (i:ax) i0 i5 i8 x.id x.k x.fe x.fr x.sta x.got x.age q1 q2 q3 q4 q6 (rc cl))
  (λa=>bif decide ((a:ax)<=((rc cl).length:ax))then ah (i0,q1,q2,q3,q4,i5,q6,Pu.tu (rc cl) a [Cl.row x],i8)else aj)
  (λm i h hp=>by
   have mE:decide (bI (ar (rc cl) i 0)<x.id)=true:=by rw[Lib.cD h];exact hp
   simp only[l2,r2,Lib.dn,h,aP,Lib.cE,aM,au,Lib.dZ,mE,Lib.c6 h (by omega:(rc cl).length<=9223372036854775807)])
  (λm i h hp=>by
   have mE:decide (bI (ar (rc cl) i 0)<x.id)=false:=by rw[Lib.cD h];exact hp
   simp only[l2,r2,Lib.dn,h,aP,Lib.cE,aM,bh,jY,au,ay,Lib.dZ,mE,Lib.iI,bz,Lib.b_ (n:=(rc cl).length+1) (b:=72) (by omega) (by omega)];rfl)
  (λm=>by simp only[l2,r2,Lib.dn,bm,bf,aP,Lib.cE,aM,bh,jY,au,ay,Lib.dZ,Lib.iI,bz,Lib.b_ (n:=(rc cl).length+1) (b:=72) (by omega) (by omega)];rfl) Lib.cU (cC (by omega))
 refine this.trans ?_;have hle:=EW (lid x.id) (rc cl);rw[aG (by omega),au];unfold Pu.tu;rw[SR cs hn]
end ji

namespace RB
open Lib (rr rs re rf rc Px Cl Fe En el)
open fg (without)
open jP (eU)
open qK (jw)
open je (hit vZ put Kr P8 HA mr jn uY tf A_)
open gj (fX)
open Ab (iT qf)
def res(q:Px×ax):ax×aQ×aQ×aQ×aQ×ax×aQ×aQ×ax×ax:=(q.1.now,re q.1.en,rs q.1.w,rs q.1.m,rr q.1.s,q.1.a,rf q.1.fe,rc q.1.cl,q.1.hits,q.2)
theorem Jw(fe:aC Fe)(key:aq):rf fe++aA (aN [Ck.s,Ck.s,Ck.i ao,Ck.i ao,Ck.i ao] 1) 0 [CV.s key,CV.s {data:= #[]},CV.i ao 1,CV.i ao 0,CV.i ao 0]=rf (fe++[uY key]):=by unfold Lib.rf;rw[dh];rfl
theorem Bc{p:Px}{i:aE}(hi:i<p.en.length)(ho:iT p):bH (p.now-(el p.en i).st)=p.now-(el p.en i).st:=by have h1:=ho.now;have h2:=(nk.ES (ho.en _ (mh hi))).2.1;exact c9 (by omega) (by omega)
theorem ok(p:Px)(id:ax)(key:aq)(hp:p.Fit 1048576)(hkz:key.size<=140737488355328):c p.now (re p.en) (rs p.w) (rs p.m) (rr p.s) p.a (rf p.fe) (rc p.cl) p.hits id key=ai/\v p.now (re p.en) (rs p.w) (rs p.m) (rr p.s) p.a (rf p.fe) (rc p.cl) p.hits id key=res (je.ask p id key):=by
 have h1:=iL.ok p hp;have h2:=JH.ok p hp;have pw:=hp.cl;have M6:=hp.fe;have hen:=hp.en;have KM:jj.oC p.s:=⟨hp.s.1,hp.s.2.1⟩
 have h3:=ze.ok p.now (re p.en) (rs p.w) (rs p.m) (rr p.s) p.a (rf p.fe) p.cl p.hits id pw;refine out _ _ _ _ _ _ _ _ _ _ _ ?_;unfold vo b je.ask;simp only[Lib.lt,h1.1,h1.2,h2.1,h2.2,au];cases cf:jw p with
 |false=>rfl
 |true=>
 have ho:iT p:=qf.1 cf;rw[aY,ay,bh,show lr.v id 1 9=decide (1<=id/\id<=9)from fJ.eL _ _ _];cases IC:decide (1<=id/\id<=9)with
 |false=>rfl
 |true=>
 rw[aY,ay,bh,oW.iN];cases hko:eU key with
 |false=>rfl
 |true=>
 have AH:=eV.kG hko;rw[aY,ay,bh,h3.1,au,h3.2];cases hhi:mr p.cl id with
 |true=>rfl
 |false=>
 rw[ay,bQ,bh,e9];by_cases h6:p.cl.length=6
 ·rw[aG (show(p.cl.length:ax)=6 by omega),au,aK (show¬p.cl.length<6 by omega)];rfl
 have hc6:=ho.cll;rw[aK (show¬(p.cl.length:ax)=6 by omega),ay,aG (show p.cl.length<6 by omega),au];have h4:=pL.ok (re p.en) key (by rw[dA];omega);have h5:=Kd.ok p.now (re p.en) (rs p.w) (rs p.m) (rr p.s) p.a (rf p.fe) (rc p.cl) p.hits key (by rw[dP];omega);have h7:=zg.ok p.w p.m p.s p.a key hp.w hp.m KM (by omega);have h8:=iH.ok p.s p.a key KM (by omega);have h9:=uN.ok p.w p.m p.s p.a key hp.w hp.m KM;have P0:=pD.ok (re p.en) key (gj.RU _) (by rw[dA];omega);rw[gj.Gq]at P0;have Pq:=λ(i0:ax) (q1 q2 q3 q4:aQ) (i5:ax) (q6:aQ) (i8:ax) (x:Cl) (hx:x.id=id)=>ji.ok i0 q1 q2 q3 q4 i5 q6 p.cl i8 x ho.cs (by rw[hx];exact hhi) pw;rw[h4.1,au,h4.2,dA];have ayM:p.hits<=1000000000:=ho.hits.2;have arI:0<=p.hits:=ho.hits.1;have sL:=ho.fl;have aiI:im ak (bH (p.hits+1)) 1000000000=bif decide (p.hits<1000000000)then p.hits+1 else p.hits:=by
  rw[c9 (by omega) (by omega)];unfold im;rw[ay];by_cases h:p.hits<1000000000
  ·rw[aG h,au,bG (by omega)]
  ·rw[aK h,ay,bw (by omega)];omega
 have hfp:∀i (hi:i<p.fe.length),qp.p (rf p.fe) key i=HA key p.fe[i]:=λi hi=>by unfold qp.p HA HN.v;rw[Hg hi,Zi hi,fF hi];simp only[bn,bI,Lib.fj];cases decide (p.fe[i].k=key)<;>rfl
 have hep:∀i (hi:i<p.en.length),pL.p (re p.en) key i=decide (p.en[i].k=key):=λi hi=>by unfold pL.p;rw[pz hi,fF hi];exact Lib.fj
 have wn:∀n:aE,n<=1048576->bH ((n:ax)+1)=(n:ax)+1:=λn hn=>c9 (by omega) (by omega);have cN:∀(n:aE) (fe:aC Fe),n<fe.length->bn (ar (rf fe) n 1)=(el fe n).t:=λn fe hn=>by rw[E0 hn];rfl
 have IL:cg (p.fe.length+1) 56=true:=Lib.b_ (by omega) (by omega);have dJ:∀key:aq,bM (aA (aN [Ck.s,Ck.s,Ck.i ao,Ck.i ao,Ck.i ao] 1) 0 [CV.s key,CV.s {data:= #[]},CV.i ao 1,CV.i ao 0,CV.i ao 0])=1:=λ_=>rfl;rcases A_ p.fe (HA key) _ hfp with ⟨f1,_,f2⟩|⟨j,hj,f1,_,f2⟩
 ·have f2:P8 p.fe key=none:=f2;rw[dP,f1]at h5;rcases A_ p.en (λe=>decide (e.k=key)) _ hep with ⟨e1,e2,_⟩|⟨i,hi,e1,e2,_⟩
  ·have e2:Kr p.en key=none:=e2;rw[e1,e2];unfold vZ;rw[f2];dsimp only;by_cases WY:p.fe.length=20
   ·rw[aK (show¬p.fe.length<20 by omega)];simp only[show decide ((-1:ax)≥0)=ak from rfl,ay,h5.1,h5.2,au,show decide ((-1:ax)<0)=ai from rfl,dP,aG (show(p.fe.length:ax)=20 by omega)];rfl
   ·have mY:=Pq p.now (re p.en) (rs p.w) (rs p.m) (rr (dt.val p.s p.a key).1) (dt.val p.s p.a key).2 (rf (p.fe++[uY key])) p.hits ⟨id,key,(p.fe.length:ax)+1,0,1,(el (p.fe++[uY key]) p.fe.length).t,0⟩ rfl;dsimp only at mY;rw[aG (show p.fe.length<20 by omega)];simp only[show decide ((-1:ax)≥0)=ak from rfl,ay,h5.1,h5.2,au,show decide ((-1:ax)<0)=ai from rfl,dP,aK (show¬(p.fe.length:ax)=20 by omega),h8.1,h8.2,dJ,IL,Jw,bV,bz,Lib.dZ,Lib.dn,aG (show p.fe.length<p.fe.length+1 by omega),cN p.fe.length (p.fe++[uY key]) (by simp),wn _ M6,mY.1,mY.2];rfl
  ·have e2:Kr p.en key=ah (el p.en i):=e2;rw[e1,e2];have C6:Ge.v (bn (ar (re p.en) i 0)) (bI (ar (re p.en) i 1)) (bI (ar (re p.en) i (1+1))) (bn (ar (re p.en) i (1+1+1))) p.now=tf (el p.en i) p.now:=by rw[pz hi,rR hi,rS hi,rT hi];rfl
   have g1:bI (ar (re p.en) i 1)=(el p.en i).st:=by rw[rR hi];rfl
   have g3:bn (ar (re p.en) i (1+1+1))=(el p.en i).bo:=by rw[rT hi];rfl
   dsimp only;cases VR:tf (el p.en i) p.now with
   |true=>
    have g0:bn (ar (re p.en) i 0)=(el p.en i).k:=by rw[pz hi];rfl
    have g2:bI (ar (re p.en) i (1+1))=(el p.en i).li:=by rw[rS hi];rfl
    have C6:Ge.v (el p.en i).k (el p.en i).st (el p.en i).li (el p.en i).bo p.now=true:=VR;have hw:=Bc (p:=p) hi ho;have mY:=Pq p.now (re p.en) (rs (eV.val p.w p.m p.s p.a key).1) (rs (eV.val p.w p.m p.s p.a key).2.1) (rr (eV.val p.w p.m p.s p.a key).2.2.1) (eV.val p.w p.m p.s p.a key).2.2.2.1 (rf p.fe) p.hits ⟨id,key,0,(el p.en i).st,2,(el p.en i).bo,p.now-(el p.en i).st⟩ rfl;dsimp only at mY;simp only[aG (show((i:aE):ax)≥0 by omega),Lib.cE,Lib.dn,hi,aP,aM,au,Lib.dZ,g0,g1,g2,g3,C6,h7.1,h7.2,hw,mY.1,mY.2,aiI,dA];rfl
   |false=>
    rw[VR]at C6;unfold vZ;rw[f2];dsimp only;by_cases WY:p.fe.length=20
    ·rw[aK (show¬p.fe.length<20 by omega)];simp only[aG (show((i:aE):ax)≥0 by omega),Lib.cE,Lib.dn,hi,aP,aM,au,ay,Lib.dZ,dA,C6,h5.1,h5.2,show decide ((-1:ax)<0)=ai from rfl,dP,aG (show(p.fe.length:ax)=20 by omega)];rfl
    ·have mY:=Pq p.now (re (fX p.en key)) (rs (without p.w key)) (rs (without p.m key)) (rr (dt.val p.s p.a key).1) (dt.val p.s p.a key).2 (rf (p.fe++[uY key])) p.hits ⟨id,key,(p.fe.length:ax)+1,0,1,(el (p.fe++[uY key]) p.fe.length).t,0⟩ rfl;dsimp only at mY;rw[aG (show p.fe.length<20 by omega)];simp only[aG (show((i:aE):ax)≥0 by omega),Lib.cE,dA,hi,aP,aM,C6,h9.1,h9.2,P0.1,P0.2,ay,h5.1,h5.2,au,show decide ((-1:ax)<0)=ai from rfl,dP,aK (show¬(p.fe.length:ax)=20 by omega),h8.1,h8.2,dJ,IL,Jw,bV,bz,Lib.dZ,Lib.dn,aG (show p.fe.length<p.fe.length+1 by omega),cN p.fe.length (p.fe++[uY key]) (by simp),wn _ M6,mY.1,mY.2];rfl
 ·have f2:P8 p.fe key=ah j:=f2;rw[dP,f1]at h5;have nj:decide (((j:aE):ax)<0)=false:=aK (by omega);rcases A_ p.en (λe=>decide (e.k=key)) _ hep with ⟨e1,e2,_⟩|⟨i,hi,e1,e2,_⟩
  ·have e2:Kr p.en key=none:=e2;rw[e1,e2];unfold vZ;rw[f2];dsimp only;have mY:=Pq p.now (re p.en) (rs p.w) (rs p.m) (rr (dt.val p.s p.a key).1) (dt.val p.s p.a key).2 (rf p.fe) p.hits ⟨id,key,(j:ax)+1,0,1,(el p.fe j).t,0⟩ rfl;dsimp only at mY;simp only[show decide ((-1:ax)≥0)=ak from rfl,ay,h5.1,h5.2,au,nj,dP,h8.1,h8.2,Lib.dZ,Lib.cE,Lib.dn,hj,aP,aM,cN j p.fe hj,wn j (by omega),mY.1,mY.2];rfl
  ·have e2:Kr p.en key=ah (el p.en i):=e2;rw[e1,e2];have C6:Ge.v (bn (ar (re p.en) i 0)) (bI (ar (re p.en) i 1)) (bI (ar (re p.en) i (1+1))) (bn (ar (re p.en) i (1+1+1))) p.now=tf (el p.en i) p.now:=by rw[pz hi,rR hi,rS hi,rT hi];rfl
   have g1:bI (ar (re p.en) i 1)=(el p.en i).st:=by rw[rR hi];rfl
   have g3:bn (ar (re p.en) i (1+1+1))=(el p.en i).bo:=by rw[rT hi];rfl
   dsimp only;cases VR:tf (el p.en i) p.now with
   |true=>
    have g0:bn (ar (re p.en) i 0)=(el p.en i).k:=by rw[pz hi];rfl
    have g2:bI (ar (re p.en) i (1+1))=(el p.en i).li:=by rw[rS hi];rfl
    have C6:Ge.v (el p.en i).k (el p.en i).st (el p.en i).li (el p.en i).bo p.now=true:=VR;have hw:=Bc (p:=p) hi ho;have mY:=Pq p.now (re p.en) (rs (eV.val p.w p.m p.s p.a key).1) (rs (eV.val p.w p.m p.s p.a key).2.1) (rr (eV.val p.w p.m p.s p.a key).2.2.1) (eV.val p.w p.m p.s p.a key).2.2.2.1 (rf p.fe) p.hits ⟨id,key,0,(el p.en i).st,2,(el p.en i).bo,p.now-(el p.en i).st⟩ rfl;dsimp only at mY;simp only[aG (show((i:aE):ax)≥0 by omega),Lib.cE,Lib.dn,hi,aP,aM,au,Lib.dZ,g0,g1,g2,g3,C6,h7.1,h7.2,hw,mY.1,mY.2,aiI,dA];rfl
   |false=>rw[VR]at C6;unfold vZ;rw[f2];dsimp only;have mY:=Pq p.now (re (fX p.en key)) (rs (without p.w key)) (rs (without p.m key)) (rr (dt.val p.s p.a key).1) (dt.val p.s p.a key).2 (rf p.fe) p.hits ⟨id,key,(j:ax)+1,0,1,(el p.fe j).t,0⟩ rfl;dsimp only at mY;simp only[aG (show((i:aE):ax)≥0 by omega),Lib.cE,dA,hi,aP,aM,C6,h9.1,h9.2,P0.1,P0.2,ay,h5.1,h5.2,au,nj,dP,h8.1,h8.2,Lib.dZ,Lib.dn,hj,cN j p.fe hj,wn j (by omega),mY.1,mY.2];rfl
end RB

namespace wG
open Lib (re el En)
open je (Kr)
def res(o:az En):aq×ax×ax×aq×aW:=match o with|some e=>(e.k,e.st,e.li,e.bo,ai)|none=>(⟨#[]⟩,0,0,⟨#[]⟩,ak)
theorem ok(now:ax)(en:aC En)(q2 q3 q4:aQ)(q5:ax)(q6 q7:aQ)(q8:ax)(key:aq)(hl:en.length<=1048576):c now (re en) q2 q3 q4 q5 q6 q7 q8 key=ai/\v now (re en) q2 q3 q4 q5 q6 q7 q8 key=res (Kr en key):=by
 refine out _ _ _ _ _ _ _ _ _ _ ?_;unfold vo b Kr
 have go:∀(d i n:aE),en.length-i<=d->i<=en.length->d<n->
   l2 Lib.cU (λ(_:aq) (C_:aW) (_ _:ax) (_ _ _ _:aQ) (_:ax) (_ _:aQ) (_:ax) (Qf:aq) (Qg Qh:ax) (Qi:aq)=>ah (Qf,Qg,Qh,Qi,C_)) (λ(_:aq) (_:aW) (_ _:ax) (_ _ _ _:aQ) (_:ax) (_ _:aQ) (_:ax) (_:aq) (_ _:ax) (_:aq)=>ah (({data:= #[]}:aq),0,0,({data:= #[]}:aq),ak)) n key ak (i:ax) now (re en) q2 q3 q4 q5 q6 q7 q8 ({data:= #[]}) 0 0 ({data:= #[]})=ah (res ((en.drop i).find? λe=>decide (e.k=key))):=by
  intro d
  induction d with
  |zero=>
   intro i n h1 h2 h3;obtain⟨n,rfl⟩:∃n',n=n'+1:=⟨n-1,by omega⟩
   have:i=en.length:=by omega
   subst this;simp only[l2,r2,dA,Lib.dn,bm,bf,ay,di];rfl
  |succ d ih=>
   intro i n h1 h2 h3;obtain⟨n,rfl⟩:∃n',n=n'+1:=⟨n-1,by omega⟩
   by_cases hi:i<en.length
   ·rw[dD hi];have g:=ih (i+1) n (by omega) hi (by omega);simp only[l2,r2,dA,Lib.dn,hi,aP,Lib.cE,aM,au,Lib.dZ,pz hi,rR hi,rS hi,rT hi,bn,bI,Lib.fj,fF hi,Lib.c6 hi (by omega:en.length<=9223372036854775807)];cases hk:decide (en[i].k=key)with
    |true=>rw[au,List.find?_cons_of_pos (p:=λe:En=>decide (e.k=key)) hk];rfl
    |false=>rw[ay,J0 (p:=λe:En=>decide (e.k=key)) (by simp[hk])];exact g
   ·have:i=en.length:=by omega
    subst this;simp only[l2,r2,dA,Lib.dn,bm,bf,ay,di];rfl
 have:=go en.length 0 Lib.cU (by omega) (bB _) (cC (by omega));rw[fu]at this;exact this
end wG

namespace uS
open Lib (rr rs)
open fg (without)
theorem ok(w m:aC aq)(s:aC (aC ax))(a:ax)(key:aq)(hw:w.length<=1048576)(hm:m.length<=1048576)(hf:jj.oC s):c (rs w) (rs m) (rr s) a key=ai/\v (rs w) (rs m) (rr s) a key=(rs (without w key),rs (without m key),rr s,a):=by have h1:=nU.ok s a hf;have h2:=oZ.ok w key hw;have h3:=oZ.ok m key hm;exact out _ _ _ _ _ (by unfold vo b;rw[h1.1,h1.2,h2.1,h2.2,h3.1,h3.2];rfl)
end uS

namespace p9
open Lib (re el pz rR rS rT En)
open gj (fX)
theorem ok(l:aC En)(k:aq)(hl:l.length<=2097152):c (re l) k=ai/\v (re l) k=re (fX l k):=by
 refine out _ _ ?_;unfold vo b;have key:=lY l.length (λn (i:aE) (x:aQ)=>l3 Lib.cU (λ(_:aQ) (_:aq) (_:ax) (y7:aQ)=>ah y7) n (re l) k (i:ax) x) (λi=>re (fX (l.take i) k)) (ah (re (fX l k))) (λn i hi=>by
  have hlen:(fX (l.take i) k).length<=i:=by refine dg (eS ..) ?_;rw[eJ];omega
  have e:fX (l.take (i+1)) k=fX (l.take i) k++(bif !decide ((el l i).k=k)then [el l i]else []):=by unfold fX;rw[cB hi,ik,fF hi];cases hd:decide (l[i].k=k)<;>simp[hd]
  rw[e];simp only[l3,r3,dA,Lib.dn,hi,aP,Lib.cE,aM,au,Lib.dZ,pz hi,rR hi,rS hi,rT hi,bn,bI,Lib.fj,pF,bz,Lib.c6 hi (by omega:l.length<=9223372036854775807)];rw[Lib.b_ (by omega) (by omega),au];cases decide ((el l i).k=k)with
  |true=>rw[aY,ay,ay,dj]
  |false=>rw[bQ,au,au];unfold Lib.re;rw[dh];rfl) (λn=>by
  simp only[l3,r3,dA,Lib.dn,bm,bf,ay,dK]) Lib.cU 0 (bB _) (cC (by omega))
 exact key
end p9

namespace lM
open Lib (rc el Cl)
open je (jn)
theorem tail(l:aC Cl)(x:Cl)(hl:l.length<=1048576)(c0:aC Cl)(hc:c0.length<=1048577):
  l9 Lib.cU (λ(_:aQ) (_ _:ax) (_:aq) (_ _ _:ax) (_:aq) (_:ax) (y:aQ)=>ah y) Lib.cU (rc l) 0 x.id x.k x.fe x.fr x.sta x.got x.age (rc c0)=ah (rc (c0++l.filter λy=>decide (y.id>x.id))):=by
 refine B3 l (λy=>decide (y.id>x.id)) (λm (i:aE) acc=>l9 Lib.cU (λ(_:aQ) (_ _:ax) (_:aq) (_ _ _:ax) (_:aq) (_:ax) (y:aQ)=>ah y) m (rc l) (i:ax) x.id x.k x.fe x.fr x.sta x.got x.age (rc acc)) (λacc=>ah (rc acc)) c0
  (λm i acc h ha hp=> ?_) (λm i acc h hp=> ?_) (λm acc=> ?_) Lib.cU (cC (by omega))
 ·have mE:decide (l[i].id>x.id)=true:=hp;simp only[l9,r9,e9,Lib.dn,h,aP,Lib.cE,aM,au,Lib.dZ,rc0 h,rc1 h,rc2 h,rc3 h,rc4 h,rc5 h,rc6 h,bn,bI,mE,pF,bz,Lib.c6 h (by omega:l.length<=9223372036854775807),Lib.b_ (n:=acc.length+1) (b:=72) (by omega) (by omega)];unfold Lib.rc;rw[dh];rfl
 ·have mE:decide (l[i].id>x.id)=false:=hp;simp only[l9,r9,e9,Lib.dn,h,aP,Lib.cE,aM,au,ay,Lib.dZ,rc0 h,bI,mE,Lib.c6 h (by omega:l.length<=9223372036854775807)]
 ·simp only[l9,r9,e9,Lib.dn,bm,bf,ay]
theorem ok(l:aC Cl)(x:Cl)(hl:l.length<=1048576):c (rc l) x.id x.k x.fe x.fr x.sta x.got x.age=ai/\v (rc l) x.id x.k x.fe x.fr x.sta x.got x.age=rc (jn l x):=by
 refine out _ _ _ _ _ _ _ _ ?_;unfold vo b
 have key:=B3 l (λy=>decide (y.id<x.id))
  (λm (i:aE) acc=>l3 Lib.cU (λ(HB:aQ) (_ LP:ax) (Hj:aq) (V1 V2 Qc:ax) (C_:aq) (E1:ax) (DS:aQ)=>bif(cg (bM DS+bM (aA (aN [Ck.i ao,Ck.s,Ck.i ao,Ck.i ao,Ck.i ao,Ck.s,Ck.i ao] 1) 0 [CV.i ao LP,CV.s Hj,CV.i ao V1,CV.i ao V2,CV.i ao Qc,CV.s C_,CV.i ao E1])) 72)then(l9 Lib.cU (λ(_:aQ) (_ _:ax) (_:aq) (_ _ _:ax) (_:aq) (_:ax) (y39:aQ)=>ah y39) Lib.cU HB 0 LP Hj V1 V2 Qc C_ E1 (DS++aA (aN [Ck.i ao,Ck.s,Ck.i ao,Ck.i ao,Ck.i ao,Ck.s,Ck.i ao] 1) 0 [CV.i ao LP,CV.s Hj,CV.i ao V1,CV.i ao V2,CV.i ao Qc,CV.s C_,CV.i ao E1]))else(aj)) m (rc l) (i:ax) x.id x.k x.fe x.fr x.sta x.got x.age (rc acc))
  (λacc=>bif cg (acc.length+1) 72 then l9 Lib.cU (λ(_:aQ) (_ _:ax) (_:aq) (_ _ _:ax) (_:aq) (_:ax) (y:aQ)=>ah y) Lib.cU (rc l) 0 x.id x.k x.fe x.fr x.sta x.got x.age (rc (acc++[x]))else aj) []
  (λm i acc h ha hp=>by
   have mE:decide (l[i].id<x.id)=true:=hp;have ha:acc.length<=i:=by simpa using ha
   simp only[l3,r3,e9,Lib.dn,h,aP,Lib.cE,aM,au,Lib.dZ,rc0 h,rc1 h,rc2 h,rc3 h,rc4 h,rc5 h,rc6 h,bn,bI,mE,pF,bz,Lib.c6 h (by omega:l.length<=9223372036854775807),Lib.b_ (n:=acc.length+1) (b:=72) (by omega) (by omega)];unfold Lib.rc;rw[dh];rfl)
  (λm i acc h hp=>by have mE:decide (l[i].id<x.id)=false:=hp;simp only[l3,r3,e9,Lib.dn,h,aP,Lib.cE,aM,au,ay,Lib.dZ,rc0 h,bI,mE,Lib.c6 h (by omega:l.length<=9223372036854775807)])
  (λm acc=>by simp only[l3,r3,e9,Lib.dn,bm,bf,ay,pF,bz];unfold Lib.rc;rw[dh];rfl) Lib.cU (cC (by omega))
 refine key.trans ?_;have hf:=eS (λy:Cl=>decide (y.id<x.id)) l;rw[gD,Lib.b_ (by omega) (by omega),au,tail l x hl _ (by simp;omega)];unfold jn;rw[cq]
end lM

namespace wC
open Lib (rr rs re rf rc Px Cl Fe En el)
open fg (without)
open jP (eU)
open qK (jw)
open nI (mA)
open je (hit vZ put Kr P8 HA mr jn uY tf)
open gj (fX)
open Ab (iT qf)
open RB (res Bc Jw)
theorem find(k0 k1:ax->aq->ax->ax->ax->aQ->aQ->aQ->aQ->ax->aQ->aQ->ax->ax->ax->ax->ax->ax->ax->aQ->aQ->aQ->aQ->aQ->aQ->az R)(cl:aC Cl)(hl:cl.length<=1048576)(id:ax)(key:aq)(z4 z6:ax)(q7 q8 q9 DM:aQ)(Vs:ax)(Ub:aQ)(Vt z15 JE z17 N6 N7 N8:ax)(Uc Ud Ue Uf Ug Uh:aQ):
  (mr cl id=ak->l5 Lib.cU k0 k1 Lib.cU id key z4 0 z6 q7 q8 q9 DM Vs Ub (rc cl) Vt z15 JE z17 N6 N7 N8 Uc Ud Ue Uf Ug Uh=k1 id key z4 (cl.length:ax) z6 q7 q8 q9 DM Vs Ub (rc cl) Vt z15 JE z17 N6 N7 N8 Uc Ud Ue Uf Ug Uh)/\
  (mr cl id=ai->∃j:ax,l5 Lib.cU k0 k1 Lib.cU id key z4 0 z6 q7 q8 q9 DM Vs Ub (rc cl) Vt z15 JE z17 N6 N7 N8 Uc Ud Ue Uf Ug Uh=k0 id key 1 j z6 q7 q8 q9 DM Vs Ub (rc cl) Vt N6 N7 N8 N6 N7 N8 Uc Ud Ue Uf Ug Uh):=by
 have go:∀(d i n:aE),cl.length-i<=d->i<=cl.length->d<n->
   (((cl.drop i).any λx=>decide (x.id=id))=ak->l5 Lib.cU k0 k1 n id key z4 (i:ax) z6 q7 q8 q9 DM Vs Ub (rc cl) Vt z15 JE z17 N6 N7 N8 Uc Ud Ue Uf Ug Uh=k1 id key z4 (cl.length:ax) z6 q7 q8 q9 DM Vs Ub (rc cl) Vt z15 JE z17 N6 N7 N8 Uc Ud Ue Uf Ug Uh)/\
   (((cl.drop i).any λx=>decide (x.id=id))=ai->∃j:ax,l5 Lib.cU k0 k1 n id key z4 (i:ax) z6 q7 q8 q9 DM Vs Ub (rc cl) Vt z15 JE z17 N6 N7 N8 Uc Ud Ue Uf Ug Uh=k0 id key 1 j z6 q7 q8 q9 DM Vs Ub (rc cl) Vt N6 N7 N8 N6 N7 N8 Uc Ud Ue Uf Ug Uh):=by
  intro d
  induction d with
  |zero=>
   intro i n h1 h2 h3;obtain⟨n,rfl⟩:∃n',n=n'+1:=⟨n-1,by omega⟩
   have:i=cl.length:=by omega
   subst this;rw[di];exact⟨λ_=>by simp only[l5,r5,e9,Lib.dn,bm,bf,ay],λh=>by cases h⟩
  |succ d ih=>
   intro i n h1 h2 h3;obtain⟨n,rfl⟩:∃n',n=n'+1:=⟨n-1,by omega⟩
   by_cases hi:i<cl.length
   ·rw[dD hi,List.any_cons];obtain⟨g1,g2⟩:=ih (i+1) n (by omega) hi (by omega);have e:l5 Lib.cU k0 k1 (n+1) id key z4 (i:ax) z6 q7 q8 q9 DM Vs Ub (rc cl) Vt z15 JE z17 N6 N7 N8 Uc Ud Ue Uf Ug Uh=bif decide (cl[i].id=id)then k0 id key 1 (i:ax) z6 q7 q8 q9 DM Vs Ub (rc cl) Vt N6 N7 N8 N6 N7 N8 Uc Ud Ue Uf Ug Uh else l5 Lib.cU k0 k1 n id key z4 ((i+1:aE):ax) z6 q7 q8 q9 DM Vs Ub (rc cl) Vt z15 JE z17 N6 N7 N8 Uc Ud Ue Uf Ug Uh:=by simp only[l5,r5,e9,Lib.dn,hi,aP,Lib.cE,aM,au,Lib.dZ,rc0 hi,bI,Lib.c6 hi (by omega:cl.length<=9223372036854775807)]
    rw[e];cases hc:decide (cl[i].id=id)with
    |true=>exact⟨λh=>by simp at h,λ_=>⟨i,rfl⟩⟩
    |false=>rw[n_,ay];exact⟨g1,g2⟩
   ·have:i=cl.length:=by omega
    subst this;rw[di];exact⟨λ_=>by simp only[l5,r5,e9,Lib.dn,bm,bf,ay],λh=>by cases h⟩
 have:=go cl.length 0 Lib.cU (by omega) (bB _) (cC (by omega));rw[fu]at this;exact this
def sc(key:aq):aC Fe->aE->ax×aq->ax×aq
 |[],_,s=>s|x::r,i,s=>sc key r (i+1) (bif HA key x then((i:ax)+1,x.t)else s)
theorem scan(k0:aq->aW->ax->ax->aQ->aQ->aQ->aQ->ax->aQ->aQ->ax->ax->ax->ax->ax->ax->ax->ax->aq->ax->ax->ax->aq->ax->aQ->aQ->aQ->aQ->aQ->aQ->az R)(fe:aC Fe)(hl:fe.length<=1048576)(key:aq)(h0:aW)(z84:ax)(q85 q86 q87 q88:aQ)(z89:ax)(q91:aQ)(z92 z93 z94 z95 z96 z97 z98 z99:ax)(Y4:aq)(Zm Zn Zo:ax)(YS YT YU YV YX YY:aQ):
  Xu Lib.cU k0 Lib.cU key h0 0 z84 q85 q86 q87 q88 z89 (rf fe) q91 z92 z93 z94 z95 z96 z97 z98 z99 Y4 0 Zm Zn ({data:= #[]}) Zo YS YT YU YV YX YY=k0 key h0 (fe.length:ax) z84 q85 q86 q87 q88 z89 (rf fe) q91 z92 z93 z94 z95 z96 z97 z98 z99 Y4 (sc key fe 0 (0,⟨#[]⟩)).1 Zm Zn (sc key fe 0 (0,⟨#[]⟩)).2 Zo YS YT YU YV YX YY:=by
 have go:∀(d i n:aE) (s:ax×aq),fe.length-i<=d->i<=fe.length->d<n->
   Xu Lib.cU k0 n key h0 (i:ax) z84 q85 q86 q87 q88 z89 (rf fe) q91 z92 z93 z94 z95 z96 z97 z98 z99 Y4 s.1 Zm Zn s.2 Zo YS YT YU YV YX YY=k0 key h0 (fe.length:ax) z84 q85 q86 q87 q88 z89 (rf fe) q91 z92 z93 z94 z95 z96 z97 z98 z99 Y4 (sc key (fe.drop i) i s).1 Zm Zn (sc key (fe.drop i) i s).2 Zo YS YT YU YV YX YY:=by
  intro d
  induction d with
  |zero=>
   intro i n s h1 h2 h3;obtain⟨n,rfl⟩:∃n',n=n'+1:=⟨n-1,by omega⟩
   have:i=fe.length:=by omega
   subst this;simp only[Xu,r22,dP,Lib.dn,bm,bf,ay,di,sc]
  |succ d ih=>
   intro i n s h1 h2 h3;obtain⟨n,rfl⟩:∃n',n=n'+1:=⟨n-1,by omega⟩
   by_cases hi:i<fe.length
   ·rw[dD hi];unfold sc;rw[<-ih (i+1) n _ (by omega) hi (by omega)];have w:=Lib.c6 hi (by omega:fe.length<=9223372036854775807);have w2:((i+1:aE):ax)=(i:ax)+1:=by omega
    simp only[Xu,r22,dP,Lib.dn,hi,aP,Lib.cE,aM,au,Lib.dZ,Hg hi,E0 hi,zK hi,bn,bI,Lib.fj,w,fF hi];unfold HA;cases decide (fe[i].k=key)<;>cases decide (fe[i].sta=1)<;>simp only[jY,wh,aM,ly,au,ay,w2]
   ·have:i=fe.length:=by omega
    subst this;simp only[Xu,r22,dP,Lib.dn,bm,bf,ay,di,sc]
 have:=go fe.length 0 Lib.cU (0,⟨#[]⟩) (by omega) (bB _) (cC (by omega));rw[fu]at this;exact this
theorem Y8(key:aq):∀(l:aC Fe) (i:aE) (s:ax×aq),(∀x∈l,HA key x=ak)->sc key l i s=s:=by
 intro l;induction l with
 |nil=>intro i s _;rfl
 |cons x l ih=>intro i s h;unfold sc;rw[h x (by simp),ay];exact ih _ _ λy hy=>h y (by simp[hy])
theorem afP{fe:aC Fe}(hp:fe.Pairwise λf g=>mA g f=ak)(key:aq):sc key fe 0 (0,⟨#[]⟩)=match P8 fe key with|some j=>((j:ax)+1,(el fe j).t)|none=>(0,⟨#[]⟩):=by
 have go:∀(l:aC Fe) (i:aE),l.Pairwise (λf g=>mA g f=ak)->sc key l i (0,⟨#[]⟩)=match l.findIdx? (HA key)with|some j=>(((i+j:aE):ax)+1,(el l j).t)|none=>(0,⟨#[]⟩):=by
  intro l;induction l with
  |nil=>intro i _;rfl
  |cons x l ih=>
   intro i h;rw[qn]at h;unfold sc;rw[List.findIdx?_cons];cases hq:HA key x with
   |true=>
    have hn:∀y∈l,HA key y=false:=λy hy=>by
     have h2:=h.1 y hy;unfold HA at hq⊢;unfold mA at h2;simp only[aL,bg]at hq;rw[hq.1,hq.2]at h2;simp only[Bool.and_eq_false_iff,e_]at h2⊢;rcases h2 with h2|h2
     ·exact .inr h2
     ·rcases h2 with h2|h2
      ·exact cO trivial h2
      ·exact .inl h2
    rw[au,Y8 key l _ _ hn];rfl
   |false=>
    rw[ay,ih (i+1) h.2];cases l.findIdx? (HA key)with
    |none=>rfl
    |some j=>simp only[du,if_false,jc,show i+1+j=i+(j+1)by omega];rfl
 have:=go fe 0 hp;unfold P8;rw[this];cases fe.findIdx? (HA key)with
 |none=>rfl
 |some j=>dsimp only;rw[bS]
theorem ok(p:Px)(id:ax)(key:aq)(hp:p.Fit 1048576)(hkz:key.size<=140737488355328):c p.now (re p.en) (rs p.w) (rs p.m) (rr p.s) p.a (rf p.fe) (rc p.cl) p.hits id key=ai/\v p.now (re p.en) (rs p.w) (rs p.m) (rr p.s) p.a (rf p.fe) (rc p.cl) p.hits id key=res (je.ask p id key):=by
 have h1:=fI.ok p hp;have h2:=qK.ok p hp;have pw:=hp.cl;have M6:=hp.fe;have hen:=hp.en;have KM:jj.oC p.s:=⟨hp.s.1,hp.s.2.1⟩
 refine out _ _ _ _ _ _ _ _ _ _ _ ?_;unfold vo b je.ask;simp only[Lib.lt,h1.1,h1.2,h2.1,h2.2,au];cases cf:jw p with
 |false=>rfl
 |true=>
 have ho:iT p:=qf.1 cf;rw[aY,ay,bh,show kj.v id 1 9=decide (1<=id/\id<=9)from fJ.eL _ _ _];cases IC:decide (1<=id/\id<=9)with
 |false=>rfl
 |true=>
 rw[aY,ay,bh,show sQ.v key=eU key from fJ.eL _ _ _];cases hko:eU key with
 |false=>rfl
 |true=>
 have AH:=eV.kG hko;rw[aY,ay,bh,e9];have hc6:=ho.cll;by_cases h6:p.cl.length=6
 ·rw[aG (show(p.cl.length:ax)≥6 by omega),au,aK (show¬p.cl.length<6 by omega),wh];rfl
 rw[aK (show¬(p.cl.length:ax)≥6 by omega),ay,aG (show p.cl.length<6 by omega),jY];cases hhi:mr p.cl id with
 |true=>obtain⟨j,hj⟩:=(find _ _ p.cl pw id key 0 p.now (re p.en) (rs p.w) (rs p.m) (rr p.s) p.a (rf p.fe) p.hits 0 0 0 p.now p.a p.hits (re p.en) (rs p.w) (rs p.m) (rr p.s) (rf p.fe) (rc p.cl)).2 hhi;refine hj.trans ?_;rfl
 |false=>
 refine((find _ _ p.cl pw id key 0 p.now (re p.en) (rs p.w) (rs p.m) (rr p.s) p.a (rf p.fe) p.hits 0 0 0 p.now p.a p.hits (re p.en) (rs p.w) (rs p.m) (rr p.s) (rf p.fe) (rc p.cl)).1 hhi).trans ?_;rw[bQ,au];have h4:=wG.ok p.now p.en (rs p.w) (rs p.m) (rr p.s) p.a (rf p.fe) (rc p.cl) p.hits key hen;have h7:=eV.ok p.w p.m p.s p.a key hp.w hp.m KM (by omega);have h8:=dt.ok p.s p.a key KM (by omega);have h9:=uS.ok p.w p.m p.s p.a key hp.w hp.m KM;have P0:=p9.ok p.en key (by omega);have IX:=λx:Cl=>lM.ok p.cl x pw;have arI:=ho.hits;have sL:=ho.fl;have yw:=afP ho.ap key;have IL:cg (p.fe.length+1) 56=true:=Lib.b_ (by omega) (by omega);have dJ:∀key:aq,bM (aA (aN [Ck.s,Ck.s,Ck.i ao,Ck.i ao,Ck.i ao] 1) 0 [CV.s key,CV.s {data:= #[]},CV.i ao 1,CV.i ao 0,CV.i ao 0])=1:=λ_=>rfl;have OO:(el (p.fe++[uY key]) p.fe.length).t=⟨#[]⟩:=by rw[fF (by simp),List.getElem_append_right (by omega)];simp[uY]
 rw[h4.1,h4.2,au];cases he:Kr p.en key with
 |some e=>
  have aeA:e∈p.en:=Hp he;obtain⟨i,hi,hie⟩:=c8 aeA;dsimp only[wG.res];rw[au,<-F_.eq,show Ge.v e.k e.st e.li e.bo p.now=tf e p.now from rfl];cases C6:tf e p.now with
  |true=>
   have hw:bH (p.now-e.st)=p.now-e.st:=by have:=Bc (p:=p) hi ho;rwa[fF hi,hie]at this
   have hj:=IX ⟨id,key,0,e.st,2,e.bo,p.now-e.st⟩;dsimp only at hj;rw[au,h7.1,h7.2,au,au,hw,hj.1,hj.2,au,au];unfold res hit;cases hh:decide (p.hits<1000000000)with
   |true=>rw[bg]at hh;rw[au,c9 (by omega) (by omega)];rfl
   |false=>rfl
  |false=>
   rw[ay,ay];refine(scan _ p.fe M6 key ai p.now (re p.en) (rs p.w) (rs p.m) (rr p.s) p.a (rc p.cl) p.hits 0 0 0 p.now p.a p.hits id key 0 1 0 (re p.en) (rs p.w) (rs p.m) (rr p.s) (rf p.fe) (rc p.cl)).trans ?_;rw[yw];unfold vZ;cases hoi:P8 p.fe key with
   |none=>
    dsimp only;by_cases WY:p.fe.length=20
    ·rw[aK (show¬p.fe.length<20 by omega)];simp only[aP,au,dP,aG (show(p.fe.length:ax)≥20 by omega)];rfl
    ·rw[aG (show p.fe.length<20 by omega)];have hj:=IX ⟨id,key,(p.fe.length:ax)+1,0,1,⟨#[]⟩,0⟩;dsimp only at hj;have hlen:((p.fe.length+1:aE):ax)=(p.fe.length:ax)+1:=by omega
     simp only[aP,au,ay,dP,aK (show¬(p.fe.length:ax)≥20 by omega),dJ,IL,P0.1,P0.2,h9.1,h9.2,h8.1,h8.2,Jw,bV,bz,hlen,hj.1,hj.2];unfold res put;rw[OO];rfl
   |some j=>dsimp only;have hj:=IX ⟨id,key,(j:ax)+1,0,1,(el p.fe j).t,0⟩;dsimp only at hj;simp only[aK (show¬(j:ax)+1=0 by omega),au,ay,P0.1,P0.2,h9.1,h9.2,h8.1,h8.2,hj.1,hj.2];rfl
 |none=>
  dsimp only[wG.res];rw[ay];refine(scan _ p.fe M6 key ak p.now (re p.en) (rs p.w) (rs p.m) (rr p.s) p.a (rc p.cl) p.hits 0 0 0 p.now p.a p.hits id key 0 1 0 (re p.en) (rs p.w) (rs p.m) (rr p.s) (rf p.fe) (rc p.cl)).trans ?_;rw[yw];unfold vZ;cases hoi:P8 p.fe key with
  |none=>
   dsimp only;by_cases WY:p.fe.length=20
   ·rw[aK (show¬p.fe.length<20 by omega)];simp only[aP,au,dP,aG (show(p.fe.length:ax)≥20 by omega)];rfl
   ·rw[aG (show p.fe.length<20 by omega)];have hj:=IX ⟨id,key,(p.fe.length:ax)+1,0,1,⟨#[]⟩,0⟩;dsimp only at hj;have hlen:((p.fe.length+1:aE):ax)=(p.fe.length:ax)+1:=by omega
    simp only[aP,au,ay,dP,aK (show¬(p.fe.length:ax)≥20 by omega),dJ,IL,h8.1,h8.2,Jw,bV,bz,hlen,hj.1,hj.2];unfold res put;rw[OO];rfl
  |some j=>dsimp only;have hj:=IX ⟨id,key,(j:ax)+1,0,1,(el p.fe j).t,0⟩;dsimp only at hj;simp only[aK (show¬(j:ax)+1=0 by omega),au,ay,h8.1,h8.2,hj.1,hj.2];rfl
end wC

namespace uT
open Lib (rr rs re rf rc Px el)
open qK (jw)
theorem ok(p:Px)(f:ax)(hp:p.Fit 1048576):c p.now (re p.en) (rs p.w) (rs p.m) (rr p.s) p.a (rf p.fe) (rc p.cl) p.hits f=ai/\v p.now (re p.en) (rs p.w) (rs p.m) (rr p.s) p.a (rf p.fe) (rc p.cl) p.hits f=ig.vk p f:=by
 have h:=qK.ok p hp;have hf:=hp.fe;refine out _ _ _ _ _ _ _ _ _ _ ?_;unfold vo b ig.vk;rw[h.1,h.2,au,dP,c9 (x:=(p.fe.length:ax)-1) (by omega) (by omega),show kj.v f 0 ((p.fe.length:ax)-1)=decide (0<=f/\f<=(p.fe.length:ax)-1)from fJ.eL _ _ _];cases jw p with
 |false=>rfl
 |true=>
  cases hd:decide (0<=f/\f<=(p.fe.length:ax)-1)with
  |false=>rfl
  |true=>
   have:=cm hd;obtain⟨n,rfl⟩:∃n:aE,f=(n:ax):=⟨f.toNat,by omega⟩
   have hn:n<p.fe.length:=by omega
   simp only[au,bh,Lib.cE,Lib.dn,hn,aP,aM,Lib.dZ,zK hn,bI]
end uT

namespace Qj
theorem put(s:ax)(t q:aq)(ht:(t.size:ax)<=400)(hs:1<=s/\s<=3):Dl.v s t [] q=bif decide (s=1)&&(decide (1<=q.size/\q.size<=40)&&decide (t.size+q.size<=400))then(s,t++q,[],ai)else(s,t,[],ak):=by
 unfold Dl.v;have cf:lE.v s t []=true:=by unfold lE.v lE.rest;rw[aG hs,aG (show t.size<=400 by omega)];rfl
 by_cases h1:s=1
 ·by_cases h2:1<=q.size/\q.size<=40
  ·by_cases h3:t.size+q.size<=400
   ·rw[bw ⟨cf,h1,h2.1,h2.2,h3⟩,aG h1,aG h2,aG h3];rfl
   ·rw[bG (by omega),aK h3];simp
  ·rw[bG (by omega),aK h2];simp
 ·rw[bG (by simp[h1]),aK h1];rfl
end Qj

namespace sA
open Lib (rr rs re rf rc Px Cl el)
open vm (ec od ld)
theorem ok(p:Px)(f:aE)(st:ax)(hf:f<p.fe.length)(hl:p.fe.length<=2097152)(hc:p.cl.length<=2097152):
  c p.now (re p.en) (rs p.w) (rs p.m) (rr p.s) p.a (rf p.fe) (rc p.cl) p.hits (f:ax) st=ai/\v p.now (re p.en) (rs p.w) (rs p.m) (rr p.s) p.a (rf p.fe) (rc p.cl) p.hits (f:ax) st=(p.now,re p.en,rs p.w,rs p.m,rr p.s,p.a,rf p.fe,rc (od p.cl f st (el p.fe f).t),p.hits):=by
 refine out _ _ _ _ _ _ _ _ _ _ _ ?_;unfold vo b;have key:=nE Cl.row p.cl (λ_ c=>ec f st (el p.fe f).t c) (λn (i:aE) x=>l1 Lib.cU (λ(_ _ _ V2 Qc C_:ax) (E1 DS wc JO JP Vp:aQ)=>ah (V2,E1,DS,wc,JO,Qc,JP,Vp,C_)) n (f:ax) st (i:ax) p.now p.a p.hits (re p.en) (rs p.w) (rs p.m) (rr p.s) (rf p.fe) x) (λx=>ah (p.now,re p.en,rs p.w,rs p.m,rr p.s,p.a,rf p.fe,x,p.hits)) (λn i L h h2 hL vS=> ?_) (λn L hL=> ?_) Lib.cU (cC (by omega))
 ·rw[ld]at key;exact key
 ·have e2:ar (L.map Cl.row) i 2=CV.i ao p.cl[i].fe:=by rw[fE _ L i _ h2,vS];rfl
  have e4:ar (L.map Cl.row) i 4=CV.i ao p.cl[i].sta:=by rw[fE _ L i _ h2,vS];rfl
  have s1:eA (L.map Cl.row) i 5 [CV.s (el p.fe f).t]=(L.set i {p.cl[i]with got:=(el p.fe f).t}).map Cl.row:=kO Cl.row L i 5 _ _ h2 (by rw[vS];rfl);have h3:i<(L.set i {p.cl[i]with got:=(el p.fe f).t}).length:=by simpa using h2
  have s2:eA ((L.set i {p.cl[i]with got:=(el p.fe f).t}).map Cl.row) i 4 [CV.i ao st]=((L.set i {p.cl[i]with got:=(el p.fe f).t}).set i {p.cl[i]with sta:=st,got:=(el p.fe f).t}).map Cl.row:=kO Cl.row _ i 4 _ _ h3 (by rw[kB];rfl);simp only[l1,r1,Lib.dn,h2,hf,bR,cQ,aP,Lib.cE,aM,au,Lib.dZ,e2,e4,bI,s1,s2,pC,dP,E0 hf,bn,Lib.c6 h (by omega:p.cl.length<=9223372036854775807),c9 (x:=(f:ax)+1) (by omega) (by omega)];unfold ec;cases decide (p.cl[i].fe=(f:ax)+1)with
  |false=>rw[ly,ay,ay,<-vS,fw]
  |true=>
   cases decide (p.cl[i].sta=1)with
   |false=>rw[bh,au,ay,ay,<-vS,fw]
   |true=>rw[bh,au,au,au]
 ·simp only[l1,r1,bR,hL,Lib.dn,bm,bf,ay]
end sA

namespace Dn
open Lib (rr rs re rf rc Px el)
open ig (vk EO told jy nP jR xU)
theorem ok(p:Px)(f:ax)(q:aq)(hp:p.Fit 1048576):c p.now (re p.en) (rs p.w) (rs p.m) (rr p.s) p.a (rf p.fe) (rc p.cl) p.hits f q=ai/\v p.now (re p.en) (rs p.w) (rs p.m) (rr p.s) p.a (rf p.fe) (rc p.cl) p.hits f q=(p.now,re p.en,rs p.w,rs p.m,rr p.s,p.a,rf (EO p f q).1.fe,rc (EO p f q).1.cl,p.hits,(EO p f q).2):=by
 have h1:=fI.ok p hp;have h2:=uT.ok p f hp;have hf:=hp.fe;have hc:=hp.cl;refine out _ _ _ _ _ _ _ _ _ _ _ ?_;unfold vo b EO;simp only[Lib.lt,h1.1,h1.2,h2.1,h2.2,au];cases ho:vk p f with
 |false=>rfl
 |true=>
  obtain⟨n,rfl,hn,cf,hs1⟩:=jy ho;have w8:=ig.aab cf n hn;unfold nI.nA at w8;simp only[aL,bg]at w8;have mY:Gc.v 1 (el p.fe n).t [] q=_:=Qj.put 1 (el p.fe n).t q w8.2.1 (by omega);rw[aG (show(1:ax)=1 from rfl),bh]at mY;simp only[aY,ay,au,Lib.cE,Lib.dn,dP,hn,aP,aM,Lib.dZ,E0 hn,bn,mY,bh];cases hs:decide (1<=q.size/\q.size<=40)&&decide ((el p.fe n).t.size+q.size<=400)with
  |false=>rfl
  |true=>
   have e1:=xU p.fe n 1 [CV.s ((el p.fe n).t++q)] {el p.fe n with t:=(el p.fe n).t++q} hn rfl;have GH:n<(p.fe.set n {el p.fe n with t:=(el p.fe n).t++q}).length:=by rw[cQ];exact hn
   have h3:=sA.ok {p with fe:=p.fe.set n {el p.fe n with t:=(el p.fe n).t++q}} n 1 GH (by rw[cQ];omega) (by dsimp only;omega);dsimp only at h3;rw[jR hn]at h3;simp only[aY,ay,au,e1,h3.1,h3.2];rfl
end Dn

namespace Oi
open Lib (rr rs re rf rc Px En el)
open gj (So fX mZ)
open lU (C9)
theorem ok(p:Px)(e:En)(r6 r7:aQ)(hp:p.Fit 1048575)(hso:So p.en)(hk1:∀x∈p.en,1<=x.k.size)(hk:e.k.size<=140737488355328):
  c p.now (re p.en) (rs p.w) (rs p.m) (rr p.s) p.a r6 r7 p.hits e.k e.st e.li e.bo=ai/\v p.now (re p.en) (rs p.w) (rs p.m) (rr p.s) p.a r6 r7 p.hits e.k e.st e.li e.bo=(p.now,re (C9 p e).en,rs (C9 p e).w,rs (C9 p e).m,rr (C9 p e).s,(C9 p e).a,r6,r7,p.hits):=by
 have he:=hp.en;have hw:=hp.w;have hm:=hp.m;obtain⟨b1,b2,b3⟩:=eV.LI p.w p.m p.s p.a e.k;have h1:=eV.ok p.w p.m p.s p.a e.k (by omega) (by omega) ⟨dg hp.s.1 (by omega),λq hq=>dg (hp.s.2.1 q hq) (by omega)⟩ hk;refine out _ _ _ _ _ _ _ _ _ _ _ _ _ ?_;unfold vo b C9;generalize eV.val p.w p.m p.s p.a e.k=V at h1 b1 b2 b3;obtain⟨W,M,T,A,G⟩:=V;dsimp only at h1 b1 b2⊢;have h2:=p9.ok p.en G (by omega);have h3:=sR.ok W M (rr T) A e.k (by omega) (by omega);have hd:=gj.wQ p.en G;have h4:=lH.ok (re (fX p.en G)) e.k e.st e.li e.bo (by rw[dA];omega);rw[gj.tG]at h4;simp only[Lib.lt,h1.1,h1.2,h2.1,h2.2,h3.1,h3.2,h4.1,h4.2,au,Lib.fj];by_cases hG:G=⟨#[]⟩
 ·subst hG;rw[gj.drop_nil hk1]at h4⊢;rw[aG rfl];simp only[aY,ay,h4.1,h4.2,au];cases fg.has W e.k||fg.has M e.k<;>rfl
 ·rw[aK hG];simp only[bQ,au];cases fg.has W e.k||fg.has M e.k<;>rfl
end Oi

namespace Ds
open Lib (rr rs re rf rc Px el)
open ig (vk told jy nP jR xU)
open u0 (cls lF)
theorem ok(p:Px)(f life:ax)(hp:p.Fit 1048576):c p.now (re p.en) (rs p.w) (rs p.m) (rr p.s) p.a (rf p.fe) (rc p.cl) p.hits f life=ai/\v p.now (re p.en) (rs p.w) (rs p.m) (rr p.s) p.a (rf p.fe) (rc p.cl) p.hits f life=(p.now,re (cls p f life).1.en,rs (cls p f life).1.w,rs (cls p f life).1.m,rr (cls p f life).1.s,(cls p f life).1.a,rf (cls p f life).1.fe,rc (cls p f life).1.cl,p.hits,(cls p f life).2):=by
 have h1:=fI.ok p hp;have h2:=uT.ok p f hp;have hf:=hp.fe;have hc:=hp.cl;refine out _ _ _ _ _ _ _ _ _ _ _ ?_;unfold vo b cls;simp only[Lib.lt,h1.1,h1.2,h2.1,h2.2,au];cases ho:vk p f with
 |false=>rfl
 |true=>
  obtain⟨n,rfl,hn,cf,hs1⟩:=jy ho;obtain⟨so,ks,_,_,_,_,_,_,_,_,w8⟩:=lU.G3 cf;have w8:=w8 n hn;unfold nI.nA at w8;rw[aL]at w8;have AH:=eV.kG w8.1;rw[show kj.v life 0 999999=decide (0<=life/\life<=999999)from fJ.eL _ _ _];cases hl:decide (0<=life/\life<=999999)with
  |false=>rfl
  |true=>
   generalize hg:({el p.fe n with sta:=2,li:=life,st:=p.now}:Lib.Fe)=g;have hk:g.k=(el p.fe n).k:=by rw[<-hg]
   have ht:g.t=(el p.fe n).t:=by rw[<-hg]
   have gl:g.li=life:=by rw[<-hg]
   have gs:g.st=p.now:=by rw[<-hg]
   have e3:=xU p.fe n 0 [CV.s (el p.fe n).k,CV.s (el p.fe n).t,CV.i ao 2,CV.i ao life,CV.i ao p.now] g hn (by rw[<-hg];rfl);have n3:n<(p.fe.set n g).length:=by rw[cQ];exact hn
   have h3:=sA.ok {p with fe:=p.fe.set n g} n 2 n3 (by rw[cQ];omega) (by dsimp only;omega);dsimp only at h3;rw[jR hn]at h3;have h4:=Oi.ok (told p n g 2) (lF g) (rf (p.fe.set n g)) (rc (told p n g 2).cl) ((nP (lU.jI cf)).le (by omega)) so ks (by show g.k.size<=_;rw[hk];omega);unfold lF at h4;dsimp only[told]at h4;rw[gl,gs,hk,ht]at h4;unfold lF told;rw[ht]at h3;simp only[aY,ay,au,Lib.cE,Lib.dn,dP,hn,aP,aM,bh,Lib.dZ,Hg hn,E0 hn,Zi hn,Qa hn,Qb hn,bI,bn,e3,h3.1,h3.2,gl,gs,hk,ht];cases decide (life>0)with
   |true=>simp only[au,h4.1,h4.2];subst hg;rfl
   |false=>subst hg;rfl
end Ds

namespace Dt
theorem ok(k:aq)(s l:ax)(b0:aq):c k s l b0=ai/\v k s l b0=uP.val k s l b0:=by
 refine out k s l b0 ?_;have hf:=fH.ok (jE.v k s l b0).1;unfold vo b uP.val;rw[hf.1,hf.2];unfold jE.v fH.val;by_cases h:nk.v k s l b0=ai
 ·have h1:=mN.tN h;have h2:=mN.Bm h;rw[bw h,bw h,bw (by dsimp only;omega)];rfl
 ·rw[bG h,bG h];rfl
end Dt

namespace eg
open Lib (rd el Fi)
open dH (put)
theorem tail(l:aC Fi)(n t:aq)(k:ax)(hl:l.length<=1000000)(c0:aC Fi)(hc:c0.length<=1000001):
  l9 Lib.cU (λ(_:ax) (_:aQ) (_ _:aq) (_:ax) (y:aQ)=>ah y) Lib.cU 0 (rd l) n t k (rd c0)=ah (rd (c0++l.filter λx=> !(gj.fc x.n n||decide (x.n=n)))):=by
 refine B3 l (λx=> !(gj.fc x.n n||decide (x.n=n))) (λm (i:aE) acc=>l9 Lib.cU (λ(_:ax) (_:aQ) (_ _:aq) (_:ax) (y:aQ)=>ah y) m (i:ax) (rd l) n t k (rd acc)) (λacc=>ah (rd acc)) c0
  (λm i acc h ha hp=> ?_) (λm i acc h hp=> ?_) (λm acc=> ?_) Lib.cU (cC (by omega))
 ·have mE:(!(bY (aF l[i].n) (aF n)||decide (l[i].n=n)))=true:=hp;simp only[l9,r9,er,Lib.dn,h,aP,Lib.cE,aM,au,Lib.dZ,Jj h,VY h,VZ h,bn,bI,Lib.fj,mE,pF,bz,Lib.c6 h (by omega:l.length<=9223372036854775807),Lib.b_ (n:=acc.length+1) (b:=40) (by omega) (by omega)];unfold Lib.rd;rw[dh];rfl
 ·have mE:(!(bY (aF l[i].n) (aF n)||decide (l[i].n=n)))=false:=hp;simp only[l9,r9,er,Lib.dn,h,aP,Lib.cE,aM,au,ay,Lib.dZ,Jj h,bn,Lib.fj,mE,Lib.c6 h (by omega:l.length<=9223372036854775807)]
 ·simp only[l9,r9,er,Lib.dn,bm,bf,ay]
theorem ok(l:aC Fi)(n t:aq)(k:ax)(hl:l.length<=1000000):c (rd l) n t k=ai/\v (rd l) n t k=rd (put l ⟨n,t,k⟩):=by
 refine out _ _ _ _ ?_;unfold vo b
 have key:=MX l (λx=>gj.fc x.n n)
  (λm (i:aE)=>l3 Lib.cU (λ(_:ax) (y41:aQ) (y42 y43:aq) (Vr:ax)=>l9 Lib.cU (λ(_:ax) (_:aQ) (_ _:aq) (_:ax) (y50:aQ)=>ah y50) Lib.cU 0 y41 y42 y43 Vr ([]++aA (aN [Ck.s,Ck.s,Ck.i ao] 1) 0 [CV.s y42,CV.s y43,CV.i ao Vr])) (λ(_:ax) (y52:aQ) (y53 y54:aq) (y55:ax) (y56:aQ)=>bif(cg (bM y56+bM (aA (aN [Ck.s,Ck.s,Ck.i ao] 1) 0 [CV.s y53,CV.s y54,CV.i ao y55])) 40)then(l9 Lib.cU (λ(_:ax) (_:aQ) (_ _:aq) (_:ax) (y62:aQ)=>ah y62) Lib.cU 0 y52 y53 y54 y55 (y56++aA (aN [Ck.s,Ck.s,Ck.i ao] 1) 0 [CV.s y53,CV.s y54,CV.i ao y55]))else(aj)) m (i:ax) (rd l) n t k)
  (λm (i:aE) acc=>sE Lib.cU (λ(_:ax) (y41:aQ) (y42 y43:aq) (Vr:ax)=>l9 Lib.cU (λ(_:ax) (_:aQ) (_ _:aq) (_:ax) (y50:aQ)=>ah y50) Lib.cU 0 y41 y42 y43 Vr ([]++aA (aN [Ck.s,Ck.s,Ck.i ao] 1) 0 [CV.s y42,CV.s y43,CV.i ao Vr])) (λ(_:ax) (y52:aQ) (y53 y54:aq) (y55:ax) (y56:aQ)=>bif(cg (bM y56+bM (aA (aN [Ck.s,Ck.s,Ck.i ao] 1) 0 [CV.s y53,CV.s y54,CV.i ao y55])) 40)then(l9 Lib.cU (λ(_:ax) (_:aQ) (_ _:aq) (_:ax) (y62:aQ)=>ah y62) Lib.cU 0 y52 y53 y54 y55 (y56++aA (aN [Ck.s,Ck.s,Ck.i ao] 1) 0 [CV.s y53,CV.s y54,CV.i ao y55]))else(aj)) m (i:ax) (rd l) n t k (rd acc))
  (λacc=>bif cg (acc.length+1) 40 then l9 Lib.cU (λ(_:ax) (_:aQ) (_ _:aq) (_:ax) (y:aQ)=>ah y) Lib.cU 0 (rd l) n t k (rd (acc++[⟨n,t,k⟩]))else aj)
  (λm i h hp=>by have mE:bY (aF l[i].n) (aF n)=true:=hp;simp only[l3,r3,er,Lib.dn,h,aP,Lib.cE,aM,au,Lib.dZ,Jj h,VY h,VZ h,bn,bI,mE,pF,Lib.c6 h (by omega:l.length<=9223372036854775807)];rfl)
  (λm i h hp=>by have mE:bY (aF l[i].n) (aF n)=false:=hp;simp only[l3,r3,er,Lib.dn,h,aP,Lib.cE,aM,au,ay,Lib.dZ,Jj h,bn,mE,Lib.c6 h (by omega:l.length<=9223372036854775807)])
  (λm=>by simp only[l3,r3,er,Lib.dn,bm,bf,ay];rw[Lib.b_ (by simp) (by simp),au];rfl)
  (λm i acc h ha hp=>by have mE:bY (aF l[i].n) (aF n)=true:=hp;simp only[sE,zw,er,Lib.dn,h,aP,Lib.cE,aM,au,Lib.dZ,Jj h,VY h,VZ h,bn,bI,mE,pF,bz,Lib.c6 h (by omega:l.length<=9223372036854775807),Lib.b_ (n:=acc.length+1) (b:=40) (by omega) (by omega)];unfold Lib.rd;rw[dh];rfl)
  (λm i acc h hp=>by have mE:bY (aF l[i].n) (aF n)=false:=hp;simp only[sE,zw,er,Lib.dn,h,aP,Lib.cE,aM,au,ay,Lib.dZ,Jj h,bn,mE,Lib.c6 h (by omega:l.length<=9223372036854775807)])
  (λm acc=>by simp only[sE,zw,er,Lib.dn,bm,bf,ay,pF,bz];unfold Lib.rd;rw[dh];rfl) Lib.cU (cC (by omega))
 refine key.trans ?_;have hf:=eS (λx:Fi=>gj.fc x.n n) l;rw[Lib.b_ (by omega) (by omega),au,tail l n t k hl _ (by simp;omega)];unfold put;rw[cq]
end eg

namespace eN
open Lib (rd el Fi)
open dH (without)
theorem ok(l:aC Fi)(n:aq)(hl:l.length<=1000000):c (rd l) n=ai/\v (rd l) n=rd (without l n):=by
 refine out _ _ ?_;unfold vo b
 have key:=MX l (λx=> !decide (x.n=n))
  (λm (i:aE)=>l3 Lib.cU (λ(_:aq) (_:ax) (_:aQ)=>ah ([]:aQ)) (λ(_:aq) (_:ax) (_:aQ) (wc:aQ)=>ah wc) m n (i:ax) (rd l))
  (λm (i:aE) acc=>sE Lib.cU (λ(_:aq) (_:ax) (_:aQ)=>ah ([]:aQ)) (λ(_:aq) (_:ax) (_:aQ) (wc:aQ)=>ah wc) m n (i:ax) (rd l) (rd acc)) (λacc=>ah (rd acc))
  (λm i h hp=>by simp only[l3,r3,er,Lib.dn,h,aP,Lib.cE,aM,au,Lib.dZ,Jj h,VY h,VZ h,bn,bI,Lib.fj,hp,pF,Lib.c6 h (by omega:l.length<=9223372036854775807)];rfl)
  (λm i h hp=>by simp only[l3,r3,er,Lib.dn,h,aP,Lib.cE,aM,au,ay,Lib.dZ,Jj h,bn,Lib.fj,hp,Lib.c6 h (by omega:l.length<=9223372036854775807)])
  (λm=>by simp only[l3,r3,er,Lib.dn,bm,bf,ay];rfl)
  (λm i acc h ha hp=>by simp only[sE,zw,er,Lib.dn,h,aP,Lib.cE,aM,au,Lib.dZ,Jj h,VY h,VZ h,bn,bI,Lib.fj,hp,pF,bz,Lib.c6 h (by omega:l.length<=9223372036854775807),Lib.b_ (n:=acc.length+1) (b:=40) (by omega) (by omega)];unfold Lib.rd;rw[dh];rfl)
  (λm i acc h hp=>by simp only[sE,zw,er,Lib.dn,h,aP,Lib.cE,aM,au,ay,Lib.dZ,Jj h,bn,Lib.fj,hp,Lib.c6 h (by omega:l.length<=9223372036854775807)])
  (λm acc=>by simp only[sE,zw,er,Lib.dn,bm,bf,ay]) Lib.cU (cC (by omega))
 exact key
end eN

namespace BI
open Lib (rd el Fi)
open dH (without put VF sF act GU jU)
open rq (res)
theorem YL(d:aC Fi)(h:d.length<=1000000):gO.c (rd d)=ai/\gO.v (rd d)=sF d:=gO.ok (rd d) (by rw[er];omega)
theorem nm(n:aq):pZ.v n=decide (1<=(n.size:ax)/\(n.size:ax)<=8):=gO.mT _ _ _
theorem Tm{l:aC Fi}{n t:aq}{k:ax}(h:¬(1<=(n.size:ax)/\(n.size:ax)<=8)):sF (put l ⟨n,t,k⟩)=false:=by
 cases hk:sF (put l ⟨n,t,k⟩)with
 |false=>rfl
 |true=>have:=(jU.1 hk).2.1 ⟨n,t,k⟩ (dH.pR.2 (.inl rfl));unfold dH.nA at this;simp only[aL,bg]at this;exact cO this.1 h
theorem ok(l:aC Fi)(k:ax)(n t o:aq)(hl:l.length<=1000)(ht:t.size<=2305843009213693952):c (rd l) k n t o=ai/\v (rd l) k n t o=res (act l k n t o):=by
 refine out _ _ _ _ _ ?_;unfold vo b;have h1:=ju.ok (rd l) n (by rw[er];omega);have h2:=YL l (by omega);rw[h2.1,h2.2,au];unfold act;cases hk:sF l with
 |false=>rfl
 |true=>
 rw[aY,ay,bh,nm];obtain⟨q1,q2,q3⟩:=jU.1 hk;have rn:∀f∈l,(1<=(f.n.size:ax)/\(f.n.size:ax)<=8)/\(f.t.size:ax)<=20000/\f.kp<=(f.t.size:ax):=λf hf=>by have:=q2 f hf;unfold dH.nA at this;simp only[aL,bg,dv,e_]at this;omega
 by_cases hn:1<=(n.size:ax)/\(n.size:ax)<=8;case neg=>
  rw[aK hn,bQ,au];have xA:l.find? (λx=>decide (x.n=n))=none:=by rw[Wn];intro x hx;have:=(rn x hx).1;simp only[bg];intro e;rw[e]at this;exact hn this
  cases dH.j5 k t o with
  |false=>rfl
  |true=>
   rw[au];unfold GU;rw[xA];by_cases k1:k=1
   ·rw[bw k1];dsimp only;rw[Tm hn];rfl
   ·rw[bG k1];rfl
 rw[aG hn,aY,ay,Lib.fj,Lib.fj,h1.1,h1.2,au,er];unfold Lib.lt;by_cases ko:k=3\/o=⟨#[]⟩
 case neg=>
  rw[not_or]at ko;have:dH.j5 k t o=false:=by unfold dH.j5;rw[aK ko.1,aK ko.2];simp
  rw[this,show(k !=3)=ai from bne_iff_ne.2 ko.1,au,aK ko.2];rfl
 by_cases kt:k=1\/t=⟨#[]⟩
 case neg=>
  rw[not_or]at kt;have:dH.j5 k t o=false:=by unfold dH.j5;rw[aK kt.1,aK kt.2];simp
  rw[this,show(k !=1)=ai from bne_iff_ne.2 kt.1,au,aK kt.2];rcases ko with ko|ko
  ·subst ko;rfl
  ·rw[aG ko];cases (k !=3)<;>rfl
 have aao:∀x:az (aQ×aW),(bif k !=3 then(bif !decide (o=⟨#[]⟩)then ah (([]:aQ),ak)else(bif k !=1 then(bif !decide (t=⟨#[]⟩)then ah ([],ak)else x)else x))else(bif k !=1 then(bif !decide (t=⟨#[]⟩)then ah ([],ak)else x)else x))=x:=λx=>by
  rcases ko with ko|ko<;>rcases kt with kt|kt
  ·omega
  ·subst ko;rw[aG kt];rfl
  ·subst kt;rw[aG ko];rfl
  ·rw[aG ko,aG kt];cases (k !=3)<;>cases (k !=1)<;>rfl
 have wp:=λ(m:aC Fi) (hml:m.length<=1000) (n t:aq) (k:ax)=>eg.ok m n t k (by omega);have wo:=eN.ok l n (by omega);have wol:=dH.LM l n;have pl:=λ(m:aC Fi) (f:Fi) (hm:m.length<=1000)=>YL (put m f) (dg (dH.rL f) (by omega));have fin:∀d:aC Fi,(bif !sF d then ah (([]:aQ),ak)else ah (rd d,ai))=ah (res (bif sF d then ah d else aj)):=λd=>by cases sF d<;>rfl
 by_cases hk4:1<=k/\k<=4;case neg=>
  have ha:dH.j5 k t o=false:=by unfold dH.j5;rw[aK hk4];rfl
  rw[ha];refine(aao _).trans ?_;rcases rq.find l n with ⟨e1,e2⟩|⟨i,hi,e1,e2⟩
  ·rw[e1,aK (show¬k=1 by omega)];rfl
  ·rw[e1];dsimp only;rw[aK (show¬k=1 by omega),aK (show¬k=2 by omega),aK (show¬k=3 by omega),aK (show¬k=4 by omega),aK (show¬((i:aE):ax)<0 by omega),aG (show((i:aE):ax)≥0 by omega)];simp only[Lib.dn,hi,aP,aM,bh,au,ay];rfl
 have ha:dH.j5 k t o=true:=by unfold dH.j5;rw[aG hk4,bh,aL,dM,dM,bg,bg,bg,bg];exact⟨kt.symm,ko.symm⟩
 rw[ha,au];refine(aao _).trans ?_;unfold GU;rcases rq.find l n with ⟨e1,e2⟩|⟨i,hi,e1,e2⟩
 ·rw[e1,e2];dsimp only;by_cases k1:k=1
  ·subst k1;have p:=wp l hl n (⟨#[]⟩++t) 0;have d:=pl l ⟨n,⟨#[]⟩++t,0⟩ hl;have et:(⟨#[]⟩:aq)++t=t:=lJ;rw[show decide ((-1:ax)≥0)=ak from rfl,ay,aG (show(1:ax)=1 from rfl),au,aG (show(⟨#[]⟩:aq).size+t.size<=4611686018427387904 from by rw[show(⟨#[]⟩:aq).size=0 from rfl];omega),au,p.1,p.2,au,d.1,d.2,au,fin,et];rfl
  ·rw[show decide ((-1:ax)≥0)=ak from rfl,ay,aK k1,ay,bG k1];rfl
 ·have hf:(el l i).n=n:=by have:=Fj e2;exact cm this
  have w8:=rn _ (mh hi);rw[e1,e2];dsimp only;rw[aK (show¬((i:aE):ax)<0 by omega),aG (show((i:aE):ax)≥0 by omega),au];simp only[Lib.dn,hi,aP,Lib.dZ,wd0 hi,wd1 hi,wd2 hi,bn,bI,aM,bh,au,ay];by_cases k1:k=1
  ·subst k1;have p:=wp l hl (el l i).n ((el l i).t++t) (el l i).kp;have d:=pl l ⟨(el l i).n,(el l i).t++t,(el l i).kp⟩ hl;rw[aG (show(1:ax)=1 from rfl),au,aG (show(el l i).t.size+t.size<=4611686018427387904 by omega),au,p.1,p.2,au,d.1,d.2,au,fin];rfl
  rw[aK k1,ay,bG k1];by_cases k2:k=2
  ·subst k2;have p:=wp l hl (el l i).n (el l i).t ((el l i).t.size:ax);have d:=pl l ⟨(el l i).n,(el l i).t,((el l i).t.size:ax)⟩ hl;rw[aG (show(2:ax)=2 from rfl),au,p.1,p.2,au,d.1,d.2,au,fin];rfl
  rw[aK k2,ay,bG k2];by_cases k3:k=3
  ·subst k3;rw[aG (show(3:ax)=3 from rfl),au,bw rfl];by_cases b1:(el l i).kp=((el l i).t.size:ax)
   ·rw[aK (show¬(el l i).kp<((el l i).t.size:ax)by omega),ay,Lib.fj,nm];by_cases b2:o=n
    ·rw[aG b2,au,bw (.inr b2)];rfl
    ·rw[aK b2,ay,bG (by rintro (h|h);exact h b1;exact b2 h)];by_cases b3:1<=(o.size:ax)/\(o.size:ax)<=8
     ·have p:=wp (without l n) (by omega) o (el l i).t (el l i).kp;have d:=pl (without l n) ⟨o,(el l i).t,(el l i).kp⟩ (by omega);rw[aG b3,aY,ay,wo.1,wo.2,au,p.1,p.2,au,d.1,d.2,au,fin]
     ·rw[aK b3];dsimp only;rw[Tm b3];rfl
   ·rw[aG (show(el l i).kp<((el l i).t.size:ax)by omega),au,bw (.inl b1)];rfl
  rw[aK k3,ay,bG k3];have k4:k=4:=by omega
  subst k4;have d:=YL (without l n) (by omega);rw[aG (show(4:ax)=4 from rfl),au,wo.1,wo.2,au,d.1,d.2,au,fin]
end BI

namespace p_
open Lib (rd el Fi)
open dH (j6 act ra Ac wa0 wa1 wa2 wa3 rM AY)
theorem ok(l:aC Fi)(a:aC Ac)(hl:l.length<=1000)(ha:a.length<=1000000)(ht:∀x∈a,x.t.size<=2305843009213693952):c (rd l) (ra a)=ai/\v (rd l) (ra a)=(rd (j6 l 0 a).1,((j6 l 0 a).2:ax)):=by
 refine out _ _ ?_;unfold vo b;rw[Lib.oG,er,Lib.b_ (by omega) (by omega),au,show aN [Ck.s,Ck.s,Ck.i ao] 0++rd l=rd l from rfl]
 have key:∀(d i n:aE) (z:ax) (l:aC Fi),a.length-i<=d->i<=a.length->l.length<=1000->d<n->
   l3 Lib.cU (λ(_:aQ) (y5 _:ax) (y7:aQ)=>ah (y7,y5)) (λ(y8:aQ) (_ _:ax) (uC:aQ)=>ah (uC,(↑(bM y8):ax))) n (ra a) z (i:ax) (rd l)=ah (rd (j6 l i (a.drop i)).1,((j6 l i (a.drop i)).2:ax)):=by
  intro d
  induction d with
  |zero=>
   intro i n z l e1 e2 e3 e4;obtain⟨n,rfl⟩:∃n',n=n'+1:=⟨n-1,by omega⟩
   have:i=a.length:=by omega
   subst this;simp only[l3,r3,Lib.dn,bm,bf,ay,rM,di,j6]
  |succ d ih=>
   intro i n z l e1 e2 e3 e4;obtain⟨n,rfl⟩:∃n',n=n'+1:=⟨n-1,by omega⟩
   by_cases hi:i<a.length
   ·have hd:=BI.ok l (el a i).k (el a i).n (el a i).t (el a i).o e3 (ht _ (mh hi));simp only[l3,r3,Lib.dn,rM,hi,aP,Lib.cE,aM,au,Lib.dZ,wa0 hi,wa1 hi,wa2 hi,wa3 hi,bn,bI,hd.1,hd.2,Lib.c6 hi (by omega:a.length<=9223372036854775807)];rw[dD hi,<-fF hi];unfold j6;cases hac:act l (el a i).k (el a i).n (el a i).t (el a i).o with
    |none=>rfl
    |some e=>have:=(AY hac).2;exact ih (i+1) n z e (by omega) hi (by omega) (by omega)
   ·have:i=a.length:=by omega
    subst this;simp only[l3,r3,Lib.dn,bm,bf,ay,rM,di,j6]
 exact key a.length 0 Lib.cU 0 l (by omega) (bB _) hl (cC (by omega))
end p_

namespace Dp
open Lib (rr rs re rf rc rd Px En el Hg E0 Qa Qb)
open g9 (Wo Ev closed)
open km (dk es)
open ie (sK)
open fm (ri ud sg jI)
open u0 (cls lF)
theorem ok{i:aE}{w:Wo}(h:sK i w)(hi:i<=71)(k id:ax)(t:aq)(nn:ax)(left:aQ)(h0:0<=nn):c w.p.now (re w.p.en) (rs w.p.w) (rs w.p.m) (rr w.p.s) w.p.a (rf w.p.fe) (rc w.p.cl) w.p.hits (rd (dk w.o)) (ri w.cd) (re w.bd) k id t nn left=ai/\v w.p.now (re w.p.en) (rs w.p.w) (rs w.p.m) (rr w.p.s) w.p.a (rf w.p.fe) (rc w.p.cl) w.p.hits (rd (dk w.o)) (ri w.cd) (re w.bd) k id t nn left=((closed w id (nn%1000000)).2,ud (closed w id (nn%1000000)).1):=by
 refine out _ _ _ _ _ _ _ _ _ _ _ _ _ _ _ _ _ ?_;have hl:0<=nn%1000000/\nn%1000000<=999999:=by omega
 have hm:cK nn 1000000=nn%1000000:=ij h0;have hbd:=h.bd;have VV:=h.tx hi;have hdl:=km.BV w.o;have A:=Ds.ok w.p id (nn%1000000) (jI h.px);obtain⟨q1,q2⟩:=ie.Km (f:=id) h.px hl;obtain⟨s1,s2⟩:=u0.Ie (p:=w.p) (f:=id) (life:=nn%1000000);have mD:=jI q1;unfold vo b;rw[hm];generalize nn%1000000=life at*
 rw[A.1,au,A.2,fm.lt_eq];unfold closed ud;dsimp only;rw[<-s1,<-s2];generalize cls w.p id life=Q at q1 q2 s1 s2 mD;obtain⟨q,ok⟩:=Q;dsimp only at q1 q2 s1 s2 mD⊢;rcases q2 with ⟨r1,r2⟩|⟨r1,n,rn,hn,rf_,rs_,rl⟩
 ·subst r1;rfl
 subst r1;rw[au,bh];by_cases hz:life=0
 ·rw[aK (show¬life>0 by omega)];rfl
 rw[aG (show life>0 by omega),au,au];obtain⟨t1,t2⟩:=rl (by omega);have GH:n<q.fe.length:=by rw[rf_,cQ];exact hn
 have OO:el q.fe n={el w.p.fe n with sta:=2,li:=life,st:=w.p.now}:=by rw[rf_,ig.jR hn]
 subst rn;rw[eQ];have C:=Dt.ok (el q.fe n).k (el q.fe n).st (el q.fe n).li (el q.fe n).t;have hE:nk.v (el q.fe n).k (el q.fe n).st (el q.fe n).li (el q.fe n).t=true:=by rw[OO];exact t1
 have C6:=ie.KD (e:=lF (el q.fe n)) hE;rw[uP.val,bw hE,show uP.j6 (fH.fr (jE.sH (el q.fe n).k (el q.fe n).st (el q.fe n).li (el q.fe n).t))=dH.ra (iY.sa (iY.Hy (lF (el q.fe n))))from rfl]at C;have D:=p_.ok (dk w.o) (iY.sa (iY.Hy (lF (el q.fe n)))) (by omega) (by unfold iY.sa;simp) (λx hx=>by
  unfold iY.sa at hx;simp only[cu,lL,or_false]at hx;rcases hx with rfl|rfl
  ·show(iY.Hy (lF (el q.fe n))).size<=_;omega
  ·exact bB _)
 rw[km.MO (by omega)]at D;have room:∀y,cg ((re w.bd).length+(aA (aN [Ck.s,Ck.i ao,Ck.i ao,Ck.s] 1) 0 y).length) 48=true:=λy=>by rw[dA,fm.lj];exact Lib.b_ (by omega) (by omega)
 have sn:=sg w.bd (lF (el q.fe n));unfold lF at sn C D;dsimp only at sn;have ale:cg ((aN [Ck.s,Ck.i ao,Ck.i ao,Ck.s] 0).length+(re w.bd).length) 48=true:=by rw[dA];exact Lib.b_ (by show(0+w.bd.length)*48<=_;omega) (by show 0+w.bd.length<=_;omega)
 simp only[fm.lt_eq,fm.avp,ale,dP,Lib.dn,GH,aP,Lib.cE,aM,au,Lib.dZ,Hg GH,E0 GH,Qa GH,Qb GH,bn,bI,C.1,C.2,D.1,D.2,room,sn,show lF (el q.fe n)=⟨(el q.fe n).k,(el q.fe n).st,(el q.fe n).li,(el q.fe n).t⟩from rfl];rfl
end Dp

namespace Dq
open Lib (rr rs re rf rc Px el)
open ig (vk Ei told jy nP jR xU)
theorem ok(p:Px)(f:ax)(hp:p.Fit 1048576):c p.now (re p.en) (rs p.w) (rs p.m) (rr p.s) p.a (rf p.fe) (rc p.cl) p.hits f=ai/\v p.now (re p.en) (rs p.w) (rs p.m) (rr p.s) p.a (rf p.fe) (rc p.cl) p.hits f=(p.now,re p.en,rs p.w,rs p.m,rr p.s,p.a,rf (Ei p f).1.fe,rc (Ei p f).1.cl,p.hits,(Ei p f).2):=by
 have h1:=fI.ok p hp;have h2:=uT.ok p f hp;have hf:=hp.fe;have hc:=hp.cl;refine out _ _ _ _ _ _ _ _ _ _ ?_;unfold vo b Ei;simp only[Lib.lt,h1.1,h1.2,h2.1,h2.2,au];cases ho:vk p f with
 |false=>rfl
 |true=>
  obtain⟨n,rfl,hn,_,_⟩:=jy ho;have e1:=xU p.fe n 2 [CV.i ao 3] {el p.fe n with sta:=3} hn rfl;have GH:n<(p.fe.set n {el p.fe n with sta:=3}).length:=by rw[cQ];exact hn
  have h3:=sA.ok {p with fe:=p.fe.set n {el p.fe n with sta:=3}} n 3 GH (by rw[cQ];omega) (by dsimp only;omega);dsimp only at h3;rw[jR hn]at h3;simp only[aY,ay,au,Lib.cE,Lib.dn,dP,hn,aP,aM,Lib.dZ,e1,h3.1,h3.2];rfl
end Dq

namespace wH
open Lib (rd Fi En el wd0 wd1 wd2)
open dH (sF)
open km (dk es)
open iY (tx base)
theorem one(f:Fi)(left:aQ)(h:sF [f]=ai)(hk:f.kp=(f.t.size:ax)):c (rd [f]) left=ai/\v (rd [f]) left=(rd [f],ai):=by
 have h1:=gO.ok (rd [f]) (by rw[er];simp);refine out _ _ ?_;unfold vo b;rw[h1.1,au,h1.2,show gO.val (rd [f])=ai from h,aY,ay];have h0:0<[f].length:=by simp
 have c0:ar (rd [f]) 0 0=CV.s f.n:=wd0 (l:=[f]) h0;have c1:ar (rd [f]) 0 1=CV.s f.t:=wd1 (l:=[f]) h0;have c2:ar (rd [f]) 0 (1+1)=CV.i ao f.kp:=wd2 (l:=[f]) h0;have ib:iy 0 (f.t.size:ax) (f.t.size:ax)=true:=by simp[iy]
 have ex:bO f.t 0 (aZ (f.t.size:ax))=f.t:=Lib.Gr f.t;have w1:bH (0+1)=1:=rfl;have L:(rd [f]).length=1:=rfl;have step:∀(N m:aE),l5 Lib.cU (λ_ _ _=>ah (([]:aQ),ai)) (λ_ _ _ wc=>ah (wc,ai)) (m+1) left 0 (rd [f])=l5a Lib.cU (λ_ _ _=>ah (([]:aQ),ai)) (λ_ _ _ wc=>ah (wc,ai)) m left 1 (rd [f]) (rd [f]):=by
  intro N m;have t0:aZ 0=0:=rfl;simp only[l5,r5,L,t0];generalize bI (ar left 0 0)=z;simp only[c0,c1,c2,bn,bI,hk,ib,ex,w1];rw[show decide ((0:ax)<((1:aE):ax))=ai from rfl,au,show(decide ((0:ax)<=0)&&ai)=ai from rfl,au];have fin:([]++aA (aN [Ck.s,Ck.s,Ck.i ao] 1) 0 [CV.s f.n,CV.s f.t,CV.i ao (f.t.size:ax)]:aQ)=rd [f]:=by
   unfold Lib.rd;rw[gD];show [[CV.s f.n,CV.s f.t,CV.i ao (f.t.size:ax)]]=[Fi.row f]
   unfold Fi.row;rw[hk]
  simp only[fin];by_cases hl:(0:ax)<(left.length:ax)
  ·simp only[aG hl,au,show decide ((0:ax)<=0)=ai from rfl,aM];by_cases a:z>(f.t.size:ax)
   ·simp only[aG a,au,aK (show¬(f.t.size:ax)<(f.t.size:ax)by omega),ay]
   ·by_cases b:z<(f.t.size:ax)
    ·simp only[aK a,ay,aG b,au]
    ·have e:z=(f.t.size:ax):=by omega
     simp only[aK a,ay,aK b,e,ib,ex,fin,au,show decide ((f.t.size:ax)<(f.t.size:ax))=ak from aK (by omega),show decide ((f.t.size:ax)>(f.t.size:ax))=ak from aK (by omega)]
  ·simp only[aK hl,ay,au,aK (show¬(f.t.size:ax)<(f.t.size:ax)by omega)];try rw[aK (show¬(0:ax)>(f.t.size:ax)by omega),ay]
   by_cases b:(0:ax)<(f.t.size:ax)
   ·rw[aG b,au]
   ·rw[aK b,ay];have e:(f.t.size:ax)=0:=by omega
    rw[e]at ex fin;rw[show(0:ax).toNat=0 from rfl]at ex;rw[ex,fin]
 have last:∀(m:aE),l5a Lib.cU (λ_ _ _=>ah (([]:aQ),ai)) (λ_ _ _ wc=>ah (wc,ai)) (m+1) left 1 (rd [f]) (rd [f])=ah (rd [f],ai):=by intro m;simp only[l5a,r5a,L,show decide ((1:ax)<((1:aE):ax))=ak from rfl,ay]
 obtain⟨n,hn⟩:∃n,Lib.cU=n+2:=⟨Lib.cU-2,by have:=cC (n:=2) (by omega);omega⟩
 have key:∀N,N=n+2->l5 Lib.cU (λ_ _ _=>ah (([]:aQ),ai)) (λ_ _ _ wc=>ah (wc,ai)) N left 0 (rd [f])=ah (rd [f],ai):=by rintro N rfl;rw[step Lib.cU (n+1),last n]
 exact key _ hn
theorem ok{o:az (aC En)}(h:(tx (es o)).size<=20000)(left:aQ):c (rd (dk o)) left=ai/\v (rd (dk o)) left=(rd (dk o),ai):=by
 cases o with
 |some l=>exact one _ left (km.Ij h) rfl
 |none=>
  have hd:sF []=true:=km.Ij (o:=aj) h;have h1:=gO.ok (rd []) (by rw[er];simp);refine out _ _ ?_;unfold vo b;show(bif gO.c (rd [])then bif !gO.v (rd [])then _ else l5 Lib.cU _ _ Lib.cU left 0 (rd [])else aj)=_;rw[h1.1,au,h1.2,show gO.val (rd [])=ai from hd,aY,ay];obtain⟨n,hn⟩:∃n,Lib.cU=n+1:=⟨Lib.cU-1,by have:=cC (n:=1) (by omega);omega⟩
  have key:∀N,N=n+1->l5 Lib.cU (λ_ _ _=>ah (([]:aQ),ai)) (λ_ _ _ wc=>ah (wc,ai)) N left 0 (rd [])=ah (rd [],ai):=by rintro N rfl;rfl
  exact key _ hn
end wH

namespace wL
open Lib (rr rs re rf rc Px En el pz rR rS rT)
open fL (se tf one rE xO zl p0)
theorem ok(now:ax)(l:aC En)(hl:l.length<=1048576):
  c now (re l)=ai/\v now (re l)=(now,re (se now l).en,rs (se now l).w,rs (se now l).m,rr (se now l).s,(se now l).a,[],[],0):=by
 refine out _ _ ?_;unfold vo b;have key:=lY l.length (λn (i:aE) (p:Px)=>l4 Lib.cU (λ(_:ax) (_:aQ) (_ _ _ _ JP Vp V3:ax) (Qd Qe HC Qf Qg Qh:aQ)=>ah (JP,Qd,Qe,HC,Qf,Vp,Qg,Qh,V3)) n now (re l) (i:ax) 0 0 0 now p.a 0 (re p.en) (rs p.w) (rs p.m) (rr p.s) [] []) (λi=>se now (l.take i)) (ah (now,re (se now l).en,rs (se now l).w,rs (se now l).m,rr (se now l).s,(se now l).a,[],[],0)) (λn i hi=>by
  have I:=rE now l i (by omega);have hs:=xO now l i hi;generalize se now (l.take i)=p at I hs;rw[hs];unfold one;have hw:bH ((i:ax)+1)=((i+1:aE):ax):=Lib.c6 hi (by omega);have M6:F_.v (el l i).k (el l i).st (el l i).li (el l i).bo now=tf (el l i) now:=(F_.eq _ _ _ _ _).symm;cases hf:tf (el l i) now with
  |false=>
   rw[hf]at M6;cases hq:nk.v (el l i).k (el l i).st (el l i).li (el l i).bo with
   |false=>simp only[l4,r4,dA,Lib.dn,hi,aP,Lib.cE,aM,au,Lib.dZ,pz hi,rR hi,rS hi,rT hi,bn,bI,hq,ay,hw]
   |true=>simp only[l4,r4,dA,Lib.dn,hi,aP,Lib.cE,aM,au,Lib.dZ,pz hi,rR hi,rS hi,rT hi,bn,bI,hq,M6,ay,hw]
  |true=>rw[hf]at M6;have hq:=zl hf;have hk:=(nk.ES hq).1;have h4:=Oi.ok p (el l i) [] [] (I.fit (by omega) (by omega)) I.so I.ks (by omega);rw[I.now,I.hits]at h4;simp only[l4,r4,Lib.lt,dA,Lib.dn,hi,aP,Lib.cE,aM,au,Lib.dZ,pz hi,rR hi,rS hi,rT hi,bn,bI,hq,M6,h4.1,h4.2,hw]) (λn=>by
  simp only[l4,r4,dA,Lib.dn,bm,bf,ay,dK]) Lib.cU 0 (bB _) (cC (by omega))
 exact key
end wL

namespace wD
open Lib (rr rs re rf rc rd Px En el pz rR rS rT)
open g9 (Wo Ev B2 mR)
open km (dk es)
open ie (sK)
open fm (ri ud sg jI)
theorem walk(N:aE)(L:aC En)(hL:L.length<=1048576)(hN:L.length<N)(K0 K1:ax->ax->ax->ax->aQ->aQ->aQ->aQ->aQ->aQ->aQ->aQ->aQ->aQ->aQ->az R)(now a5 a8:ax)(q1 q2 q3 q4 q6 q7 q9 DM YW:aQ):
  l7 N K0 K1 N 0 now a5 a8 (re L) (re []) q1 q2 q3 q4 q6 q7 q9 DM YW=K0 (L.length:ax) now a5 a8 (re L) (re (L.filter λe=>fL.tf e now)) q1 q2 q3 q4 q6 q7 q9 DM YW:=by
 have hw:∀i,i<L.length->bH ((i:ax)+1)=((i+1:aE):ax):=λi h=>Lib.c6 h (by omega)
 have key:=B3 L (λe=>fL.tf e now) (λm (i:aE) acc=>l7 N K0 K1 m (i:ax) now a5 a8 (re L) (re acc) q1 q2 q3 q4 q6 q7 q9 DM YW) (λacc=>K0 (L.length:ax) now a5 a8 (re L) (re acc) q1 q2 q3 q4 q6 q7 q9 DM YW) []
  (λm i acc hi ha hp=>by rw[<-fF hi]at hp⊢;unfold fL.tf at hp;rw[F_.eq]at hp;simp only[l7,r7,dA,Lib.dn,hi,aP,Lib.cE,aM,au,Lib.dZ,pz hi,rR hi,rS hi,rT hi,bn,bI,hp,hw i hi,fm.lj,fm.sg];rw[Lib.b_ (by simp at ha;omega) (by simp at ha;omega),au])
  (λm i acc hi hp=>by rw[<-fF hi]at hp;unfold fL.tf at hp;rw[F_.eq]at hp;simp only[l7,r7,dA,Lib.dn,hi,aP,Lib.cE,aM,au,Lib.dZ,pz hi,rR hi,rS hi,rT hi,bn,bI,hp,hw i hi,ay])
  (λm acc=>by simp only[l7,r7,dA,Lib.dn,bm,bf,ay])
  N hN
 exact key
theorem ok{i:aE}{w:Wo}(h:sK i w)(hi:i<=71)(k id:ax)(t:aq)(n:ax)(left:aQ):c w.p.now (re w.p.en) (rs w.p.w) (rs w.p.m) (rr w.p.s) w.p.a (rf w.p.fe) (rc w.p.cl) w.p.hits (rd (dk w.o)) (ri w.cd) (re w.bd) k id t n left=ai/\v w.p.now (re w.p.en) (rs w.p.w) (rs w.p.m) (rr w.p.s) w.p.a (rf w.p.fe) (rc w.p.cl) w.p.hits (rd (dk w.o)) (ri w.cd) (re w.bd) k id t n left=ud (B2 w):=by
 refine out _ _ _ _ _ _ _ _ _ _ _ _ _ _ _ _ _ ?_;have VV:=h.tx hi;have hlen:=h.len hi;have hdl:=km.BV w.o;have A:=wH.ok (o:=w.o) (by omega) left;have B:=(km.Z_ (o:=w.o) (by omega) h.eo).2;have DD:=iY.KZ (es w.o);have hf:=ie.Gy h.eo;have OP:=ie.B7 w;have htf:=ie.Vj _ hf;have C:=jF.ok (rd (dk w.o)) (re (mR w)) (by rw[er];omega) (by rw[dA];omega);rw[km.Z9 (by omega) hf]at C;have D:=p_.ok (dk w.o) (pH.sW (iY.tx (mR w))) (by omega) (by unfold pH.sW;simp) (λx hx=>by
  unfold pH.sW at hx;simp only[cu,lL,or_false]at hx;rcases hx with rfl|rfl|rfl
  ·show(iY.tx (mR w)).size<=_;omega
  ·exact bB _
  ·exact bB _)
 rw[km.MN (by omega) (by omega)]at D;have E:=wL.ok w.p.now (mR w) (by omega);unfold vo;generalize hN:Lib.cU=N;have jm:(iY.kp (es w.o)).length<N:=by rw[<-hN];exact cC (by omega)
 clear hN;unfold b;rw[A.1,au,A.2,fm.lt_eq];rw[show(rd (dk w.o),ai).2=ai from rfl,au,show(rd (dk w.o),ai).1=rd (dk w.o)from rfl];rw[B.1,au,B.2,fm.lt_eq,show aN [Ck.s,Ck.i ao,Ck.i ao,Ck.s] 0=re []from rfl,walk N (iY.kp (es w.o)) (by omega) jm];have e:((kpp:aC En)->kpp=iY.kp (es w.o)->kpp.filter (λe=>fL.tf e w.p.now)=mR w):=λ_ h=>by subst h;rfl
 rw[e _ rfl];simp only[fm.lt_eq,C.1,C.2,D.1,D.2,E.1,E.2,au];have hinv:=fL.rE w.p.now (mR w) (mR w).length (cw _);rw[dK]at hinv;unfold ud B2;dsimp only;rw[hinv.now,hinv.fe,hinv.cl,hinv.hits];rfl
end wD

namespace Dj
open Lib (rr rs re rf rc rd Px En el)
open g9 (Wo Ev closed B2 mR ic flag)
open km (dk es)
open ie (sK)
open fm (ri ud sg jI)
theorem fl(b:aW):Aw.v b=flag b:=by cases b<;>rfl
theorem left(l:aC Lib.Cl)(id:ax):decide ((((l.filter λc=> !decide (c.id=id)).length:aE):ax)<(l.length:ax))=je.mr l id:=by
 unfold je.mr;cases h:l.any λx=>decide (x.id=id)with
 |true=>
  obtain⟨x,hx,hp⟩:=List.any_eq_true.1 h;have:(l.filter λc=> !decide (c.id=id)).length<l.length:=by rw[List.length_filter_lt_length_iff_exists];exact⟨x,hx,by simpa using hp⟩
  exact aG (by omega)
 |false=>
  rw[Z1]at h;have:l.filter (λc=> !decide (c.id=id))=l:=eE.2 λx hx=>by have:=h x hx;simpa using this
  rw[this];exact aK (by omega)
theorem ok{i:aE}{w:Wo}{e:Ev}(h:sK i w)(hi:i<=71)(he:ic e=ai):c w.p.now (re w.p.en) (rs w.p.w) (rs w.p.m) (rr w.p.s) w.p.a (rf w.p.fe) (rc w.p.cl) w.p.hits (rd (dk w.o)) (ri w.cd) (re w.bd) e.k e.id e.t e.n e.l=ai/\v w.p.now (re w.p.en) (rs w.p.w) (rs w.p.m) (rr w.p.s) w.p.a (rf w.p.fe) (rc w.p.cl) w.p.hits (rd (dk w.o)) (ri w.cd) (re w.bd) e.k e.id e.t e.n e.l=((g9.act w e).2,ud (g9.act w e).1):=by
 unfold ic at he;simp only[aL,bg]at he;obtain⟨hk,IC,ht,hn,hl⟩:=he;have hp:=jI h.px;refine out _ _ _ _ _ _ _ _ _ _ _ _ _ _ _ _ _ ?_;unfold vo b g9.act;by_cases k1:e.k=1
 ·rw[aG k1,au];have A:=wC.ok w.p e.id e.t hp (by omega);rw[A.1,au,A.2,fm.lt_eq];try rfl
 rw[aK k1,ay,ay];by_cases k2:e.k=2
 ·rw[aG k2,au];have A:=Dn.ok w.p e.id e.t hp;rw[A.1,au,A.2,fm.lt_eq,fl];unfold ud ig.EO;cases ig.vk w.p e.id&&(decide (1<=e.t.size/\e.t.size<=40)&&decide ((el w.p.fe e.id.toNat).t.size+e.t.size<=400))<;>rfl
 rw[aK k2,ay,ay];by_cases k3:e.k=3
 ·rw[aG k3,au];have A:=Dp.ok h hi e.k e.id e.t e.n e.l hn;rw[k3]at A;rw[k3,A.1,au,A.2,fm.lt_eq];try rfl
 rw[aK k3,ay,ay];by_cases k4:e.k=4
 ·rw[aG k4,au];have A:=Dq.ok w.p e.id hp;rw[A.1,au,A.2,fm.lt_eq,fl];unfold ud ig.Ei;cases ig.vk w.p e.id<;>rfl
 rw[aK k4,ay,ay];by_cases k5:e.k=5
 ·rw[aG k5,au];have A:=sr.ok w.p e.n hp;rw[A.1,au,A.2,fm.lt_eq];try rfl
 rw[aK k5,ay,ay];by_cases k6:e.k=6
 ·rw[aG k6,au];have A:=uQ.ok w.p e.id hp;rw[A.1,au,A.2,fm.lt_eq,fl];dsimp only;rw[e9,e9,show(uQ.val w.p e.id).cl=w.p.cl.filter (λc=> !decide (c.id=e.id))from rfl,left];try rfl
 rw[aK k6,ay,ay];have k7:e.k=7:=by omega
 rw[aG k7,au];have A:=wD.ok h hi e.k e.id e.t e.n e.l;rw[k7]at A;rw[k7,A.1,au,A.2,fm.lt_eq];try rfl
end Dj

namespace Gd
open Lib (rr rs re rf rc rd Px En el)
open g9 (Wo Ev closed B2 mR ic flag)
open km (dk es)
open ie (sK)
open fm (ri ud sg jI)
theorem RD(w:Wo)(e:Ev):(g9.act w e).1.cd=w.cd:=by
 unfold g9.act closed;cases decide (e.k=1)<;>cases decide (e.k=2)<;>cases decide (e.k=3)<;>cases decide (e.k=4)<;>cases decide (e.k=5)<;>cases decide (e.k=6)<;>(try rfl)
 all_goals
  dsimp only[au,ay]
  cases (u0.cls w.p e.id (e.n%1000000)).2&&decide (e.n%1000000>0)<;>rfl
theorem ok{i:aE}{w:Wo}{e:Ev}(h:sK i w)(hi:i<=71)(he:ic e=ai):c w.p.now (re w.p.en) (rs w.p.w) (rs w.p.m) (rr w.p.s) w.p.a (rf w.p.fe) (rc w.p.cl) w.p.hits (rd (dk w.o)) (ri w.cd) (re w.bd) e.k e.id e.t e.n e.l=ai/\v w.p.now (re w.p.en) (rs w.p.w) (rs w.p.m) (rr w.p.s) w.p.a (rf w.p.fe) (rc w.p.cl) w.p.hits (rd (dk w.o)) (ri w.cd) (re w.bd) e.k e.id e.t e.n e.l=ud (g9.step w e):=by
 refine out _ _ _ _ _ _ _ _ _ _ _ _ _ _ _ _ _ ?_;have A:=Dj.ok h hi he;have hcd:=h.cd;unfold vo b;rw[A.1,au,A.2,fm.lt_eq];have e1:(ud (g9.act w e).1).2.2.2.2.2.2.2.2.2.2.1=ri w.cd:=by unfold ud;rw[RD]
 have r1:cg ((aN [Ck.i ao] 0).length+(ri w.cd).length) 8=true:=by rw[fm.gf];exact Lib.b_ (by show(0+w.cd.length)*8<=_;omega) (by show 0+w.cd.length<=_;omega)
 have r2:cg ((ri w.cd).length+(aA (aN [Ck.i ao] 1) 0 [CV.i ao (g9.act w e).2]).length) 8=true:=by rw[fm.gf,fm.lj];exact Lib.b_ (by omega) (by omega)
 show(bif cg ((aN [Ck.i ao] 0).length+((ud (g9.act w e).1).2.2.2.2.2.2.2.2.2.2.1).length) 8 then _ else aj)=_;simp only[e1,fm.avq,r1,r2,au,fm.abU];rfl
end Gd

namespace sN
open Lib (rr rs re rf rc rd Px En el)
open g9 (Wo Ev ic)
open km (dk es)
open ie (sK)
open fm (ri ud)
open ql (rv run)
open dm (I)
open A_Post (jb)
theorem ids{p:Px}(h:Ab.iT p):∀j,j<(rc p.cl).length->0<=bI (ar (rc p.cl) j 0)/\bI (ar (rc p.cl) j 0)<=30:=by
 intro j hj;have VT:j<p.cl.length:=by rw[e9]at hj;exact hj
 have:=h.cl _ (mh VT);unfold Ab.JI at this;simp only[aL,bg]at this;rw[show ar (rc p.cl) j 0=CV.i ao (el p.cl j).id from fY _ p.cl j 0 VT];show 0<=(el p.cl j).id/\(el p.cl j).id<=30;omega
theorem next{α:Type}{i:aE}{w:Wo}{q:aQ}{a s:ax}{X:ax×ax×aq×ax×aQ×aQ×ax×ax×aQ×aQ×aQ×aQ×aQ×aQ×aQ×aQ×aQ->az α}{P:α->Prop}(h:sK i w)(hI:I q a)
  (hx:∀k id t n a' s',I q a'->ic ⟨k,id,t,n,[]⟩=ai->k<=6->jb (X (k,id,t,n,[],q,a',s',re w.p.en,rs w.p.w,rs w.p.m,rr w.p.s,rf w.p.fe,rc w.p.cl,rd (dk w.o),ri w.cd,re w.bd)) P):
  jb (bif Ke.c q a s w.p.now (re w.p.en) (rs w.p.w) (rs w.p.m) (rr w.p.s) w.p.a (rf w.p.fe) (rc w.p.cl) w.p.hits (rd (dk w.o)) (ri w.cd) (re w.bd)then Lib.lt (Ke.v q a s w.p.now (re w.p.en) (rs w.p.w) (rs w.p.m) (rr w.p.s) w.p.a (rf w.p.fe) (rc w.p.cl) w.p.hits (rd (dk w.o)) (ri w.cd) (re w.bd)) X else aj) P:=by obtain⟨x,e,k,id,t,n,a',s',rfl,h1,h2,h3⟩:=Ke.body q a s w.p.now (re w.p.en) (rs w.p.w) (rs w.p.m) (rr w.p.s) w.p.a (rf w.p.fe) (rc w.p.cl) w.p.hits (rd (dk w.o)) (ri w.cd) (re w.bd) hI (by rw[dP];exact h.px.fl) (ids h.px);obtain⟨c1,v1⟩:=Ke.out _ _ _ _ _ _ _ _ _ _ _ _ _ _ _ e;exact A_Post.call c1 v1 (hx k id t n a' s' h1 h2 h3)
theorem step{α:Type}{i:aE}{w:Wo}{X:ax×aQ×aQ×aQ×aQ×ax×aQ×aQ×ax×aQ×aQ×aQ->az α}{P:α->Prop}(e:Ev)(h:sK i w)(hi:i<=71)(he:ic e=ai)(hx:jb (X (ud (g9.step w e))) P):
  jb (bif Gd.c w.p.now (re w.p.en) (rs w.p.w) (rs w.p.m) (rr w.p.s) w.p.a (rf w.p.fe) (rc w.p.cl) w.p.hits (rd (dk w.o)) (ri w.cd) (re w.bd) e.k e.id e.t e.n e.l then Lib.lt (Gd.v w.p.now (re w.p.en) (rs w.p.w) (rs w.p.m) (rr w.p.s) w.p.a (rf w.p.fe) (rc w.p.cl) w.p.hits (rd (dk w.o)) (ri w.cd) (re w.bd) e.k e.id e.t e.n e.l) X else aj) P:=
 A_Post.call (Gd.ok h hi he).1 (Gd.ok h hi he).2 hx
theorem Jr(l:aC Ev)(e:Ev):run (l++[e])=g9.step (run l) e:=by unfold run;rw[Aj];rfl
theorem G7(l:aC Ev)(e:Ev):rv l++aA (aN [Ck.i ao,Ck.i ao,Ck.s,Ck.i ao,Ck.l 3] 1) 0 [CV.i ao e.k,CV.i ao e.id,CV.s e.t,CV.i ao e.n,CV.l 3 e.l]=rv (l++[e]):=by unfold rv;rw[dh];rfl
theorem MT(n:ax):ic ⟨7,0,⟨#[]⟩,0,aA (aN [Ck.i ao] 1) 0 [CV.i ao n]⟩=true:=rfl
theorem HX{l:aC Ev}{e:Ev}(h:∀x∈l,ic x=ai)(he:ic e=ai):∀x∈l++[e],ic x=true:=by
 intro x hx;rcases bc.1 hx with h1|h1
 ·exact h x h1
 ·rw[a_.1 h1];exact he
end sN

namespace Kc
theorem ok(q:aQ)(hl:q.length<=1048576):∃h,c q=ai/\v q=(q,0,h):=by
 have key:=qz (λn (s:aE×ax)=>l3 Lib.cU (λ(y3:aQ) (y4 _:ax)=>ah (y3,(0:ax),y4)) n q s.2 (s.1:ax)) (λs=>q.length-s.1) (λs=>s.1<=q.length) (λr=>∃h,r=(q,0,h)) (λn s hs=>by
  obtain⟨i,h⟩:=s;dsimp only at hs⊢;by_cases hi:i<q.length
  ·by_cases h4:(i:ax)<4000
   ·right;have j7:bH ((i:ax)+1)=((i+1:aE):ax):=c9 (by omega) (by omega)
    have e:∃h',l3 Lib.cU (λ(y3:aQ) (y4 _:ax)=>ah (y3,(0:ax),y4)) (n+1) q h (i:ax)=l3 Lib.cU (λ(y3:aQ) (y4 _:ax)=>ah (y3,(0:ax),y4)) n q h' ((i+1:aE):ax):=
     ⟨_,by simp only[l3,r3,Lib.dn,hi,h4,aP,Lib.cE,aM,au,Lib.dZ,j7];rfl⟩
    obtain⟨h',e⟩:=e;exact⟨(i+1,h'),hi,by dsimp only;omega,e⟩
   ·left;exact⟨_,by simp only[l3,r3,Lib.dn,hi,h4,aP,bf,au,ay];rfl,_,rfl⟩
  ·left;exact⟨_,by simp only[l3,r3,Lib.dn,hi,bf,ay];rfl,_,rfl⟩) Lib.cU (0,bH (34901+(q.length:ax))) (bB _) (cC (by omega))
 obtain⟨b',hb,h,rfl⟩:=key;obtain⟨e1,e2⟩:=out q (x:=(q,0,h)) hb;exact⟨h,e1,e2⟩
end Kc

namespace PX
open Lib (rr rs re rf rc rd Px En el)
open g9 (Wo Ev ic)
open km (dk es)
open ie (sK)
open fm (ri ud)
open ql (rv run)
open sN (Jr G7 HX)
open dm (I)
open A_Post (jb)
theorem rm{l:aC Ev}(h:l.length<=70)(y:aC CV):cg ((rv l).length+(aA (aN [Ck.i ao,Ck.i ao,Ck.s,Ck.i ao,Ck.l 3] 1) 0 y).length) 64=true:=by rw[ql.kL,fm.lj];exact Lib.b_ (by omega) (by omega)
theorem walk{P:R->Prop}(N:aE)(q:aQ)(m:aE)(hm:m<=65)(K:ax->ax->aQ->ax->ax->ax->ax->ax->aQ->aQ->aQ->aQ->aQ->aQ->aQ->aQ->aQ->aQ->az R)
  (hK:∀(l:aC Ev) (a s:ax),l.length=m->(∀x∈l,ic x=ai)->I q a->jb (K (m:ax) (m:ax) q a s (run l).p.now (run l).p.a (run l).p.hits (rv l) (re (run l).p.en) (rs (run l).p.w) (rs (run l).p.m) (rr (run l).p.s) (rf (run l).p.fe) (rc (run l).p.cl) (rd (dk (run l).o)) (ri (run l).cd) (re (run l).bd)) P):
  ∀(d i n:aE) (l:aC Ev) (a s:ax),m-i<=d->l.length=i->i<=m->d<n->(∀x∈l,ic x=ai)->I q a->
   jb (l7 N K n (m:ax) (i:ax) q a s (run l).p.now (run l).p.a (run l).p.hits (rv l) (re (run l).p.en) (rs (run l).p.w) (rs (run l).p.m) (rr (run l).p.s) (rf (run l).p.fe) (rc (run l).p.cl) (rd (dk (run l).o)) (ri (run l).cd) (re (run l).bd)) P:=by
 have fin:∀(n:aE) (l:aC Ev) (a s:ax),l.length=m->(∀x∈l,ic x=ai)->I q a->jb (l7 N K (n+1) (m:ax) (m:ax) q a s (run l).p.now (run l).p.a (run l).p.hits (rv l) (re (run l).p.en) (rs (run l).p.w) (rs (run l).p.m) (rr (run l).p.s) (rf (run l).p.fe) (rc (run l).p.cl) (rd (dk (run l).o)) (ri (run l).cd) (re (run l).bd)) P:=λn l a s hl he hI=>by rw[show l7 N K (n+1)=r7 N (l7 N K n) K from rfl];unfold r7;exact A_Post.cn (aK (Int.lt_irrefl _)) (hK l a s hl he hI)
 intro d;induction d with
 |zero=>
  intro i n l a s h1 h2 h3 h4 h5 h6;obtain⟨n,rfl⟩:∃k,n=k+1:=⟨n-1,by omega⟩
  have:i=m:=by omega
  subst this;exact fin n l a s h2 h5 h6
 |succ d ih=>
  intro i n l a s h1 h2 h3 h4 h5 h6;obtain⟨n,rfl⟩:∃k,n=k+1:=⟨n-1,by omega⟩
  by_cases h:i<m
  ·have j7:bH ((i:ax)+1)=((i+1:aE):ax):=c9 (by omega) (by omega);have hW:sK l.length (run l):=ql.G6 h5;have go:∀(e:Ev) (a s:ax),ic e=ai->I q a->jb (l7 N K n (m:ax) (bH ((i:ax)+1)) q a s (g9.step (run l) e).p.now (g9.step (run l) e).p.a (g9.step (run l) e).p.hits (rv l++aA (aN [Ck.i ao,Ck.i ao,Ck.s,Ck.i ao,Ck.l 3] 1) 0 [CV.i ao e.k,CV.i ao e.id,CV.s e.t,CV.i ao e.n,CV.l 3 e.l]) (re (g9.step (run l) e).p.en) (rs (g9.step (run l) e).p.w) (rs (g9.step (run l) e).p.m) (rr (g9.step (run l) e).p.s) (rf (g9.step (run l) e).p.fe) (rc (g9.step (run l) e).p.cl) (rd (dk (g9.step (run l) e).o)) (ri (g9.step (run l) e).cd) (re (g9.step (run l) e).bd)) P:=λe a s he hI=>by have:=ih (i+1) n (l++[e]) a s (by omega) (by rw[bV,h2];rfl) h (by omega) (HX h5 he) hI;rw[Jr,<-G7]at this;rw[j7];exact this
   rw[show l7 N K (n+1)=r7 N (l7 N K n) K from rfl];unfold r7;refine A_Post.ck (aG (by omega)) ?_;refine sN.next hW h6 (λk id t n0 a1 s1 I1 he hk=> ?_);refine A_Post.once I1 (λx a2 s2 I2=> ?_);cases x with
   |true=>refine A_Post.ck rfl ?_;refine A_Post.below I2 (λn1 a3 s3 I3 _ _=> ?_);refine sN.step ⟨7,0,⟨#[]⟩,0,aA (aN [Ck.i ao] 1) 0 [CV.i ao n1]⟩ hW (by omega) (sN.MT n1) ?_;refine A_Post.ck (rm (by omega) _) ?_;exact go ⟨7,0,⟨#[]⟩,0,aA (aN [Ck.i ao] 1) 0 [CV.i ao n1]⟩ a3 s3 (sN.MT n1) I3
   |false=>refine A_Post.cn rfl ?_;refine sN.step ⟨k,id,t,n0,[]⟩ hW (by omega) he ?_;refine A_Post.ck (rm (by omega) _) ?_;exact go ⟨k,id,t,n0,[]⟩ a2 s2 he I2
  ·have:i=m:=by omega
   subst this;exact fin n l a s h2 h5 h6
theorem ok(q:aQ)(a s:ax)(code:aQ)(hI:I q a)(hc:code.length<=1048576):∃(l:aC Ev) (a' s':ax),c q a s code=ai/\v q a s code=(rv l,q,a',s')/\l.length<=65/\(∀e∈l,ic e=ai):=by
 have key:∃m:aE,m<=65/\(decide (bH (20+bH (cL (code.length:ax) 6))>65)=ai/\m=65\/decide (bH (20+bH (cL (code.length:ax) 6))>65)=ak/\bH (20+bH (cL (code.length:ax) 6))=(m:ax)):=by
  have h0:0<=cL (code.length:ax) 6/\cL (code.length:ax) 6<=1048576:=by rw[g7 (by omega)];omega
  generalize cL (code.length:ax) 6=z at*
  rw[c9 (x:=z) (by omega) (by omega),c9 (x:=20+z) (by omega) (by omega)];by_cases h:20+z>65
  ·exact⟨65,by omega, .inl ⟨aG h,rfl⟩⟩
  ·exact⟨(20+z).toNat,by omega, .inr ⟨aK h,by omega⟩⟩
 have main:jb (vo q a s code) (λx=>∃(l:aC Ev) (a' s':ax),x=(rv l,q,a',s')/\l.length<=65/\(∀e∈l,ic e=ai)):=by
  obtain⟨m,hm,hk⟩:=key;unfold vo;generalize hN:Lib.cU=N;have hN1:65<N:=by rw[<-hN];exact cC (by omega)
  clear hN;unfold b;rcases hk with ⟨h1,h2⟩|⟨h1,h2⟩
  ·subst h2;refine A_Post.ck h1 ?_;exact walk N q 65 (by omega) _ (λl a1 s1 hl he hI1=>A_Post.ret ⟨l,a1,s1,rfl,by omega,he⟩) 65 0 N [] a s (by omega) rfl (by omega) hN1 (λe h=>by cases h) hI
  ·refine A_Post.cn h1 ?_;rw[h2];exact walk N q m hm _ (λl a1 s1 hl he hI1=>A_Post.ret ⟨l,a1,s1,rfl,by omega,he⟩) m 0 N [] a s (by omega) rfl (by omega) (by omega) (λe h=>by cases h) hI
 obtain⟨x,hx,l,a',s',rfl,h1,h2⟩:=main;obtain⟨c1,v1⟩:=out _ _ _ _ hx;exact⟨l,a',s',c1,v1,h1,h2⟩
end PX

namespace U9
open g9 (Ev ic)
open ql (rv)
theorem ok(code:aQ)(hc:code.length<=1048576):∃l:aC Ev,c code=ai/\v code=rv l/\l.length<=65/\(∀e∈l,ic e=ai):=by obtain⟨h,c0,v0⟩:=Kc.ok code hc;obtain⟨l,a',s',c1,v1,h1,h2⟩:=PX.ok code 0 h code ⟨by omega,by omega,hc⟩ hc;obtain⟨c2,v2⟩:=out code (x:=rv l) (by unfold vo b;simp only[c0,v0,au,fm.lt_eq,c1,v1]);exact⟨l,c2,v2,h1,h2⟩
end U9

namespace vL
theorem ok(q:aQ)(a s k:ax)(hI:dm.I q a):∃t a' s',c q a s k=ai/\v q a s k=(t,q,a',s')/\dm.I q a'/\(t.size:ax)<=5000/\((t.size:ax)=0\/(t.size:ax)<=k):=by
 have key:=λ(m:ax) (hm:m<=5000)=>qz (λn (z:aE×ax×ax×aQ)=>l5 Lib.cU (λ(_ _:ax) (y8:aQ) (y9 HB:ax) (uC:aQ)=>bif(decide (bM uC<=4611686018427387904))then(ah (bytesOf uC,y8,y9,HB))else(aj)) n m (z.1:ax) q z.2.1 z.2.2.1 z.2.2.2) (λz=>5000-z.1) (λz=>(z.1=0\/(z.1:ax)<=m)/\dm.I q z.2.1/\z.2.2.2.length=z.1) (λr=>∃t a' s',r=(t,q,a',s')/\dm.I q a'/\((t.size:ax)=0\/(t.size:ax)<=m)) (λn z hz=>by
  obtain⟨i,a,s,acc⟩:=z;obtain⟨h1,h2,h3⟩:=hz;dsimp only at h1 h2 h3⊢;by_cases h:(i:ax)<m
  ·right;obtain⟨n1,a1,s1,c1,v1,I1,g1,u1⟩:=dm.ok q a s h2;have j7:bH ((i:ax)+1)=((i+1:aE):ax):=c9 (by omega) (by omega);refine⟨(i+1,a1,s1,acc++[[CV.i ba (bE ba n1)]]),⟨by right;dsimp only;omega,I1,by simp[h3]⟩,by dsimp only;omega, ?_⟩
   simp only[l5,r5,h,aP,au,c1,v1,j7,Lib.iI,bz,Lib.zy (n:=acc.length+1) (by omega)]
  ·left;refine⟨_,by simp only[l5,r5,h,bf,ay,aG (show acc.length<=4611686018427387904 by omega),au],bytesOf acc,a,s,rfl,h2, ?_⟩
   rw[gJ,h3];omega) Lib.cU (0,a,s,[]) ⟨.inl rfl,hI,rfl⟩ (cC (by omega))
 by_cases hk:k>5000
 ·obtain⟨b',hb,t,a',s',rfl,hI',hs⟩:=key 5000 (by omega);obtain⟨e1,e2⟩:=out q a s k (x:=(t,q,a',s')) (by unfold vo b;rw[aG hk,au];exact hb);exact⟨t,a',s',e1,e2,hI',by omega,by omega⟩
 ·obtain⟨b',hb,t,a',s',rfl,hI',hs⟩:=key k (by omega);obtain⟨e1,e2⟩:=out q a s k (x:=(t,q,a',s')) (by unfold vo b;rw[aK hk,ay];exact hb);exact⟨t,a',s',e1,e2,hI',by omega,by omega⟩
end vL

namespace Dk
def dr(k:aq)(s l:ax)(t:aq):Prop:=k.size=2/\1<=s/\s<=20/\(l=1\/l=5\/l=60\/l=999999)/\t.size<=8
theorem ok(q:aQ)(a s:ax)(hI:dm.I q a):∃k st l t a' s',c q a s=ai/\v q a s=(k,st,l,t,q,a',s')/\dm.I q a'/\dr k st l t:=by
 obtain⟨k,a1,s1,c1,v1,I1,g1⟩:=rk.ok q a s hI;obtain⟨n2,a2,s2,c2,v2,I2,g2,u2⟩:=kP.ok q a1 s1 20 I1;obtain⟨i,a3,s3,c3,v3,I3,g3⟩:=sC.ok q a2 s2 (aA (aA (aA (aA (aN [Ck.i ao] 4) 0 [CV.i ao 1]) 1 [CV.i ao 5]) 2 [CV.i ao 60]) 3 [CV.i ao 999999]) I2 (by simp[aN]);obtain⟨n4,a4,s4,c4,v4,I4,g4,u4⟩:=kP.ok q a3 s3 9 I3;obtain⟨t,a5,s5,c5,v5,I5,g5,u5⟩:=vL.ok q a4 s4 n4 I4;have u2':=u2 (by omega);have u4':=u4 (by omega);have hw:bH (1+n2)=1+n2:=c9 (by omega) (by omega);obtain⟨e1,e2⟩:=out q a s (x:=(k,1+n2,_,t,q,a5,s5)) (by unfold vo b;simp only[Lib.lt,c1,v1,c2,v2,c3,v3,c4,v4,c5,v5,hw,au];rfl);refine⟨k,1+n2,_,t,a5,s5,e1,e2,I5,g1,by omega,by omega, ?_,by omega⟩
 have g2:i<4:=by simpa [aN]using g3
 match i,g2 with
 |0,_=>exact .inl rfl
 |1,_=>exact .inr (.inl rfl)
 |2,_=>exact .inr (.inr (.inl rfl))
 |3,_=>exact .inr (.inr (.inr rfl))
end Dk

namespace Ap
theorem ok(n x:ax)(h0:0<=n)(h1:n<=1048576):∃t,c n x=ai/\v n x=t/\(t.size:ax)=n:=by
 have key:=qz (λm (z:aE×aQ)=>l3 Lib.cU (λ(_ _ _:ax) (y7:aQ)=>bif(decide (bM y7<=4611686018427387904))then(ah (bytesOf y7))else(aj)) m n x (z.1:ax) z.2) (λz=>n.toNat-z.1) (λz=>z.1<=n.toNat/\z.2.length=n.toNat) (λt=>(t.size:ax)=n) (λm z hz=>by
  obtain⟨i,acc⟩:=z;obtain⟨h2,h3⟩:=hz;dsimp only at h2 h3⊢;by_cases h:(i:ax)<n
  ·right;have j7:bH ((i:ax)+1)=((i+1:aE):ax):=c9 (by omega) (by omega);have hi:i<acc.length:=by omega
   refine⟨(i+1,eA acc i 0 [CV.i ba x]),⟨by dsimp only;omega,by dsimp only;rw[Lib.jk];exact h3⟩,by dsimp only;omega, ?_⟩
   simp only[l3,r3,h,hi,Lib.dn,Lib.cE,Lib.dZ,aM,aP,au,j7]
  ·left;refine⟨_,by simp only[l3,r3,h,bf,ay,aG (show acc.length<=4611686018427387904 by omega),au];rfl, ?_⟩
   rw[gJ,h3];omega) Lib.cU (0,aN [Ck.i ba] n.toNat) ⟨bB _,Lib.oG _ _⟩ (cC (by dsimp only;omega))
 obtain⟨t,hb,ht⟩:=key;obtain⟨e1,e2⟩:=out n x (x:=t) (by unfold vo b;rw[aG h0,aG rfl,Lib.zy (by omega),aM,aM,au];exact hb);exact⟨t,e1,e2,ht⟩
end Ap

namespace VJ
theorem ok(q:aQ)(a s:ax)(hI:dm.I q a):∃k st l t a' s',c q a s=ai/\v q a s=(k,st,l,t,q,a',s')/\dm.I q a'/\k.size<=31/\(-1<=st/\st<=1000000001)/\(l= -9223372036854775808\/0<=l/\l<=1000000)/\t.size<=401:=by
 obtain⟨k,st,l,t,a1,s1,c1,v1,I1,d1,d2,d3,d4,d5⟩:=Dk.ok q a s hI;obtain⟨n2,a2,s2,c2,v2,I2,g2,u2⟩:=kP.ok q a1 s1 12 I1;by_cases h0:n2=0
 ·have d0:decide (n2=0)=true:=aG h0;obtain⟨i,a3,s3,c3,v3,I3,g3⟩:=nT.ok q a2 s2 (aA (aA (aN [Ck.s] 2) 0 [CV.s {data:= #[]}]) 1 [CV.s {data:= #[aw 48,aw 49,aw 50,aw 51,aw 52,aw 53,aw 54,aw 55,aw 56,aw 57,aw 48,aw 49,aw 50,aw 51,aw 52,aw 53,aw 54,aw 55,aw 56,aw 57,aw 48,aw 49,aw 50,aw 51,aw 52,aw 53,aw 54,aw 55,aw 56,aw 57,aw 48]}]) I2 (by simp[aN]);obtain⟨e1,e2⟩:=out q a s (x:=(_,st,l,t,q,a3,s3)) (by unfold vo b;simp only[Lib.lt,c1,v1,c2,v2,d0,au,c3,v3];rfl);refine⟨_,st,l,t,a3,s3,e1,e2,I3, ?_,by omega,by omega,by omega⟩
  have g2:i<2:=by simpa [aN]using g3
  match i,g2 with
  |0,_=>exact bB _
  |1,_=>exact cw 31
 have d0:decide (n2=0)=false:=aK h0;by_cases h1:n2=1
 ·have d1:decide (n2=1)=true:=aG h1;obtain⟨i,a3,s3,c3,v3,I3,g3⟩:=sC.ok q a2 s2 (aA (aA (aA (aA (aN [Ck.i ao] 4) 0 [CV.i ao (oS 1)]) 1 [CV.i ao 0]) 2 [CV.i ao 1000000000]) 3 [CV.i ao 1000000001]) I2 (by simp[aN]);obtain⟨e1,e2⟩:=out q a s (x:=(k,_,l,t,q,a3,s3)) (by unfold vo b;simp only[Lib.lt,c1,v1,c2,v2,d0,d1,au,ay,c3,v3];rfl);refine⟨k,_,l,t,a3,s3,e1,e2,I3,by omega, ?_,by omega,by omega⟩
  have g2:i<4:=by simpa [aN]using g3
  match i,g2 with
  |0,_=>exact⟨by decide,by decide⟩
  |1,_=>exact⟨by decide,by decide⟩
  |2,_=>exact⟨by decide,by decide⟩
  |3,_=>exact⟨by decide,by decide⟩
 have d1:decide (n2=1)=false:=aK h1;by_cases h2:n2=2
 ·have d2':decide (n2=2)=true:=aG h2;obtain⟨i,a3,s3,c3,v3,I3,g3⟩:=sC.ok q a2 s2 (aA (aA (aA (aN [Ck.i ao] 3) 0 [CV.i ao 0]) 1 [CV.i ao 1000000]) 2 [CV.i ao (oS 9223372036854775808)]) I2 (by simp[aN]);obtain⟨e1,e2⟩:=out q a s (x:=(k,st,_,t,q,a3,s3)) (by unfold vo b;simp only[Lib.lt,c1,v1,c2,v2,d0,d1,d2',au,ay,c3,v3];rfl);refine⟨k,st,_,t,a3,s3,e1,e2,I3,by omega,by omega, ?_,by omega⟩
  have g2:i<3:=by simpa [aN]using g3
  match i,g2 with
  |0,_=>exact .inr ⟨by decide,by decide⟩
  |1,_=>exact .inr ⟨by decide,by decide⟩
  |2,_=>exact .inl rfl
 have d2':decide (n2=2)=false:=aK h2;by_cases h3:n2=3
 ·have d3':decide (n2=3)=true:=aG h3;obtain⟨n4,a4,s4,c4,v4,I4,g4,u4⟩:=kP.ok q a2 s2 2 I2;have u4':=u4 (by omega);have hw:bH (400+n4)=400+n4:=c9 (by omega) (by omega);obtain⟨t2,c5,v5,g5⟩:=Ap.ok (400+n4) 97 (by omega) (by omega);obtain⟨e1,e2⟩:=out q a s (x:=(k,st,l,t2,q,a4,s4)) (by unfold vo b;simp only[Lib.lt,c1,v1,c2,v2,d0,d1,d2',d3',au,ay,c4,v4,hw,c5,v5]);exact⟨k,st,l,t2,a4,s4,e1,e2,I4,by omega,by omega,by omega,by omega⟩
 have d3':decide (n2=3)=false:=aK h3;obtain⟨e1,e2⟩:=out q a s (x:=(k,st,l,t,q,a2,s2)) (by unfold vo b;simp only[Lib.lt,c1,v1,c2,v2,d0,d1,d2',d3',au,ay]);exact⟨k,st,l,t,a2,s2,e1,e2,I2,by omega,by omega,by omega,by omega⟩
end VJ

namespace PW
open Lib (re En)
open dm (I)
open A_Post (jb)
theorem snoc(l:aC En)(k:aq)(st li:ax)(bo:aq):re l++aA (aN [Ck.s,Ck.i ao,Ck.i ao,Ck.s] 1) 0 [CV.s k,CV.i ao st,CV.i ao li,CV.s bo]=re (l++[⟨k,st,li,bo⟩]):=fm.sg l ⟨k,st,li,bo⟩
theorem walk{P:R->Prop}(N:aE)(q:aQ)(x2:ax)(K:ax->ax->aQ->ax->ax->aQ->az R)(hK:∀(l:aC En) (x3 a s:ax),l.length<=9->jb (K x2 x3 q a s (re l)) P):
  ∀(d i n:aE) (l:aC En) (a s:ax),9-i<=d->i<=9->d<n->l.length=i->I q a->jb (l5 N K n x2 (i:ax) q a s (re l)) P:=by
 intro d;induction d with
 |zero=>
  intro i n l a s h1 h2 h3 h4 h5;obtain⟨n,rfl⟩:∃k,n=k+1:=⟨n-1,by omega⟩
  rw[show l5 N K (n+1)=r5 N (l5 N K n) K from rfl];unfold r5;refine A_Post.below h5 (λx a1 s1 I1 g0 g1=> ?_);have:=g1 (by omega);exact A_Post.cn (aK (by dsimp only;omega)) (hK l _ _ _ (by omega))
 |succ d ih=>
  intro i n l a s h1 h2 h3 h4 h5;obtain⟨n,rfl⟩:∃k,n=k+1:=⟨n-1,by omega⟩
  rw[show l5 N K (n+1)=r5 N (l5 N K n) K from rfl];unfold r5;refine A_Post.below h5 (λx a1 s1 I1 g0 g1=> ?_);have:=g1 (by omega);by_cases h:(i:ax)<x
  ·have j7:bH ((i:ax)+1)=((i+1:aE):ax):=c9 (by omega) (by omega);refine A_Post.ck (aG (by dsimp only;omega)) ?_;obtain⟨k,st,li,t,a2,s2,c2,v2,I2,_⟩:=VJ.ok q a1 s1 I1;refine A_Post.call c2 v2 ?_;refine A_Post.ck (Lib.b_ (by rw[dA,fm.lj];omega) (by rw[dA,fm.lj];omega)) ?_;have:=ih (i+1) n (l++[⟨k,st,li,t⟩]) a2 s2 (by omega) (by omega) (by omega) (by rw[bV,h4];rfl) I2;rw[<-snoc]at this;rw[j7];exact this
  ·exact A_Post.cn (aK (by dsimp only;omega)) (hK l _ _ _ (by omega))
theorem ok(code:aQ)(hc:code.length<=1048576):∃(now:ax) (l:aC En),c code=ai/\v code=(now,re l)/\l.length<=9:=by
 obtain⟨h,c0,v0⟩:=Kc.ok code hc;have main:jb (vo code) (λx=>∃(now:ax) (l:aC En),x=(now,re l)/\l.length<=9):=by
  unfold vo;generalize hN:Lib.cU=N;have hN1:9<N:=by rw[<-hN];exact cC (by omega)
  clear hN;unfold b;refine A_Post.call c0 v0 ?_;refine A_Post.T7 (λ_=>True) ⟨by decide,λ_ _=>trivial⟩ ⟨Int.le_refl _,Int.natCast_nonneg _,hc⟩ (λnow a1 s1 I1 _=> ?_);exact walk N code now _ (λl _ _ _ hl=>A_Post.ret ⟨now,l,rfl,hl⟩) 9 0 N [] a1 s1 (cw _) (bB _) hN1 rfl I1
 obtain⟨x,hx,now,l,rfl,h1⟩:=main;obtain⟨c1,v1⟩:=out _ hx;exact⟨now,l,c1,v1,h1⟩
end PW

namespace uO
open Lib (rr rs re rf rc Px)
open qK (jw)
theorem ok(p:Px)(f:ax)(hp:p.Fit 1048576):c p.now (re p.en) (rs p.w) (rs p.m) (rr p.s) p.a (rf p.fe) (rc p.cl) p.hits f=ai/\v p.now (re p.en) (rs p.w) (rs p.m) (rr p.s) p.a (rf p.fe) (rc p.cl) p.hits f=(jw p&&decide (0<=f/\f<=(p.fe.length:ax)-1)):=by have h:=JH.ok p hp;have hf:=hp.fe;refine out _ _ _ _ _ _ _ _ _ _ ?_;unfold vo b;rw[h.1,h.2,au,dP,c9 (x:=(p.fe.length:ax)-1) (by omega) (by omega),show lr.v f 0 ((p.fe.length:ax)-1)=decide (0<=f/\f<=(p.fe.length:ax)-1)from fJ.eL _ _ _];cases jw p<;>rfl
end uO

namespace Aq
open Lib (rr rs re rf rc Px Cl el)
open vm (ec od ld)
theorem ok(p:Px)(f:aE)(hf:f<p.fe.length)(hl:p.fe.length<=2097152)(hc:p.cl.length<=2097152):
  c p.now (re p.en) (rs p.w) (rs p.m) (rr p.s) p.a (rf p.fe) (rc p.cl) p.hits (f:ax)=ai/\v p.now (re p.en) (rs p.w) (rs p.m) (rr p.s) p.a (rf p.fe) (rc p.cl) p.hits (f:ax)=(p.now,re p.en,rs p.w,rs p.m,rr p.s,p.a,rf p.fe,rc (od p.cl f 1 (el p.fe f).t),p.hits):=by
 refine out _ _ _ _ _ _ _ _ _ _ ?_;unfold vo b;rw[e9];have key:=nE Cl.row p.cl (λ_ c=>ec f 1 (el p.fe f).t c) (λn (i:aE) x=>l1 Lib.cU (λ(_ _ _ V2 Qc C_:ax) (E1 DS wc JO JP Vp:aQ)=>ah (V2,DS,wc,JO,JP,Qc,Vp,E1,C_)) n (f:ax) (p.cl.length:ax) (i:ax) p.now p.a p.hits x (re p.en) (rs p.w) (rs p.m) (rr p.s) (rf p.fe)) (λx=>ah (p.now,re p.en,rs p.w,rs p.m,rr p.s,p.a,rf p.fe,x,p.hits)) (λn i L h h2 hL vS=> ?_) (λn L hL=> ?_) Lib.cU (cC (by omega))
 ·rw[ld]at key;exact key
 ·have e2:ar (L.map Cl.row) i (1+1)=CV.i ao p.cl[i].fe:=by rw[fE _ L i _ h2,vS];rfl
  have e4:ar (L.map Cl.row) i (1+1+1+1)=CV.i ao p.cl[i].sta:=by rw[fE _ L i _ h2,vS];rfl
  have s1:eA (L.map Cl.row) i 5 [CV.s (el p.fe f).t]=(L.set i {p.cl[i]with got:=(el p.fe f).t}).map Cl.row:=kO Cl.row L i 5 _ _ h2 (by rw[vS];rfl);simp only[l1,r1,Lib.dn,h,h2,hf,bR,cQ,aP,Lib.cE,aM,au,Lib.dZ,e2,e4,bI,s1,pC,dP,E0 hf,bn,Lib.c6 h (by omega:p.cl.length<=9223372036854775807),c9 (x:=(f:ax)+1) (by omega) (by omega)];unfold ec;cases decide (p.cl[i].fe=(f:ax)+1)with
  |false=>rw[ly,ay,ay,<-vS,fw]
  |true=>
   cases hd:decide (p.cl[i].sta=1)with
   |false=>rw[bh,au,ay,ay,<-vS,fw]
   |true=>have e:=cm hd;rw[bh,au,au,au];rw[show({p.cl[i]with sta:=1,got:=(el p.fe f).t}:Cl)={p.cl[i]with got:=(el p.fe f).t}by rw[<-e]]
 ·simp only[l1,r1,Lib.dn,bm,bf,ay]
end Aq

namespace VK
open Lib (rr rs re rf rc Px el)
open ig (vk EO told jy nP jR xU)
theorem ok(p:Px)(f:ax)(q:aq)(hp:p.Fit 1048576):c p.now (re p.en) (rs p.w) (rs p.m) (rr p.s) p.a (rf p.fe) (rc p.cl) p.hits f q=ai/\v p.now (re p.en) (rs p.w) (rs p.m) (rr p.s) p.a (rf p.fe) (rc p.cl) p.hits f q=(p.now,re p.en,rs p.w,rs p.m,rr p.s,p.a,rf (EO p f q).1.fe,rc (EO p f q).1.cl,p.hits,(EO p f q).2):=by
 have h1:=iL.ok p hp;have h2:=uO.ok p f hp;have hf:=hp.fe;have hc:=hp.cl;refine out _ _ _ _ _ _ _ _ _ _ _ ?_;unfold vo b EO;simp only[Lib.lt,h1.1,h1.2,h2.1,h2.2,au];unfold vk;cases cf:qK.jw p&&decide (0<=f/\f<=(p.fe.length:ax)-1)with
 |false=>rw[<-nF (qK.jw p),cf];rfl
 |true=>
  rw[<-nF (qK.jw p),cf,bh];rw[aL,bg]at cf;obtain⟨n,rfl⟩:∃n:aE,f=(n:ax):=⟨f.toNat,by omega⟩
  have hn:n<p.fe.length:=by omega
  have w8:=ig.aab cf.1 n hn;unfold nI.nA at w8;simp only[aL,bg]at w8;have mY:=Qj.put (el p.fe n).sta (el p.fe n).t q w8.2.1 w8.2.2.1;simp only[aY,ay,au,Lib.cE,Lib.dn,dP,hn,aP,aM,Lib.dZ,zK hn,E0 hn,bI,bn,mY];cases hs:decide ((el p.fe n).sta=1)&&(decide (1<=q.size/\q.size<=40)&&decide ((el p.fe n).t.size+q.size<=400))with
  |false=>rfl
  |true=>
   have e1:=xU p.fe n 1 [CV.s ((el p.fe n).t++q)] {el p.fe n with t:=(el p.fe n).t++q} hn rfl;have GH:n<(p.fe.set n {el p.fe n with t:=(el p.fe n).t++q}).length:=by rw[cQ];exact hn
   have h3:=Aq.ok {p with fe:=p.fe.set n {el p.fe n with t:=(el p.fe n).t++q}} n GH (by rw[cQ];omega) (by dsimp only;omega);dsimp only at h3;rw[jR hn]at h3;simp only[aY,ay,au,e1,h3.1,h3.2];rfl
end VK

namespace vJ
open Lib (rr rs re rf rc Px Cl el)
open vm (ec od ld)
theorem ok(p:Px)(f:aE)(st:ax)(hf:f<p.fe.length)(hl:p.fe.length<=2097152)(hc:p.cl.length<=2097152):
  c p.now (re p.en) (rs p.w) (rs p.m) (rr p.s) p.a (rf p.fe) (rc p.cl) p.hits (f:ax) st=ai/\v p.now (re p.en) (rs p.w) (rs p.m) (rr p.s) p.a (rf p.fe) (rc p.cl) p.hits (f:ax) st=(p.now,re p.en,rs p.w,rs p.m,rr p.s,p.a,rf p.fe,rc (od p.cl f st (el p.fe f).t),p.hits):=by
 refine out _ _ _ _ _ _ _ _ _ _ _ ?_;unfold vo b;rw[e9];have key:=nE Cl.row p.cl (λ_ c=>ec f st (el p.fe f).t c) (λn (i:aE) x=>l1 Lib.cU (λ(_ _ _ _ C_ E1 DS:ax) (wc JO JP Vp V3 Qd:aQ)=>ah (C_,JO,JP,Vp,V3,E1,Qd,wc,DS)) n (f:ax) st (p.cl.length:ax) (i:ax) p.now p.a p.hits x (re p.en) (rs p.w) (rs p.m) (rr p.s) (rf p.fe)) (λx=>ah (p.now,re p.en,rs p.w,rs p.m,rr p.s,p.a,rf p.fe,x,p.hits)) (λn i L h h2 hL vS=> ?_) (λn L hL=> ?_) Lib.cU (cC (by omega))
 ·rw[ld]at key;exact key
 ·have e2:ar (L.map Cl.row) i (1+1)=CV.i ao p.cl[i].fe:=by rw[fE _ L i _ h2,vS];rfl
  have e4:ar (L.map Cl.row) i (1+1+1+1)=CV.i ao p.cl[i].sta:=by rw[fE _ L i _ h2,vS];rfl
  have s1:eA (L.map Cl.row) i 4 [CV.i ao st]=(L.set i {p.cl[i]with sta:=st}).map Cl.row:=kO Cl.row L i 4 _ _ h2 (by rw[vS];rfl);have h3:i<(L.set i {p.cl[i]with sta:=st}).length:=by simpa using h2
  have s2:eA ((L.set i {p.cl[i]with sta:=st}).map Cl.row) i 5 [CV.s (el p.fe f).t]=((L.set i {p.cl[i]with sta:=st}).set i {p.cl[i]with sta:=st,got:=(el p.fe f).t}).map Cl.row:=kO Cl.row _ i 5 _ _ h3 (by rw[kB];rfl);simp only[l1,r1,Lib.dn,h,h2,hf,bR,cQ,aP,Lib.cE,aM,au,Lib.dZ,e2,e4,bI,s1,s2,pC,dP,E0 hf,bn,Lib.c6 h (by omega:p.cl.length<=9223372036854775807),c9 (x:=(f:ax)+1) (by omega) (by omega)];unfold ec;cases decide (p.cl[i].fe=(f:ax)+1)with
  |false=>rw[ly,ay,ay,<-vS,fw]
  |true=>
   cases decide (p.cl[i].sta=1)with
   |false=>rw[bh,au,ay,ay,<-vS,fw]
   |true=>rw[bh,au,au,au]
 ·simp only[l1,r1,Lib.dn,bm,bf,ay]
end vJ

namespace Oh
open Lib (rr rs re rf rc Px En el)
open gj (So fX mZ)
open lU (C9)
theorem ok(p:Px)(e:En)(r6 r7:aQ)(hp:p.Fit 1048575)(hso:So p.en)(hk:e.k.size<=140737488355328):
  c p.now (re p.en) (rs p.w) (rs p.m) (rr p.s) p.a r6 r7 p.hits e.k e.st e.li e.bo=ai/\v p.now (re p.en) (rs p.w) (rs p.m) (rr p.s) p.a r6 r7 p.hits e.k e.st e.li e.bo=(p.now,re (C9 p e).en,rs (C9 p e).w,rs (C9 p e).m,rr (C9 p e).s,(C9 p e).a,r6,r7,p.hits):=by have he:=hp.en;have hw:=hp.w;have hm:=hp.m;obtain⟨b1,b2,b3⟩:=eV.LI p.w p.m p.s p.a e.k;have h1:=zg.ok p.w p.m p.s p.a e.k (by omega) (by omega) ⟨dg hp.s.1 (by omega),λq hq=>dg (hp.s.2.1 q hq) (by omega)⟩ hk;refine out _ _ _ _ _ _ _ _ _ _ _ _ _ ?_;unfold vo b C9;generalize eV.val p.w p.m p.s p.a e.k=V at h1 b1 b2 b3;obtain⟨W,M,T,A,G⟩:=V;dsimp only at h1 b1 b2⊢;have h2:=pD.ok (re p.en) G (gj.RU _) (by rw[dA];omega);rw[gj.Gq]at h2;have h3:=sq.ok W M (rr T) A e.k (by omega) (by omega);have hd:=gj.wQ p.en G;have h4:=uM.ok (re (fX p.en G)) e.k e.st e.li e.bo (gj.Cv (hso.drop G)) (by rw[dA];omega);rw[gj.tG]at h4;simp only[Lib.lt,h1.1,h1.2,h2.1,h2.2,h3.1,h3.2,h4.1,h4.2,au];cases fg.has W e.k||fg.has M e.k<;>rfl
end Oh

namespace Dm
open Lib (rr rs re rf rc Px el)
open ig (vk told jy nP jR xU)
open u0 (cls lF)
theorem ok(p:Px)(f life:ax)(hp:p.Fit 1048576):c p.now (re p.en) (rs p.w) (rs p.m) (rr p.s) p.a (rf p.fe) (rc p.cl) p.hits f life=ai/\v p.now (re p.en) (rs p.w) (rs p.m) (rr p.s) p.a (rf p.fe) (rc p.cl) p.hits f life=(p.now,re (cls p f life).1.en,rs (cls p f life).1.w,rs (cls p f life).1.m,rr (cls p f life).1.s,(cls p f life).1.a,rf (cls p f life).1.fe,rc (cls p f life).1.cl,p.hits,(cls p f life).2):=by
 have h1:=iL.ok p hp;have h2:=uO.ok p f hp;have hf:=hp.fe;have hc:=hp.cl;refine out _ _ _ _ _ _ _ _ _ _ _ ?_;unfold vo b cls;simp only[Lib.lt,h1.1,h1.2,h2.1,h2.2,au];unfold vk;cases cf:qK.jw p&&decide (0<=f/\f<=(p.fe.length:ax)-1)with
 |false=>rw[<-nF (qK.jw p),cf];rfl
 |true=>
  rw[<-nF (qK.jw p),cf,bh];rw[aL,bg]at cf;obtain⟨n,rfl⟩:∃n:aE,f=(n:ax):=⟨f.toNat,by omega⟩
  have hn:n<p.fe.length:=by omega
  obtain⟨so,_,_,_,_,_,_,_,_,_,w8⟩:=lU.G3 cf.1;have w8:=w8 n hn;unfold nI.nA at w8;rw[aL]at w8;have AH:=eV.kG w8.1;simp only[aY,ay,au,Lib.cE,Lib.dn,dP,hn,aP,aM,Lib.dZ,zK hn,bI];rw[show((el p.fe n).sta !=1)= !decide ((el p.fe n).sta=1)from rfl,show lr.v life 0 999999=decide (0<=life/\life<=999999)from fJ.eL _ _ _];cases hs:decide ((el p.fe n).sta=1)with
  |false=>rfl
  |true=>
   cases hl:decide (0<=life/\life<=999999)with
   |false=>rfl
   |true=>
    have e1:=xU p.fe n 2 [CV.i ao 2] {el p.fe n with sta:=2} hn rfl;have n1:n<(p.fe.set n {el p.fe n with sta:=2}).length:=by rw[cQ];exact hn
    have e2:=xU (p.fe.set n {el p.fe n with sta:=2}) n 3 [CV.i ao life] {el p.fe n with sta:=2,li:=life} n1 (by rw[jR hn];rfl);rw[pC]at e2;have n2:n<(p.fe.set n {el p.fe n with sta:=2,li:=life}).length:=by rw[cQ];exact hn
    have e3:=xU (p.fe.set n {el p.fe n with sta:=2,li:=life}) n 4 [CV.i ao p.now] {el p.fe n with sta:=2,li:=life,st:=p.now} n2 (by rw[jR hn];rfl);rw[pC]at e3;generalize hg:({el p.fe n with sta:=2,li:=life,st:=p.now}:Lib.Fe)=g at e3;have n3:n<(p.fe.set n g).length:=by rw[cQ];exact hn
    have h3:=vJ.ok {p with fe:=p.fe.set n g} n 2 n3 (by rw[cQ];omega) (by dsimp only;omega);dsimp only at h3;rw[jR hn]at h3;have hk:g.k=(el p.fe n).k:=by rw[<-hg]
    have h4:=Oh.ok (told p n g 2) (lF g) (rf (p.fe.set n g)) (rc (told p n g 2).cl) ((nP (lU.jI cf.1)).le (by omega)) so (by show g.k.size<=_;rw[hk];omega);have z0:bn (ar (rf (p.fe.set n g)) n 0)=g.k:=by rw[Hg n3,jR hn];rfl
    have z1:bn (ar (rf (p.fe.set n g)) n 1)=g.t:=by rw[E0 n3,jR hn];rfl
    have gl:g.li=life:=by rw[<-hg]
    have gs:g.st=p.now:=by rw[<-hg]
    unfold lF at h4;dsimp only[told]at h4;rw[gl,gs]at h4;unfold lF told;simp only[aY,ay,au,e1,e2,e3,h3.1,h3.2,z0,z1,gl,gs];cases decide (life>0)with
    |true=>simp only[au,h4.1,h4.2];rfl
    |false=>rfl
end Dm

namespace vI
open Lib (rd el Fi)
open dH (j6 act ra Ac wa0 wa1 wa2 wa3 rM AY)
theorem ok(l:aC Fi)(a:aC Ac)(hl:l.length<=1000)(ha:a.length<=1000000)(ht:∀x∈a,x.t.size<=2305843009213693952):c (rd l) (ra a)=ai/\v (rd l) (ra a)=(rd (j6 l 0 a).1,((j6 l 0 a).2:ax)):=by
 refine out _ _ ?_;unfold vo b;have h1:=sU.ok (rd l) (by rw[er];omega);rw[h1.1,h1.2,au,rM]
 have key:∀(d i n:aE) (l:aC Fi),a.length-i<=d->i<=a.length->l.length<=1000->d<n->
   l3 Lib.cU (λ(_:aQ) (y7:ax) (_:aQ) (_ _:ax) (uC:aQ)=>ah (uC,y7)) (λ(LP:aQ) (_:ax) (_:aQ) (_ _:ax) (C_:aQ)=>ah (C_,(↑(bM LP):ax))) n (ra a) 0 (ra a) (a.length:ax) (i:ax) (rd l)=ah (rd (j6 l i (a.drop i)).1,((j6 l i (a.drop i)).2:ax)):=by
  intro d
  induction d with
  |zero=>
   intro i n l e1 e2 e3 e4;obtain⟨n,rfl⟩:∃n',n=n'+1:=⟨n-1,by omega⟩
   have:i=a.length:=by omega
   subst this;simp only[l3,r3,Lib.dn,bm,bf,ay,rM,di,j6]
  |succ d ih=>
   intro i n l e1 e2 e3 e4;obtain⟨n,rfl⟩:∃n',n=n'+1:=⟨n-1,by omega⟩
   by_cases hi:i<a.length
   ·have hd:=rq.ok l (el a i).k (el a i).n (el a i).t (el a i).o e3 (ht _ (mh hi));simp only[l3,r3,Lib.dn,rM,hi,aP,Lib.cE,aM,au,Lib.dZ,wa0 hi,wa1 hi,wa2 hi,wa3 hi,bn,bI,hd.1,hd.2,Lib.c6 hi (by omega:a.length<=9223372036854775807)];rw[dD hi,<-fF hi];unfold j6;cases hac:act l (el a i).k (el a i).n (el a i).t (el a i).o with
    |none=>rfl
    |some e=>have:=(AY hac).2;exact ih (i+1) n e (by omega) hi (by omega) (by omega)
   ·have:i=a.length:=by omega
    subst this;simp only[l3,r3,Lib.dn,bm,bf,ay,rM,di,j6]
 exact key a.length 0 Lib.cU l (by omega) (bB _) hl (cC (by omega))
end vI

namespace VL
open Lib (rr rs re rf rc rd Px En el Hg E0 Qa Qb)
open g9 (Wo Ev closed)
open km (dk es)
open ie (sK)
open fm (ri ud sg jI)
open u0 (cls lF)
theorem ok{i:aE}{w:Wo}(h:sK i w)(hi:i<=71)(id life:ax)(hl:0<=life/\life<=999999):c w.p.now (re w.p.en) (rs w.p.w) (rs w.p.m) (rr w.p.s) w.p.a (rf w.p.fe) (rc w.p.cl) w.p.hits (rd (dk w.o)) (ri w.cd) (re w.bd) id life=ai/\v w.p.now (re w.p.en) (rs w.p.w) (rs w.p.m) (rr w.p.s) w.p.a (rf w.p.fe) (rc w.p.cl) w.p.hits (rd (dk w.o)) (ri w.cd) (re w.bd) id life=((cls w.p id life).2,ud (closed w id life).1):=by
 refine out _ _ _ _ _ _ _ _ _ _ _ _ _ _ ?_;have hbd:=h.bd;have VV:=h.tx hi;have hdl:=km.BV w.o;have A:=Dm.ok w.p id life (jI h.px);obtain⟨q1,q2⟩:=ie.Km (f:=id) h.px hl;obtain⟨s1,s2⟩:=u0.Ie (p:=w.p) (f:=id) (life:=life);have mD:=jI q1;unfold vo b;rw[A.1,au,A.2,fm.lt_eq];unfold closed ud;dsimp only;rw[<-s1,<-s2];generalize cls w.p id life=Q at q1 q2 s1 s2 mD;obtain⟨q,ok⟩:=Q;dsimp only at q1 q2 s1 s2 mD⊢;rcases q2 with ⟨r1,r2⟩|⟨r1,n,rn,hn,rf_,rs_,rl⟩
 ·subst r1;rfl
 subst r1;rw[aY,ay];by_cases hz:life=0
 ·rw[aG hz,au,bh,aK (show¬life>0 by omega)];rfl
 rw[aK hz,ay,bh,aG (show life>0 by omega),au];obtain⟨t1,t2⟩:=rl (by omega);have GH:n<q.fe.length:=by rw[rf_,cQ];exact hn
 have OO:el q.fe n={el w.p.fe n with sta:=2,li:=life,st:=w.p.now}:=by rw[rf_,ig.jR hn]
 subst rn;rw[eQ];have B:=sq.ok q.w q.m (rr q.s) q.a (el q.fe n).k mD.w mD.m;have C:=uP.ok (el q.fe n).k (el q.fe n).st (el q.fe n).li (el q.fe n).t;have hE:nk.v (el q.fe n).k (el q.fe n).st (el q.fe n).li (el q.fe n).t=true:=by rw[OO];exact t1
 have C6:=ie.KD (e:=lF (el q.fe n)) hE;rw[uP.val,bw hE,show uP.j6 (fH.fr (jE.sH (el q.fe n).k (el q.fe n).st (el q.fe n).li (el q.fe n).t))=dH.ra (iY.sa (iY.Hy (lF (el q.fe n))))from rfl]at C;have D:=vI.ok (dk w.o) (iY.sa (iY.Hy (lF (el q.fe n)))) (by omega) (by unfold iY.sa;simp) (λx hx=>by
  unfold iY.sa at hx;simp only[cu,lL,or_false]at hx;rcases hx with rfl|rfl
  ·show(iY.Hy (lF (el q.fe n))).size<=_;omega
  ·exact bB _)
 rw[km.MO (by omega)]at D;have hP:(fg.has q.w (el q.fe n).k||fg.has q.m (el q.fe n).k)=true:=by rw[OO];exact t2
 rw[hP]at B;have room:∀y,cg ((re w.bd).length+(aA (aN [Ck.s,Ck.i ao,Ck.i ao,Ck.s] 1) 0 y).length) 48=true:=λy=>by rw[dA,fm.lj];exact Lib.b_ (by omega) (by omega)
 have sn:=sg w.bd (lF (el q.fe n));unfold lF at sn C D;dsimp only at sn;simp only[fm.lt_eq,dP,Lib.dn,GH,aP,Lib.cE,aM,au,Lib.dZ,Hg GH,E0 GH,Qa GH,Qb GH,bn,bI,B.1,B.2,C.1,C.2,D.1,D.2,room,sn,show lF (el q.fe n)=⟨(el q.fe n).k,(el q.fe n).st,(el q.fe n).li,(el q.fe n).t⟩from rfl]
end VL

namespace VM
open Lib (rr rs re rf rc Px el)
open ig (vk Ei told jy nP jR xU)
theorem ok(p:Px)(f:ax)(hp:p.Fit 1048576):c p.now (re p.en) (rs p.w) (rs p.m) (rr p.s) p.a (rf p.fe) (rc p.cl) p.hits f=ai/\v p.now (re p.en) (rs p.w) (rs p.m) (rr p.s) p.a (rf p.fe) (rc p.cl) p.hits f=(p.now,re p.en,rs p.w,rs p.m,rr p.s,p.a,rf (Ei p f).1.fe,rc (Ei p f).1.cl,p.hits,(Ei p f).2):=by
 have h1:=iL.ok p hp;have h2:=uO.ok p f hp;have hf:=hp.fe;have hc:=hp.cl;refine out _ _ _ _ _ _ _ _ _ _ ?_;unfold vo b Ei;simp only[Lib.lt,h1.1,h1.2,h2.1,h2.2,au];unfold vk;cases cf:qK.jw p&&decide (0<=f/\f<=(p.fe.length:ax)-1)with
 |false=>rw[<-nF,cf];rfl
 |true=>
  rw[<-nF,cf,bh];rw[aL,bg]at cf;obtain⟨n,rfl⟩:∃n:aE,f=(n:ax):=⟨f.toNat,by omega⟩
  have hn:n<p.fe.length:=by omega
  simp only[aY,ay,au,Lib.cE,Lib.dn,dP,hn,aP,aM,Lib.dZ,zK hn,bI];cases hs:decide ((el p.fe n).sta=1)with
  |false=>rw[show((el p.fe n).sta !=1)= !decide ((el p.fe n).sta=1)from rfl,hs];rfl
  |true=>
   have e1:=xU p.fe n 2 [CV.i ao 3] {el p.fe n with sta:=3} hn rfl;have GH:n<(p.fe.set n {el p.fe n with sta:=3}).length:=by rw[cQ];exact hn
   have h3:=vJ.ok {p with fe:=p.fe.set n {el p.fe n with sta:=3}} n 3 GH (by rw[cQ];omega) (by dsimp only;omega);dsimp only at h3;rw[jR hn]at h3;rw[show((el p.fe n).sta !=1)= !decide ((el p.fe n).sta=1)from rfl,hs];simp only[aY,ay,au,e1,h3.1,h3.2];rfl
end VM

namespace Dh
open Lib (rr rs re rf rc Px)
open sr (tm later)
theorem md(n:ax):Ar.c n 1000=ai/\Ar.v n 1000=n%1000:=by
 refine Ar.out _ _ ?_;unfold Ar.vo Ar.b;have t:=tm n;rw[show(!decide ((1000:ax)=0))=ai from rfl,au,au];congr 1;by_cases hn:cK n 1000<0
 ·have e:=t.2 hn;rw[e,c9 (x:=n%1000) (by omega) (by omega),ij (by omega)];omega
 ·have e:=t.1 (by omega);rw[e,c9 (x:=n%1000+1000) (by omega) (by omega),ij (by omega)];omega
theorem ok(p:Px)(n:ax)(hp:p.Fit 1048576):c p.now (re p.en) (rs p.w) (rs p.m) (rr p.s) p.a (rf p.fe) (rc p.cl) p.hits n=ai/\v p.now (re p.en) (rs p.w) (rs p.m) (rr p.s) p.a (rf p.fe) (rc p.cl) p.hits n=((sr.val p n).now,re p.en,rs p.w,rs p.m,rr p.s,p.a,rf p.fe,rc p.cl,p.hits):=by have h:=iL.ok p hp;have hm:=md n;refine out _ _ _ _ _ _ _ _ _ _ ?_;unfold vo b sr.val later;simp only[Lib.lt,h.1,h.2,hm.1,hm.2,au];rw[c9 (x:=1000000000-n%1000) (by omega) (by omega)];cases decide (p.now>1000000000-n%1000)<;>rfl
end Dh

namespace na
def p(s:aQ)(k:ax)(i:aE):aW:=decide (bI (ar s i 0)=k)
theorem ok(d:aQ)(n:ax)(hl:d.length<=4294967296):c d n=ai/\v d n=Lib.fi (p d n) d.length 0:=by
 refine out d n ?_;unfold vo b;refine nY (p d n) d.length (λm (i:aE)=>l2 Lib.cU (λ(_:aQ) (_:ax) (y7 _ _:ax)=>ah y7) (λ(_:aQ) (_:ax) (_ _ _:ax)=>ah (-1)) m d n 0 (d.length:ax) (i:ax)) ah (λm i hi hp=> ?_) (λm i hi hp=> ?_) (λm=> ?_) Lib.cU (cC (by omega))
 ·unfold p at hp;simp only[l2,r2,Lib.dn,Lib.cE,Lib.dZ,hi,aP,aM,au,Au.v,hp]
 ·unfold p at hp;simp only[l2,r2,Lib.dn,Lib.cE,Lib.dZ,hi,aP,aM,au,Au.v,hp,ay,Lib.c6 hi (by omega:d.length<=9223372036854775807)]
 ·simp only[l2,r2,Lib.dn,bm,bf,ay]
end na

namespace wA
def cn(y:aC CV):aW:=match y with|[.i .i64 _, .s _, .i .i64 _, .i .i64 _, .i .i64 _, .s _, .i .i64 _]=>ai|_=>ak
def cr(y:aC CV):aC CV:=[CV.i ao (bI (y.getD 0 (.b ak))),CV.s (bn (y.getD 1 (.b ak))),CV.i ao (bI (y.getD 2 (.b ak))),CV.i ao (bI (y.getD 3 (.b ak))),CV.i ao (bI (y.getD 4 (.b ak))),CV.s (bn (y.getD 5 (.b ak))),CV.i ao (bI (y.getD 6 (.b ak)))]
theorem s_{y:aC CV}(h:cn y=ai):cr y=y:=by
 unfold cn at h;split at h
 ·rfl
 ·cases h
theorem mj{y:aC CV}(h:cn y=ai):y.length=7:=by rw[<-s_ h];rfl
def keep(d:ax)(y:aC CV):aW:= !decide (bI (y.getD 0 (.b ak))=d)
theorem il(d:ax){s:aQ}{i:aE}(h:i<s.length):(s.take (i+1)).filter (keep d)=(s.take i).filter (keep d)++(bif keep d s[i]then [s[i]]else []):=by rw[cB h,ik];cases hk:keep d s[i]<;>simp[hk]
theorem run(N:aE)(s0:aQ)(d:ax)(hc:s0.all cn=ai)(hn:s0.length<=9223372036854775807)(K:ax->ax->ax->aQ->az R)(kr:aQ->az R)
  (hK:∀(j:aE) x,x.length=s0.length->j<=s0.length->K d j s0.length x=kr (x.take j)) (m j i:aE) (x:aQ)
  (hi:j<i/\i<=s0.length/\x.length=s0.length/\(∀y∈x,y.length=7)/\x.take j=(s0.take i).filter (keep d)/\x.drop i=s0.drop i) (hm:s0.length-i<m):
  l5 N K m d j i x=kr (s0.filter (keep d)):=by
 have KJ:∀y∈s0,cn y=true:=bu.1 hc
 refine Lib.fQ (λm (s:aE×aE×aQ)=>l5 N K m d s.1 s.2.1 s.2.2) (λs=>s0.length-s.2.1)
  (λs=>s.1<s.2.1/\s.2.1<=s0.length/\s.2.2.length=s0.length/\(∀y∈s.2.2,y.length=7)/\s.2.2.take s.1=(s0.take s.2.1).filter (keep d)/\s.2.2.drop s.2.1=s0.drop s.2.1)
  (λ_=>kr (s0.filter (keep d))) (λm s hs=> ?_) m (j,i,x) hi hm
 obtain⟨j,i,x⟩:=s;obtain⟨h1,h2,h3,h4,h5,h6⟩:=hs;simp only at h1 h2 h3 h4 h5 h6⊢;by_cases gz:i<s0.length
 ·right;have oh:i<x.length:=by omega
  have GG:j<x.length:=by omega
  have hx:x[i]=s0[i]:=by have e1:=Lib.eF oh;have e2:=Lib.eF gz;rw[h6,e2]at e1;exact(kg e1).1.symm
  have hd:x.drop (i+1)=s0.drop (i+1):=by have e1:=Lib.eF oh;have e2:=Lib.eF gz;rw[h6,e2]at e1;exact(kg e1).2.symm
  have KL:=KJ _ (bA gz);have hf:=il d gz;cases hk:keep d s0[i]with
  |true=>
   refine⟨(j+1,i+1,x.set j s0[i]), ?_,by simp only;omega,trivial, ?_⟩
   ·rw[hk,au,<-h5]at hf;refine⟨by simp only;omega,by simp only;omega,by simpa using h3, ?_, ?_, ?_⟩
    ·intro y hy;rcases jD hy with h|h
     ·exact h4 y h
     ·rw[h];exact mj KL
    ·rw[hf];rw[cB (by simpa using GG)];simp[wx]
    ·simp only;rw[wv (by omega)];exact hd
   ·have e:Au.v (bI (ar x i 0)) (bn (ar x i 1)) (bI (ar x i (1+1))) (bI (ar x i (1+1+1))) (bI (ar x i (1+1+1+1))) (bn (ar x i (1+1+1+1+1))) (bI (ar x i (1+1+1+1+1+1))) d=false:=by
     have:(!Au.v (bI (ar x i 0)) (bn (ar x i 1)) (bI (ar x i (1+1))) (bI (ar x i (1+1+1))) (bI (ar x i (1+1+1+1))) (bn (ar x i (1+1+1+1+1))) (bI (ar x i (1+1+1+1+1+1))) d)=true:=by rw[Lib.cD oh,hx];exact hk
     simpa using this
    have es:eA x j 0 [CV.i ao (bI (ar x i 0)),CV.s (bn (ar x i 1)),CV.i ao (bI (ar x i (1+1))),CV.i ao (bI (ar x i (1+1+1))),CV.i ao (bI (ar x i (1+1+1+1))),CV.s (bn (ar x i (1+1+1+1+1))),CV.i ao (bI (ar x i (1+1+1+1+1+1)))]=x.set j s0[i]:=by
     have hl:=h4 _ (bA GG);rw[Lib.Bj GG,Lib.cD oh,Lib.cD oh,Lib.cD oh,Lib.cD oh,Lib.cD oh,Lib.cD oh,Lib.cD oh,hx];have:iD x[j] 0 (cr s0[i])=s0[i]:=by rw[s_ KL];unfold iD;have:=mj KL;simp[hl,this,gT]
     unfold cr at this;rw[this]
    have b1:(j:ax)<(x.length:ax):=by omega
    simp only[l5,r5,Lib.dn,Lib.cE,Lib.dZ,oh,GG,aP,bh,au,e,bQ,es,Lib.c6 gz hn,Lib.c6 (show j<s0.length by omega) hn]
  |false=>
   refine⟨(j,i+1,x), ?_,by simp only;omega,trivial, ?_⟩
   ·rw[hk,ay,dj,<-h5]at hf;exact⟨by simp only;omega,by simp only;omega,h3,h4,hf.symm,hd⟩
   ·have e:Au.v (bI (ar x i 0)) (bn (ar x i 1)) (bI (ar x i (1+1))) (bI (ar x i (1+1+1))) (bI (ar x i (1+1+1+1))) (bn (ar x i (1+1+1+1+1))) (bI (ar x i (1+1+1+1+1+1))) d=true:=by
     have:(!Au.v (bI (ar x i 0)) (bn (ar x i 1)) (bI (ar x i (1+1))) (bI (ar x i (1+1+1))) (bI (ar x i (1+1+1+1))) (bn (ar x i (1+1+1+1+1))) (bI (ar x i (1+1+1+1+1+1))) d)=false:=by rw[Lib.cD oh,hx];exact hk
     simpa using this
    simp only[l5,r5,Lib.dn,Lib.cE,Lib.dZ,oh,aP,bh,au,e,aY,ay,Lib.c6 gz hn]
 ·left;have:i=s0.length:=by omega
  subst this;rw[dK]at h5;have e:=hK j x h3 (by omega);rw[h5]at e;have oh:¬s0.length<x.length:=by omega
  simp only[l5,r5,Lib.dn,oh,bf,ay,e]
theorem ok(s0:aQ)(iV:ax)(hc:s0.all cn=ai)(hn:s0.length<=4294967296):c s0 iV=ai/\v s0 iV=s0.filter (keep iV):=by
 refine out s0 iV ?_;have hv:=na.ok s0 iV hn;unfold vo b;rw[hv.1,hv.2,au];rcases Lib.o_ (na.p s0 iV) s0.length 0 with ⟨h,nN⟩|⟨k,_,zW,hk,KN,KI⟩
 ·rw[h];have:s0.filter (keep iV)=s0:=by rw[eE];intro y hy;obtain⟨i,hi,rfl⟩:=c8 hy;have:=nN i (bB _) (by omega);unfold na.p at this;rw[Lib.cD hi]at this;unfold keep;rw[this];rfl
  rw[this];rfl
 ·rw[hk];have DD:k<s0.length:=by omega
  have iw:decide ((k:ax)=oS 1)=false:=aK (by show¬(k:ax)= -1;omega);rw[iw,ay,Lib.c6 DD (by omega)];have KJ:∀y∈s0,cn y=true:=bu.1 hc;refine run _ s0 iV hc (by omega) _ ah (λj x hx hj=> ?_) _ k (k+1) s0 ⟨by omega,by omega,rfl,λy hy=>mj (KJ y hy), ?_,rfl⟩ (cC (by omega))
  ·have b1:iy (j:ax) (s0.length:ax) (s0.length:ax)=true:=by simp[iy];omega
   have e:gW j x++aN [Ck.i ao,Ck.s,Ck.i ao,Ck.i ao,Ck.i ao,Ck.s,Ck.i ao] (s0.length-j)++m8 s0.length x=gW j x++aN [Ck.i ao,Ck.s,Ck.i ao,Ck.i ao,Ck.i ao,Ck.s,Ck.i ao] (s0.length-j):=by rw[gT (by omega),dj]
   have hl:(gW j x).length=j:=by simp;omega
   simp only[hx,Lib.dZ,b1,au,e];rw[Lib.s6 (by simp[iy];omega)];unfold eW;rw[show aZ 0=0 from rfl,fu,rX,oU (by omega),ja (by omega)]
  ·rw[il iV DD];have e1:keep iV s0[k]=false:=by unfold na.p at KN;rw[Lib.cD DD]at KN;unfold keep;rw[KN];rfl
   have e2:(s0.take k).filter (keep iV)=s0.take k:=by
    rw[eE];intro y hy;obtain⟨i,hi,rfl⟩:=c8 hy;have VS:i<k:=by simp at hi;omega
    have:=KI i (bB _) VS;unfold na.p at this;rw[Lib.cD (by omega)]at this;rw[nh];unfold keep;rw[this];rfl
   rw[e1,e2,ay,dj]
end wA

namespace Di
open Lib (rr rs re rf rc Px Cl)
theorem ah_(l:aC Cl):(rc l).all wA.cn=true:=by rw[bu];intro y hy;unfold Lib.rc at hy;obtain⟨z,_,rfl⟩:=cX.1 hy;rfl
theorem aec(l:aC Cl)(id:ax):(rc l).filter (wA.keep id)=rc (l.filter λc=> !decide (c.id=id)):=by unfold Lib.rc;rw[oT];rfl
theorem ok(p:Px)(id:ax)(hp:p.Fit 1048576):c p.now (re p.en) (rs p.w) (rs p.m) (rr p.s) p.a (rf p.fe) (rc p.cl) p.hits id=ai/\v p.now (re p.en) (rs p.w) (rs p.m) (rr p.s) p.a (rf p.fe) (rc p.cl) p.hits id=(p.now,re p.en,rs p.w,rs p.m,rr p.s,p.a,rf p.fe,rc (uQ.val p id).cl,p.hits):=by have h:=iL.ok p hp;have hc:=hp.cl;have h2:=wA.ok (rc p.cl) id (ah_ _) (by rw[e9];omega);rw[aec]at h2;exact out _ _ _ _ _ _ _ _ _ _ (by unfold vo b;simp only[Lib.lt,h.1,h.2,h2.1,h2.2,au];rfl)
end Di

namespace Av
theorem ok(d l:aQ)(hd:d.length<=1048576)(hl:l.length<=1048576):c d l=ai/\v d l=jF.val d l:=by
 refine out d l ?_;have k1:=ia.ok d (by omega);have k2:=uL.ok d {data:= #[aw 110,aw 101,aw 119]} (by omega);have e2:vO.val d {data:= #[aw 110,aw 101,aw 119]}=vO.val d jF.nm:=rfl;unfold vo b jF.val;rw[k1.1,k1.2,au];cases gO.val d with
 |false=>rfl
 |true=>
  rw[aY,ay,au];have tr:∀(K0 K1:aW->aq->aQ->ax->ax->aQ->az (aQ×aW)) (kt:aq->az (aQ×aW)) (h0:∀x i,K0 ak x l l.length i d=ah ([],ak)) (h1:∀x i,K1 ak x l l.length i d=kt x),l5 Lib.cU K0 K1 Lib.cU ak ⟨#[]⟩ l l.length 0 d=jF.fin (jF.fs l l.length 0 ⟨#[]⟩) (ah ([],ak)) kt:=by
   intro K0 K1 kt h0 h1;refine jF.MK l hl (λm i acc=>l5 Lib.cU K0 K1 m ak acc l l.length (i:ax) d) _ kt (λm i acc hi ha hf ho=> ?_) (λm i acc hi ho=> ?_) (λm acc=> ?_)
   ·have j7:bH ((i:ax)+1)=((i+1:aE):ax):=c9 (by omega) (by omega);have f1:=mN.ok (bn (ar l i 0)) (bI (ar l i 1)) (bI (ar l i (1+1))) (bn (ar l i (1+1+1)));have f2:mN.val (bn (ar l i 0)) (bI (ar l i 1)) (bI (ar l i (1+1))) (bn (ar l i (1+1+1)))=(fH.fr (jF.tx l i),ai):=by unfold mN.val;exact bw ho
    simp only[l5,r5,Lib.dn,Lib.cE,Lib.dZ,hi,aP,aM,au,ay,f1.1,f1.2,f2,aY,aG (show acc.size+(fH.fr (jF.tx l i)).size<=4611686018427387904 by omega),j7]
   ·have f1:=mN.ok (bn (ar l i 0)) (bI (ar l i 1)) (bI (ar l i (1+1))) (bn (ar l i (1+1+1)));have f2:mN.val (bn (ar l i 0)) (bI (ar l i 1)) (bI (ar l i (1+1))) (bn (ar l i (1+1+1)))=(⟨#[]⟩,ak):=by unfold mN.val;rw[bG (by intro h;have h':jF.eo l i=true:=h;rw[ho]at h';cases h')]
    simp only[l5,r5,Lib.dn,Lib.cE,Lib.dZ,hi,aP,aM,au,f1.1,f1.2,f2,bQ];exact h0 acc i
   ·simp only[l5,r5,Lib.dn,bm,bf,ay];exact h1 acc _
  refine(tr _ _ (λx=>ah (jF.j6 (vO.val d jF.nm).2 x,ai)) (λ_ _=>rfl) (λx _=> ?_)).trans ?_
  ·rw[k2.1,au,k2.2,e2];cases (vO.val d jF.nm).2<;>rfl
  ·cases jF.fs l l.length 0 ⟨#[]⟩<;>rfl
end Av

namespace Kb
open Lib (rr rs re rf rc Px En el pz rR rS rT)
open fL (se tf one rE xO zl p0)
theorem ok(now:ax)(l:aC En)(hl:l.length<=1048576):
  c now (re l)=ai/\v now (re l)=(now,re (se now l).en,rs (se now l).w,rs (se now l).m,rr (se now l).s,(se now l).a,[],[],0):=by
 refine out _ _ ?_;unfold vo b;rw[dA];have key:=lY l.length (λn (i:aE) (p:Px)=>l4 Lib.cU (λ(_:ax) (_:aQ) (_ _ _ _ _ V3 Qd Qe:ax) (HC Qf Qg Qh Qi PM:aQ)=>ah (V3,HC,Qf,Qg,Qh,Qd,Qi,PM,Qe)) n now (re l) (l.length:ax) (i:ax) 0 0 0 now p.a 0 (re p.en) (rs p.w) (rs p.m) (rr p.s) [] []) (λi=>se now (l.take i)) (ah (now,re (se now l).en,rs (se now l).w,rs (se now l).m,rr (se now l).s,(se now l).a,[],[],0)) (λn i hi=>by
  have I:=rE now l i (by omega);have hs:=xO now l i hi;generalize se now (l.take i)=p at I hs;rw[hs];unfold one;have hw:bH ((i:ax)+1)=((i+1:aE):ax):=Lib.c6 hi (by omega);cases hf:tf (el l i) now with
  |false=>have vd:Ge.v (el l i).k (el l i).st (el l i).li (el l i).bo now=false:=hf;simp only[l4,r4,dA,Lib.dn,hi,aP,Lib.cE,aM,au,Lib.dZ,pz hi,rR hi,rS hi,rT hi,bn,bI,vd,ay,hw]
  |true=>have vd:Ge.v (el l i).k (el l i).st (el l i).li (el l i).bo now=true:=hf;have hk:=(nk.ES (zl hf)).1;have h4:=Oh.ok p (el l i) [] [] (I.fit (by omega) (by omega)) I.so (by omega);rw[I.now,I.hits]at h4;simp only[l4,r4,Lib.lt,dA,Lib.dn,hi,aP,Lib.cE,aM,au,Lib.dZ,pz hi,rR hi,rS hi,rT hi,bn,bI,vd,h4.1,h4.2,hw]) (λn=>by
  simp only[l4,r4,Lib.dn,bm,bf,ay,dK]) Lib.cU 0 (bB _) (cC (by omega))
 exact key
end Kb

namespace Am
open Lib (rr rs re rf rc rd Px En el pz rR rS rT)
open g9 (Wo Ev B2 mR)
open km (dk es)
open ie (sK)
open fm (ri ud sg jI)
theorem walk(N:aE)(L:aC En)(hL:L.length<=1048576)(hN:L.length<N)(K0:ax->ax->ax->ax->ax->aQ->aQ->aQ->aQ->aQ->aQ->aQ->aQ->aQ->aQ->aQ->az R)(now a5 a8:ax)(q1 q2 q3 q4 q6 q7 q9 DM YW:aQ):
  l3 N K0 N (L.length:ax) 0 now a5 a8 (re []) (re L) q1 q2 q3 q4 q6 q7 q9 DM YW=K0 (L.length:ax) (L.length:ax) now a5 a8 (re (L.filter λe=>fL.tf e now)) (re L) q1 q2 q3 q4 q6 q7 q9 DM YW:=by
 have hw:∀i,i<L.length->bH ((i:ax)+1)=((i+1:aE):ax):=λi h=>Lib.c6 h (by omega)
 have key:=B3 L (λe=>fL.tf e now) (λm (i:aE) acc=>l3 N K0 m (L.length:ax) (i:ax) now a5 a8 (re acc) (re L) q1 q2 q3 q4 q6 q7 q9 DM YW) (λacc=>K0 (L.length:ax) (L.length:ax) now a5 a8 (re acc) (re L) q1 q2 q3 q4 q6 q7 q9 DM YW) []
  (λm i acc hi ha hp=>by rw[<-fF hi]at hp⊢;unfold fL.tf at hp;simp only[l3,r3,dA,Lib.dn,hi,aP,Lib.cE,aM,au,Lib.dZ,pz hi,rR hi,rS hi,rT hi,bn,bI,hp,hw i hi,fm.lj,fm.sg];rw[Lib.b_ (by simp at ha;omega) (by simp at ha;omega),au])
  (λm i acc hi hp=>by rw[<-fF hi]at hp;unfold fL.tf at hp;simp only[l3,r3,dA,Lib.dn,hi,aP,Lib.cE,aM,au,Lib.dZ,pz hi,rR hi,rS hi,rT hi,bn,bI,hp,hw i hi,ay])
  (λm acc=>by simp only[l3,r3,Lib.dn,bm,bf,ay])
  N hN
 exact key
theorem ok{i:aE}{w:Wo}(h:sK i w)(hi:i<=71)(left:aQ):c w.p.now (re w.p.en) (rs w.p.w) (rs w.p.m) (rr w.p.s) w.p.a (rf w.p.fe) (rc w.p.cl) w.p.hits (rd (dk w.o)) (ri w.cd) (re w.bd) left=ai/\v w.p.now (re w.p.en) (rs w.p.w) (rs w.p.m) (rr w.p.s) w.p.a (rf w.p.fe) (rc w.p.cl) w.p.hits (rd (dk w.o)) (ri w.cd) (re w.bd) left=ud (B2 w):=by
 refine out _ _ _ _ _ _ _ _ _ _ _ _ _ ?_;have VV:=h.tx hi;have hlen:=h.len hi;have hdl:=km.BV w.o;have A:=wB.ok (dk w.o) left (by omega);rw[km.WH (by omega) left,show rq.res (ah (dk w.o))=(rd (dk w.o),ai)from rfl]at A;have B:=(km.Z_ (o:=w.o) (by omega) h.eo).1;have DD:=iY.KZ (es w.o);have hf:=ie.Gy h.eo;have OP:=ie.B7 w;have htf:=ie.Vj _ hf;have C:=Av.ok (rd (dk w.o)) (re (mR w)) (by rw[er];omega) (by rw[dA];omega);rw[km.Z9 (by omega) hf]at C;have D:=vI.ok (dk w.o) (pH.sW (iY.tx (mR w))) (by omega) (by unfold pH.sW;simp) (λx hx=>by
  unfold pH.sW at hx;simp only[cu,lL,or_false]at hx;rcases hx with rfl|rfl|rfl
  ·show(iY.tx (mR w)).size<=_;omega
  ·exact bB _
  ·exact bB _)
 rw[km.MN (by omega) (by omega)]at D;have E:=Kb.ok w.p.now (mR w) (by omega);unfold vo;generalize hN:Lib.cU=N;have jm:(iY.kp (es w.o)).length<N:=by rw[<-hN];exact cC (by omega)
 clear hN;unfold b;rw[A.1,au,A.2,fm.lt_eq];show(bif U61.c (rd (dk w.o))then Lib.lt (U61.v (rd (dk w.o))) _ else aj)=_;rw[B.1,au,B.2,fm.lt_eq,dA,show aN [Ck.s,Ck.i ao,Ck.i ao,Ck.s] 0=re []from rfl,walk N (iY.kp (es w.o)) (by omega) jm];have e:((kpp:aC En)->kpp=iY.kp (es w.o)->kpp.filter (λe=>fL.tf e w.p.now)=mR w):=λ_ h=>by subst h;rfl
 rw[e _ rfl];simp only[fm.lt_eq,C.1,C.2,D.1,D.2,E.1,E.2,au];have hinv:=fL.rE w.p.now (mR w) (mR w).length (cw _);rw[dK]at hinv;unfold ud B2;dsimp only;rw[hinv.now,hinv.fe,hinv.cl,hinv.hits];rfl
end Am

namespace VG
open Lib (rr rs re rf rc rd Px En el)
open g9 (Wo Ev closed B2 mR ic flag)
open km (dk es)
open ie (sK)
open fm (ri ud sg jI)
theorem fl(b:aW):F9.v b=flag b:=by cases b<;>rfl
theorem ok{i:aE}{w:Wo}{e:Ev}(h:sK i w)(hi:i<=71)(he:ic e=ai):c w.p.now (re w.p.en) (rs w.p.w) (rs w.p.m) (rr w.p.s) w.p.a (rf w.p.fe) (rc w.p.cl) w.p.hits (rd (dk w.o)) (ri w.cd) (re w.bd) e.k e.id e.t e.n e.l=ai/\v w.p.now (re w.p.en) (rs w.p.w) (rs w.p.m) (rr w.p.s) w.p.a (rf w.p.fe) (rc w.p.cl) w.p.hits (rd (dk w.o)) (ri w.cd) (re w.bd) e.k e.id e.t e.n e.l=((g9.act w e).2,ud (g9.act w e).1):=by
 unfold ic at he;simp only[aL,bg]at he;obtain⟨hk,IC,ht,hn,hl⟩:=he;have hp:=jI h.px;refine out _ _ _ _ _ _ _ _ _ _ _ _ _ _ _ _ _ ?_;unfold vo b g9.act;by_cases k1:e.k=1
 ·rw[aG k1,au];have A:=RB.ok w.p e.id e.t hp (by omega);rw[A.1,au,A.2,fm.lt_eq];try rfl
 rw[aK k1,ay,ay];by_cases k2:e.k=2
 ·rw[aG k2,au];have A:=VK.ok w.p e.id e.t hp;rw[A.1,au,A.2,fm.lt_eq,fl];unfold ud ig.EO;cases ig.vk w.p e.id&&(decide (1<=e.t.size/\e.t.size<=40)&&decide ((el w.p.fe e.id.toNat).t.size+e.t.size<=400))<;>rfl
 rw[aK k2,ay,ay];by_cases k3:e.k=3
 ·rw[aG k3,au,ij hn];have A:=VL.ok h hi e.id (e.n%1000000) (by omega);rw[A.1,au,A.2,fm.lt_eq,fl];try rfl
 rw[aK k3,ay,ay];by_cases k4:e.k=4
 ·rw[aG k4,au];have A:=VM.ok w.p e.id hp;rw[A.1,au,A.2,fm.lt_eq,fl];unfold ud ig.Ei;cases ig.vk w.p e.id<;>rfl
 rw[aK k4,ay,ay];by_cases k5:e.k=5
 ·rw[aG k5,au];have A:=Dh.ok w.p e.n hp;rw[A.1,au,A.2,fm.lt_eq];try rfl
 rw[aK k5,ay,ay];by_cases k6:e.k=6
 ·rw[aG k6,au];have A:=Di.ok w.p e.id hp;have B:=ze.ok w.p.now (re w.p.en) (rs w.p.w) (rs w.p.m) (rr w.p.s) w.p.a (rf w.p.fe) w.p.cl w.p.hits e.id hp.cl;rw[B.1,au,fm.lt_eq,A.1,au,A.2,fm.lt_eq,fl,B.2];try rfl
 rw[aK k6,ay,ay];have A:=Am.ok h hi e.l;rw[A.1,au,A.2,fm.lt_eq];try rfl
end VG

namespace HM
open Lib (rr rs re rf rc rd Px En el)
open g9 (Wo Ev ic)
open km (dk es)
open ie (sK)
open fm (ri ud)
open ql (rv kL wv0 wv1 wv2 wv3 wv4 run CH tJ w7 life W13 qx)
theorem chk(N n:aE)(l:aC Ev)(hl:l.length<=1048576)(hn:l.length<n)(K0 K1:aQ->aW->aQ->ax->ax->ax->ax->ax->az R)(kf:az R)(hK:∀i:ax,K0 (rv l) ak (rv l) (l.length:ax) i 0 0 0=kf):
  l4 N K0 K1 n (rv l) ak (rv l) (l.length:ax) 0 0 0 0=bif(cR l.length).all λi=>ic (el l i)then K1 (rv l) ak (rv l) (l.length:ax) (l.length:ax) 0 0 0 else kf:=by
 have hw:∀i,i<l.length->bH ((i:ax)+1)=((i+1:aE):ax):=λi h=>Lib.c6 h (by omega)
 have key:=jQ (λi=>ic (el l i)) l.length (λm (i:aE)=>l4 N K0 K1 m (rv l) ak (rv l) (l.length:ax) (i:ax) 0 0 0) kf (K1 (rv l) ak (rv l) (l.length:ax) (l.length:ax) 0 0 0)
  (λm i hi hp=>by simp only[l4,r4,kL,Lib.dn,hi,aP,Lib.cE,aM,au,Lib.dZ,wv0 hi,wv1 hi,wv2 hi,wv3 hi,wv4 hi,bI,bn,iR,ql.GV,hp,aY,ay,hw i hi])
  (λm i hi hp=>by simp only[l4,r4,kL,Lib.dn,hi,aP,Lib.cE,aM,au,Lib.dZ,wv0 hi,wv1 hi,wv2 hi,wv3 hi,wv4 hi,bI,bn,iR,ql.GV,hp,bQ,hK])
  (λm=>by simp only[l4,r4,Lib.dn,bm,bf,ay]) n hn
 exact key
theorem go(N:aE)(l:aC Ev)(hl:l.length<=70)(he:∀e∈l,ic e=ai)(K:aQ->ax->ax->ax->ax->ax->ax->ax->ax->aQ->aQ->aQ->aQ->aQ->aQ->aQ->aQ->aQ->az R):∀(d i n:aE) (w:Wo),w=run (l.take i)->l.length-i<=d->i<=l.length->d<n->
  O3 N K n (rv l) (l.length:ax) (i:ax) 0 0 0 w.p.now w.p.a w.p.hits (re w.p.en) (rs w.p.w) (rs w.p.m) (rr w.p.s) (rf w.p.fe) (rc w.p.cl) (rd (dk w.o)) (ri w.cd) (re w.bd)=K (rv l) (l.length:ax) (l.length:ax) 0 0 0 (run l).p.now (run l).p.a (run l).p.hits (re (run l).p.en) (rs (run l).p.w) (rs (run l).p.m) (rr (run l).p.s) (rf (run l).p.fe) (rc (run l).p.cl) (rd (dk (run l).o)) (ri (run l).cd) (re (run l).bd):=by
 have fin:∀(n:aE) (w:Wo),w=run (l.take l.length)->O3 N K (n+1) (rv l) (l.length:ax) (l.length:ax) 0 0 0 w.p.now w.p.a w.p.hits (re w.p.en) (rs w.p.w) (rs w.p.m) (rr w.p.s) (rf w.p.fe) (rc w.p.cl) (rd (dk w.o)) (ri w.cd) (re w.bd)=K (rv l) (l.length:ax) (l.length:ax) 0 0 0 (run l).p.now (run l).p.a (run l).p.hits (re (run l).p.en) (rs (run l).p.w) (rs (run l).p.m) (rr (run l).p.s) (rf (run l).p.fe) (rc (run l).p.cl) (rd (dk (run l).o)) (ri (run l).cd) (re (run l).bd):=by intro n w hw;rw[dK]at hw;subst hw;simp only[O3,wg,Lib.dn,bm,bf,ay]
 intro d;induction d with
 |zero=>
  intro i n w hw h1 h2 h3;obtain⟨n,rfl⟩:∃m,n=m+1:=⟨n-1,by omega⟩
  have:i=l.length:=by omega
  subst this;exact fin n w hw
 |succ d ih=>
  intro i n w hw h1 h2 h3;obtain⟨n,rfl⟩:∃m,n=m+1:=⟨n-1,by omega⟩
  by_cases hi:i<l.length
  ·have hW:sK i w:=by rw[hw];exact CH he i h2
   have hE:=he _ (mh hi);have A:=VG.ok hW (by omega) hE;have hcd:=hW.cd;have e1:(g9.act w (el l i)).1.cd=w.cd:=Gd.RD w _;have rm:cg ((ri w.cd).length+(aA (aN [Ck.i ao] 1) 0 [CV.i ao (g9.act w (el l i)).2]).length) 8=true:=by rw[fm.gf,fm.lj];exact Lib.b_ (by omega) (by omega)
   have nx:=ih (i+1) n (g9.step w (el l i)) (by rw[tJ l i hi,hw]) (by omega) hi (by omega);refine JU ?_ nx;have Sv:bH ((i:ax)+1)=((i+1:aE):ax):=Lib.c6 hi (by omega);simp only[O3,wg,kL,Lib.dn,hi,aP,Lib.cE,aM,au,Lib.dZ,wv0 hi,wv1 hi,wv2 hi,wv3 hi,wv4 hi,bI,bn,iR,Sv];rw[A.1,au,A.2,fm.lt_eq];unfold ud;dsimp only;rw[e1,rm,au,fm.abU];rfl
  ·have:i=l.length:=by omega
   subst this;exact fin n w hw
theorem ok(l:aC Ev)(hl:l.length<=1048576):c (rv l)=ai/\v (rv l)=life l:=by
 refine out _ ?_;unfold vo;generalize hN:Lib.cU=N;have jm:l.length<N:=by rw[<-hN];exact cC (by omega)
 clear hN;unfold b life w7;rw[kL];by_cases h:l.length<=70
 ·rw[aG h,bh,aK (show¬(l.length:ax)>70 by omega),ay];rw[chk N N l hl jm _ _ (ah (0,[],[],[],[],0,[],[],0,[],[],[],ak)) (λ_=>rfl)];cases ha:(cR l.length).all λi=>ic (el l i)with
  |false=>rfl
  |true=>have he:∀e∈l,ic e=true:=(qx.1 (by unfold w7;rw[ha,aG h];rfl)).2;rw[au,au];simp only[kL];exact(go N l h he _ l.length 0 N ql.w0 rfl (by omega) (by omega) jm).trans rfl
 ·rw[aK h,ly,aG (show(l.length:ax)>70 by omega),au,ay]
end HM

namespace VH
open Lib (rr rs re rf rc rd Px En el)
open g9 (Wo)
open km (dk)
open ie (sK)
open fm (ri ud jI)
theorem ok{i:aE}{w:Wo}(h:sK i w)(hi:i<=71):c w.p.now (re w.p.en) (rs w.p.w) (rs w.p.m) (rr w.p.s) w.p.a (rf w.p.fe) (rc w.p.cl) w.p.hits (rd (dk w.o)) (ri w.cd) (re w.bd)=ai/\v w.p.now (re w.p.en) (rs w.p.w) (rs w.p.m) (rr w.p.s) w.p.a (rf w.p.fe) (rc w.p.cl) w.p.hits (rd (dk w.o)) (ri w.cd) (re w.bd)=ud w:=by
 refine out _ _ _ _ _ _ _ _ _ _ _ _ ?_;have A:=fI.ok w.p (jI h.px);have hdl:=km.BV w.o;have hcd:=h.cd;have hbd:=h.bd;have r1:cg ((aN [Ck.s,Ck.s,Ck.i ao] 0).length+(rd (dk w.o)).length) 40=true:=by rw[er];exact Lib.b_ (by show(0+(dk w.o).length)*40<=_;omega) (by show 0+(dk w.o).length<=_;omega)
 have r2:cg ((aN [Ck.i ao] 0).length+(ri w.cd).length) 8=true:=by rw[fm.gf];exact Lib.b_ (by show(0+w.cd.length)*8<=_;omega) (by show 0+w.cd.length<=_;omega)
 have r3:cg ((aN [Ck.s,Ck.i ao,Ck.i ao,Ck.s] 0).length+(re w.bd).length) 48=true:=by rw[dA];exact Lib.b_ (by show(0+w.bd.length)*48<=_;omega) (by show 0+w.bd.length<=_;omega)
 unfold vo b;rw[A.1,au,A.2,fm.lt_eq,r1,au,r2,au,r3,au];rfl
end VH

namespace MA
open Lib (rr rs re rf rc rd Px En el)
open g9 (Wo Ev ic)
open km (dk es)
open ie (sK)
open fm (ri ud)
open ql (rv kL wv0 wv1 wv2 wv3 wv4 run CH tJ G6 w7 life W13 qx)
theorem chk(N:aE)(l:aC Ev)(hl:l.length<=1048576)(K:aQ->aW->ax->ax->ax->ax->az R)(kf:az R)(hK:∀(i:ax),K (rv l) ak i 0 0 0=kf):∀(d i n:aE) (b:aW),l.length-i<=d->i<=l.length->d<n->
  l3 N K n (rv l) b (i:ax) 0 0 0=bif(b&&(iP i (l.length-i)).all λi=>ic (el l i))then K (rv l) ai (l.length:ax) 0 0 0 else kf:=by
 have fin:∀(n:aE) (b:aW),l3 N K (n+1) (rv l) b (l.length:ax) 0 0 0=bif(b&&(iP l.length (l.length-l.length)).all λi=>ic (el l i))then K (rv l) ai (l.length:ax) 0 0 0 else kf:=by
  intro n b;simp only[l3,r3,kL,Lib.dn,bm,bf,ay,Nat.sub_self,Ws,List.all_nil,jY];cases b with
  |true=>rfl
  |false=>exact hK _
 intro d;induction d with
 |zero=>
  intro i n b h1 h2 h3;obtain⟨n,rfl⟩:∃m,n=m+1:=⟨n-1,by omega⟩
  have:i=l.length:=by omega
  subst this;exact fin n b
 |succ d ih=>
  intro i n b h1 h2 h3;obtain⟨n,rfl⟩:∃m,n=m+1:=⟨n-1,by omega⟩
  by_cases hi:i<l.length
  ·cases b with
   |false=>simp only[l3,r3,kL,Lib.dn,hi,aP,au,ay,hK,ly]
   |true=>
    have Sv:bH ((i:ax)+1)=((i+1:aE):ax):=Lib.c6 hi (by omega);have e:(iP i (l.length-i)).all (λi=>ic (el l i))=(ic (el l i)&&(iP (i+1) (l.length-(i+1))).all λi=>ic (el l i)):=by rw[show l.length-i=(l.length-(i+1))+1 by omega,List.range'_succ,uI]
    have nx:=ih (i+1) n (ic (el l i)) (by omega) hi (by omega);rw[e,bh,<-nx];simp only[l3,r3,kL,Lib.dn,hi,aP,Lib.cE,aM,au,Lib.dZ,wv0 hi,wv1 hi,wv2 hi,wv3 hi,wv4 hi,bI,bn,iR,ql.YK,Sv]
  ·have:i=l.length:=by omega
   subst this;exact fin n b
theorem go(N:aE)(l:aC Ev)(hl:l.length<=70)(he:∀e∈l,ic e=ai)(K:aQ->ax->ax->ax->ax->ax->ax->ax->aQ->aQ->aQ->aQ->aQ->aQ->aQ->aQ->aQ->az R):∀(d i n:aE) (w:Wo),w=run (l.take i)->l.length-i<=d->i<=l.length->d<n->
  l10 N K n (rv l) (i:ax) 0 0 0 w.p.now w.p.a w.p.hits (re w.p.en) (rs w.p.w) (rs w.p.m) (rr w.p.s) (rf w.p.fe) (rc w.p.cl) (rd (dk w.o)) (ri w.cd) (re w.bd)=K (rv l) (l.length:ax) 0 0 0 (run l).p.now (run l).p.a (run l).p.hits (re (run l).p.en) (rs (run l).p.w) (rs (run l).p.m) (rr (run l).p.s) (rf (run l).p.fe) (rc (run l).p.cl) (rd (dk (run l).o)) (ri (run l).cd) (re (run l).bd):=by
 have fin:∀(n:aE) (w:Wo),w=run (l.take l.length)->l10 N K (n+1) (rv l) (l.length:ax) 0 0 0 w.p.now w.p.a w.p.hits (re w.p.en) (rs w.p.w) (rs w.p.m) (rr w.p.s) (rf w.p.fe) (rc w.p.cl) (rd (dk w.o)) (ri w.cd) (re w.bd)=K (rv l) (l.length:ax) 0 0 0 (run l).p.now (run l).p.a (run l).p.hits (re (run l).p.en) (rs (run l).p.w) (rs (run l).p.m) (rr (run l).p.s) (rf (run l).p.fe) (rc (run l).p.cl) (rd (dk (run l).o)) (ri (run l).cd) (re (run l).bd):=by intro n w hw;rw[dK]at hw;subst hw;simp only[l10,z7,kL,Lib.dn,bm,bf,ay]
 intro d;induction d with
 |zero=>
  intro i n w hw h1 h2 h3;obtain⟨n,rfl⟩:∃m,n=m+1:=⟨n-1,by omega⟩
  have:i=l.length:=by omega
  subst this;exact fin n w hw
 |succ d ih=>
  intro i n w hw h1 h2 h3;obtain⟨n,rfl⟩:∃m,n=m+1:=⟨n-1,by omega⟩
  by_cases hi:i<l.length
  ·have hW:sK i w:=by rw[hw];exact CH he i h2
   have hE:=he _ (mh hi);have A:=Gd.ok hW (by omega) hE;have nx:=ih (i+1) n (g9.step w (el l i)) (by rw[tJ l i hi,hw]) (by omega) hi (by omega);refine JU ?_ nx;have Sv:bH ((i:ax)+1)=((i+1:aE):ax):=Lib.c6 hi (by omega);simp only[l10,z7,kL,Lib.dn,hi,aP,Lib.cE,aM,au,Lib.dZ,wv0 hi,wv1 hi,wv2 hi,wv3 hi,wv4 hi,bI,bn,iR,Sv];rw[A.1,au,A.2,fm.lt_eq];rfl
  ·have:i=l.length:=by omega
   subst this;exact fin n w hw
theorem ok(l:aC Ev)(hl:l.length<=1048576):c (rv l)=ai/\v (rv l)=life l:=by
 refine out _ ?_;unfold vo;generalize hN:Lib.cU=N;have jm:l.length<N:=by rw[<-hN];exact cC (by omega)
 clear hN;unfold b;simp only[kL];have e:(decide (l.length<=70)&&(iP 0 (l.length-0)).all λi=>ic (el l i))=w7 l:=by unfold w7;rw[rX,Wt]
 have d70:decide (((l.length:aE):ax)<=70)=decide (l.length<=70):=by rw[ca];omega
 rw[d70];rw[show l3 N _ N (rv l) (decide (l.length<=70)) 0 0 0 0=_ from chk N l hl _ (ah (0,[],[],[],[],0,[],[],0,[],[],[],ak)) (λ_=>rfl) l.length 0 N (decide (l.length<=70)) (by omega) (by omega) jm,e];unfold life;cases hg:w7 l with
 |false=>rfl
 |true=>obtain⟨h70,he⟩:=qx.1 hg;rw[au,au,aY,ay];refine(go N l h70 he _ l.length 0 N ql.w0 rfl (by omega) (by omega) jm).trans ?_;have C:=VH.ok (G6 he) (by omega);rw[C.1,au,C.2,fm.lt_eq];rfl
end MA

namespace J5
theorem run(a:aQ)(hl:a.length<=9223372036854775807):vo a a=ah true:=by
 unfold vo b;rw[show((a.length:ax) !=(a.length:ax))=ak from fT _,ay];have:=Lib.fQ (λn (i:aE)=>l4 Lib.cU (λ(_ _:aQ) (y:aW) (_:ax)=>ah y) (λ(_ _:aQ) (_:aW) (_:ax)=>ah ai) n a a ak (i:ax)) (λi=>a.length-i) (λi=>i<=a.length) (λ_=>ah ai) (λn i hi=>by
  by_cases h:i<a.length
  ·right;refine⟨i+1,h,by omega,rfl, ?_⟩
   have j7:bH ((i:ax)+1)=((i+1:aE):ax):=c9 (by omega) (by omega);simp only[l4,r4,Lib.dn,h,aP,Lib.cE,aM,au,Lib.dZ,j7,kD,fT,aY,ay]
  ·left;simp only[l4,r4,Lib.dn,h,bf,ay]) Lib.cU 0 (bB _) (cC (by omega))
 exact this
theorem ok(a:aQ)(hl:a.length<=9223372036854775807):c a a=ai/\v a a=true:=out a a (run a hl)
end J5

namespace Ka
theorem run(a:aQ)(hl:a.length<=9223372036854775807):vo a a=ah true:=by
 unfold vo b;rw[show((a.length:ax) !=(a.length:ax))=ak from fT _,ay];have:=Lib.fQ (λn (i:aE)=>l4 Lib.cU (λ(_ _:aQ) (y:aW) (_:ax)=>ah y) (λ(_ _:aQ) (_:aW) (_:ax)=>ah ai) n a a ak (i:ax)) (λi=>a.length-i) (λi=>i<=a.length) (λ_=>ah ai) (λn i hi=>by
  by_cases h:i<a.length
  ·right;refine⟨i+1,h,by omega,rfl, ?_⟩
   have j7:bH ((i:ax)+1)=((i+1:aE):ax):=c9 (by omega) (by omega);simp only[l4,r4,Lib.dn,h,aP,Lib.cE,aM,au,Lib.dZ,j7,kD,aY,ay]
  ·left;simp only[l4,r4,Lib.dn,h,bf,ay]) Lib.cU 0 (bB _) (cC (by omega))
 exact this
theorem ok(a:aQ)(hl:a.length<=9223372036854775807):c a a=ai/\v a a=true:=out a a (run a hl)
end Ka

namespace vG
theorem run(a:aQ)(hl:a.length<=9223372036854775807):vo a a=ah true:=by
 unfold vo b;rw[show((a.length:ax) !=(a.length:ax))=ak from fT _,ay];have:=Lib.fQ (λn (i:aE)=>l4 Lib.cU (λ(_ _:aQ) (y:aW) (_:ax)=>ah y) (λ(_ _:aQ) (_:aW) (_:ax)=>ah ai) n a a ak (i:ax)) (λi=>a.length-i) (λi=>i<=a.length) (λ_=>ah ai) (λn i hi=>by
  by_cases h:i<a.length
  ·right;refine⟨i+1,h,by omega,rfl, ?_⟩
   have j7:bH ((i:ax)+1)=((i+1:aE):ax):=c9 (by omega) (by omega);simp only[l4,r4,Lib.dn,h,aP,Lib.cE,aM,au,Lib.dZ,j7,kD,fT,aY,ay]
  ·left;simp only[l4,r4,Lib.dn,h,bf,ay]) Lib.cU 0 (bB _) (cC (by omega))
 exact this
theorem ok(a:aQ)(hl:a.length<=9223372036854775807):c a a=ai/\v a a=true:=out a a (run a hl)
end vG

namespace Ao
open Lib (rr)
theorem run(s:aC (aC ax))(n:ax)(hl:s.length<=1048576)(hq:∀q∈s,q.length<=1048576):vo (rr s) n (rr s) n=ah true:=by
 have hlen:(rr s).length=s.length:=gH s;unfold vo b;rw[show(n !=n)=ak from fT _,ay,show(((rr s).length:ax) !=((rr s).length:ax))=ak from fT _,ay];have:=Lib.fQ (λm (i:aE)=>l4 Lib.cU (λ(y:aW) (_:ax) (_:aQ) (_:ax) (_:aQ) (_:ax)=>ah y) (λ(_:aW) (_:ax) (_:aQ) (_:ax) (_:aQ) (_:ax)=>ah ai) m ak (i:ax) (rr s) n (rr s) n) (λi=>(rr s).length-i) (λi=>i<=(rr s).length) (λ_=>ah ai) (λm i hi=>by
  by_cases h:i<(rr s).length
  ·right;refine⟨i+1,h,by omega,rfl, ?_⟩
   have j7:bH ((i:ax)+1)=((i+1:aE):ax):=c9 (by omega) (by omega);have hA:=J5.ok (iR (ar (rr s) i 0)) (by rw[Jm (show i<s.length by omega)];show(Lib.ri _).length<=_;rw[Lib.gf];have:=hq _ (bA (show i<s.length by omega));omega);simp only[l4,r4,Lib.dn,h,aP,Lib.cE,aM,au,Lib.dZ,j7,hA.1,hA.2,aY,ay]
  ·left;simp only[l4,r4,Lib.dn,h,bf,ay]) Lib.cU 0 (bB _) (cC (by omega))
 exact this
theorem ok(s:aC (aC ax))(n:ax)(hl:s.length<=1048576)(hq:∀q∈s,q.length<=1048576):c (rr s) n (rr s) n=ai/\v (rr s) n (rr s) n=true:=out _ _ _ _ (run s n hl hq)
end Ao

namespace VI
open Lib (rr rs)
theorem ok(w m:aC aq)(s:aC (aC ax))(n:ax)(hw:w.length<=1048576)(hm:m.length<=1048576)(hl:s.length<=1048576)(hq:∀q∈s,q.length<=1048576):c (rs w) (rs m) (rr s) n (rs w) (rs m) (rr s) n=ai/\v (rs w) (rs m) (rr s) n (rs w) (rs m) (rr s) n=true:=by have h1:=vG.ok (rs w) (by rw[eH];omega);have h2:=vG.ok (rs m) (by rw[eH];omega);have h3:=Ao.ok s n hl hq;refine out _ _ _ _ _ _ _ _ ?_;unfold vo b;rw[h1.1,au,h1.2,au,h2.1,au,h2.2,au,h3.1,au,h3.2]
end VI

namespace MB
open Lib (rr rs re rf rc Px)
theorem w4(N:aE)(k0 k1:aW->ax->ax->aQ->aQ->aQ->aQ->ax->aQ->aQ->ax->ax->aQ->aQ->aQ->aQ->ax->aQ->aQ->ax->az R)(i0:ax)(q1 q2 q3 q4:aQ)(i5:ax)(fe cl:aQ)(i8:ax)(hl:fe.length<=1048576):∀(d i n:aE),fe.length-i<=d->i<=fe.length->d<n->
  l4 N k0 k1 n ak (i:ax) i0 q1 q2 q3 q4 i5 fe cl i8 i0 q1 q2 q3 q4 i5 fe cl i8=k1 ak (fe.length:ax) i0 q1 q2 q3 q4 i5 fe cl i8 i0 q1 q2 q3 q4 i5 fe cl i8:=by
 have fin:∀n:aE,l4 N k0 k1 (n+1) ak (fe.length:ax) i0 q1 q2 q3 q4 i5 fe cl i8 i0 q1 q2 q3 q4 i5 fe cl i8=k1 ak (fe.length:ax) i0 q1 q2 q3 q4 i5 fe cl i8 i0 q1 q2 q3 q4 i5 fe cl i8:=λn=>by simp only[l4,r4,Lib.dn,bm,bf,ay]
 intro d;induction d with
 |zero=>
  intro i n h1 h2 h3;obtain⟨n,rfl⟩:∃k,n=k+1:=⟨n-1,by omega⟩
  have:i=fe.length:=by omega
  subst this;exact fin n
 |succ d ih=>
  intro i n h1 h2 h3;obtain⟨n,rfl⟩:∃k,n=k+1:=⟨n-1,by omega⟩
  by_cases h:i<fe.length
  ·have j7:bH ((i:ax)+1)=((i+1:aE):ax):=c9 (by omega) (by omega);refine JU ?_ (ih (i+1) n (by omega) h (by omega));simp only[l4,r4,Lib.dn,h,aP,Lib.cE,aM,au,Lib.dZ,j7,kD,aY,ay]
  ·have:i=fe.length:=by omega
   subst this;exact fin n
theorem w9(N:aE)(k0 k1:aW->ax->ax->aQ->aQ->aQ->aQ->ax->aQ->aQ->ax->ax->aQ->aQ->aQ->aQ->ax->aQ->aQ->ax->az R)(i0:ax)(q1 q2 q3 q4:aQ)(i5:ax)(fe cl:aQ)(i8:ax)(hl:cl.length<=1048576):∀(d i n:aE),cl.length-i<=d->i<=cl.length->d<n->
  l9 N k0 k1 n ak (i:ax) i0 q1 q2 q3 q4 i5 fe cl i8 i0 q1 q2 q3 q4 i5 fe cl i8=k1 ak (cl.length:ax) i0 q1 q2 q3 q4 i5 fe cl i8 i0 q1 q2 q3 q4 i5 fe cl i8:=by
 have fin:∀n:aE,l9 N k0 k1 (n+1) ak (cl.length:ax) i0 q1 q2 q3 q4 i5 fe cl i8 i0 q1 q2 q3 q4 i5 fe cl i8=k1 ak (cl.length:ax) i0 q1 q2 q3 q4 i5 fe cl i8 i0 q1 q2 q3 q4 i5 fe cl i8:=λn=>by simp only[l9,r9,Lib.dn,bm,bf,ay]
 intro d;induction d with
 |zero=>
  intro i n h1 h2 h3;obtain⟨n,rfl⟩:∃k,n=k+1:=⟨n-1,by omega⟩
  have:i=cl.length:=by omega
  subst this;exact fin n
 |succ d ih=>
  intro i n h1 h2 h3;obtain⟨n,rfl⟩:∃k,n=k+1:=⟨n-1,by omega⟩
  by_cases h:i<cl.length
  ·have j7:bH ((i:ax)+1)=((i+1:aE):ax):=c9 (by omega) (by omega);refine JU ?_ (ih (i+1) n (by omega) h (by omega));simp only[l9,r9,Lib.dn,h,aP,Lib.cE,aM,au,Lib.dZ,j7,kD,aY,ay]
  ·have:i=cl.length:=by omega
   subst this;exact fin n
theorem ok(p:Px)(h:p.Fit 1048576):c p.now (re p.en) (rs p.w) (rs p.m) (rr p.s) p.a (rf p.fe) (rc p.cl) p.hits p.now (re p.en) (rs p.w) (rs p.m) (rr p.s) p.a (rf p.fe) (rc p.cl) p.hits=ai/\v p.now (re p.en) (rs p.w) (rs p.m) (rr p.s) p.a (rf p.fe) (rc p.cl) p.hits p.now (re p.en) (rs p.w) (rs p.m) (rr p.s) p.a (rf p.fe) (rc p.cl) p.hits=true:=by have hf:=h.fe;have hc:=h.cl;have he:=h.en;have h1:=Ka.ok (re p.en) (by rw[dA];omega);have h2:=VI.ok p.w p.m p.s p.a h.w h.m h.s.1 h.s.2.1;refine out _ _ _ _ _ _ _ _ _ _ _ _ _ _ _ _ _ _ ?_;unfold vo b;rw[show(p.now !=p.now)=ak from fT _,ay,show(p.hits !=p.hits)=ak from fT _,ay,h1.1,au,h1.2,aY,ay,h2.1,au,h2.2,aY,ay,show(((rf p.fe).length:ax) !=((rf p.fe).length:ax))=ak from fT _,ay,show(((rc p.cl).length:ax) !=((rc p.cl).length:ax))=ak from fT _,ay];refine(w4 Lib.cU _ _ p.now (re p.en) (rs p.w) (rs p.m) (rr p.s) p.a (rf p.fe) (rc p.cl) p.hits (by rw[dP];omega) (rf p.fe).length 0 Lib.cU (by omega) (bB _) (cC (by rw[dP];omega))).trans ?_;exact(w9 Lib.cU _ _ p.now (re p.en) (rs p.w) (rs p.m) (rr p.s) p.a (rf p.fe) (rc p.cl) p.hits (by rw[e9];omega) (rc p.cl).length 0 Lib.cU (by omega) (bB _) (cC (by rw[e9];omega))).trans rfl
end MB

namespace U6
open Lib (rr rs re rf rc rd Px En el)
open g9 (Wo Ev ic)
open km (dk es)
open ql (rv run life w7 W13)
open fm (ri)
open A_Post (jb)
theorem abT(l:aC Ev):aN [Ck.i ao,Ck.i ao,Ck.s,Ck.i ao,Ck.l 3] 0++rv l++aA (aN [Ck.i ao,Ck.i ao,Ck.s,Ck.i ao,Ck.l 3] 1) 0 [CV.i ao 0,CV.i ao 0,CV.s {data:= #[]},CV.i ao 0,CV.l 3 []]=rv (l++[⟨0,0,⟨#[]⟩,0,[]⟩]):=by rw[<-sN.G7];rfl
theorem alg(a:aQ)(ha:vA a):vo a=ah true:=by
 have hb:∀x:aW,U8.v a=x->vo a=ah true:=λx hx=>by
  cases x with
  |true=>unfold vo b;rw[hx,au]
  |false=>
   have hlen:a.length<=1048576:=by unfold U8.v at hx;have:=oH hx;omega
   obtain⟨l,c0,v0,hl,he⟩:=U9.ok a hlen;obtain⟨now,li,c1,v1,hli⟩:=PW.ok a hlen;have hg:w7 l=true:=ql.qx.2 ⟨by omega,he⟩;have A:=HM.ok l (by omega);have B:=MA.ok l (by omega);have C:=HM.ok (l++[⟨0,0,⟨#[]⟩,0,[]⟩]) (by rw[bV];show l.length+1<=_;omega);have xA:w7 (l++[⟨0,0,⟨#[]⟩,0,[]⟩])=false:=by
    cases hh:w7 (l++[⟨0,0,⟨#[]⟩,0,[]⟩])with
    |false=>rfl
    |true=>exact cO ((ql.qx.1 hh).2 _ (bP _ dL)) (by decide)
   have el:life l=W13 (run l) true:=by unfold life;rw[hg,au]
   have en:(life (l++[⟨0,0,⟨#[]⟩,0,[]⟩])).2.2.2.2.2.2.2.2.2.2.2.2=false:=by unfold life;rw[xA,ay]
   have hW:=ql.G6 he;rw[el]at A B;have r1:cg ((aN [Ck.i ao,Ck.i ao,Ck.s,Ck.i ao,Ck.l 3] 0).length+(rv l).length) 64=true:=by rw[ql.kL];exact Lib.b_ (by show(0+l.length)*64<=_;omega) (by show 0+l.length<=_;omega)
   have r2:cg ((aN [Ck.i ao,Ck.i ao,Ck.s,Ck.i ao,Ck.l 3] 0++rv l).length+(aA (aN [Ck.i ao,Ck.i ao,Ck.s,Ck.i ao,Ck.l 3] 1) 0 [CV.i ao 0,CV.i ao 0,CV.s {data:= #[]},CV.i ao 0,CV.l 3 []]).length) 64=true:=by rw[fm.lj,show(aN [Ck.i ao,Ck.i ao,Ck.s,Ck.i ao,Ck.l 3] 0++rv l)=rv l from rfl,ql.kL];exact Lib.b_ (by omega) (by omega)
   have D:=J5.ok (ri (run l).cd) (by rw[fm.gf,hW.cd];omega);have hbd:=hW.bd;have F:=Ka.ok (re (run l).bd) (by rw[dA];omega);have hpf:=fm.jI hW.px;have G:=JH.ok (run l).p hpf;have H1:=Kb.ok now li (by omega);have H2:=wL.ok now li (by omega);have hrf:(fL.se now li).Fit 1048576:=by have V:=fL.rE now li li.length (cw _);rw[dK]at V;exact V.fit (by omega) (by omega)
   have K:=MB.ok (fL.se now li) hrf;have V:=fL.rE now li li.length (cw _);rw[dK]at V;rw[V.now,V.fe,V.cl,V.hits]at K;have main:jb (vo a) (λx=>x=ai):=by
    unfold vo b;refine A_Post.cn hx ?_;refine A_Post.call c0 v0 ?_;refine A_Post.call A.1 A.2 ?_;refine A_Post.call B.1 B.2 ?_;refine A_Post.ck r1 ?_;refine A_Post.ck r2 ?_;refine A_Post.call (u:=life (l++[⟨0,0,⟨#[]⟩,0,[]⟩])) (by rw[abT];exact C.1) (by rw[abT];exact C.2) ?_;refine A_Post.call c1 v1 ?_;refine A_Post.ck rfl ?_;refine A_Post.ck (by rw[en];rfl) ?_;refine A_Post.call D.1 D.2 ?_;refine A_Post.ck rfl ?_;refine A_Post.call F.1 F.2 ?_;refine A_Post.ck rfl ?_;refine A_Post.call G.1 (G.2.trans (Ab.qf.2 hW.px)) ?_;refine A_Post.ck rfl ?_;refine A_Post.call H1.1 H1.2 ?_;refine A_Post.call H2.1 H2.2 ?_;refine A_Post.call K.1 K.2 ?_;refine A_Post.ck rfl ?_;refine A_Post.ret (aG ?_);show(((ri (run l).cd).length:aE):ax)=((rv l).length:ax)
    rw[fm.gf,hW.cd,ql.kL]
   obtain⟨x,h1,h2⟩:=main;rw[h1,h2]
 exact hb _ rfl
theorem law(a:aQ)(ha:vA a):v a=true:=(out a (alg a ha)).2
theorem auC(a:aQ)(ha:vA a):c a=true:=(out a (alg a ha)).1
end U6

end Go.FG
