/- What the functions come to, in plain numbers, texts and lists; last the law itself. No condition but those that each states. -/
import Derived.Test.YtilcgpcemjeaeaaGreatPExactRunLifeb
import Derived.Test.YtilcgpcemjeaeaaGreatFExactRunLifea
set_option linter.unusedVariables false
set_option linter.unusedSimpArgs false
set_option maxRecDepth 100000
open Bool renaming true->ai,not_true->aX,true_and->bm,not_false->bS,false->ak,and_self->aJ,false_or->od,and_true->j4,and_false->wM,false_and->lu,and_eq_true->aK,false_eq_true->dt,not_eq_true'->du,or_eq_true->dM,and_assoc->nK
open ByteArray renaming toList->aA,empty_append->lI,extract->bP,size->b8
open Go.IntKind renaming i64->ao,u8->ba,wrap->bE
open Go.Op renaming bytesLess->b9
open Int renaming tmod->cT,tmod_eq_emod_of_nonneg->jD,toNat_natCast->eT,toNat->bc,neg->Lt,tdiv->c7,tdiv_eq_ediv_of_nonneg->g7,add_zero->K7
open List renaming set->aL,map_append->cQ,length->bK,length_append->cf,length_singleton->bC,drop_length->cD,drop_eq_getElem_cons->di,find?_cons_of_neg->Lu,drop_zero->eN,length_filter_le->eV,length_take->eE,take_succ_eq_append_getElem->bQ,filter_append->ij,append_nil->cu,take_length->dv,nil_append->gG,append_assoc->bU,pairwise_cons->qu,mem_of_find?_eq_some->I9,getElem_of_mem->c_,getElem_set_self->kD,length_map->bR,length_set->cO,set_set->pI,set_getElem_self->fy,find?_eq_none->Yc,find?_some->G3,mem_cons->cB,not_mem_nil->lK,filter_eq_self->eJ,range'->iw,range'_zero->Yf,all_cons->pQ,range_eq_range'->zO,all_eq_true->bA,getElem_mem->bu,mem_or_eq_of_mem_set->jE,take_set_of_le->wV,drop_set_of_lt->wS,drop_eq_nil_of_le->gW,take->gY,drop->m9,take_append_of_le_length->oZ,take_of_length_le->fX,getElem_take->nk,mem_map->cw,filter_map->oY,range->ch,map_cons->eC,sum_cons->qv,cons_append->sZ,sum_append->mD,take_append_drop->vO,getD_cons_zero->NU,getD_cons_succ->wT,take_zero->Jq,length_cons->dh
open List.cons renaming inj->ki
open Nat renaming lt_irrefl->bg,zero_le->bk,le_trans->dc,zero_add->bT,le_refl->cJ,sub_self->vP,sub_zero->oN
open Option renaming some->ah,none->aj,map_some->jc
open UInt8 renaming ofNat->aP
open _root_ renaming Int->aw,List->az,ByteArray->aq,Nat->aC,cond_true->au,cond_false->ax,decide_eq_true->aE,decide_eq_false->aG,if_neg->bH,if_pos->bB,decide_true->aM,Option->ay,Bool->aY,decide_false->a_,decide_eq_true_eq->bj,decide_eq_false_iff_not->fg,absurd->cS,of_decide_eq_true->cF,decide_eq_decide->cg,bne_self_eq_false->da,of_decide_eq_false->oK
namespace Go.FG
open Lib (zK HS all_congr jS o_ C9 fT rK eU fE xJ fF gi mO n6 Dq OB xQ jU nF uB ck DP lS iq rc0 rc1 rc2 rc3 rc4 rc5 rc6 fc KJ XR XS ed dr dQ RJ Lc gL XT eD pL kO lT Ea tW oU yQ GI oa Ei yR qM qN tZ nJ bZ Ro wd0 wd1 wd2 pF r_ sa sb I1 GM wf2 Bh RM RN)
variable {R:Type}
namespace TC
open Lib (rr rs re rf rc Px Cl Fe En el)
open fu (without)
open jR (eZ)
open qR (jv)
open je (hit wC put L5 RI Ji mn jn vf tv Cv)
open gm (fY)
open GO (iZ rR)
def res(q:Px×aw):aw×aQ×aQ×aQ×aQ×aw×aQ×aQ×aw×aw:=(q.1.now,re q.1.en,rs q.1.w,rs q.1.m,rr q.1.s,q.1.a,rf q.1.fe,rc q.1.cl,q.1.hits,q.2)
theorem KV(fe:az Fe)(key:aq):rf fe++aL (aN [Ck.s,Ck.s,Ck.i ao,Ck.i ao,Ck.i ao] 1) 0 [CV.s key,CV.s {data:= #[]},CV.i ao 1,CV.i ao 0,CV.i ao 0]=rf (fe++[vf key]):=by unfold Lib.rf;rw[cQ];rfl
theorem Cy{p:Px}{i:aC}(hi:i<p.en.length)(ho:iZ p):br (p.now-(el p.en i).st)=p.now-(el p.en i).st:=by have h1:=ho.now;have h2:=(nq.KL (ho.en _ (mO hi))).2.1;exact bZ (by omega) (by omega)
theorem ok(p:Px)(id:aw)(key:aq)(hp:p.Fit 1048576)(hkz:key.size<=140737488355328):c p.now (re p.en) (rs p.w) (rs p.m) (rr p.s) p.a (rf p.fe) (rc p.cl) p.hits id key=ai/\v p.now (re p.en) (rs p.w) (rs p.m) (rr p.s) p.a (rf p.fe) (rc p.cl) p.hits id key=res (je.ask p id key):=by
 have h1:=iM.ok p hp;have h2:=Qb.ok p hp;have pD:=hp.cl;have OM:=hp.fe;have hen:=hp.en;have Mo:jj.oF p.s:=⟨hp.s.1,hp.s.2.1⟩
 have h3:=Av.ok p.now (re p.en) (rs p.w) (rs p.m) (rr p.s) p.a (rf p.fe) p.cl p.hits id pD;refine out _ _ _ _ _ _ _ _ _ _ _ ?_;unfold vo b je.ask;simp only[Lib.lt,h1.1,h1.2,h2.1,h2.2,au];cases cj:jv p with
 |false=>rfl
 |true=>
 have ho:iZ p:=rR.1 cj;rw[aX,ax,bm,show lj.v id 1 9=decide (1<=id/\id<=9)from fK.eO _ _ _];cases Mp:decide (1<=id/\id<=9)with
 |false=>rfl
 |true=>
 rw[aX,ax,bm,o4.iO];cases hko:eZ key with
 |false=>rfl
 |true=>
 have B6:=e6.kH hko;rw[aX,ax,bm,h3.1,au,h3.2];cases hhi:mn p.cl id with
 |true=>rfl
 |false=>
 rw[ax,bS,bm,fc];by_cases h6:p.cl.length=6
 ·rw[aE (show(p.cl.length:aw)=6 by omega),au,aG (show¬p.cl.length<6 by omega)];rfl
 have hc6:=ho.cll;rw[aG (show¬(p.cl.length:aw)=6 by omega),ax,aE (show p.cl.length<6 by omega),au];have h4:=pT.ok (re p.en) key (by rw[dr];omega);have h5:=LN.ok p.now (re p.en) (rs p.w) (rs p.m) (rr p.s) p.a (rf p.fe) (rc p.cl) p.hits key (by rw[dQ];omega);have h7:=Az.ok p.w p.m p.s p.a key hp.w hp.m Mo (by omega);have h8:=iG.ok p.s p.a key Mo (by omega);have h9:=uW.ok p.w p.m p.s p.a key hp.w hp.m Mo;have RC:=pJ.ok (re p.en) key (gm.TX _) (by rw[dr];omega);rw[gm.H4]at RC;have Q8:=λ(i0:aw) (q1 q2 q3 q4:aQ) (i5:aw) (q6:aQ) (i8:aw) (x:Cl) (hx:x.id=id)=>ji.ok i0 q1 q2 q3 q4 i5 q6 p.cl i8 x ho.cs (by rw[hx];exact hhi) pD;rw[h4.1,au,h4.2,dr];have aDo:p.hits<=1000000000:=ho.hits.2;have avz:0<=p.hits:=ho.hits.1;have sR:=ho.fl;have alw:il ak (br (p.hits+1)) 1000000000=bif decide (p.hits<1000000000)then p.hits+1 else p.hits:=by
  rw[bZ (by omega) (by omega)];unfold il;rw[ax];by_cases h:p.hits<1000000000
  ·rw[aE h,au,bH (by omega)]
  ·rw[aG h,ax,bB (by omega)];omega
 have hfp:∀i (hi:i<p.fe.length),qx.p (rf p.fe) key i=Ji key p.fe[i]:=λi hi=>by unfold qx.p Ji Ju.v;rw[I1 hi,wf2 hi,fF hi];simp only[bz,bF,Lib.fw];cases decide (p.fe[i].k=key)<;>rfl
 have hep:∀i (hi:i<p.en.length),pT.p (re p.en) key i=decide (p.en[i].k=key):=λi hi=>by unfold pT.p;rw[pF hi,fF hi];exact Lib.fw
 have wn:∀n:aC,n<=1048576->br ((n:aw)+1)=(n:aw)+1:=λn hn=>bZ (by omega) (by omega);have cN:∀(n:aC) (fe:az Fe),n<fe.length->bz (ar (rf fe) n 1)=(el fe n).t:=λn fe hn=>by rw[GM hn];rfl
 have Kk:cC (p.fe.length+1) 56=true:=Lib.cm (by omega) (by omega);have dI:∀key:aq,bK (aL (aN [Ck.s,Ck.s,Ck.i ao,Ck.i ao,Ck.i ao] 1) 0 [CV.s key,CV.s {data:= #[]},CV.i ao 1,CV.i ao 0,CV.i ao 0])=1:=λ_=>rfl;rcases Cv p.fe (Ji key) _ hfp with ⟨f1,_,f2⟩|⟨j,hj,f1,_,f2⟩
 ·have f2:RI p.fe key=none:=f2;rw[dQ,f1]at h5;rcases Cv p.en (λe=>decide (e.k=key)) _ hep with ⟨e1,e2,_⟩|⟨i,hi,e1,e2,_⟩
  ·have e2:L5 p.en key=none:=e2;rw[e1,e2];unfold wC;rw[f2];dsimp only;by_cases YI:p.fe.length=20
   ·rw[aG (show¬p.fe.length<20 by omega)];simp only[show decide ((-1:aw)≥0)=ak from rfl,ax,h5.1,h5.2,au,show decide ((-1:aw)<0)=ai from rfl,dQ,aE (show(p.fe.length:aw)=20 by omega)];rfl
   ·have mZ:=Q8 p.now (re p.en) (rs p.w) (rs p.m) (rr (dq.val p.s p.a key).1) (dq.val p.s p.a key).2 (rf (p.fe++[vf key])) p.hits ⟨id,key,(p.fe.length:aw)+1,0,1,(el (p.fe++[vf key]) p.fe.length).t,0⟩ rfl;dsimp only at mZ;rw[aE (show p.fe.length<20 by omega)];simp only[show decide ((-1:aw)≥0)=ak from rfl,ax,h5.1,h5.2,au,show decide ((-1:aw)<0)=ai from rfl,dQ,aG (show¬(p.fe.length:aw)=20 by omega),h8.1,h8.2,dI,Kk,KV,cf,bC,Lib.dU,Lib.de,aE (show p.fe.length<p.fe.length+1 by omega),cN p.fe.length (p.fe++[vf key]) (by simp),wn _ OM,mZ.1,mZ.2];rfl
  ·have e2:L5 p.en key=ah (el p.en i):=e2;rw[e1,e2];have Ey:HR.v (bz (ar (re p.en) i 0)) (bF (ar (re p.en) i 1)) (bF (ar (re p.en) i (1+1))) (bz (ar (re p.en) i (1+1+1))) p.now=tv (el p.en i) p.now:=by rw[pF hi,r_ hi,sa hi,sb hi];rfl
   have g1:bF (ar (re p.en) i 1)=(el p.en i).st:=by rw[r_ hi];rfl
   have g3:bz (ar (re p.en) i (1+1+1))=(el p.en i).bo:=by rw[sb hi];rfl
   dsimp only;cases XK:tv (el p.en i) p.now with
   |true=>
    have g0:bz (ar (re p.en) i 0)=(el p.en i).k:=by rw[pF hi];rfl
    have g2:bF (ar (re p.en) i (1+1))=(el p.en i).li:=by rw[sa hi];rfl
    have Ey:HR.v (el p.en i).k (el p.en i).st (el p.en i).li (el p.en i).bo p.now=true:=XK;have hw:=Cy (p:=p) hi ho;have mZ:=Q8 p.now (re p.en) (rs (e6.val p.w p.m p.s p.a key).1) (rs (e6.val p.w p.m p.s p.a key).2.1) (rr (e6.val p.w p.m p.s p.a key).2.2.1) (e6.val p.w p.m p.s p.a key).2.2.2.1 (rf p.fe) p.hits ⟨id,key,0,(el p.en i).st,2,(el p.en i).bo,p.now-(el p.en i).st⟩ rfl;dsimp only at mZ;simp only[aE (show((i:aC):aw)≥0 by omega),Lib.cz,Lib.de,hi,aM,aJ,au,Lib.dU,g0,g1,g2,g3,Ey,h7.1,h7.2,hw,mZ.1,mZ.2,alw,dr];rfl
   |false=>
    rw[XK]at Ey;unfold wC;rw[f2];dsimp only;by_cases YI:p.fe.length=20
    ·rw[aG (show¬p.fe.length<20 by omega)];simp only[aE (show((i:aC):aw)≥0 by omega),Lib.cz,Lib.de,hi,aM,aJ,au,ax,Lib.dU,dr,Ey,h5.1,h5.2,show decide ((-1:aw)<0)=ai from rfl,dQ,aE (show(p.fe.length:aw)=20 by omega)];rfl
    ·have mZ:=Q8 p.now (re (fY p.en key)) (rs (without p.w key)) (rs (without p.m key)) (rr (dq.val p.s p.a key).1) (dq.val p.s p.a key).2 (rf (p.fe++[vf key])) p.hits ⟨id,key,(p.fe.length:aw)+1,0,1,(el (p.fe++[vf key]) p.fe.length).t,0⟩ rfl;dsimp only at mZ;rw[aE (show p.fe.length<20 by omega)];simp only[aE (show((i:aC):aw)≥0 by omega),Lib.cz,dr,hi,aM,aJ,Ey,h9.1,h9.2,RC.1,RC.2,ax,h5.1,h5.2,au,show decide ((-1:aw)<0)=ai from rfl,dQ,aG (show¬(p.fe.length:aw)=20 by omega),h8.1,h8.2,dI,Kk,KV,cf,bC,Lib.dU,Lib.de,aE (show p.fe.length<p.fe.length+1 by omega),cN p.fe.length (p.fe++[vf key]) (by simp),wn _ OM,mZ.1,mZ.2];rfl
 ·have f2:RI p.fe key=ah j:=f2;rw[dQ,f1]at h5;have nj:decide (((j:aC):aw)<0)=false:=aG (by omega);rcases Cv p.en (λe=>decide (e.k=key)) _ hep with ⟨e1,e2,_⟩|⟨i,hi,e1,e2,_⟩
  ·have e2:L5 p.en key=none:=e2;rw[e1,e2];unfold wC;rw[f2];dsimp only;have mZ:=Q8 p.now (re p.en) (rs p.w) (rs p.m) (rr (dq.val p.s p.a key).1) (dq.val p.s p.a key).2 (rf p.fe) p.hits ⟨id,key,(j:aw)+1,0,1,(el p.fe j).t,0⟩ rfl;dsimp only at mZ;simp only[show decide ((-1:aw)≥0)=ak from rfl,ax,h5.1,h5.2,au,nj,dQ,h8.1,h8.2,Lib.dU,Lib.cz,Lib.de,hj,aM,aJ,cN j p.fe hj,wn j (by omega),mZ.1,mZ.2];rfl
  ·have e2:L5 p.en key=ah (el p.en i):=e2;rw[e1,e2];have Ey:HR.v (bz (ar (re p.en) i 0)) (bF (ar (re p.en) i 1)) (bF (ar (re p.en) i (1+1))) (bz (ar (re p.en) i (1+1+1))) p.now=tv (el p.en i) p.now:=by rw[pF hi,r_ hi,sa hi,sb hi];rfl
   have g1:bF (ar (re p.en) i 1)=(el p.en i).st:=by rw[r_ hi];rfl
   have g3:bz (ar (re p.en) i (1+1+1))=(el p.en i).bo:=by rw[sb hi];rfl
   dsimp only;cases XK:tv (el p.en i) p.now with
   |true=>
    have g0:bz (ar (re p.en) i 0)=(el p.en i).k:=by rw[pF hi];rfl
    have g2:bF (ar (re p.en) i (1+1))=(el p.en i).li:=by rw[sa hi];rfl
    have Ey:HR.v (el p.en i).k (el p.en i).st (el p.en i).li (el p.en i).bo p.now=true:=XK;have hw:=Cy (p:=p) hi ho;have mZ:=Q8 p.now (re p.en) (rs (e6.val p.w p.m p.s p.a key).1) (rs (e6.val p.w p.m p.s p.a key).2.1) (rr (e6.val p.w p.m p.s p.a key).2.2.1) (e6.val p.w p.m p.s p.a key).2.2.2.1 (rf p.fe) p.hits ⟨id,key,0,(el p.en i).st,2,(el p.en i).bo,p.now-(el p.en i).st⟩ rfl;dsimp only at mZ;simp only[aE (show((i:aC):aw)≥0 by omega),Lib.cz,Lib.de,hi,aM,aJ,au,Lib.dU,g0,g1,g2,g3,Ey,h7.1,h7.2,hw,mZ.1,mZ.2,alw,dr];rfl
   |false=>rw[XK]at Ey;unfold wC;rw[f2];dsimp only;have mZ:=Q8 p.now (re (fY p.en key)) (rs (without p.w key)) (rs (without p.m key)) (rr (dq.val p.s p.a key).1) (dq.val p.s p.a key).2 (rf p.fe) p.hits ⟨id,key,(j:aw)+1,0,1,(el p.fe j).t,0⟩ rfl;dsimp only at mZ;simp only[aE (show((i:aC):aw)≥0 by omega),Lib.cz,dr,hi,aM,aJ,Ey,h9.1,h9.2,RC.1,RC.2,ax,h5.1,h5.2,au,nj,dQ,h8.1,h8.2,Lib.dU,Lib.de,hj,cN j p.fe hj,wn j (by omega),mZ.1,mZ.2];rfl
end TC

namespace w_
open Lib (re el En)
open je (L5)
def res(o:ay En):aq×aw×aw×aq×aY:=match o with|some e=>(e.k,e.st,e.li,e.bo,ai)|none=>(⟨#[]⟩,0,0,⟨#[]⟩,ak)
theorem ok(now:aw)(en:az En)(q2 q3 q4:aQ)(q5:aw)(q6 q7:aQ)(q8:aw)(key:aq)(hl:en.length<=1048576):c now (re en) q2 q3 q4 q5 q6 q7 q8 key=ai/\v now (re en) q2 q3 q4 q5 q6 q7 q8 key=res (L5 en key):=by
 refine out _ _ _ _ _ _ _ _ _ _ ?_;unfold vo b L5
 have go:∀(d i n:aC),en.length-i<=d->i<=en.length->d<n->
   l2 Lib.cy (λ(_:aq) (EC:aY) (_ _:aw) (_ _ _ _:aQ) (_:aw) (_ _:aQ) (_:aw) (RR:aq) (RS RT:aw) (RU:aq)=>ah (RR,RS,RT,RU,EC)) (λ(_:aq) (_:aY) (_ _:aw) (_ _ _ _:aQ) (_:aw) (_ _:aQ) (_:aw) (_:aq) (_ _:aw) (_:aq)=>ah (({data:= #[]}:aq),0,0,({data:= #[]}:aq),ak)) n key ak (i:aw) now (re en) q2 q3 q4 q5 q6 q7 q8 ({data:= #[]}) 0 0 ({data:= #[]})=ah (res ((en.drop i).find? λe=>decide (e.k=key))):=by
  intro d
  induction d with
  |zero=>
   intro i n h1 h2 h3;obtain⟨n,rfl⟩:∃n',n=n'+1:=⟨n-1,by omega⟩
   have:i=en.length:=by omega
   subst this;simp only[l2,r2,dr,Lib.de,bg,a_,ax,cD];rfl
  |succ d ih=>
   intro i n h1 h2 h3;obtain⟨n,rfl⟩:∃n',n=n'+1:=⟨n-1,by omega⟩
   by_cases hi:i<en.length
   ·rw[di hi];have g:=ih (i+1) n (by omega) hi (by omega);simp only[l2,r2,dr,Lib.de,hi,aM,Lib.cz,aJ,au,Lib.dU,pF hi,r_ hi,sa hi,sb hi,bz,bF,Lib.fw,fF hi,Lib.c5 hi (by omega:en.length<=9223372036854775807)];cases hk:decide (en[i].k=key)with
    |true=>rw[au,List.find?_cons_of_pos (p:=λe:En=>decide (e.k=key)) hk];rfl
    |false=>rw[ax,Lu (p:=λe:En=>decide (e.k=key)) (by simp[hk])];exact g
   ·have:i=en.length:=by omega
    subst this;simp only[l2,r2,dr,Lib.de,bg,a_,ax,cD];rfl
 have:=go en.length 0 Lib.cy (by omega) (bk _) (ck (by omega));rw[eN]at this;exact this
end w_

namespace u5
open Lib (rr rs)
open fu (without)
theorem ok(w m:az aq)(s:az (az aw))(a:aw)(key:aq)(hw:w.length<=1048576)(hm:m.length<=1048576)(hf:jj.oF s):c (rs w) (rs m) (rr s) a key=ai/\v (rs w) (rs m) (rr s) a key=(rs (without w key),rs (without m key),rr s,a):=by have h1:=nY.ok s a hf;have h2:=o9.ok w key hw;have h3:=o9.ok m key hm;exact out _ _ _ _ _ (by unfold vo b;rw[h1.1,h1.2,h2.1,h2.2,h3.1,h3.2];rfl)
end u5

namespace qg
open Lib (re el pF r_ sa sb En)
open gm (fY)
theorem ok(l:az En)(k:aq)(hl:l.length<=2097152):c (re l) k=ai/\v (re l) k=re (fY l k):=by
 refine out _ _ ?_;unfold vo b;have key:=jU l.length (λn (i:aC) (x:aQ)=>l3 Lib.cy (λ(_:aQ) (_:aq) (_:aw) (y7:aQ)=>ah y7) n (re l) k (i:aw) x) (λi=>re (fY (l.take i) k)) (ah (re (fY l k))) (λn i hi=>by
  have hlen:(fY (l.take i) k).length<=i:=by refine dc (eV ..) ?_;rw[eE];omega
  have e:fY (l.take (i+1)) k=fY (l.take i) k++(bif !decide ((el l i).k=k)then [el l i]else []):=by unfold fY;rw[bQ hi,ij,fF hi];cases hd:decide (l[i].k=k)<;>simp[hd]
  rw[e];simp only[l3,r3,dr,Lib.de,hi,aM,Lib.cz,aJ,au,Lib.dU,pF hi,r_ hi,sa hi,sb hi,bz,bF,Lib.fw,pL,bC,Lib.c5 hi (by omega:l.length<=9223372036854775807)];rw[Lib.cm (by omega) (by omega),au];cases decide ((el l i).k=k)with
  |true=>rw[aX,ax,ax,cu]
  |false=>rw[bS,au,au];unfold Lib.re;rw[cQ];rfl) (λn=>by
  simp only[l3,r3,dr,Lib.de,bg,a_,ax,dv]) Lib.cy 0 (bk _) (ck (by omega))
 exact key
end qg

namespace lM
open Lib (rc el Cl)
open je (jn)
theorem tail(l:az Cl)(x:Cl)(hl:l.length<=1048576)(c0:az Cl)(hc:c0.length<=1048577):
  l9 Lib.cy (λ(_:aQ) (_ _:aw) (_:aq) (_ _ _:aw) (_:aq) (_:aw) (y:aQ)=>ah y) Lib.cy (rc l) 0 x.id x.k x.fe x.fr x.sta x.got x.age (rc c0)=ah (rc (c0++l.filter λy=>decide (y.id>x.id))):=by
 refine Dq l (λy=>decide (y.id>x.id)) (λm (i:aC) acc=>l9 Lib.cy (λ(_:aQ) (_ _:aw) (_:aq) (_ _ _:aw) (_:aq) (_:aw) (y:aQ)=>ah y) m (rc l) (i:aw) x.id x.k x.fe x.fr x.sta x.got x.age (rc acc)) (λacc=>ah (rc acc)) c0
  (λm i acc h ha hp=> ?_) (λm i acc h hp=> ?_) (λm acc=> ?_) Lib.cy (ck (by omega))
 ·have mB:decide (l[i].id>x.id)=true:=hp;simp only[l9,r9,fc,Lib.de,h,aM,Lib.cz,aJ,au,Lib.dU,rc0 h,rc1 h,rc2 h,rc3 h,rc4 h,rc5 h,rc6 h,bz,bF,mB,pL,bC,Lib.c5 h (by omega:l.length<=9223372036854775807),Lib.cm (n:=acc.length+1) (b:=72) (by omega) (by omega)];unfold Lib.rc;rw[cQ];rfl
 ·have mB:decide (l[i].id>x.id)=false:=hp;simp only[l9,r9,fc,Lib.de,h,aM,Lib.cz,aJ,au,ax,Lib.dU,rc0 h,bF,mB,Lib.c5 h (by omega:l.length<=9223372036854775807)]
 ·simp only[l9,r9,fc,Lib.de,bg,a_,ax]
theorem ok(l:az Cl)(x:Cl)(hl:l.length<=1048576):c (rc l) x.id x.k x.fe x.fr x.sta x.got x.age=ai/\v (rc l) x.id x.k x.fe x.fr x.sta x.got x.age=rc (jn l x):=by
 refine out _ _ _ _ _ _ _ _ ?_;unfold vo b
 have key:=Dq l (λy=>decide (y.id<x.id))
  (λm (i:aC) acc=>l3 Lib.cy (λ(Lf:aQ) (_ Nn:aw) (I4:aq) (XU XV RO:aw) (EC:aq) (GN:aw) (Fu:aQ)=>bif(cC (bK Fu+bK (aL (aN [Ck.i ao,Ck.s,Ck.i ao,Ck.i ao,Ck.i ao,Ck.s,Ck.i ao] 1) 0 [CV.i ao Nn,CV.s I4,CV.i ao XU,CV.i ao XV,CV.i ao RO,CV.s EC,CV.i ao GN])) 72)then(l9 Lib.cy (λ(_:aQ) (_ _:aw) (_:aq) (_ _ _:aw) (_:aq) (_:aw) (y39:aQ)=>ah y39) Lib.cy Lf 0 Nn I4 XU XV RO EC GN (Fu++aL (aN [Ck.i ao,Ck.s,Ck.i ao,Ck.i ao,Ck.i ao,Ck.s,Ck.i ao] 1) 0 [CV.i ao Nn,CV.s I4,CV.i ao XU,CV.i ao XV,CV.i ao RO,CV.s EC,CV.i ao GN]))else(aj)) m (rc l) (i:aw) x.id x.k x.fe x.fr x.sta x.got x.age (rc acc))
  (λacc=>bif cC (acc.length+1) 72 then l9 Lib.cy (λ(_:aQ) (_ _:aw) (_:aq) (_ _ _:aw) (_:aq) (_:aw) (y:aQ)=>ah y) Lib.cy (rc l) 0 x.id x.k x.fe x.fr x.sta x.got x.age (rc (acc++[x]))else aj) []
  (λm i acc h ha hp=>by
   have mB:decide (l[i].id<x.id)=true:=hp;have ha:acc.length<=i:=by simpa using ha
   simp only[l3,r3,fc,Lib.de,h,aM,Lib.cz,aJ,au,Lib.dU,rc0 h,rc1 h,rc2 h,rc3 h,rc4 h,rc5 h,rc6 h,bz,bF,mB,pL,bC,Lib.c5 h (by omega:l.length<=9223372036854775807),Lib.cm (n:=acc.length+1) (b:=72) (by omega) (by omega)];unfold Lib.rc;rw[cQ];rfl)
  (λm i acc h hp=>by have mB:decide (l[i].id<x.id)=false:=hp;simp only[l3,r3,fc,Lib.de,h,aM,Lib.cz,aJ,au,ax,Lib.dU,rc0 h,bF,mB,Lib.c5 h (by omega:l.length<=9223372036854775807)])
  (λm acc=>by simp only[l3,r3,fc,Lib.de,bg,a_,ax,pL,bC];unfold Lib.rc;rw[cQ];rfl) Lib.cy (ck (by omega))
 refine key.trans ?_;have hf:=eV (λy:Cl=>decide (y.id<x.id)) l;rw[gG,Lib.cm (by omega) (by omega),au,tail l x hl _ (by simp;omega)];unfold jn;rw[bU]
end lM

namespace w6
open Lib (rr rs re rf rc Px Cl Fe En el)
open fu (without)
open jR (eZ)
open qR (jv)
open nN (mw)
open je (hit wC put L5 RI Ji mn jn vf tv)
open gm (fY)
open GO (iZ rR)
open TC (res Cy KV)
theorem find(k0 k1:aw->aq->aw->aw->aw->aQ->aQ->aQ->aQ->aw->aQ->aQ->aw->aw->aw->aw->aw->aw->aw->aQ->aQ->aQ->aQ->aQ->aQ->ay R)(cl:az Cl)(hl:cl.length<=1048576)(id:aw)(key:aq)(z4 z6:aw)(q7 q8 q9 Fm:aQ)(Xk:aw)(V2:aQ)(Xl z15 K5 z17 PY PZ P0:aw)(V3 V4 V5 V6 V7 V8:aQ):
  (mn cl id=ak->l5 Lib.cy k0 k1 Lib.cy id key z4 0 z6 q7 q8 q9 Fm Xk V2 (rc cl) Xl z15 K5 z17 PY PZ P0 V3 V4 V5 V6 V7 V8=k1 id key z4 (cl.length:aw) z6 q7 q8 q9 Fm Xk V2 (rc cl) Xl z15 K5 z17 PY PZ P0 V3 V4 V5 V6 V7 V8)/\
  (mn cl id=ai->∃j:aw,l5 Lib.cy k0 k1 Lib.cy id key z4 0 z6 q7 q8 q9 Fm Xk V2 (rc cl) Xl z15 K5 z17 PY PZ P0 V3 V4 V5 V6 V7 V8=k0 id key 1 j z6 q7 q8 q9 Fm Xk V2 (rc cl) Xl PY PZ P0 PY PZ P0 V3 V4 V5 V6 V7 V8):=by
 have go:∀(d i n:aC),cl.length-i<=d->i<=cl.length->d<n->
   (((cl.drop i).any λx=>decide (x.id=id))=ak->l5 Lib.cy k0 k1 n id key z4 (i:aw) z6 q7 q8 q9 Fm Xk V2 (rc cl) Xl z15 K5 z17 PY PZ P0 V3 V4 V5 V6 V7 V8=k1 id key z4 (cl.length:aw) z6 q7 q8 q9 Fm Xk V2 (rc cl) Xl z15 K5 z17 PY PZ P0 V3 V4 V5 V6 V7 V8)/\
   (((cl.drop i).any λx=>decide (x.id=id))=ai->∃j:aw,l5 Lib.cy k0 k1 n id key z4 (i:aw) z6 q7 q8 q9 Fm Xk V2 (rc cl) Xl z15 K5 z17 PY PZ P0 V3 V4 V5 V6 V7 V8=k0 id key 1 j z6 q7 q8 q9 Fm Xk V2 (rc cl) Xl PY PZ P0 PY PZ P0 V3 V4 V5 V6 V7 V8):=by
  intro d
  induction d with
  |zero=>
   intro i n h1 h2 h3;obtain⟨n,rfl⟩:∃n',n=n'+1:=⟨n-1,by omega⟩
   have:i=cl.length:=by omega
   subst this;rw[cD];exact⟨λ_=>by simp only[l5,r5,fc,Lib.de,bg,a_,ax],λh=>by cases h⟩
  |succ d ih=>
   intro i n h1 h2 h3;obtain⟨n,rfl⟩:∃n',n=n'+1:=⟨n-1,by omega⟩
   by_cases hi:i<cl.length
   ·rw[di hi,List.any_cons];obtain⟨g1,g2⟩:=ih (i+1) n (by omega) hi (by omega);have e:l5 Lib.cy k0 k1 (n+1) id key z4 (i:aw) z6 q7 q8 q9 Fm Xk V2 (rc cl) Xl z15 K5 z17 PY PZ P0 V3 V4 V5 V6 V7 V8=bif decide (cl[i].id=id)then k0 id key 1 (i:aw) z6 q7 q8 q9 Fm Xk V2 (rc cl) Xl PY PZ P0 PY PZ P0 V3 V4 V5 V6 V7 V8 else l5 Lib.cy k0 k1 n id key z4 ((i+1:aC):aw) z6 q7 q8 q9 Fm Xk V2 (rc cl) Xl z15 K5 z17 PY PZ P0 V3 V4 V5 V6 V7 V8:=by simp only[l5,r5,fc,Lib.de,hi,aM,Lib.cz,aJ,au,Lib.dU,rc0 hi,bF,Lib.c5 hi (by omega:cl.length<=9223372036854775807)]
    rw[e];cases hc:decide (cl[i].id=id)with
    |true=>exact⟨λh=>by simp at h,λ_=>⟨i,rfl⟩⟩
    |false=>rw[od,ax];exact⟨g1,g2⟩
   ·have:i=cl.length:=by omega
    subst this;rw[cD];exact⟨λ_=>by simp only[l5,r5,fc,Lib.de,bg,a_,ax],λh=>by cases h⟩
 have:=go cl.length 0 Lib.cy (by omega) (bk _) (ck (by omega));rw[eN]at this;exact this
def sc(key:aq):az Fe->aC->aw×aq->aw×aq
 |[],_,s=>s|x::r,i,s=>sc key r (i+1) (bif Ji key x then((i:aw)+1,x.t)else s)
theorem scan(k0:aq->aY->aw->aw->aQ->aQ->aQ->aQ->aw->aQ->aQ->aw->aw->aw->aw->aw->aw->aw->aw->aq->aw->aw->aw->aq->aw->aQ->aQ->aQ->aQ->aQ->aQ->ay R)(fe:az Fe)(hl:fe.length<=1048576)(key:aq)(h0:aY)(z84:aw)(q85 q86 q87 q88:aQ)(z89:aw)(q91:aQ)(z92 z93 z94 z95 z96 z97 z98 z99:aw)(aaX:aq)(abk abl abm:aw)(aaL aaM aaN aaO aaQ aaR:aQ):
  Zd Lib.cy k0 Lib.cy key h0 0 z84 q85 q86 q87 q88 z89 (rf fe) q91 z92 z93 z94 z95 z96 z97 z98 z99 aaX 0 abk abl ({data:= #[]}) abm aaL aaM aaN aaO aaQ aaR=k0 key h0 (fe.length:aw) z84 q85 q86 q87 q88 z89 (rf fe) q91 z92 z93 z94 z95 z96 z97 z98 z99 aaX (sc key fe 0 (0,⟨#[]⟩)).1 abk abl (sc key fe 0 (0,⟨#[]⟩)).2 abm aaL aaM aaN aaO aaQ aaR:=by
 have go:∀(d i n:aC) (s:aw×aq),fe.length-i<=d->i<=fe.length->d<n->
   Zd Lib.cy k0 n key h0 (i:aw) z84 q85 q86 q87 q88 z89 (rf fe) q91 z92 z93 z94 z95 z96 z97 z98 z99 aaX s.1 abk abl s.2 abm aaL aaM aaN aaO aaQ aaR=k0 key h0 (fe.length:aw) z84 q85 q86 q87 q88 z89 (rf fe) q91 z92 z93 z94 z95 z96 z97 z98 z99 aaX (sc key (fe.drop i) i s).1 abk abl (sc key (fe.drop i) i s).2 abm aaL aaM aaN aaO aaQ aaR:=by
  intro d
  induction d with
  |zero=>
   intro i n s h1 h2 h3;obtain⟨n,rfl⟩:∃n',n=n'+1:=⟨n-1,by omega⟩
   have:i=fe.length:=by omega
   subst this;simp only[Zd,r22,dQ,Lib.de,bg,a_,ax,cD,sc]
  |succ d ih=>
   intro i n s h1 h2 h3;obtain⟨n,rfl⟩:∃n',n=n'+1:=⟨n-1,by omega⟩
   by_cases hi:i<fe.length
   ·rw[di hi];unfold sc;rw[<-ih (i+1) n _ (by omega) hi (by omega)];have w:=Lib.c5 hi (by omega:fe.length<=9223372036854775807);have w2:((i+1:aC):aw)=(i:aw)+1:=by omega
    simp only[Zd,r22,dQ,Lib.de,hi,aM,Lib.cz,aJ,au,Lib.dU,I1 hi,GM hi,Bh hi,bz,bF,Lib.fw,w,fF hi];unfold Ji;cases decide (fe[i].k=key)<;>cases decide (fe[i].sta=1)<;>simp only[j4,wM,aJ,lu,au,ax,w2]
   ·have:i=fe.length:=by omega
    subst this;simp only[Zd,r22,dQ,Lib.de,bg,a_,ax,cD,sc]
 have:=go fe.length 0 Lib.cy (0,⟨#[]⟩) (by omega) (bk _) (ck (by omega));rw[eN]at this;exact this
theorem aa1(key:aq):∀(l:az Fe) (i:aC) (s:aw×aq),(∀x∈l,Ji key x=ak)->sc key l i s=s:=by
 intro l;induction l with
 |nil=>intro i s _;rfl
 |cons x l ih=>intro i s h;unfold sc;rw[h x (by simp),ax];exact ih _ _ λy hy=>h y (by simp[hy])
theorem aiz{fe:az Fe}(hp:fe.Pairwise λf g=>mw g f=ak)(key:aq):sc key fe 0 (0,⟨#[]⟩)=match RI fe key with|some j=>((j:aw)+1,(el fe j).t)|none=>(0,⟨#[]⟩):=by
 have go:∀(l:az Fe) (i:aC),l.Pairwise (λf g=>mw g f=ak)->sc key l i (0,⟨#[]⟩)=match l.findIdx? (Ji key)with|some j=>(((i+j:aC):aw)+1,(el l j).t)|none=>(0,⟨#[]⟩):=by
  intro l;induction l with
  |nil=>intro i _;rfl
  |cons x l ih=>
   intro i h;rw[qu]at h;unfold sc;rw[List.findIdx?_cons];cases hq:Ji key x with
   |true=>
    have hn:∀y∈l,Ji key y=false:=λy hy=>by
     have h2:=h.1 y hy;unfold Ji at hq⊢;unfold mw at h2;simp only[aK,bj]at hq;rw[hq.1,hq.2]at h2;simp only[Bool.and_eq_false_iff,fg]at h2⊢;rcases h2 with h2|h2
     ·exact .inr h2
     ·rcases h2 with h2|h2
      ·exact cS trivial h2
      ·exact .inl h2
    rw[au,aa1 key l _ _ hn];rfl
   |false=>
    rw[ax,ih (i+1) h.2];cases l.findIdx? (Ji key)with
    |none=>rfl
    |some j=>simp only[dt,if_false,jc,show i+1+j=i+(j+1)by omega];rfl
 have:=go fe 0 hp;unfold RI;rw[this];cases fe.findIdx? (Ji key)with
 |none=>rfl
 |some j=>dsimp only;rw[bT]
theorem ok(p:Px)(id:aw)(key:aq)(hp:p.Fit 1048576)(hkz:key.size<=140737488355328):c p.now (re p.en) (rs p.w) (rs p.m) (rr p.s) p.a (rf p.fe) (rc p.cl) p.hits id key=ai/\v p.now (re p.en) (rs p.w) (rs p.m) (rr p.s) p.a (rf p.fe) (rc p.cl) p.hits id key=res (je.ask p id key):=by
 have h1:=fJ.ok p hp;have h2:=qR.ok p hp;have pD:=hp.cl;have OM:=hp.fe;have hen:=hp.en;have Mo:jj.oF p.s:=⟨hp.s.1,hp.s.2.1⟩
 refine out _ _ _ _ _ _ _ _ _ _ _ ?_;unfold vo b je.ask;simp only[Lib.lt,h1.1,h1.2,h2.1,h2.2,au];cases cj:jv p with
 |false=>rfl
 |true=>
 have ho:iZ p:=rR.1 cj;rw[aX,ax,bm,show kq.v id 1 9=decide (1<=id/\id<=9)from fK.eO _ _ _];cases Mp:decide (1<=id/\id<=9)with
 |false=>rfl
 |true=>
 rw[aX,ax,bm,show s5.v key=eZ key from fK.eO _ _ _];cases hko:eZ key with
 |false=>rfl
 |true=>
 have B6:=e6.kH hko;rw[aX,ax,bm,fc];have hc6:=ho.cll;by_cases h6:p.cl.length=6
 ·rw[aE (show(p.cl.length:aw)≥6 by omega),au,aG (show¬p.cl.length<6 by omega),wM];rfl
 rw[aG (show¬(p.cl.length:aw)≥6 by omega),ax,aE (show p.cl.length<6 by omega),j4];cases hhi:mn p.cl id with
 |true=>obtain⟨j,hj⟩:=(find _ _ p.cl pD id key 0 p.now (re p.en) (rs p.w) (rs p.m) (rr p.s) p.a (rf p.fe) p.hits 0 0 0 p.now p.a p.hits (re p.en) (rs p.w) (rs p.m) (rr p.s) (rf p.fe) (rc p.cl)).2 hhi;refine hj.trans ?_;rfl
 |false=>
 refine((find _ _ p.cl pD id key 0 p.now (re p.en) (rs p.w) (rs p.m) (rr p.s) p.a (rf p.fe) p.hits 0 0 0 p.now p.a p.hits (re p.en) (rs p.w) (rs p.m) (rr p.s) (rf p.fe) (rc p.cl)).1 hhi).trans ?_;rw[bS,au];have h4:=w_.ok p.now p.en (rs p.w) (rs p.m) (rr p.s) p.a (rf p.fe) (rc p.cl) p.hits key hen;have h7:=e6.ok p.w p.m p.s p.a key hp.w hp.m Mo (by omega);have h8:=dq.ok p.s p.a key Mo (by omega);have h9:=u5.ok p.w p.m p.s p.a key hp.w hp.m Mo;have RC:=qg.ok p.en key (by omega);have Kr:=λx:Cl=>lM.ok p.cl x pD;have avz:=ho.hits;have sR:=ho.fl;have zC:=aiz ho.ap key;have Kk:cC (p.fe.length+1) 56=true:=Lib.cm (by omega) (by omega);have dI:∀key:aq,bK (aL (aN [Ck.s,Ck.s,Ck.i ao,Ck.i ao,Ck.i ao] 1) 0 [CV.s key,CV.s {data:= #[]},CV.i ao 1,CV.i ao 0,CV.i ao 0])=1:=λ_=>rfl;have Dx:(el (p.fe++[vf key]) p.fe.length).t=⟨#[]⟩:=by rw[fF (by simp),List.getElem_append_right (by omega)];simp[vf]
 rw[h4.1,h4.2,au];cases he:L5 p.en key with
 |some e=>
  have Uk:e∈p.en:=I9 he;obtain⟨i,hi,hie⟩:=c_ Uk;dsimp only[w_.res];rw[au,<-HM.eq,show HR.v e.k e.st e.li e.bo p.now=tv e p.now from rfl];cases Ey:tv e p.now with
  |true=>
   have hw:br (p.now-e.st)=p.now-e.st:=by have:=Cy (p:=p) hi ho;rwa[fF hi,hie]at this
   have hj:=Kr ⟨id,key,0,e.st,2,e.bo,p.now-e.st⟩;dsimp only at hj;rw[au,h7.1,h7.2,au,au,hw,hj.1,hj.2,au,au];unfold res hit;cases hh:decide (p.hits<1000000000)with
   |true=>rw[bj]at hh;rw[au,bZ (by omega) (by omega)];rfl
   |false=>rfl
  |false=>
   rw[ax,ax];refine(scan _ p.fe OM key ai p.now (re p.en) (rs p.w) (rs p.m) (rr p.s) p.a (rc p.cl) p.hits 0 0 0 p.now p.a p.hits id key 0 1 0 (re p.en) (rs p.w) (rs p.m) (rr p.s) (rf p.fe) (rc p.cl)).trans ?_;rw[zC];unfold wC;cases hoi:RI p.fe key with
   |none=>
    dsimp only;by_cases YI:p.fe.length=20
    ·rw[aG (show¬p.fe.length<20 by omega)];simp only[aM,au,dQ,aE (show(p.fe.length:aw)≥20 by omega)];rfl
    ·rw[aE (show p.fe.length<20 by omega)];have hj:=Kr ⟨id,key,(p.fe.length:aw)+1,0,1,⟨#[]⟩,0⟩;dsimp only at hj;have hlen:((p.fe.length+1:aC):aw)=(p.fe.length:aw)+1:=by omega
     simp only[aM,au,ax,dQ,aG (show¬(p.fe.length:aw)≥20 by omega),dI,Kk,RC.1,RC.2,h9.1,h9.2,h8.1,h8.2,KV,cf,bC,hlen,hj.1,hj.2];unfold res put;rw[Dx];rfl
   |some j=>dsimp only;have hj:=Kr ⟨id,key,(j:aw)+1,0,1,(el p.fe j).t,0⟩;dsimp only at hj;simp only[aG (show¬(j:aw)+1=0 by omega),au,ax,RC.1,RC.2,h9.1,h9.2,h8.1,h8.2,hj.1,hj.2];rfl
 |none=>
  dsimp only[w_.res];rw[ax];refine(scan _ p.fe OM key ak p.now (re p.en) (rs p.w) (rs p.m) (rr p.s) p.a (rc p.cl) p.hits 0 0 0 p.now p.a p.hits id key 0 1 0 (re p.en) (rs p.w) (rs p.m) (rr p.s) (rf p.fe) (rc p.cl)).trans ?_;rw[zC];unfold wC;cases hoi:RI p.fe key with
  |none=>
   dsimp only;by_cases YI:p.fe.length=20
   ·rw[aG (show¬p.fe.length<20 by omega)];simp only[aM,au,dQ,aE (show(p.fe.length:aw)≥20 by omega)];rfl
   ·rw[aE (show p.fe.length<20 by omega)];have hj:=Kr ⟨id,key,(p.fe.length:aw)+1,0,1,⟨#[]⟩,0⟩;dsimp only at hj;have hlen:((p.fe.length+1:aC):aw)=(p.fe.length:aw)+1:=by omega
    simp only[aM,au,ax,dQ,aG (show¬(p.fe.length:aw)≥20 by omega),dI,Kk,h8.1,h8.2,KV,cf,bC,hlen,hj.1,hj.2];unfold res put;rw[Dx];rfl
  |some j=>dsimp only;have hj:=Kr ⟨id,key,(j:aw)+1,0,1,(el p.fe j).t,0⟩;dsimp only at hj;simp only[aG (show¬(j:aw)+1=0 by omega),au,ax,h8.1,h8.2,hj.1,hj.2];rfl
end w6

namespace u6
open Lib (rr rs re rf rc Px el)
open qR (jv)
theorem ok(p:Px)(f:aw)(hp:p.Fit 1048576):c p.now (re p.en) (rs p.w) (rs p.m) (rr p.s) p.a (rf p.fe) (rc p.cl) p.hits f=ai/\v p.now (re p.en) (rs p.w) (rs p.m) (rr p.s) p.a (rf p.fe) (rc p.cl) p.hits f=ig.vB p f:=by
 have h:=qR.ok p hp;have hf:=hp.fe;refine out _ _ _ _ _ _ _ _ _ _ ?_;unfold vo b ig.vB;rw[h.1,h.2,au,dQ,bZ (x:=(p.fe.length:aw)-1) (by omega) (by omega),show kq.v f 0 ((p.fe.length:aw)-1)=decide (0<=f/\f<=(p.fe.length:aw)-1)from fK.eO _ _ _];cases jv p with
 |false=>rfl
 |true=>
  cases hd:decide (0<=f/\f<=(p.fe.length:aw)-1)with
  |false=>rfl
  |true=>
   have:=cF hd;obtain⟨n,rfl⟩:∃n:aC,f=(n:aw):=⟨f.toNat,by omega⟩
   have hn:n<p.fe.length:=by omega
   simp only[au,bm,Lib.cz,Lib.de,hn,aM,aJ,Lib.dU,Bh hn,bF]
end u6

namespace RV
theorem put(s:aw)(t q:aq)(ht:(t.size:aw)<=400)(hs:1<=s/\s<=3):EO.v s t [] q=bif decide (s=1)&&(decide (1<=q.size/\q.size<=40)&&decide (t.size+q.size<=400))then(s,t++q,[],ai)else(s,t,[],ak):=by
 unfold EO.v;have cj:lC.v s t []=true:=by unfold lC.v lC.rest;rw[aE hs,aE (show t.size<=400 by omega)];rfl
 by_cases h1:s=1
 ·by_cases h2:1<=q.size/\q.size<=40
  ·by_cases h3:t.size+q.size<=400
   ·rw[bB ⟨cj,h1,h2.1,h2.2,h3⟩,aE h1,aE h2,aE h3];rfl
   ·rw[bH (by omega),aG h3];simp
  ·rw[bH (by omega),aG h2];simp
 ·rw[bH (by simp[h1]),aG h1];rfl
end RV

namespace sH
open Lib (rr rs re rf rc Px Cl el)
open vD (ec oi la)
theorem ok(p:Px)(f:aC)(st:aw)(hf:f<p.fe.length)(hl:p.fe.length<=2097152)(hc:p.cl.length<=2097152):
  c p.now (re p.en) (rs p.w) (rs p.m) (rr p.s) p.a (rf p.fe) (rc p.cl) p.hits (f:aw) st=ai/\v p.now (re p.en) (rs p.w) (rs p.m) (rr p.s) p.a (rf p.fe) (rc p.cl) p.hits (f:aw) st=(p.now,re p.en,rs p.w,rs p.m,rr p.s,p.a,rf p.fe,rc (oi p.cl f st (el p.fe f).t),p.hits):=by
 refine out _ _ _ _ _ _ _ _ _ _ _ ?_;unfold vo b;have key:=nJ Cl.row p.cl (λ_ c=>ec f st (el p.fe f).t c) (λn (i:aC) x=>l1 Lib.cy (λ(_ _ _ XV RO EC:aw) (GN Fu wK Lh Li Xh:aQ)=>ah (XV,GN,Fu,wK,Lh,RO,Li,Xh,EC)) n (f:aw) st (i:aw) p.now p.a p.hits (re p.en) (rs p.w) (rs p.m) (rr p.s) (rf p.fe) x) (λx=>ah (p.now,re p.en,rs p.w,rs p.m,rr p.s,p.a,rf p.fe,x,p.hits)) (λn i L h h2 hL wv=> ?_) (λn L hL=> ?_) Lib.cy (ck (by omega))
 ·rw[la]at key;exact key
 ·have e2:ar (L.map Cl.row) i 2=CV.i ao p.cl[i].fe:=by rw[fE _ L i _ h2,wv];rfl
  have e4:ar (L.map Cl.row) i 4=CV.i ao p.cl[i].sta:=by rw[fE _ L i _ h2,wv];rfl
  have s1:cK (L.map Cl.row) i 5 [CV.s (el p.fe f).t]=(L.set i {p.cl[i]with got:=(el p.fe f).t}).map Cl.row:=kO Cl.row L i 5 _ _ h2 (by rw[wv];rfl);have h3:i<(L.set i {p.cl[i]with got:=(el p.fe f).t}).length:=by simpa using h2
  have s2:cK ((L.set i {p.cl[i]with got:=(el p.fe f).t}).map Cl.row) i 4 [CV.i ao st]=((L.set i {p.cl[i]with got:=(el p.fe f).t}).set i {p.cl[i]with sta:=st,got:=(el p.fe f).t}).map Cl.row:=kO Cl.row _ i 4 _ _ h3 (by rw[kD];rfl);simp only[l1,r1,Lib.de,h2,hf,bR,cO,aM,Lib.cz,aJ,au,Lib.dU,e2,e4,bF,s1,s2,pI,dQ,GM hf,bz,Lib.c5 h (by omega:p.cl.length<=9223372036854775807),bZ (x:=(f:aw)+1) (by omega) (by omega)];unfold ec;cases decide (p.cl[i].fe=(f:aw)+1)with
  |false=>rw[lu,ax,ax,<-wv,fy]
  |true=>
   cases decide (p.cl[i].sta=1)with
   |false=>rw[bm,au,ax,ax,<-wv,fy]
   |true=>rw[bm,au,au,au]
 ·simp only[l1,r1,bR,hL,Lib.de,bg,a_,ax]
end sH

namespace ER
open Lib (rr rs re rf rc Px el)
open ig (vB Gz told jx nU jT yN)
theorem ok(p:Px)(f:aw)(q:aq)(hp:p.Fit 1048576):c p.now (re p.en) (rs p.w) (rs p.m) (rr p.s) p.a (rf p.fe) (rc p.cl) p.hits f q=ai/\v p.now (re p.en) (rs p.w) (rs p.m) (rr p.s) p.a (rf p.fe) (rc p.cl) p.hits f q=(p.now,re p.en,rs p.w,rs p.m,rr p.s,p.a,rf (Gz p f q).1.fe,rc (Gz p f q).1.cl,p.hits,(Gz p f q).2):=by
 have h1:=fJ.ok p hp;have h2:=u6.ok p f hp;have hf:=hp.fe;have hc:=hp.cl;refine out _ _ _ _ _ _ _ _ _ _ _ ?_;unfold vo b Gz;simp only[Lib.lt,h1.1,h1.2,h2.1,h2.2,au];cases ho:vB p f with
 |false=>rfl
 |true=>
  obtain⟨n,rfl,hn,cj,hs1⟩:=jx ho;have xS:=ig.acf cj n hn;unfold nN.nC at xS;simp only[aK,bj]at xS;have mZ:HQ.v 1 (el p.fe n).t [] q=_:=RV.put 1 (el p.fe n).t q xS.2.1 (by omega);rw[aE (show(1:aw)=1 from rfl),bm]at mZ;simp only[aX,ax,au,Lib.cz,Lib.de,dQ,hn,aM,aJ,Lib.dU,GM hn,bz,mZ,bm];cases hs:decide (1<=q.size/\q.size<=40)&&decide ((el p.fe n).t.size+q.size<=400)with
  |false=>rfl
  |true=>
   have e1:=yN p.fe n 1 [CV.s ((el p.fe n).t++q)] {el p.fe n with t:=(el p.fe n).t++q} hn rfl;have Ij:n<(p.fe.set n {el p.fe n with t:=(el p.fe n).t++q}).length:=by rw[cO];exact hn
   have h3:=sH.ok {p with fe:=p.fe.set n {el p.fe n with t:=(el p.fe n).t++q}} n 1 Ij (by rw[cO];omega) (by dsimp only;omega);dsimp only at h3;rw[jT hn]at h3;simp only[aX,ax,au,e1,h3.1,h3.2];rfl
end ER

namespace Qf
open Lib (rr rs re rf rc Px En el)
open gm (So fY m7)
open lV (EB)
theorem ok(p:Px)(e:En)(r6 r7:aQ)(hp:p.Fit 1048575)(hso:So p.en)(AJ:∀x∈p.en,1<=x.k.size)(hk:e.k.size<=140737488355328):
  c p.now (re p.en) (rs p.w) (rs p.m) (rr p.s) p.a r6 r7 p.hits e.k e.st e.li e.bo=ai/\v p.now (re p.en) (rs p.w) (rs p.m) (rr p.s) p.a r6 r7 p.hits e.k e.st e.li e.bo=(p.now,re (EB p e).en,rs (EB p e).w,rs (EB p e).m,rr (EB p e).s,(EB p e).a,r6,r7,p.hits):=by
 have he:=hp.en;have hw:=hp.w;have hm:=hp.m;obtain⟨b1,b2,b3⟩:=e6.Nh p.w p.m p.s p.a e.k;have h1:=e6.ok p.w p.m p.s p.a e.k (by omega) (by omega) ⟨dc hp.s.1 (by omega),λq hq=>dc (hp.s.2.1 q hq) (by omega)⟩ hk;refine out _ _ _ _ _ _ _ _ _ _ _ _ _ ?_;unfold vo b EB;generalize e6.val p.w p.m p.s p.a e.k=V at h1 b1 b2 b3;obtain⟨W,M,T,A,G⟩:=V;dsimp only at h1 b1 b2⊢;have h2:=qg.ok p.en G (by omega);have h3:=s7.ok W M (rr T) A e.k (by omega) (by omega);have hd:=gm.xI p.en G;have h4:=lG.ok (re (fY p.en G)) e.k e.st e.li e.bo (by rw[dr];omega);rw[gm.tN]at h4;simp only[Lib.lt,h1.1,h1.2,h2.1,h2.2,h3.1,h3.2,h4.1,h4.2,au,Lib.fw];by_cases hG:G=⟨#[]⟩
 ·subst hG;rw[gm.drop_nil AJ]at h4⊢;rw[aE rfl];simp only[aX,ax,h4.1,h4.2,au];cases fu.has W e.k||fu.has M e.k<;>rfl
 ·rw[aG hG];simp only[bS,au];cases fu.has W e.k||fu.has M e.k<;>rfl
end Qf

namespace EV
open Lib (rr rs re rf rc Px el)
open ig (vB told jx nU jT yN)
open vh (cls lD)
theorem ok(p:Px)(f life:aw)(hp:p.Fit 1048576):c p.now (re p.en) (rs p.w) (rs p.m) (rr p.s) p.a (rf p.fe) (rc p.cl) p.hits f life=ai/\v p.now (re p.en) (rs p.w) (rs p.m) (rr p.s) p.a (rf p.fe) (rc p.cl) p.hits f life=(p.now,re (cls p f life).1.en,rs (cls p f life).1.w,rs (cls p f life).1.m,rr (cls p f life).1.s,(cls p f life).1.a,rf (cls p f life).1.fe,rc (cls p f life).1.cl,p.hits,(cls p f life).2):=by
 have h1:=fJ.ok p hp;have h2:=u6.ok p f hp;have hf:=hp.fe;have hc:=hp.cl;refine out _ _ _ _ _ _ _ _ _ _ _ ?_;unfold vo b cls;simp only[Lib.lt,h1.1,h1.2,h2.1,h2.2,au];cases ho:vB p f with
 |false=>rfl
 |true=>
  obtain⟨n,rfl,hn,cj,hs1⟩:=jx ho;obtain⟨so,ks,_,_,_,_,_,_,_,_,xS⟩:=lV.IH cj;have xS:=xS n hn;unfold nN.nC at xS;rw[aK]at xS;have B6:=e6.kH xS.1;rw[show kq.v life 0 999999=decide (0<=life/\life<=999999)from fK.eO _ _ _];cases hl:decide (0<=life/\life<=999999)with
  |false=>rfl
  |true=>
   generalize hg:({el p.fe n with sta:=2,li:=life,st:=p.now}:Lib.Fe)=g;have hk:g.k=(el p.fe n).k:=by rw[<-hg]
   have ht:g.t=(el p.fe n).t:=by rw[<-hg]
   have gl:g.li=life:=by rw[<-hg]
   have gs:g.st=p.now:=by rw[<-hg]
   have e3:=yN p.fe n 0 [CV.s (el p.fe n).k,CV.s (el p.fe n).t,CV.i ao 2,CV.i ao life,CV.i ao p.now] g hn (by rw[<-hg];rfl);have n3:n<(p.fe.set n g).length:=by rw[cO];exact hn
   have h3:=sH.ok {p with fe:=p.fe.set n g} n 2 n3 (by rw[cO];omega) (by dsimp only;omega);dsimp only at h3;rw[jT hn]at h3;have h4:=Qf.ok (told p n g 2) (lD g) (rf (p.fe.set n g)) (rc (told p n g 2).cl) ((nU (lV.jJ cj)).le (by omega)) so ks (by show g.k.size<=_;rw[hk];omega);unfold lD at h4;dsimp only[told]at h4;rw[gl,gs,hk,ht]at h4;unfold lD told;rw[ht]at h3;simp only[aX,ax,au,Lib.cz,Lib.de,dQ,hn,aM,aJ,bm,Lib.dU,I1 hn,GM hn,wf2 hn,RM hn,RN hn,bF,bz,e3,h3.1,h3.2,gl,gs,hk,ht];cases decide (life>0)with
   |true=>simp only[au,h4.1,h4.2];subst hg;rfl
   |false=>subst hg;rfl
end EV

namespace EW
theorem ok(k:aq)(s l:aw)(b0:aq):c k s l b0=ai/\v k s l b0=uY.val k s l b0:=by
 refine out k s l b0 ?_;have hf:=fI.ok (jF.v k s l b0).1;unfold vo b uY.val;rw[hf.1,hf.2];unfold jF.v fI.val;by_cases h:nq.v k s l b0=ai
 ·have h1:=mM.tY h;have h2:=mM.CJ h;rw[bB h,bB h,bB (by dsimp only;omega)];rfl
 ·rw[bH h,bH h];rfl
end EW

namespace eu
open Lib (rd el Fi)
open dF (put)
theorem tail(l:az Fi)(n t:aq)(k:aw)(hl:l.length<=1000000)(c0:az Fi)(hc:c0.length<=1000001):
  l9 Lib.cy (λ(_:aw) (_:aQ) (_ _:aq) (_:aw) (y:aQ)=>ah y) Lib.cy 0 (rd l) n t k (rd c0)=ah (rd (c0++l.filter λx=> !(gm.fm x.n n||decide (x.n=n)))):=by
 refine Dq l (λx=> !(gm.fm x.n n||decide (x.n=n))) (λm (i:aC) acc=>l9 Lib.cy (λ(_:aw) (_:aQ) (_ _:aq) (_:aw) (y:aQ)=>ah y) m (i:aw) (rd l) n t k (rd acc)) (λacc=>ah (rd acc)) c0
  (λm i acc h ha hp=> ?_) (λm i acc h hp=> ?_) (λm acc=> ?_) Lib.cy (ck (by omega))
 ·have mB:(!(b9 (aA l[i].n) (aA n)||decide (l[i].n=n)))=true:=hp;simp only[l9,r9,ed,Lib.de,h,aM,Lib.cz,aJ,au,Lib.dU,KJ h,XR h,XS h,bz,bF,Lib.fw,mB,pL,bC,Lib.c5 h (by omega:l.length<=9223372036854775807),Lib.cm (n:=acc.length+1) (b:=40) (by omega) (by omega)];unfold Lib.rd;rw[cQ];rfl
 ·have mB:(!(b9 (aA l[i].n) (aA n)||decide (l[i].n=n)))=false:=hp;simp only[l9,r9,ed,Lib.de,h,aM,Lib.cz,aJ,au,ax,Lib.dU,KJ h,bz,Lib.fw,mB,Lib.c5 h (by omega:l.length<=9223372036854775807)]
 ·simp only[l9,r9,ed,Lib.de,bg,a_,ax]
theorem ok(l:az Fi)(n t:aq)(k:aw)(hl:l.length<=1000000):c (rd l) n t k=ai/\v (rd l) n t k=rd (put l ⟨n,t,k⟩):=by
 refine out _ _ _ _ ?_;unfold vo b
 have key:=OB l (λx=>gm.fm x.n n)
  (λm (i:aC)=>l3 Lib.cy (λ(_:aw) (y41:aQ) (y42 y43:aq) (Xj:aw)=>l9 Lib.cy (λ(_:aw) (_:aQ) (_ _:aq) (_:aw) (y50:aQ)=>ah y50) Lib.cy 0 y41 y42 y43 Xj ([]++aL (aN [Ck.s,Ck.s,Ck.i ao] 1) 0 [CV.s y42,CV.s y43,CV.i ao Xj])) (λ(_:aw) (y52:aQ) (y53 y54:aq) (y55:aw) (y56:aQ)=>bif(cC (bK y56+bK (aL (aN [Ck.s,Ck.s,Ck.i ao] 1) 0 [CV.s y53,CV.s y54,CV.i ao y55])) 40)then(l9 Lib.cy (λ(_:aw) (_:aQ) (_ _:aq) (_:aw) (y62:aQ)=>ah y62) Lib.cy 0 y52 y53 y54 y55 (y56++aL (aN [Ck.s,Ck.s,Ck.i ao] 1) 0 [CV.s y53,CV.s y54,CV.i ao y55]))else(aj)) m (i:aw) (rd l) n t k)
  (λm (i:aC) acc=>sK Lib.cy (λ(_:aw) (y41:aQ) (y42 y43:aq) (Xj:aw)=>l9 Lib.cy (λ(_:aw) (_:aQ) (_ _:aq) (_:aw) (y50:aQ)=>ah y50) Lib.cy 0 y41 y42 y43 Xj ([]++aL (aN [Ck.s,Ck.s,Ck.i ao] 1) 0 [CV.s y42,CV.s y43,CV.i ao Xj])) (λ(_:aw) (y52:aQ) (y53 y54:aq) (y55:aw) (y56:aQ)=>bif(cC (bK y56+bK (aL (aN [Ck.s,Ck.s,Ck.i ao] 1) 0 [CV.s y53,CV.s y54,CV.i ao y55])) 40)then(l9 Lib.cy (λ(_:aw) (_:aQ) (_ _:aq) (_:aw) (y62:aQ)=>ah y62) Lib.cy 0 y52 y53 y54 y55 (y56++aL (aN [Ck.s,Ck.s,Ck.i ao] 1) 0 [CV.s y53,CV.s y54,CV.i ao y55]))else(aj)) m (i:aw) (rd l) n t k (rd acc))
  (λacc=>bif cC (acc.length+1) 40 then l9 Lib.cy (λ(_:aw) (_:aQ) (_ _:aq) (_:aw) (y:aQ)=>ah y) Lib.cy 0 (rd l) n t k (rd (acc++[⟨n,t,k⟩]))else aj)
  (λm i h hp=>by have mB:b9 (aA l[i].n) (aA n)=true:=hp;simp only[l3,r3,ed,Lib.de,h,aM,Lib.cz,aJ,au,Lib.dU,KJ h,XR h,XS h,bz,bF,mB,pL,Lib.c5 h (by omega:l.length<=9223372036854775807)];rfl)
  (λm i h hp=>by have mB:b9 (aA l[i].n) (aA n)=false:=hp;simp only[l3,r3,ed,Lib.de,h,aM,Lib.cz,aJ,au,ax,Lib.dU,KJ h,bz,mB,Lib.c5 h (by omega:l.length<=9223372036854775807)])
  (λm=>by simp only[l3,r3,ed,Lib.de,bg,a_,ax];rw[Lib.cm (by simp) (by simp),au];rfl)
  (λm i acc h ha hp=>by have mB:b9 (aA l[i].n) (aA n)=true:=hp;simp only[sK,AY,ed,Lib.de,h,aM,Lib.cz,aJ,au,Lib.dU,KJ h,XR h,XS h,bz,bF,mB,pL,bC,Lib.c5 h (by omega:l.length<=9223372036854775807),Lib.cm (n:=acc.length+1) (b:=40) (by omega) (by omega)];unfold Lib.rd;rw[cQ];rfl)
  (λm i acc h hp=>by have mB:b9 (aA l[i].n) (aA n)=false:=hp;simp only[sK,AY,ed,Lib.de,h,aM,Lib.cz,aJ,au,ax,Lib.dU,KJ h,bz,mB,Lib.c5 h (by omega:l.length<=9223372036854775807)])
  (λm acc=>by simp only[sK,AY,ed,Lib.de,bg,a_,ax,pL,bC];unfold Lib.rd;rw[cQ];rfl) Lib.cy (ck (by omega))
 refine key.trans ?_;have hf:=eV (λx:Fi=>gm.fm x.n n) l;rw[Lib.cm (by omega) (by omega),au,tail l n t k hl _ (by simp;omega)];unfold put;rw[bU]
end eu

namespace eQ
open Lib (rd el Fi)
open dF (without)
theorem ok(l:az Fi)(n:aq)(hl:l.length<=1000000):c (rd l) n=ai/\v (rd l) n=rd (without l n):=by
 refine out _ _ ?_;unfold vo b
 have key:=OB l (λx=> !decide (x.n=n))
  (λm (i:aC)=>l3 Lib.cy (λ(_:aq) (_:aw) (_:aQ)=>ah ([]:aQ)) (λ(_:aq) (_:aw) (_:aQ) (wK:aQ)=>ah wK) m n (i:aw) (rd l))
  (λm (i:aC) acc=>sK Lib.cy (λ(_:aq) (_:aw) (_:aQ)=>ah ([]:aQ)) (λ(_:aq) (_:aw) (_:aQ) (wK:aQ)=>ah wK) m n (i:aw) (rd l) (rd acc)) (λacc=>ah (rd acc))
  (λm i h hp=>by simp only[l3,r3,ed,Lib.de,h,aM,Lib.cz,aJ,au,Lib.dU,KJ h,XR h,XS h,bz,bF,Lib.fw,hp,pL,Lib.c5 h (by omega:l.length<=9223372036854775807)];rfl)
  (λm i h hp=>by simp only[l3,r3,ed,Lib.de,h,aM,Lib.cz,aJ,au,ax,Lib.dU,KJ h,bz,Lib.fw,hp,Lib.c5 h (by omega:l.length<=9223372036854775807)])
  (λm=>by simp only[l3,r3,ed,Lib.de,bg,a_,ax];rfl)
  (λm i acc h ha hp=>by simp only[sK,AY,ed,Lib.de,h,aM,Lib.cz,aJ,au,Lib.dU,KJ h,XR h,XS h,bz,bF,Lib.fw,hp,pL,bC,Lib.c5 h (by omega:l.length<=9223372036854775807),Lib.cm (n:=acc.length+1) (b:=40) (by omega) (by omega)];unfold Lib.rd;rw[cQ];rfl)
  (λm i acc h hp=>by simp only[sK,AY,ed,Lib.de,h,aM,Lib.cz,aJ,au,ax,Lib.dU,KJ h,bz,Lib.fw,hp,Lib.c5 h (by omega:l.length<=9223372036854775807)])
  (λm acc=>by simp only[sK,AY,ed,Lib.de,bg,a_,ax]) Lib.cy (ck (by omega))
 exact key
end eQ

namespace C5
open Lib (rd el Fi)
open dF (without put Xx sL act Ix jX)
open rE (res)
theorem okc(d:az Fi)(h:d.length<=1000000):gQ.c (rd d)=ai/\gQ.v (rd d)=sL d:=gQ.ok (rd d) (by rw[ed];omega)
theorem nm(n:aq):qe.v n=decide (1<=(n.size:aw)/\(n.size:aw)<=8):=gQ.mT _ _ _
theorem Vi{l:az Fi}{n t:aq}{k:aw}(h:¬(1<=(n.size:aw)/\(n.size:aw)<=8)):sL (put l ⟨n,t,k⟩)=false:=by
 cases hk:sL (put l ⟨n,t,k⟩)with
 |false=>rfl
 |true=>have:=(jX.1 hk).2.1 ⟨n,t,k⟩ (dF.pZ.2 (.inl rfl));unfold dF.nC at this;simp only[aK,bj]at this;exact cS this.1 h
theorem ok(l:az Fi)(k:aw)(n t o:aq)(hl:l.length<=1000)(ht:t.size<=2305843009213693952):c (rd l) k n t o=ai/\v (rd l) k n t o=res (act l k n t o):=by
 refine out _ _ _ _ _ ?_;unfold vo b;have h1:=jt.ok (rd l) n (by rw[ed];omega);have h2:=okc l (by omega);rw[h2.1,h2.2,au];unfold act;cases hk:sL l with
 |false=>rfl
 |true=>
 rw[aX,ax,bm,nm];obtain⟨q1,q2,q3⟩:=jX.1 hk;have rn:∀f∈l,(1<=(f.n.size:aw)/\(f.n.size:aw)<=8)/\(f.t.size:aw)<=20000/\f.kp<=(f.t.size:aw):=λf hf=>by have:=q2 f hf;unfold dF.nC at this;simp only[aK,bj,du,fg]at this;omega
 by_cases hn:1<=(n.size:aw)/\(n.size:aw)<=8;case neg=>
  rw[aG hn,bS,au];have AL:l.find? (λx=>decide (x.n=n))=none:=by rw[Yc];intro x hx;have:=(rn x hx).1;simp only[bj];intro e;rw[e]at this;exact hn this
  cases dF.j8 k t o with
  |false=>rfl
  |true=>
   rw[au];unfold Ix;rw[AL];by_cases k1:k=1
   ·rw[bB k1];dsimp only;rw[Vi hn];rfl
   ·rw[bH k1];rfl
 rw[aE hn,aX,ax,Lib.fw,Lib.fw,h1.1,h1.2,au,ed];unfold Lib.lt;by_cases ko:k=3\/o=⟨#[]⟩
 case neg=>
  rw[not_or]at ko;have:dF.j8 k t o=false:=by unfold dF.j8;rw[aG ko.1,aG ko.2];simp
  rw[this,show(k !=3)=ai from bne_iff_ne.2 ko.1,au,aG ko.2];rfl
 by_cases kt:k=1\/t=⟨#[]⟩
 case neg=>
  rw[not_or]at kt;have:dF.j8 k t o=false:=by unfold dF.j8;rw[aG kt.1,aG kt.2];simp
  rw[this,show(k !=1)=ai from bne_iff_ne.2 kt.1,au,aG kt.2];rcases ko with ko|ko
  ·subst ko;rfl
  ·rw[aE ko];cases (k !=3)<;>rfl
 have acu:∀x:ay (aQ×aY),(bif k !=3 then(bif !decide (o=⟨#[]⟩)then ah (([]:aQ),ak)else(bif k !=1 then(bif !decide (t=⟨#[]⟩)then ah ([],ak)else x)else x))else(bif k !=1 then(bif !decide (t=⟨#[]⟩)then ah ([],ak)else x)else x))=x:=λx=>by
  rcases ko with ko|ko<;>rcases kt with kt|kt
  ·omega
  ·subst ko;rw[aE kt];rfl
  ·subst kt;rw[aE ko];rfl
  ·rw[aE ko,aE kt];cases (k !=3)<;>cases (k !=1)<;>rfl
 have wp:=λ(m:az Fi) (oT:m.length<=1000) (n t:aq) (k:aw)=>eu.ok m n t k (by omega);have wo:=eQ.ok l n (by omega);have wol:=dF.Nl l n;have pl:=λ(m:az Fi) (f:Fi) (hm:m.length<=1000)=>okc (put m f) (dc (dF.rU f) (by omega));have fin:∀d:az Fi,(bif !sL d then ah (([]:aQ),ak)else ah (rd d,ai))=ah (res (bif sL d then ah d else aj)):=λd=>by cases sL d<;>rfl
 by_cases hk4:1<=k/\k<=4;case neg=>
  have ha:dF.j8 k t o=false:=by unfold dF.j8;rw[aG hk4];rfl
  rw[ha];refine(acu _).trans ?_;rcases rE.find l n with ⟨e1,e2⟩|⟨i,hi,e1,e2⟩
  ·rw[e1,aG (show¬k=1 by omega)];rfl
  ·rw[e1];dsimp only;rw[aG (show¬k=1 by omega),aG (show¬k=2 by omega),aG (show¬k=3 by omega),aG (show¬k=4 by omega),aG (show¬((i:aC):aw)<0 by omega),aE (show((i:aC):aw)≥0 by omega)];simp only[Lib.de,hi,aM,aJ,bm,au,ax];rfl
 have ha:dF.j8 k t o=true:=by unfold dF.j8;rw[aE hk4,bm,aK,dM,dM,bj,bj,bj,bj];exact⟨kt.symm,ko.symm⟩
 rw[ha,au];refine(acu _).trans ?_;unfold Ix;rcases rE.find l n with ⟨e1,e2⟩|⟨i,hi,e1,e2⟩
 ·rw[e1,e2];dsimp only;by_cases k1:k=1
  ·subst k1;have p:=wp l hl n (⟨#[]⟩++t) 0;have d:=pl l ⟨n,⟨#[]⟩++t,0⟩ hl;have et:(⟨#[]⟩:aq)++t=t:=lI;rw[show decide ((-1:aw)≥0)=ak from rfl,ax,aE (show(1:aw)=1 from rfl),au,aE (show(⟨#[]⟩:aq).size+t.size<=4611686018427387904 from by rw[show(⟨#[]⟩:aq).size=0 from rfl];omega),au,p.1,p.2,au,d.1,d.2,au,fin,et];rfl
  ·rw[show decide ((-1:aw)≥0)=ak from rfl,ax,aG k1,ax,bH k1];rfl
 ·have hf:(el l i).n=n:=by have:=G3 e2;exact cF this
  have xS:=rn _ (mO hi);rw[e1,e2];dsimp only;rw[aG (show¬((i:aC):aw)<0 by omega),aE (show((i:aC):aw)≥0 by omega),au];simp only[Lib.de,hi,aM,Lib.dU,wd0 hi,wd1 hi,wd2 hi,bz,bF,aJ,bm,au,ax];by_cases k1:k=1
  ·subst k1;have p:=wp l hl (el l i).n ((el l i).t++t) (el l i).kp;have d:=pl l ⟨(el l i).n,(el l i).t++t,(el l i).kp⟩ hl;rw[aE (show(1:aw)=1 from rfl),au,aE (show(el l i).t.size+t.size<=4611686018427387904 by omega),au,p.1,p.2,au,d.1,d.2,au,fin];rfl
  rw[aG k1,ax,bH k1];by_cases k2:k=2
  ·subst k2;have p:=wp l hl (el l i).n (el l i).t ((el l i).t.size:aw);have d:=pl l ⟨(el l i).n,(el l i).t,((el l i).t.size:aw)⟩ hl;rw[aE (show(2:aw)=2 from rfl),au,p.1,p.2,au,d.1,d.2,au,fin];rfl
  rw[aG k2,ax,bH k2];by_cases k3:k=3
  ·subst k3;rw[aE (show(3:aw)=3 from rfl),au,bB rfl];by_cases b1:(el l i).kp=((el l i).t.size:aw)
   ·rw[aG (show¬(el l i).kp<((el l i).t.size:aw)by omega),ax,Lib.fw,nm];by_cases b2:o=n
    ·rw[aE b2,au,bB (.inr b2)];rfl
    ·rw[aG b2,ax,bH (by rintro (h|h);exact h b1;exact b2 h)];by_cases b3:1<=(o.size:aw)/\(o.size:aw)<=8
     ·have p:=wp (without l n) (by omega) o (el l i).t (el l i).kp;have d:=pl (without l n) ⟨o,(el l i).t,(el l i).kp⟩ (by omega);rw[aE b3,aX,ax,wo.1,wo.2,au,p.1,p.2,au,d.1,d.2,au,fin]
     ·rw[aG b3];dsimp only;rw[Vi b3];rfl
   ·rw[aE (show(el l i).kp<((el l i).t.size:aw)by omega),au,bB (.inl b1)];rfl
  rw[aG k3,ax,bH k3];have k4:k=4:=by omega
  subst k4;have d:=okc (without l n) (by omega);rw[aE (show(4:aw)=4 from rfl),au,wo.1,wo.2,au,d.1,d.2,au,fin]
end C5

namespace qh
open Lib (rd el Fi)
open dF (j9 act ra Ac wa0 wa1 wa2 wa3 rV Cm)
theorem ok(l:az Fi)(a:az Ac)(hl:l.length<=1000)(ha:a.length<=1000000)(ht:∀x∈a,x.t.size<=2305843009213693952):c (rd l) (ra a)=ai/\v (rd l) (ra a)=(rd (j9 l 0 a).1,((j9 l 0 a).2:aw)):=by
 refine out _ _ ?_;unfold vo b;rw[Lib.oI,ed,Lib.cm (by omega) (by omega),au,show aN [Ck.s,Ck.s,Ck.i ao] 0++rd l=rd l from rfl]
 have key:∀(d i n:aC) (z:aw) (l:az Fi),a.length-i<=d->i<=a.length->l.length<=1000->d<n->
   l3 Lib.cy (λ(_:aQ) (y5 _:aw) (y7:aQ)=>ah (y7,y5)) (λ(y8:aQ) (_ _:aw) (wJ:aQ)=>ah (wJ,(↑(bK y8):aw))) n (ra a) z (i:aw) (rd l)=ah (rd (j9 l i (a.drop i)).1,((j9 l i (a.drop i)).2:aw)):=by
  intro d
  induction d with
  |zero=>
   intro i n z l e1 e2 e3 e4;obtain⟨n,rfl⟩:∃n',n=n'+1:=⟨n-1,by omega⟩
   have:i=a.length:=by omega
   subst this;simp only[l3,r3,Lib.de,bg,a_,ax,rV,cD,j9]
  |succ d ih=>
   intro i n z l e1 e2 e3 e4;obtain⟨n,rfl⟩:∃n',n=n'+1:=⟨n-1,by omega⟩
   by_cases hi:i<a.length
   ·have hd:=C5.ok l (el a i).k (el a i).n (el a i).t (el a i).o e3 (ht _ (mO hi));simp only[l3,r3,Lib.de,rV,hi,aM,Lib.cz,aJ,au,Lib.dU,wa0 hi,wa1 hi,wa2 hi,wa3 hi,bz,bF,hd.1,hd.2,Lib.c5 hi (by omega:a.length<=9223372036854775807)];rw[di hi,<-fF hi];unfold j9;cases hac:act l (el a i).k (el a i).n (el a i).t (el a i).o with
    |none=>rfl
    |some e=>have:=(Cm hac).2;exact ih (i+1) n z e (by omega) hi (by omega) (by omega)
   ·have:i=a.length:=by omega
    subst this;simp only[l3,r3,Lib.de,bg,a_,ax,rV,cD,j9]
 exact key a.length 0 Lib.cy 0 l (by omega) (bk _) hl (ck (by omega))
end qh

namespace ES
open Lib (rr rs re rf rc rd Px En el I1 GM RM RN)
open jm (Wo Ev closed)
open kB (dk es)
open iI (v9)
open fU (ri vm tU jJ)
open vh (cls lD)
theorem ok{i:aC}{w:Wo}(h:v9 i w)(hi:i<=71)(k id:aw)(t:aq)(nn:aw)(left:aQ)(h0:0<=nn):c w.p.now (re w.p.en) (rs w.p.w) (rs w.p.m) (rr w.p.s) w.p.a (rf w.p.fe) (rc w.p.cl) w.p.hits (rd (dk w.o)) (ri w.cd) (re w.bd) k id t nn left=ai/\v w.p.now (re w.p.en) (rs w.p.w) (rs w.p.m) (rr w.p.s) w.p.a (rf w.p.fe) (rc w.p.cl) w.p.hits (rd (dk w.o)) (ri w.cd) (re w.bd) k id t nn left=((closed w id (nn%1000000)).2,vm (closed w id (nn%1000000)).1):=by
 refine out _ _ _ _ _ _ _ _ _ _ _ _ _ _ _ _ _ ?_;have hl:0<=nn%1000000/\nn%1000000<=999999:=by omega
 have hm:cT nn 1000000=nn%1000000:=jD h0;have hbd:=h.bd;have XN:=h.tx hi;have Uf:=kB.AB w.o;have A:=EV.ok w.p id (nn%1000000) (jJ h.px);obtain⟨q1,q2⟩:=iI.LX (f:=id) h.px hl;obtain⟨s1,s2⟩:=vh.JR (p:=w.p) (f:=id) (life:=nn%1000000);have mA:=jJ q1;unfold vo b;rw[hm];generalize nn%1000000=life at*
 rw[A.1,au,A.2,fU.lt_eq];unfold closed vm;dsimp only;rw[<-s1,<-s2];generalize cls w.p id life=Q at q1 q2 s1 s2 mA;obtain⟨q,ok⟩:=Q;dsimp only at q1 q2 s1 s2 mA⊢;rcases q2 with ⟨r1,r2⟩|⟨r1,n,rn,hn,rf_,rs_,rl⟩
 ·subst r1;rfl
 subst r1;rw[au,bm];by_cases hz:life=0
 ·rw[aG (show¬life>0 by omega)];rfl
 rw[aE (show life>0 by omega),au,au];obtain⟨t1,t2⟩:=rl (by omega);have Ij:n<q.fe.length:=by rw[rf_,cO];exact hn
 have Dx:el q.fe n={el w.p.fe n with sta:=2,li:=life,st:=w.p.now}:=by rw[rf_,ig.jT hn]
 subst rn;rw[eT];have C:=EW.ok (el q.fe n).k (el q.fe n).st (el q.fe n).li (el q.fe n).t;have hE:nq.v (el q.fe n).k (el q.fe n).st (el q.fe n).li (el q.fe n).t=true:=by rw[Dx];exact t1
 have Ey:=iI.Mf (e:=lD (el q.fe n)) hE;rw[uY.val,bB hE,show uY.j9 (fI.fr (jF.sN (el q.fe n).k (el q.fe n).st (el q.fe n).li (el q.fe n).t))=dF.ra (iX.sr (iX.Jg (lD (el q.fe n))))from rfl]at C;have D:=qh.ok (dk w.o) (iX.sr (iX.Jg (lD (el q.fe n)))) (by omega) (by unfold iX.sr;simp) (λx hx=>by
  unfold iX.sr at hx;simp only[cB,lK,or_false]at hx;rcases hx with rfl|rfl
  ·show(iX.Jg (lD (el q.fe n))).size<=_;omega
  ·exact bk _)
 rw[kB.Ot (by omega)]at D;have room:∀y,cC ((re w.bd).length+(aL (aN [Ck.s,Ck.i ao,Ck.i ao,Ck.s] 1) 0 y).length) 48=true:=λy=>by rw[dr,fU.uG];exact Lib.cm (by omega) (by omega)
 have sn:=tU w.bd (lD (el q.fe n));unfold lD at sn C D;dsimp only at sn;have aou:cC ((aN [Ck.s,Ck.i ao,Ck.i ao,Ck.s] 0).length+(re w.bd).length) 48=true:=by rw[dr];exact Lib.cm (by show(0+w.bd.length)*48<=_;omega) (by show 0+w.bd.length<=_;omega)
 simp only[fU.lt_eq,fU.azH,aou,dQ,Lib.de,Ij,aM,Lib.cz,aJ,au,Lib.dU,I1 Ij,GM Ij,RM Ij,RN Ij,bz,bF,C.1,C.2,D.1,D.2,room,sn,show lD (el q.fe n)=⟨(el q.fe n).k,(el q.fe n).st,(el q.fe n).li,(el q.fe n).t⟩from rfl];rfl
end ES

namespace ET
open Lib (rr rs re rf rc Px el)
open ig (vB F7 told jx nU jT yN)
theorem ok(p:Px)(f:aw)(hp:p.Fit 1048576):c p.now (re p.en) (rs p.w) (rs p.m) (rr p.s) p.a (rf p.fe) (rc p.cl) p.hits f=ai/\v p.now (re p.en) (rs p.w) (rs p.m) (rr p.s) p.a (rf p.fe) (rc p.cl) p.hits f=(p.now,re p.en,rs p.w,rs p.m,rr p.s,p.a,rf (F7 p f).1.fe,rc (F7 p f).1.cl,p.hits,(F7 p f).2):=by
 have h1:=fJ.ok p hp;have h2:=u6.ok p f hp;have hf:=hp.fe;have hc:=hp.cl;refine out _ _ _ _ _ _ _ _ _ _ ?_;unfold vo b F7;simp only[Lib.lt,h1.1,h1.2,h2.1,h2.2,au];cases ho:vB p f with
 |false=>rfl
 |true=>
  obtain⟨n,rfl,hn,_,_⟩:=jx ho;have e1:=yN p.fe n 2 [CV.i ao 3] {el p.fe n with sta:=3} hn rfl;have Ij:n<(p.fe.set n {el p.fe n with sta:=3}).length:=by rw[cO];exact hn
  have h3:=sH.ok {p with fe:=p.fe.set n {el p.fe n with sta:=3}} n 3 Ij (by rw[cO];omega) (by dsimp only;omega);dsimp only at h3;rw[jT hn]at h3;simp only[aX,ax,au,Lib.cz,Lib.de,dQ,hn,aM,aJ,Lib.dU,e1,h3.1,h3.2];rfl
end ET

namespace xA
open Lib (rd Fi En el wd0 wd1 wd2)
open dF (sL)
open kB (dk es)
open iX (tx base)
theorem one(f:Fi)(left:aQ)(h:sL [f]=ai)(hk:f.kp=(f.t.size:aw)):c (rd [f]) left=ai/\v (rd [f]) left=(rd [f],ai):=by
 have h1:=gQ.ok (rd [f]) (by rw[ed];simp);refine out _ _ ?_;unfold vo b;rw[h1.1,au,h1.2,show gQ.val (rd [f])=ai from h,aX,ax];have h0:0<[f].length:=by simp
 have c0:ar (rd [f]) 0 0=CV.s f.n:=wd0 (l:=[f]) h0;have c1:ar (rd [f]) 0 1=CV.s f.t:=wd1 (l:=[f]) h0;have c2:ar (rd [f]) 0 (1+1)=CV.i ao f.kp:=wd2 (l:=[f]) h0;have ib:iA 0 (f.t.size:aw) (f.t.size:aw)=true:=by simp[iA]
 have ex:bP f.t 0 (bc (f.t.size:aw))=f.t:=Lib.H5 f.t;have w1:br (0+1)=1:=rfl;have L:(rd [f]).length=1:=rfl;have step:∀(N m:aC),l5 Lib.cy (λ_ _ _=>ah (([]:aQ),ai)) (λ_ _ _ wK=>ah (wK,ai)) (m+1) left 0 (rd [f])=l5a Lib.cy (λ_ _ _=>ah (([]:aQ),ai)) (λ_ _ _ wK=>ah (wK,ai)) m left 1 (rd [f]) (rd [f]):=by
  intro N m;have t0:bc 0=0:=rfl;simp only[l5,r5,L,t0];generalize bF (ar left 0 0)=z;simp only[c0,c1,c2,bz,bF,hk,ib,ex,w1];rw[show decide ((0:aw)<((1:aC):aw))=ai from rfl,au,show(decide ((0:aw)<=0)&&ai)=ai from rfl,au];have fin:([]++aL (aN [Ck.s,Ck.s,Ck.i ao] 1) 0 [CV.s f.n,CV.s f.t,CV.i ao (f.t.size:aw)]:aQ)=rd [f]:=by
   unfold Lib.rd;rw[gG];show [[CV.s f.n,CV.s f.t,CV.i ao (f.t.size:aw)]]=[Fi.row f]
   unfold Fi.row;rw[hk]
  simp only[fin];by_cases hl:(0:aw)<(left.length:aw)
  ·simp only[aE hl,au,show decide ((0:aw)<=0)=ai from rfl,aJ];by_cases a:z>(f.t.size:aw)
   ·simp only[aE a,au,aG (show¬(f.t.size:aw)<(f.t.size:aw)by omega),ax]
   ·by_cases b:z<(f.t.size:aw)
    ·simp only[aG a,ax,aE b,au]
    ·have e:z=(f.t.size:aw):=by omega
     simp only[aG a,ax,aG b,e,ib,ex,fin,au,show decide ((f.t.size:aw)<(f.t.size:aw))=ak from aG (by omega),show decide ((f.t.size:aw)>(f.t.size:aw))=ak from aG (by omega)]
  ·simp only[aG hl,ax,au,aG (show¬(f.t.size:aw)<(f.t.size:aw)by omega)];try rw[aG (show¬(0:aw)>(f.t.size:aw)by omega),ax]
   by_cases b:(0:aw)<(f.t.size:aw)
   ·rw[aE b,au]
   ·rw[aG b,ax];have e:(f.t.size:aw)=0:=by omega
    rw[e]at ex fin;rw[show(0:aw).toNat=0 from rfl]at ex;rw[ex,fin]
 have last:∀(m:aC),l5a Lib.cy (λ_ _ _=>ah (([]:aQ),ai)) (λ_ _ _ wK=>ah (wK,ai)) (m+1) left 1 (rd [f]) (rd [f])=ah (rd [f],ai):=by intro m;simp only[l5a,r5a,L,show decide ((1:aw)<((1:aC):aw))=ak from rfl,ax]
 obtain⟨n,hn⟩:∃n,Lib.cy=n+2:=⟨Lib.cy-2,by have:=ck (n:=2) (by omega);omega⟩
 have key:∀N,N=n+2->l5 Lib.cy (λ_ _ _=>ah (([]:aQ),ai)) (λ_ _ _ wK=>ah (wK,ai)) N left 0 (rd [f])=ah (rd [f],ai):=by rintro N rfl;rw[step Lib.cy (n+1),last n]
 exact key _ hn
theorem ok{o:ay (az En)}(h:(tx (es o)).size<=20000)(left:aQ):c (rd (dk o)) left=ai/\v (rd (dk o)) left=(rd (dk o),ai):=by
 cases o with
 |some l=>exact one _ left (kB.JV h) rfl
 |none=>
  have hd:sL []=true:=kB.JV (o:=aj) h;have h1:=gQ.ok (rd []) (by rw[ed];simp);refine out _ _ ?_;unfold vo b;show(bif gQ.c (rd [])then bif !gQ.v (rd [])then _ else l5 Lib.cy _ _ Lib.cy left 0 (rd [])else aj)=_;rw[h1.1,au,h1.2,show gQ.val (rd [])=ai from hd,aX,ax];obtain⟨n,hn⟩:∃n,Lib.cy=n+1:=⟨Lib.cy-1,by have:=ck (n:=1) (by omega);omega⟩
  have key:∀N,N=n+1->l5 Lib.cy (λ_ _ _=>ah (([]:aQ),ai)) (λ_ _ _ wK=>ah (wK,ai)) N left 0 (rd [])=ah (rd [],ai):=by rintro N rfl;rfl
  exact key _ hn
end xA

namespace Bl
open Lib (rr rs re rf rc Px En el pF r_ sa sb)
open gA (sU tv one wA yH AH p0)
theorem ok(now:aw)(l:az En)(hl:l.length<=1048576):
  c now (re l)=ai/\v now (re l)=(now,re (sU now l).en,rs (sU now l).w,rs (sU now l).m,rr (sU now l).s,(sU now l).a,[],[],0):=by
 refine out _ _ ?_;unfold vo b;have key:=jU l.length (λn (i:aC) (p:Px)=>l4 Lib.cy (λ(_:aw) (_:aQ) (_ _ _ _ Li Xh XW:aw) (RP RQ Jj RR RS RT:aQ)=>ah (Li,RP,RQ,Jj,RR,Xh,RS,RT,XW)) n now (re l) (i:aw) 0 0 0 now p.a 0 (re p.en) (rs p.w) (rs p.m) (rr p.s) [] []) (λi=>sU now (l.take i)) (ah (now,re (sU now l).en,rs (sU now l).w,rs (sU now l).m,rr (sU now l).s,(sU now l).a,[],[],0)) (λn i hi=>by
  have I:=wA now l i (by omega);have hs:=yH now l i hi;generalize sU now (l.take i)=p at I hs;rw[hs];unfold one;have hw:br ((i:aw)+1)=((i+1:aC):aw):=Lib.c5 hi (by omega);have OM:HM.v (el l i).k (el l i).st (el l i).li (el l i).bo now=tv (el l i) now:=(HM.eq _ _ _ _ _).symm;cases hf:tv (el l i) now with
  |false=>
   rw[hf]at OM;cases hq:nq.v (el l i).k (el l i).st (el l i).li (el l i).bo with
   |false=>simp only[l4,r4,dr,Lib.de,hi,aM,Lib.cz,aJ,au,Lib.dU,pF hi,r_ hi,sa hi,sb hi,bz,bF,hq,ax,hw]
   |true=>simp only[l4,r4,dr,Lib.de,hi,aM,Lib.cz,aJ,au,Lib.dU,pF hi,r_ hi,sa hi,sb hi,bz,bF,hq,OM,ax,hw]
  |true=>rw[hf]at OM;have hq:=AH hf;have hk:=(nq.KL hq).1;have h4:=Qf.ok p (el l i) [] [] (I.fit (by omega) (by omega)) I.so I.ks (by omega);rw[I.now,I.hits]at h4;simp only[l4,r4,Lib.lt,dr,Lib.de,hi,aM,Lib.cz,aJ,au,Lib.dU,pF hi,r_ hi,sa hi,sb hi,bz,bF,hq,OM,h4.1,h4.2,hw]) (λn=>by
  simp only[l4,r4,dr,Lib.de,bg,a_,ax,dv]) Lib.cy 0 (bk _) (ck (by omega))
 exact key
end Bl

namespace w7
open Lib (rr rs re rf rc rd Px En el pF r_ sa sb)
open jm (Wo Ev Dp mR)
open kB (dk es)
open iI (v9)
open fU (ri vm tU jJ)
theorem walk(N:aC)(L:az En)(hL:L.length<=1048576)(hN:L.length<N)(K0 K1:aw->aw->aw->aw->aQ->aQ->aQ->aQ->aQ->aQ->aQ->aQ->aQ->aQ->aQ->ay R)(now a5 a8:aw)(q1 q2 q3 q4 q6 q7 q9 Fm q11:aQ):
  l7 N K0 K1 N 0 now a5 a8 (re L) (re []) q1 q2 q3 q4 q6 q7 q9 Fm q11=K0 (L.length:aw) now a5 a8 (re L) (re (L.filter λe=>gA.tv e now)) q1 q2 q3 q4 q6 q7 q9 Fm q11:=by
 have hw:∀i,i<L.length->br ((i:aw)+1)=((i+1:aC):aw):=λi h=>Lib.c5 h (by omega)
 have key:=Dq L (λe=>gA.tv e now) (λm (i:aC) acc=>l7 N K0 K1 m (i:aw) now a5 a8 (re L) (re acc) q1 q2 q3 q4 q6 q7 q9 Fm q11) (λacc=>K0 (L.length:aw) now a5 a8 (re L) (re acc) q1 q2 q3 q4 q6 q7 q9 Fm q11) []
  (λm i acc hi ha hp=>by rw[<-fF hi]at hp⊢;unfold gA.tv at hp;rw[HM.eq]at hp;simp only[l7,r7,dr,Lib.de,hi,aM,Lib.cz,aJ,au,Lib.dU,pF hi,r_ hi,sa hi,sb hi,bz,bF,hp,hw i hi,fU.uG,fU.tU];rw[Lib.cm (by simp at ha;omega) (by simp at ha;omega),au])
  (λm i acc hi hp=>by rw[<-fF hi]at hp;unfold gA.tv at hp;rw[HM.eq]at hp;simp only[l7,r7,dr,Lib.de,hi,aM,Lib.cz,aJ,au,Lib.dU,pF hi,r_ hi,sa hi,sb hi,bz,bF,hp,hw i hi,ax])
  (λm acc=>by simp only[l7,r7,dr,Lib.de,bg,a_,ax])
  N hN
 exact key
theorem ok{i:aC}{w:Wo}(h:v9 i w)(hi:i<=71)(k id:aw)(t:aq)(n:aw)(left:aQ):c w.p.now (re w.p.en) (rs w.p.w) (rs w.p.m) (rr w.p.s) w.p.a (rf w.p.fe) (rc w.p.cl) w.p.hits (rd (dk w.o)) (ri w.cd) (re w.bd) k id t n left=ai/\v w.p.now (re w.p.en) (rs w.p.w) (rs w.p.m) (rr w.p.s) w.p.a (rf w.p.fe) (rc w.p.cl) w.p.hits (rd (dk w.o)) (ri w.cd) (re w.bd) k id t n left=vm (Dp w):=by
 refine out _ _ _ _ _ _ _ _ _ _ _ _ _ _ _ _ _ ?_;have XN:=h.tx hi;have hlen:=h.len hi;have Uf:=kB.AB w.o;have A:=xA.ok (o:=w.o) (by omega) left;have B:=(kB.acd (o:=w.o) (by omega) h.eo).2;have Fb:=iX.MD (es w.o);have hf:=iI.Ib h.eo;have QE:=iI.Du w;have htf:=iI.Xb _ hf;have C:=jG.ok (rd (dk w.o)) (re (mR w)) (by rw[ed];omega) (by rw[dr];omega);rw[kB.acb (by omega) hf]at C;have D:=qh.ok (dk w.o) (pN.tc (iX.tx (mR w))) (by omega) (by unfold pN.tc;simp) (λx hx=>by
  unfold pN.tc at hx;simp only[cB,lK,or_false]at hx;rcases hx with rfl|rfl|rfl
  ·show(iX.tx (mR w)).size<=_;omega
  ·exact bk _
  ·exact bk _)
 rw[kB.Oq (by omega) (by omega)]at D;have E:=Bl.ok w.p.now (mR w) (by omega);unfold vo;generalize hN:Lib.cy=N;have jb:(iX.kp (es w.o)).length<N:=by rw[<-hN];exact ck (by omega)
 clear hN;unfold b;rw[A.1,au,A.2,fU.lt_eq];rw[show(rd (dk w.o),ai).2=ai from rfl,au,show(rd (dk w.o),ai).1=rd (dk w.o)from rfl];rw[B.1,au,B.2,fU.lt_eq,show aN [Ck.s,Ck.i ao,Ck.i ao,Ck.s] 0=re []from rfl,walk N (iX.kp (es w.o)) (by omega) jb];have e:((kpp:az En)->kpp=iX.kp (es w.o)->kpp.filter (λe=>gA.tv e w.p.now)=mR w):=λ_ h=>by subst h;rfl
 rw[e _ rfl];simp only[fU.lt_eq,C.1,C.2,D.1,D.2,E.1,E.2,au];have hinv:=gA.wA w.p.now (mR w) (mR w).length (cJ _);rw[dv]at hinv;unfold vm Dp;dsimp only;rw[hinv.now,hinv.fe,hinv.cl,hinv.hits];rfl
end w7

namespace EM
open Lib (rr rs re rf rc rd Px En el)
open jm (Wo Ev closed Dp mR kZ flag)
open kB (dk es)
open iI (v9)
open fU (ri vm tU jJ)
theorem fl(b:aY):BU.v b=flag b:=by cases b<;>rfl
theorem left(l:az Lib.Cl)(id:aw):decide ((((l.filter λc=> !decide (c.id=id)).length:aC):aw)<(l.length:aw))=je.mn l id:=by
 unfold je.mn;cases h:l.any λx=>decide (x.id=id)with
 |true=>
  obtain⟨x,hx,hp⟩:=List.any_eq_true.1 h;have:(l.filter λc=> !decide (c.id=id)).length<l.length:=by rw[List.length_filter_lt_length_iff_exists];exact⟨x,hx,by simpa using hp⟩
  exact aE (by omega)
 |false=>
  rw[List.any_eq_false]at h;have:l.filter (λc=> !decide (c.id=id))=l:=eJ.2 λx hx=>by have:=h x hx;simpa using this
  rw[this];exact aG (by omega)
theorem ok{i:aC}{w:Wo}{e:Ev}(h:v9 i w)(hi:i<=71)(he:kZ e=ai):c w.p.now (re w.p.en) (rs w.p.w) (rs w.p.m) (rr w.p.s) w.p.a (rf w.p.fe) (rc w.p.cl) w.p.hits (rd (dk w.o)) (ri w.cd) (re w.bd) e.k e.id e.t e.n e.l=ai/\v w.p.now (re w.p.en) (rs w.p.w) (rs w.p.m) (rr w.p.s) w.p.a (rf w.p.fe) (rc w.p.cl) w.p.hits (rd (dk w.o)) (ri w.cd) (re w.bd) e.k e.id e.t e.n e.l=((jm.act w e).2,vm (jm.act w e).1):=by
 unfold kZ at he;simp only[aK,bj]at he;obtain⟨hk,Mp,ht,hn,hl⟩:=he;have hp:=jJ h.px;refine out _ _ _ _ _ _ _ _ _ _ _ _ _ _ _ _ _ ?_;unfold vo b jm.act;by_cases k1:e.k=1
 ·rw[aE k1,au];have A:=w6.ok w.p e.id e.t hp (by omega);rw[A.1,au,A.2,fU.lt_eq];try rfl
 rw[aG k1,ax,ax];by_cases k2:e.k=2
 ·rw[aE k2,au];have A:=ER.ok w.p e.id e.t hp;rw[A.1,au,A.2,fU.lt_eq,fl];unfold vm ig.Gz;cases ig.vB w.p e.id&&(decide (1<=e.t.size/\e.t.size<=40)&&decide ((el w.p.fe e.id.toNat).t.size+e.t.size<=400))<;>rfl
 rw[aG k2,ax,ax];by_cases k3:e.k=3
 ·rw[aE k3,au];have A:=ES.ok h hi e.k e.id e.t e.n e.l hn;rw[k3]at A;rw[k3,A.1,au,A.2,fU.lt_eq];try rfl
 rw[aG k3,ax,ax];by_cases k4:e.k=4
 ·rw[aE k4,au];have A:=ET.ok w.p e.id hp;rw[A.1,au,A.2,fU.lt_eq,fl];unfold vm ig.F7;cases ig.vB w.p e.id<;>rfl
 rw[aG k4,ax,ax];by_cases k5:e.k=5
 ·rw[aE k5,au];have A:=sF.ok w.p e.n hp;rw[A.1,au,A.2,fU.lt_eq];try rfl
 rw[aG k5,ax,ax];by_cases k6:e.k=6
 ·rw[aE k6,au];have A:=uZ.ok w.p e.id hp;rw[A.1,au,A.2,fU.lt_eq,fl];dsimp only;rw[fc,fc,show(uZ.val w.p e.id).cl=w.p.cl.filter (λc=> !decide (c.id=e.id))from rfl,left];try rfl
 rw[aG k6,ax,ax];have k7:e.k=7:=by omega
 rw[aE k7,au];have A:=w7.ok h hi e.k e.id e.t e.n e.l;rw[k7]at A;rw[k7,A.1,au,A.2,fU.lt_eq];try rfl
end EM

namespace Tz
open Lib (rr rs re rf rc rd Px En el)
open jm (Wo Ev closed Dp mR kZ flag)
open kB (dk es)
open iI (v9)
open fU (ri vm tU jJ)
theorem TE(w:Wo)(e:Ev):(jm.act w e).1.cd=w.cd:=by
 unfold jm.act closed;cases decide (e.k=1)<;>cases decide (e.k=2)<;>cases decide (e.k=3)<;>cases decide (e.k=4)<;>cases decide (e.k=5)<;>cases decide (e.k=6)<;>(try rfl)
 all_goals
  dsimp only[au,ax]
  cases (vh.cls w.p e.id (e.n%1000000)).2&&decide (e.n%1000000>0)<;>rfl
theorem ok{i:aC}{w:Wo}{e:Ev}(h:v9 i w)(hi:i<=71)(he:kZ e=ai):c w.p.now (re w.p.en) (rs w.p.w) (rs w.p.m) (rr w.p.s) w.p.a (rf w.p.fe) (rc w.p.cl) w.p.hits (rd (dk w.o)) (ri w.cd) (re w.bd) e.k e.id e.t e.n e.l=ai/\v w.p.now (re w.p.en) (rs w.p.w) (rs w.p.m) (rr w.p.s) w.p.a (rf w.p.fe) (rc w.p.cl) w.p.hits (rd (dk w.o)) (ri w.cd) (re w.bd) e.k e.id e.t e.n e.l=vm (jm.step w e):=by
 refine out _ _ _ _ _ _ _ _ _ _ _ _ _ _ _ _ _ ?_;have A:=EM.ok h hi he;have hcd:=h.cd;unfold vo b;rw[A.1,au,A.2,fU.lt_eq];have e1:(vm (jm.act w e).1).2.2.2.2.2.2.2.2.2.2.1=ri w.cd:=by unfold vm;rw[TE]
 have r1:cC ((aN [Ck.i ao] 0).length+(ri w.cd).length) 8=true:=by rw[fU.f_];exact Lib.cm (by show(0+w.cd.length)*8<=_;omega) (by show 0+w.cd.length<=_;omega)
 have r2:cC ((ri w.cd).length+(aL (aN [Ck.i ao] 1) 0 [CV.i ao (jm.act w e).2]).length) 8=true:=by rw[fU.f_,fU.uG];exact Lib.cm (by omega) (by omega)
 show(bif cC ((aN [Ck.i ao] 0).length+((vm (jm.act w e).1).2.2.2.2.2.2.2.2.2.2.1).length) 8 then _ else aj)=_;simp only[e1,fU.azI,r1,r2,au,fU.aed];rfl
end Tz

namespace Xz
open Lib (rr rs re rf rc rd Px En el)
open jm (Wo)
open kB (dk)
open iI (v9)
open fU (ri vm jJ)
theorem ok{i:aC}{w:Wo}(h:v9 i w)(hi:i<=71):c w.p.now (re w.p.en) (rs w.p.w) (rs w.p.m) (rr w.p.s) w.p.a (rf w.p.fe) (rc w.p.cl) w.p.hits (rd (dk w.o)) (ri w.cd) (re w.bd)=ai/\v w.p.now (re w.p.en) (rs w.p.w) (rs w.p.m) (rr w.p.s) w.p.a (rf w.p.fe) (rc w.p.cl) w.p.hits (rd (dk w.o)) (ri w.cd) (re w.bd)=vm w:=by
 refine out _ _ _ _ _ _ _ _ _ _ _ _ ?_;have A:=fJ.ok w.p (jJ h.px);have Uf:=kB.AB w.o;have hcd:=h.cd;have hbd:=h.bd;have r1:cC ((aN [Ck.s,Ck.s,Ck.i ao] 0).length+(rd (dk w.o)).length) 40=true:=by rw[ed];exact Lib.cm (by show(0+(dk w.o).length)*40<=_;omega) (by show 0+(dk w.o).length<=_;omega)
 have r2:cC ((aN [Ck.i ao] 0).length+(ri w.cd).length) 8=true:=by rw[fU.f_];exact Lib.cm (by show(0+w.cd.length)*8<=_;omega) (by show 0+w.cd.length<=_;omega)
 have r3:cC ((aN [Ck.s,Ck.i ao,Ck.i ao,Ck.s] 0).length+(re w.bd).length) 48=true:=by rw[dr];exact Lib.cm (by show(0+w.bd.length)*48<=_;omega) (by show 0+w.bd.length<=_;omega)
 unfold vo b;rw[A.1,au,A.2,fU.lt_eq,r1,au,r2,au,r3,au];rfl
end Xz

namespace Ob
open Lib (rr rs re rf rc rd Px En el)
open jm (Wo Ev kZ)
open kB (dk es)
open iI (v9)
open fU (ri vm)
open sB (rv lF wv0 wv1 wv2 wv3 wv4 run D6 tT IL B3 life W13 qF)
theorem chk(N:aC)(l:az Ev)(hl:l.length<=1048576)(K:aQ->aY->aw->aw->aw->aw->ay R)(kf:ay R)(hK:∀(i:aw),K (rv l) ak i 0 0 0=kf):∀(d i n:aC) (b:aY),l.length-i<=d->i<=l.length->d<n->
  l3 N K n (rv l) b (i:aw) 0 0 0=bif(b&&(iw i (l.length-i)).all λi=>kZ (el l i))then K (rv l) ai (l.length:aw) 0 0 0 else kf:=by
 have fin:∀(n:aC) (b:aY),l3 N K (n+1) (rv l) b (l.length:aw) 0 0 0=bif(b&&(iw l.length (l.length-l.length)).all λi=>kZ (el l i))then K (rv l) ai (l.length:aw) 0 0 0 else kf:=by
  intro n b;simp only[l3,r3,lF,Lib.de,bg,a_,ax,vP,Yf,List.all_nil,j4];cases b with
  |true=>rfl
  |false=>exact hK _
 intro d;induction d with
 |zero=>
  intro i n b h1 h2 h3;obtain⟨n,rfl⟩:∃m,n=m+1:=⟨n-1,by omega⟩
  have:i=l.length:=by omega
  subst this;exact fin n b
 |succ d ih=>
  intro i n b h1 h2 h3;obtain⟨n,rfl⟩:∃m,n=m+1:=⟨n-1,by omega⟩
  by_cases hi:i<l.length
  ·cases b with
   |false=>simp only[l3,r3,lF,Lib.de,hi,aM,au,ax,hK,lu]
   |true=>
    have Uu:br ((i:aw)+1)=((i+1:aC):aw):=Lib.c5 hi (by omega);have e:(iw i (l.length-i)).all (λi=>kZ (el l i))=(kZ (el l i)&&(iw (i+1) (l.length-(i+1))).all λi=>kZ (el l i)):=by rw[show l.length-i=(l.length-(i+1))+1 by omega,List.range'_succ,pQ]
    have nx:=ih (i+1) n (kZ (el l i)) (by omega) hi (by omega);rw[e,bm,<-nx];simp only[l3,r3,lF,Lib.de,hi,aM,Lib.cz,aJ,au,Lib.dU,wv0 hi,wv1 hi,wv2 hi,wv3 hi,wv4 hi,bF,bz,gD,sB.aaD,Uu]
  ·have:i=l.length:=by omega
   subst this;exact fin n b
theorem go(N:aC)(l:az Ev)(hl:l.length<=70)(he:∀e∈l,kZ e=ai)(K:aQ->aw->aw->aw->aw->aw->aw->aw->aQ->aQ->aQ->aQ->aQ->aQ->aQ->aQ->aQ->ay R):∀(d i n:aC) (w:Wo),w=run (l.take i)->l.length-i<=d->i<=l.length->d<n->
  l10 N K n (rv l) (i:aw) 0 0 0 w.p.now w.p.a w.p.hits (re w.p.en) (rs w.p.w) (rs w.p.m) (rr w.p.s) (rf w.p.fe) (rc w.p.cl) (rd (dk w.o)) (ri w.cd) (re w.bd)=K (rv l) (l.length:aw) 0 0 0 (run l).p.now (run l).p.a (run l).p.hits (re (run l).p.en) (rs (run l).p.w) (rs (run l).p.m) (rr (run l).p.s) (rf (run l).p.fe) (rc (run l).p.cl) (rd (dk (run l).o)) (ri (run l).cd) (re (run l).bd):=by
 have fin:∀(n:aC) (w:Wo),w=run (l.take l.length)->l10 N K (n+1) (rv l) (l.length:aw) 0 0 0 w.p.now w.p.a w.p.hits (re w.p.en) (rs w.p.w) (rs w.p.m) (rr w.p.s) (rf w.p.fe) (rc w.p.cl) (rd (dk w.o)) (ri w.cd) (re w.bd)=K (rv l) (l.length:aw) 0 0 0 (run l).p.now (run l).p.a (run l).p.hits (re (run l).p.en) (rs (run l).p.w) (rs (run l).p.m) (rr (run l).p.s) (rf (run l).p.fe) (rc (run l).p.cl) (rd (dk (run l).o)) (ri (run l).cd) (re (run l).bd):=by intro n w hw;rw[dv]at hw;subst hw;simp only[l10,yC,lF,Lib.de,bg,a_,ax]
 intro d;induction d with
 |zero=>
  intro i n w hw h1 h2 h3;obtain⟨n,rfl⟩:∃m,n=m+1:=⟨n-1,by omega⟩
  have:i=l.length:=by omega
  subst this;exact fin n w hw
 |succ d ih=>
  intro i n w hw h1 h2 h3;obtain⟨n,rfl⟩:∃m,n=m+1:=⟨n-1,by omega⟩
  by_cases hi:i<l.length
  ·have hW:v9 i w:=by rw[hw];exact D6 he i h2
   have hE:=he _ (mO hi);have A:=Tz.ok hW (by omega) hE;have nx:=ih (i+1) n (jm.step w (el l i)) (by rw[tT l i hi,hw]) (by omega) hi (by omega);refine Eq.trans ?_ nx;have Uu:br ((i:aw)+1)=((i+1:aC):aw):=Lib.c5 hi (by omega);simp only[l10,yC,lF,Lib.de,hi,aM,Lib.cz,aJ,au,Lib.dU,wv0 hi,wv1 hi,wv2 hi,wv3 hi,wv4 hi,bF,bz,gD,Uu];rw[A.1,au,A.2,fU.lt_eq];rfl
  ·have:i=l.length:=by omega
   subst this;exact fin n w hw
theorem ok(l:az Ev)(hl:l.length<=1048576):c (rv l)=ai/\v (rv l)=life l:=by
 refine out _ ?_;unfold vo;generalize hN:Lib.cy=N;have jb:l.length<N:=by rw[<-hN];exact ck (by omega)
 clear hN;unfold b;simp only[lF];have e:(decide (l.length<=70)&&(iw 0 (l.length-0)).all λi=>kZ (el l i))=B3 l:=by unfold B3;rw[oN,zO]
 have d70:decide (((l.length:aC):aw)<=70)=decide (l.length<=70):=by rw[cg];omega
 rw[d70];rw[show l3 N _ N (rv l) (decide (l.length<=70)) 0 0 0 0=_ from chk N l hl _ (ah (0,[],[],[],[],0,[],[],0,[],[],[],ak)) (λ_=>rfl) l.length 0 N (decide (l.length<=70)) (by omega) (by omega) jb,e];unfold life;cases hg:B3 l with
 |false=>rfl
 |true=>obtain⟨h70,he⟩:=qF.1 hg;rw[au,au,aX,ax];refine(go N l h70 he _ l.length 0 N sB.w0 rfl (by omega) (by omega) jb).trans ?_;have C:=Xz.ok (IL he) (by omega);rw[C.1,au,C.2,fU.lt_eq];rfl
end Ob

namespace uX
open Lib (rr rs re rf rc Px)
open qR (jv)
theorem ok(p:Px)(f:aw)(hp:p.Fit 1048576):c p.now (re p.en) (rs p.w) (rs p.m) (rr p.s) p.a (rf p.fe) (rc p.cl) p.hits f=ai/\v p.now (re p.en) (rs p.w) (rs p.m) (rr p.s) p.a (rf p.fe) (rc p.cl) p.hits f=(jv p&&decide (0<=f/\f<=(p.fe.length:aw)-1)):=by have h:=Qb.ok p hp;have hf:=hp.fe;refine out _ _ _ _ _ _ _ _ _ _ ?_;unfold vo b;rw[h.1,h.2,au,dQ,bZ (x:=(p.fe.length:aw)-1) (by omega) (by omega),show lj.v f 0 ((p.fe.length:aw)-1)=decide (0<=f/\f<=(p.fe.length:aw)-1)from fK.eO _ _ _];cases jv p<;>rfl
end uX

namespace BQ
open Lib (rr rs re rf rc Px Cl el)
open vD (ec oi la)
theorem ok(p:Px)(f:aC)(hf:f<p.fe.length)(hl:p.fe.length<=2097152)(hc:p.cl.length<=2097152):
  c p.now (re p.en) (rs p.w) (rs p.m) (rr p.s) p.a (rf p.fe) (rc p.cl) p.hits (f:aw)=ai/\v p.now (re p.en) (rs p.w) (rs p.m) (rr p.s) p.a (rf p.fe) (rc p.cl) p.hits (f:aw)=(p.now,re p.en,rs p.w,rs p.m,rr p.s,p.a,rf p.fe,rc (oi p.cl f 1 (el p.fe f).t),p.hits):=by
 refine out _ _ _ _ _ _ _ _ _ _ ?_;unfold vo b;rw[fc];have key:=nJ Cl.row p.cl (λ_ c=>ec f 1 (el p.fe f).t c) (λn (i:aC) x=>l1 Lib.cy (λ(_ _ _ XV RO EC:aw) (GN Fu wK Lh Li Xh:aQ)=>ah (XV,Fu,wK,Lh,Li,RO,Xh,GN,EC)) n (f:aw) (p.cl.length:aw) (i:aw) p.now p.a p.hits x (re p.en) (rs p.w) (rs p.m) (rr p.s) (rf p.fe)) (λx=>ah (p.now,re p.en,rs p.w,rs p.m,rr p.s,p.a,rf p.fe,x,p.hits)) (λn i L h h2 hL wv=> ?_) (λn L hL=> ?_) Lib.cy (ck (by omega))
 ·rw[la]at key;exact key
 ·have e2:ar (L.map Cl.row) i (1+1)=CV.i ao p.cl[i].fe:=by rw[fE _ L i _ h2,wv];rfl
  have e4:ar (L.map Cl.row) i (1+1+1+1)=CV.i ao p.cl[i].sta:=by rw[fE _ L i _ h2,wv];rfl
  have s1:cK (L.map Cl.row) i 5 [CV.s (el p.fe f).t]=(L.set i {p.cl[i]with got:=(el p.fe f).t}).map Cl.row:=kO Cl.row L i 5 _ _ h2 (by rw[wv];rfl);simp only[l1,r1,Lib.de,h,h2,hf,bR,cO,aM,Lib.cz,aJ,au,Lib.dU,e2,e4,bF,s1,pI,dQ,GM hf,bz,Lib.c5 h (by omega:p.cl.length<=9223372036854775807),bZ (x:=(f:aw)+1) (by omega) (by omega)];unfold ec;cases decide (p.cl[i].fe=(f:aw)+1)with
  |false=>rw[lu,ax,ax,<-wv,fy]
  |true=>
   cases hd:decide (p.cl[i].sta=1)with
   |false=>rw[bm,au,ax,ax,<-wv,fy]
   |true=>have e:=cF hd;rw[bm,au,au,au];rw[show({p.cl[i]with sta:=1,got:=(el p.fe f).t}:Cl)={p.cl[i]with got:=(el p.fe f).t}by rw[<-e]]
 ·simp only[l1,r1,Lib.de,bg,a_,ax]
end BQ

namespace XD
open Lib (rr rs re rf rc Px el)
open ig (vB Gz told jx nU jT yN)
theorem ok(p:Px)(f:aw)(q:aq)(hp:p.Fit 1048576):c p.now (re p.en) (rs p.w) (rs p.m) (rr p.s) p.a (rf p.fe) (rc p.cl) p.hits f q=ai/\v p.now (re p.en) (rs p.w) (rs p.m) (rr p.s) p.a (rf p.fe) (rc p.cl) p.hits f q=(p.now,re p.en,rs p.w,rs p.m,rr p.s,p.a,rf (Gz p f q).1.fe,rc (Gz p f q).1.cl,p.hits,(Gz p f q).2):=by
 have h1:=iM.ok p hp;have h2:=uX.ok p f hp;have hf:=hp.fe;have hc:=hp.cl;refine out _ _ _ _ _ _ _ _ _ _ _ ?_;unfold vo b Gz;simp only[Lib.lt,h1.1,h1.2,h2.1,h2.2,au];unfold vB;cases cj:qR.jv p&&decide (0<=f/\f<=(p.fe.length:aw)-1)with
 |false=>rw[<-nK (qR.jv p),cj];rfl
 |true=>
  rw[<-nK (qR.jv p),cj,bm];rw[aK,bj]at cj;obtain⟨n,rfl⟩:∃n:aC,f=(n:aw):=⟨f.toNat,by omega⟩
  have hn:n<p.fe.length:=by omega
  have xS:=ig.acf cj.1 n hn;unfold nN.nC at xS;simp only[aK,bj]at xS;have mZ:=RV.put (el p.fe n).sta (el p.fe n).t q xS.2.1 xS.2.2.1;simp only[aX,ax,au,Lib.cz,Lib.de,dQ,hn,aM,aJ,Lib.dU,Bh hn,GM hn,bF,bz,mZ];cases hs:decide ((el p.fe n).sta=1)&&(decide (1<=q.size/\q.size<=40)&&decide ((el p.fe n).t.size+q.size<=400))with
  |false=>rfl
  |true=>
   have e1:=yN p.fe n 1 [CV.s ((el p.fe n).t++q)] {el p.fe n with t:=(el p.fe n).t++q} hn rfl;have Ij:n<(p.fe.set n {el p.fe n with t:=(el p.fe n).t++q}).length:=by rw[cO];exact hn
   have h3:=BQ.ok {p with fe:=p.fe.set n {el p.fe n with t:=(el p.fe n).t++q}} n Ij (by rw[cO];omega) (by dsimp only;omega);dsimp only at h3;rw[jT hn]at h3;simp only[aX,ax,au,e1,h3.1,h3.2];rfl
end XD

namespace vV
open Lib (rr rs re rf rc Px Cl el)
open vD (ec oi la)
theorem ok(p:Px)(f:aC)(st:aw)(hf:f<p.fe.length)(hl:p.fe.length<=2097152)(hc:p.cl.length<=2097152):
  c p.now (re p.en) (rs p.w) (rs p.m) (rr p.s) p.a (rf p.fe) (rc p.cl) p.hits (f:aw) st=ai/\v p.now (re p.en) (rs p.w) (rs p.m) (rr p.s) p.a (rf p.fe) (rc p.cl) p.hits (f:aw) st=(p.now,re p.en,rs p.w,rs p.m,rr p.s,p.a,rf p.fe,rc (oi p.cl f st (el p.fe f).t),p.hits):=by
 refine out _ _ _ _ _ _ _ _ _ _ _ ?_;unfold vo b;rw[fc];have key:=nJ Cl.row p.cl (λ_ c=>ec f st (el p.fe f).t c) (λn (i:aC) x=>l1 Lib.cy (λ(_ _ _ _ EC GN Fu:aw) (wK Lh Li Xh XW RP:aQ)=>ah (EC,Lh,Li,Xh,XW,GN,RP,wK,Fu)) n (f:aw) st (p.cl.length:aw) (i:aw) p.now p.a p.hits x (re p.en) (rs p.w) (rs p.m) (rr p.s) (rf p.fe)) (λx=>ah (p.now,re p.en,rs p.w,rs p.m,rr p.s,p.a,rf p.fe,x,p.hits)) (λn i L h h2 hL wv=> ?_) (λn L hL=> ?_) Lib.cy (ck (by omega))
 ·rw[la]at key;exact key
 ·have e2:ar (L.map Cl.row) i (1+1)=CV.i ao p.cl[i].fe:=by rw[fE _ L i _ h2,wv];rfl
  have e4:ar (L.map Cl.row) i (1+1+1+1)=CV.i ao p.cl[i].sta:=by rw[fE _ L i _ h2,wv];rfl
  have s1:cK (L.map Cl.row) i 4 [CV.i ao st]=(L.set i {p.cl[i]with sta:=st}).map Cl.row:=kO Cl.row L i 4 _ _ h2 (by rw[wv];rfl);have h3:i<(L.set i {p.cl[i]with sta:=st}).length:=by simpa using h2
  have s2:cK ((L.set i {p.cl[i]with sta:=st}).map Cl.row) i 5 [CV.s (el p.fe f).t]=((L.set i {p.cl[i]with sta:=st}).set i {p.cl[i]with sta:=st,got:=(el p.fe f).t}).map Cl.row:=kO Cl.row _ i 5 _ _ h3 (by rw[kD];rfl);simp only[l1,r1,Lib.de,h,h2,hf,bR,cO,aM,Lib.cz,aJ,au,Lib.dU,e2,e4,bF,s1,s2,pI,dQ,GM hf,bz,Lib.c5 h (by omega:p.cl.length<=9223372036854775807),bZ (x:=(f:aw)+1) (by omega) (by omega)];unfold ec;cases decide (p.cl[i].fe=(f:aw)+1)with
  |false=>rw[lu,ax,ax,<-wv,fy]
  |true=>
   cases decide (p.cl[i].sta=1)with
   |false=>rw[bm,au,ax,ax,<-wv,fy]
   |true=>rw[bm,au,au,au]
 ·simp only[l1,r1,Lib.de,bg,a_,ax]
end vV

namespace Qe
open Lib (rr rs re rf rc Px En el)
open gm (So fY m7)
open lV (EB)
theorem ok(p:Px)(e:En)(r6 r7:aQ)(hp:p.Fit 1048575)(hso:So p.en)(hk:e.k.size<=140737488355328):
  c p.now (re p.en) (rs p.w) (rs p.m) (rr p.s) p.a r6 r7 p.hits e.k e.st e.li e.bo=ai/\v p.now (re p.en) (rs p.w) (rs p.m) (rr p.s) p.a r6 r7 p.hits e.k e.st e.li e.bo=(p.now,re (EB p e).en,rs (EB p e).w,rs (EB p e).m,rr (EB p e).s,(EB p e).a,r6,r7,p.hits):=by have he:=hp.en;have hw:=hp.w;have hm:=hp.m;obtain⟨b1,b2,b3⟩:=e6.Nh p.w p.m p.s p.a e.k;have h1:=Az.ok p.w p.m p.s p.a e.k (by omega) (by omega) ⟨dc hp.s.1 (by omega),λq hq=>dc (hp.s.2.1 q hq) (by omega)⟩ hk;refine out _ _ _ _ _ _ _ _ _ _ _ _ _ ?_;unfold vo b EB;generalize e6.val p.w p.m p.s p.a e.k=V at h1 b1 b2 b3;obtain⟨W,M,T,A,G⟩:=V;dsimp only at h1 b1 b2⊢;have h2:=pJ.ok (re p.en) G (gm.TX _) (by rw[dr];omega);rw[gm.H4]at h2;have h3:=sE.ok W M (rr T) A e.k (by omega) (by omega);have hd:=gm.xI p.en G;have h4:=uV.ok (re (fY p.en G)) e.k e.st e.li e.bo (gm.DT (hso.drop G)) (by rw[dr];omega);rw[gm.tN]at h4;simp only[Lib.lt,h1.1,h1.2,h2.1,h2.2,h3.1,h3.2,h4.1,h4.2,au];cases fu.has W e.k||fu.has M e.k<;>rfl
end Qe

namespace EP
open Lib (rr rs re rf rc Px el)
open ig (vB told jx nU jT yN)
open vh (cls lD)
theorem ok(p:Px)(f life:aw)(hp:p.Fit 1048576):c p.now (re p.en) (rs p.w) (rs p.m) (rr p.s) p.a (rf p.fe) (rc p.cl) p.hits f life=ai/\v p.now (re p.en) (rs p.w) (rs p.m) (rr p.s) p.a (rf p.fe) (rc p.cl) p.hits f life=(p.now,re (cls p f life).1.en,rs (cls p f life).1.w,rs (cls p f life).1.m,rr (cls p f life).1.s,(cls p f life).1.a,rf (cls p f life).1.fe,rc (cls p f life).1.cl,p.hits,(cls p f life).2):=by
 have h1:=iM.ok p hp;have h2:=uX.ok p f hp;have hf:=hp.fe;have hc:=hp.cl;refine out _ _ _ _ _ _ _ _ _ _ _ ?_;unfold vo b cls;simp only[Lib.lt,h1.1,h1.2,h2.1,h2.2,au];unfold vB;cases cj:qR.jv p&&decide (0<=f/\f<=(p.fe.length:aw)-1)with
 |false=>rw[<-nK (qR.jv p),cj];rfl
 |true=>
  rw[<-nK (qR.jv p),cj,bm];rw[aK,bj]at cj;obtain⟨n,rfl⟩:∃n:aC,f=(n:aw):=⟨f.toNat,by omega⟩
  have hn:n<p.fe.length:=by omega
  obtain⟨so,_,_,_,_,_,_,_,_,_,xS⟩:=lV.IH cj.1;have xS:=xS n hn;unfold nN.nC at xS;rw[aK]at xS;have B6:=e6.kH xS.1;simp only[aX,ax,au,Lib.cz,Lib.de,dQ,hn,aM,aJ,Lib.dU,Bh hn,bF];rw[show((el p.fe n).sta !=1)= !decide ((el p.fe n).sta=1)from rfl,show lj.v life 0 999999=decide (0<=life/\life<=999999)from fK.eO _ _ _];cases hs:decide ((el p.fe n).sta=1)with
  |false=>rfl
  |true=>
   cases hl:decide (0<=life/\life<=999999)with
   |false=>rfl
   |true=>
    have e1:=yN p.fe n 2 [CV.i ao 2] {el p.fe n with sta:=2} hn rfl;have n1:n<(p.fe.set n {el p.fe n with sta:=2}).length:=by rw[cO];exact hn
    have e2:=yN (p.fe.set n {el p.fe n with sta:=2}) n 3 [CV.i ao life] {el p.fe n with sta:=2,li:=life} n1 (by rw[jT hn];rfl);rw[pI]at e2;have n2:n<(p.fe.set n {el p.fe n with sta:=2,li:=life}).length:=by rw[cO];exact hn
    have e3:=yN (p.fe.set n {el p.fe n with sta:=2,li:=life}) n 4 [CV.i ao p.now] {el p.fe n with sta:=2,li:=life,st:=p.now} n2 (by rw[jT hn];rfl);rw[pI]at e3;generalize hg:({el p.fe n with sta:=2,li:=life,st:=p.now}:Lib.Fe)=g at e3;have n3:n<(p.fe.set n g).length:=by rw[cO];exact hn
    have h3:=vV.ok {p with fe:=p.fe.set n g} n 2 n3 (by rw[cO];omega) (by dsimp only;omega);dsimp only at h3;rw[jT hn]at h3;have hk:g.k=(el p.fe n).k:=by rw[<-hg]
    have h4:=Qe.ok (told p n g 2) (lD g) (rf (p.fe.set n g)) (rc (told p n g 2).cl) ((nU (lV.jJ cj.1)).le (by omega)) so (by show g.k.size<=_;rw[hk];omega);have z0:bz (ar (rf (p.fe.set n g)) n 0)=g.k:=by rw[I1 n3,jT hn];rfl
    have z1:bz (ar (rf (p.fe.set n g)) n 1)=g.t:=by rw[GM n3,jT hn];rfl
    have gl:g.li=life:=by rw[<-hg]
    have gs:g.st=p.now:=by rw[<-hg]
    unfold lD at h4;dsimp only[told]at h4;rw[gl,gs]at h4;unfold lD told;simp only[aX,ax,au,e1,e2,e3,h3.1,h3.2,z0,z1,gl,gs];cases decide (life>0)with
    |true=>simp only[au,h4.1,h4.2];rfl
    |false=>rfl
end EP

namespace vU
open Lib (rd el Fi)
open dF (j9 act ra Ac wa0 wa1 wa2 wa3 rV Cm)
theorem ok(l:az Fi)(a:az Ac)(hl:l.length<=1000)(ha:a.length<=1000000)(ht:∀x∈a,x.t.size<=2305843009213693952):c (rd l) (ra a)=ai/\v (rd l) (ra a)=(rd (j9 l 0 a).1,((j9 l 0 a).2:aw)):=by
 refine out _ _ ?_;unfold vo b;have h1:=s9.ok (rd l) (by rw[ed];omega);rw[h1.1,h1.2,au,rV]
 have key:∀(d i n:aC) (l:az Fi),a.length-i<=d->i<=a.length->l.length<=1000->d<n->
   l3 Lib.cy (λ(_:aQ) (y7:aw) (_:aQ) (_ _:aw) (wJ:aQ)=>ah (wJ,y7)) (λ(Nn:aQ) (_:aw) (_:aQ) (_ _:aw) (EC:aQ)=>ah (EC,(↑(bK Nn):aw))) n (ra a) 0 (ra a) (a.length:aw) (i:aw) (rd l)=ah (rd (j9 l i (a.drop i)).1,((j9 l i (a.drop i)).2:aw)):=by
  intro d
  induction d with
  |zero=>
   intro i n l e1 e2 e3 e4;obtain⟨n,rfl⟩:∃n',n=n'+1:=⟨n-1,by omega⟩
   have:i=a.length:=by omega
   subst this;simp only[l3,r3,Lib.de,bg,a_,ax,rV,cD,j9]
  |succ d ih=>
   intro i n l e1 e2 e3 e4;obtain⟨n,rfl⟩:∃n',n=n'+1:=⟨n-1,by omega⟩
   by_cases hi:i<a.length
   ·have hd:=rE.ok l (el a i).k (el a i).n (el a i).t (el a i).o e3 (ht _ (mO hi));simp only[l3,r3,Lib.de,rV,hi,aM,Lib.cz,aJ,au,Lib.dU,wa0 hi,wa1 hi,wa2 hi,wa3 hi,bz,bF,hd.1,hd.2,Lib.c5 hi (by omega:a.length<=9223372036854775807)];rw[di hi,<-fF hi];unfold j9;cases hac:act l (el a i).k (el a i).n (el a i).t (el a i).o with
    |none=>rfl
    |some e=>have:=(Cm hac).2;exact ih (i+1) n e (by omega) hi (by omega) (by omega)
   ·have:i=a.length:=by omega
    subst this;simp only[l3,r3,Lib.de,bg,a_,ax,rV,cD,j9]
 exact key a.length 0 Lib.cy l (by omega) (bk _) hl (ck (by omega))
end vU

namespace XE
open Lib (rr rs re rf rc rd Px En el I1 GM RM RN)
open jm (Wo Ev closed)
open kB (dk es)
open iI (v9)
open fU (ri vm tU jJ)
open vh (cls lD)
theorem ok{i:aC}{w:Wo}(h:v9 i w)(hi:i<=71)(id life:aw)(hl:0<=life/\life<=999999):c w.p.now (re w.p.en) (rs w.p.w) (rs w.p.m) (rr w.p.s) w.p.a (rf w.p.fe) (rc w.p.cl) w.p.hits (rd (dk w.o)) (ri w.cd) (re w.bd) id life=ai/\v w.p.now (re w.p.en) (rs w.p.w) (rs w.p.m) (rr w.p.s) w.p.a (rf w.p.fe) (rc w.p.cl) w.p.hits (rd (dk w.o)) (ri w.cd) (re w.bd) id life=((cls w.p id life).2,vm (closed w id life).1):=by
 refine out _ _ _ _ _ _ _ _ _ _ _ _ _ _ ?_;have hbd:=h.bd;have XN:=h.tx hi;have Uf:=kB.AB w.o;have A:=EP.ok w.p id life (jJ h.px);obtain⟨q1,q2⟩:=iI.LX (f:=id) h.px hl;obtain⟨s1,s2⟩:=vh.JR (p:=w.p) (f:=id) (life:=life);have mA:=jJ q1;unfold vo b;rw[A.1,au,A.2,fU.lt_eq];unfold closed vm;dsimp only;rw[<-s1,<-s2];generalize cls w.p id life=Q at q1 q2 s1 s2 mA;obtain⟨q,ok⟩:=Q;dsimp only at q1 q2 s1 s2 mA⊢;rcases q2 with ⟨r1,r2⟩|⟨r1,n,rn,hn,rf_,rs_,rl⟩
 ·subst r1;rfl
 subst r1;rw[aX,ax];by_cases hz:life=0
 ·rw[aE hz,au,bm,aG (show¬life>0 by omega)];rfl
 rw[aG hz,ax,bm,aE (show life>0 by omega),au];obtain⟨t1,t2⟩:=rl (by omega);have Ij:n<q.fe.length:=by rw[rf_,cO];exact hn
 have Dx:el q.fe n={el w.p.fe n with sta:=2,li:=life,st:=w.p.now}:=by rw[rf_,ig.jT hn]
 subst rn;rw[eT];have B:=sE.ok q.w q.m (rr q.s) q.a (el q.fe n).k mA.w mA.m;have C:=uY.ok (el q.fe n).k (el q.fe n).st (el q.fe n).li (el q.fe n).t;have hE:nq.v (el q.fe n).k (el q.fe n).st (el q.fe n).li (el q.fe n).t=true:=by rw[Dx];exact t1
 have Ey:=iI.Mf (e:=lD (el q.fe n)) hE;rw[uY.val,bB hE,show uY.j9 (fI.fr (jF.sN (el q.fe n).k (el q.fe n).st (el q.fe n).li (el q.fe n).t))=dF.ra (iX.sr (iX.Jg (lD (el q.fe n))))from rfl]at C;have D:=vU.ok (dk w.o) (iX.sr (iX.Jg (lD (el q.fe n)))) (by omega) (by unfold iX.sr;simp) (λx hx=>by
  unfold iX.sr at hx;simp only[cB,lK,or_false]at hx;rcases hx with rfl|rfl
  ·show(iX.Jg (lD (el q.fe n))).size<=_;omega
  ·exact bk _)
 rw[kB.Ot (by omega)]at D;have hP:(fu.has q.w (el q.fe n).k||fu.has q.m (el q.fe n).k)=true:=by rw[Dx];exact t2
 rw[hP]at B;have room:∀y,cC ((re w.bd).length+(aL (aN [Ck.s,Ck.i ao,Ck.i ao,Ck.s] 1) 0 y).length) 48=true:=λy=>by rw[dr,fU.uG];exact Lib.cm (by omega) (by omega)
 have sn:=tU w.bd (lD (el q.fe n));unfold lD at sn C D;dsimp only at sn;simp only[fU.lt_eq,dQ,Lib.de,Ij,aM,Lib.cz,aJ,au,Lib.dU,I1 Ij,GM Ij,RM Ij,RN Ij,bz,bF,B.1,B.2,C.1,C.2,D.1,D.2,room,sn,show lD (el q.fe n)=⟨(el q.fe n).k,(el q.fe n).st,(el q.fe n).li,(el q.fe n).t⟩from rfl]
end XE

namespace XF
open Lib (rr rs re rf rc Px el)
open ig (vB F7 told jx nU jT yN)
theorem ok(p:Px)(f:aw)(hp:p.Fit 1048576):c p.now (re p.en) (rs p.w) (rs p.m) (rr p.s) p.a (rf p.fe) (rc p.cl) p.hits f=ai/\v p.now (re p.en) (rs p.w) (rs p.m) (rr p.s) p.a (rf p.fe) (rc p.cl) p.hits f=(p.now,re p.en,rs p.w,rs p.m,rr p.s,p.a,rf (F7 p f).1.fe,rc (F7 p f).1.cl,p.hits,(F7 p f).2):=by
 have h1:=iM.ok p hp;have h2:=uX.ok p f hp;have hf:=hp.fe;have hc:=hp.cl;refine out _ _ _ _ _ _ _ _ _ _ ?_;unfold vo b F7;simp only[Lib.lt,h1.1,h1.2,h2.1,h2.2,au];unfold vB;cases cj:qR.jv p&&decide (0<=f/\f<=(p.fe.length:aw)-1)with
 |false=>rw[<-nK,cj];rfl
 |true=>
  rw[<-nK,cj,bm];rw[aK,bj]at cj;obtain⟨n,rfl⟩:∃n:aC,f=(n:aw):=⟨f.toNat,by omega⟩
  have hn:n<p.fe.length:=by omega
  simp only[aX,ax,au,Lib.cz,Lib.de,dQ,hn,aM,aJ,Lib.dU,Bh hn,bF];cases hs:decide ((el p.fe n).sta=1)with
  |false=>rw[show((el p.fe n).sta !=1)= !decide ((el p.fe n).sta=1)from rfl,hs];rfl
  |true=>
   have e1:=yN p.fe n 2 [CV.i ao 3] {el p.fe n with sta:=3} hn rfl;have Ij:n<(p.fe.set n {el p.fe n with sta:=3}).length:=by rw[cO];exact hn
   have h3:=vV.ok {p with fe:=p.fe.set n {el p.fe n with sta:=3}} n 3 Ij (by rw[cO];omega) (by dsimp only;omega);dsimp only at h3;rw[jT hn]at h3;rw[show((el p.fe n).sta !=1)= !decide ((el p.fe n).sta=1)from rfl,hs];simp only[aX,ax,au,e1,h3.1,h3.2];rfl
end XF

namespace EK
open Lib (rr rs re rf rc Px)
open sF (tm later)
theorem md(n:aw):BR.c n 1000=ai/\BR.v n 1000=n%1000:=by
 refine BR.out _ _ ?_;unfold BR.vo BR.b;have t:=tm n;rw[show(!decide ((1000:aw)=0))=ai from rfl,au,au];congr 1;by_cases hn:cT n 1000<0
 ·have e:=t.2 hn;rw[e,bZ (x:=n%1000) (by omega) (by omega),jD (by omega)];omega
 ·have e:=t.1 (by omega);rw[e,bZ (x:=n%1000+1000) (by omega) (by omega),jD (by omega)];omega
theorem ok(p:Px)(n:aw)(hp:p.Fit 1048576):c p.now (re p.en) (rs p.w) (rs p.m) (rr p.s) p.a (rf p.fe) (rc p.cl) p.hits n=ai/\v p.now (re p.en) (rs p.w) (rs p.m) (rr p.s) p.a (rf p.fe) (rc p.cl) p.hits n=((sF.val p n).now,re p.en,rs p.w,rs p.m,rr p.s,p.a,rf p.fe,rc p.cl,p.hits):=by have h:=iM.ok p hp;have hm:=md n;refine out _ _ _ _ _ _ _ _ _ _ ?_;unfold vo b sF.val later;simp only[Lib.lt,h.1,h.2,hm.1,hm.2,au];rw[bZ (x:=1000000000-n%1000) (by omega) (by omega)];cases decide (p.now>1000000000-n%1000)<;>rfl
end EK

namespace nb
def p(s:aQ)(k:aw)(i:aC):aY:=decide (bF (ar s i 0)=k)
theorem ok(d:aQ)(n:aw)(hl:d.length<=4294967296):c d n=ai/\v d n=Lib.fi (p d n) d.length 0:=by
 refine out d n ?_;unfold vo b;refine n6 (p d n) d.length (λm (i:aC)=>l2 Lib.cy (λ(_:aQ) (_:aw) (y7 _ _:aw)=>ah y7) (λ(_:aQ) (_:aw) (_ _ _:aw)=>ah (-1)) m d n 0 (d.length:aw) (i:aw)) ah (λm i hi hp=> ?_) (λm i hi hp=> ?_) (λm=> ?_) Lib.cy (ck (by omega))
 ·unfold p at hp;simp only[l2,r2,Lib.de,Lib.cz,Lib.dU,hi,aM,aJ,au,BS.v,hp]
 ·unfold p at hp;simp only[l2,r2,Lib.de,Lib.cz,Lib.dU,hi,aM,aJ,au,BS.v,hp,ax,Lib.c5 hi (by omega:d.length<=9223372036854775807)]
 ·simp only[l2,r2,Lib.de,bg,a_,ax]
end nb

namespace wY
def cn(y:az CV):aY:=match y with|[.i .i64 _, .s _, .i .i64 _, .i .i64 _, .i .i64 _, .s _, .i .i64 _]=>ai|_=>ak
def cr(y:az CV):az CV:=[CV.i ao (bF (y.getD 0 (.b ak))),CV.s (bz (y.getD 1 (.b ak))),CV.i ao (bF (y.getD 2 (.b ak))),CV.i ao (bF (y.getD 3 (.b ak))),CV.i ao (bF (y.getD 4 (.b ak))),CV.s (bz (y.getD 5 (.b ak))),CV.i ao (bF (y.getD 6 (.b ak)))]
theorem tp{y:az CV}(h:cn y=ai):cr y=y:=by
 unfold cn at h;split at h
 ·rfl
 ·cases h
theorem mg{y:az CV}(h:cn y=ai):y.length=7:=by rw[<-tp h];rfl
def keep(d:aw)(y:az CV):aY:= !decide (bF (y.getD 0 (.b ak))=d)
theorem ik(d:aw){s:aQ}{i:aC}(h:i<s.length):(s.take (i+1)).filter (keep d)=(s.take i).filter (keep d)++(bif keep d s[i]then [s[i]]else []):=by rw[bQ h,ij];cases hk:keep d s[i]<;>simp[hk]
theorem run(N:aC)(s0:aQ)(d:aw)(hc:s0.all cn=ai)(hn:s0.length<=9223372036854775807)(K:aw->aw->aw->aQ->ay R)(kr:aQ->ay R)
  (hK:∀(j:aC) x,x.length=s0.length->j<=s0.length->K d j s0.length x=kr (x.take j)) (m j i:aC) (x:aQ)
  (hi:j<i/\i<=s0.length/\x.length=s0.length/\(∀y∈x,y.length=7)/\x.take j=(s0.take i).filter (keep d)/\x.drop i=s0.drop i) (hm:s0.length-i<m):
  l5 N K m d j i x=kr (s0.filter (keep d)):=by
 have Ml:∀y∈s0,cn y=true:=bA.1 hc
 refine Lib.dB (λm (s:aC×aC×aQ)=>l5 N K m d s.1 s.2.1 s.2.2) (λs=>s0.length-s.2.1)
  (λs=>s.1<s.2.1/\s.2.1<=s0.length/\s.2.2.length=s0.length/\(∀y∈s.2.2,y.length=7)/\s.2.2.take s.1=(s0.take s.2.1).filter (keep d)/\s.2.2.drop s.2.1=s0.drop s.2.1)
  (λ_=>kr (s0.filter (keep d))) (λm s hs=> ?_) m (j,i,x) hi hm
 obtain⟨j,i,x⟩:=s;obtain⟨h1,h2,h3,h4,h5,h6⟩:=hs;simp only at h1 h2 h3 h4 h5 h6⊢;by_cases fP:i<s0.length
 ·right;have oq:i<x.length:=by omega
  have Ii:j<x.length:=by omega
  have hx:x[i]=s0[i]:=by have e1:=Lib.dG oq;have e2:=Lib.dG fP;rw[h6,e2]at e1;exact(ki e1).1.symm
  have hd:x.drop (i+1)=s0.drop (i+1):=by have e1:=Lib.dG oq;have e2:=Lib.dG fP;rw[h6,e2]at e1;exact(ki e1).2.symm
  have Mn:=Ml _ (bu fP);have hf:=ik d fP;cases hk:keep d s0[i]with
  |true=>
   refine⟨(j+1,i+1,x.set j s0[i]), ?_,by simp only;omega,trivial, ?_⟩
   ·rw[hk,au,<-h5]at hf;refine⟨by simp only;omega,by simp only;omega,by simpa using h3, ?_, ?_, ?_⟩
    ·intro y hy;rcases jE hy with h|h
     ·exact h4 y h
     ·rw[h];exact mg Mn
    ·rw[hf];rw[bQ (by simpa using Ii)];simp[wV]
    ·simp only;rw[wS (by omega)];exact hd
   ·have e:BS.v (bF (ar x i 0)) (bz (ar x i 1)) (bF (ar x i (1+1))) (bF (ar x i (1+1+1))) (bF (ar x i (1+1+1+1))) (bz (ar x i (1+1+1+1+1))) (bF (ar x i (1+1+1+1+1+1))) d=false:=by
     have:(!BS.v (bF (ar x i 0)) (bz (ar x i 1)) (bF (ar x i (1+1))) (bF (ar x i (1+1+1))) (bF (ar x i (1+1+1+1))) (bz (ar x i (1+1+1+1+1))) (bF (ar x i (1+1+1+1+1+1))) d)=true:=by rw[Lib.cG oq,hx];exact hk
     simpa using this
    have es:cK x j 0 [CV.i ao (bF (ar x i 0)),CV.s (bz (ar x i 1)),CV.i ao (bF (ar x i (1+1))),CV.i ao (bF (ar x i (1+1+1))),CV.i ao (bF (ar x i (1+1+1+1))),CV.s (bz (ar x i (1+1+1+1+1))),CV.i ao (bF (ar x i (1+1+1+1+1+1)))]=x.set j s0[i]:=by
     have hl:=h4 _ (bu Ii);rw[Lib.CG Ii,Lib.cG oq,Lib.cG oq,Lib.cG oq,Lib.cG oq,Lib.cG oq,Lib.cG oq,Lib.cG oq,hx];have:dS x[j] 0 (cr s0[i])=s0[i]:=by rw[tp Mn];unfold dS;have:=mg Mn;simp[hl,this,gW]
     unfold cr at this;rw[this]
    have b1:(j:aw)<(x.length:aw):=by omega
    simp only[l5,r5,Lib.de,Lib.cz,Lib.dU,oq,Ii,aM,bm,au,e,bS,es,Lib.c5 fP hn,Lib.c5 (show j<s0.length by omega) hn]
  |false=>
   refine⟨(j,i+1,x), ?_,by simp only;omega,trivial, ?_⟩
   ·rw[hk,ax,cu,<-h5]at hf;exact⟨by simp only;omega,by simp only;omega,h3,h4,hf.symm,hd⟩
   ·have e:BS.v (bF (ar x i 0)) (bz (ar x i 1)) (bF (ar x i (1+1))) (bF (ar x i (1+1+1))) (bF (ar x i (1+1+1+1))) (bz (ar x i (1+1+1+1+1))) (bF (ar x i (1+1+1+1+1+1))) d=true:=by
     have:(!BS.v (bF (ar x i 0)) (bz (ar x i 1)) (bF (ar x i (1+1))) (bF (ar x i (1+1+1))) (bF (ar x i (1+1+1+1))) (bz (ar x i (1+1+1+1+1))) (bF (ar x i (1+1+1+1+1+1))) d)=false:=by rw[Lib.cG oq,hx];exact hk
     simpa using this
    simp only[l5,r5,Lib.de,Lib.cz,Lib.dU,oq,aM,bm,au,e,aX,ax,Lib.c5 fP hn]
 ·left;have:i=s0.length:=by omega
  subst this;rw[dv]at h5;have e:=hK j x h3 (by omega);rw[h5]at e;have oq:¬s0.length<x.length:=by omega
  simp only[l5,r5,Lib.de,oq,a_,ax,e]
theorem ok(s0:aQ)(iS:aw)(hc:s0.all cn=ai)(hn:s0.length<=4294967296):c s0 iS=ai/\v s0 iS=s0.filter (keep iS):=by
 refine out s0 iS ?_;have hv:=nb.ok s0 iS hn;unfold vo b;rw[hv.1,hv.2,au];rcases Lib.ph (nb.p s0 iS) s0.length 0 with ⟨h,nS⟩|⟨k,_,zA,hk,Mr,Mk⟩
 ·rw[h];have:s0.filter (keep iS)=s0:=by rw[eJ];intro y hy;obtain⟨i,hi,rfl⟩:=c_ hy;have:=nS i (bk _) (by omega);unfold nb.p at this;rw[Lib.cG hi]at this;unfold keep;rw[this];rfl
  rw[this];rfl
 ·rw[hk];have Fb:k<s0.length:=by omega
  have iy:decide ((k:aw)=Lt 1)=false:=aG (by show¬(k:aw)= -1;omega);rw[iy,ax,Lib.c5 Fb (by omega)];have Ml:∀y∈s0,cn y=true:=bA.1 hc;refine run _ s0 iS hc (by omega) _ ah (λj x hx hj=> ?_) _ k (k+1) s0 ⟨by omega,by omega,rfl,λy hy=>mg (Ml y hy), ?_,rfl⟩ (ck (by omega))
  ·have b1:iA (j:aw) (s0.length:aw) (s0.length:aw)=true:=by simp[iA];omega
   have e:gY j x++aN [Ck.i ao,Ck.s,Ck.i ao,Ck.i ao,Ck.i ao,Ck.s,Ck.i ao] (s0.length-j)++m9 s0.length x=gY j x++aN [Ck.i ao,Ck.s,Ck.i ao,Ck.i ao,Ck.i ao,Ck.s,Ck.i ao] (s0.length-j):=by rw[gW (by omega),cu]
   have hl:(gY j x).length=j:=by simp;omega
   simp only[hx,Lib.dU,b1,au,e];rw[Lib.qC (by simp[iA];omega)];unfold e8;rw[show bc 0=0 from rfl,eN,oN,oZ (by omega),fX (by omega)]
  ·rw[ik iS Fb];have e1:keep iS s0[k]=false:=by unfold nb.p at Mr;rw[Lib.cG Fb]at Mr;unfold keep;rw[Mr];rfl
   have e2:(s0.take k).filter (keep iS)=s0.take k:=by
    rw[eJ];intro y hy;obtain⟨i,hi,rfl⟩:=c_ hy;have XL:i<k:=by simp at hi;omega
    have:=Mk i (bk _) XL;unfold nb.p at this;rw[Lib.cG (by omega)]at this;rw[nk];unfold keep;rw[this];rfl
   rw[e1,e2,ax,cu]
end wY

namespace EL
open Lib (rr rs re rf rc Px Cl)
theorem akY(l:az Cl):(rc l).all wY.cn=true:=by rw[bA];intro y hy;unfold Lib.rc at hy;obtain⟨z,_,rfl⟩:=cw.1 hy;rfl
theorem agV(l:az Cl)(id:aw):(rc l).filter (wY.keep id)=rc (l.filter λc=> !decide (c.id=id)):=by unfold Lib.rc;rw[oY];rfl
theorem ok(p:Px)(id:aw)(hp:p.Fit 1048576):c p.now (re p.en) (rs p.w) (rs p.m) (rr p.s) p.a (rf p.fe) (rc p.cl) p.hits id=ai/\v p.now (re p.en) (rs p.w) (rs p.m) (rr p.s) p.a (rf p.fe) (rc p.cl) p.hits id=(p.now,re p.en,rs p.w,rs p.m,rr p.s,p.a,rf p.fe,rc (uZ.val p id).cl,p.hits):=by have h:=iM.ok p hp;have hc:=hp.cl;have h2:=wY.ok (rc p.cl) id (akY _) (by rw[fc];omega);rw[agV]at h2;exact out _ _ _ _ _ _ _ _ _ _ (by unfold vo b;simp only[Lib.lt,h.1,h.2,h2.1,h2.2,au];rfl)
end EL

namespace BT
theorem ok(d l:aQ)(hd:d.length<=1048576)(hl:l.length<=1048576):c d l=ai/\v d l=jG.val d l:=by
 refine out d l ?_;have k1:=ia.ok d (by omega);have k2:=uU.ok d {data:= #[aP 110,aP 101,aP 119]} (by omega);have e2:v8.val d {data:= #[aP 110,aP 101,aP 119]}=v8.val d jG.nm:=rfl;unfold vo b jG.val;rw[k1.1,k1.2,au];cases gQ.val d with
 |false=>rfl
 |true=>
  rw[aX,ax,au];have tr:∀(K0 K1:aY->aq->aQ->aw->aw->aQ->ay (aQ×aY)) (kt:aq->ay (aQ×aY)) (h0:∀x i,K0 ak x l l.length i d=ah ([],ak)) (h1:∀x i,K1 ak x l l.length i d=kt x),l5 Lib.cy K0 K1 Lib.cy ak ⟨#[]⟩ l l.length 0 d=jG.fin (jG.fs l l.length 0 ⟨#[]⟩) (ah ([],ak)) kt:=by
   intro K0 K1 kt h0 h1;refine jG.Ol l hl (λm i acc=>l5 Lib.cy K0 K1 m ak acc l l.length (i:aw) d) _ kt (λm i acc hi ha hf ho=> ?_) (λm i acc hi ho=> ?_) (λm acc=> ?_)
   ·have iV:br ((i:aw)+1)=((i+1:aC):aw):=bZ (by omega) (by omega);have f1:=mM.ok (bz (ar l i 0)) (bF (ar l i 1)) (bF (ar l i (1+1))) (bz (ar l i (1+1+1)));have f2:mM.val (bz (ar l i 0)) (bF (ar l i 1)) (bF (ar l i (1+1))) (bz (ar l i (1+1+1)))=(fI.fr (jG.tx l i),ai):=by unfold mM.val;exact bB ho
    simp only[l5,r5,Lib.de,Lib.cz,Lib.dU,hi,aM,aJ,au,ax,f1.1,f1.2,f2,aX,aE (show acc.size+(fI.fr (jG.tx l i)).size<=4611686018427387904 by omega),iV]
   ·have f1:=mM.ok (bz (ar l i 0)) (bF (ar l i 1)) (bF (ar l i (1+1))) (bz (ar l i (1+1+1)));have f2:mM.val (bz (ar l i 0)) (bF (ar l i 1)) (bF (ar l i (1+1))) (bz (ar l i (1+1+1)))=(⟨#[]⟩,ak):=by unfold mM.val;rw[bH (by intro h;have h':jG.eo l i=true:=h;rw[ho]at h';cases h')]
    simp only[l5,r5,Lib.de,Lib.cz,Lib.dU,hi,aM,aJ,au,f1.1,f1.2,f2,bS];exact h0 acc i
   ·simp only[l5,r5,Lib.de,bg,a_,ax];exact h1 acc _
  refine(tr _ _ (λx=>ah (jG.j9 (v8.val d jG.nm).2 x,ai)) (λ_ _=>rfl) (λx _=> ?_)).trans ?_
  ·rw[k2.1,au,k2.2,e2];cases (v8.val d jG.nm).2<;>rfl
  ·cases jG.fs l l.length 0 ⟨#[]⟩<;>rfl
end BT

namespace Rz
open Lib (rr rs re rf rc Px En el pF r_ sa sb)
open gA (sU tv one wA yH AH p0)
theorem ok(now:aw)(l:az En)(hl:l.length<=1048576):
  c now (re l)=ai/\v now (re l)=(now,re (sU now l).en,rs (sU now l).w,rs (sU now l).m,rr (sU now l).s,(sU now l).a,[],[],0):=by
 refine out _ _ ?_;unfold vo b;rw[dr];have key:=jU l.length (λn (i:aC) (p:Px)=>l4 Lib.cy (λ(_:aw) (_:aQ) (_ _ _ _ _ XW RP RQ:aw) (Jj RR RS RT RU Rq:aQ)=>ah (XW,Jj,RR,RS,RT,RP,RU,Rq,RQ)) n now (re l) (l.length:aw) (i:aw) 0 0 0 now p.a 0 (re p.en) (rs p.w) (rs p.m) (rr p.s) [] []) (λi=>sU now (l.take i)) (ah (now,re (sU now l).en,rs (sU now l).w,rs (sU now l).m,rr (sU now l).s,(sU now l).a,[],[],0)) (λn i hi=>by
  have I:=wA now l i (by omega);have hs:=yH now l i hi;generalize sU now (l.take i)=p at I hs;rw[hs];unfold one;have hw:br ((i:aw)+1)=((i+1:aC):aw):=Lib.c5 hi (by omega);cases hf:tv (el l i) now with
  |false=>have vn:HR.v (el l i).k (el l i).st (el l i).li (el l i).bo now=false:=hf;simp only[l4,r4,dr,Lib.de,hi,aM,Lib.cz,aJ,au,Lib.dU,pF hi,r_ hi,sa hi,sb hi,bz,bF,vn,ax,hw]
  |true=>have vn:HR.v (el l i).k (el l i).st (el l i).li (el l i).bo now=true:=hf;have hk:=(nq.KL (AH hf)).1;have h4:=Qe.ok p (el l i) [] [] (I.fit (by omega) (by omega)) I.so (by omega);rw[I.now,I.hits]at h4;simp only[l4,r4,Lib.lt,dr,Lib.de,hi,aM,Lib.cz,aJ,au,Lib.dU,pF hi,r_ hi,sa hi,sb hi,bz,bF,vn,h4.1,h4.2,hw]) (λn=>by
  simp only[l4,r4,Lib.de,bg,a_,ax,dv]) Lib.cy 0 (bk _) (ck (by omega))
 exact key
end Rz

namespace BL
open Lib (rr rs re rf rc rd Px En el pF r_ sa sb)
open jm (Wo Ev Dp mR)
open kB (dk es)
open iI (v9)
open fU (ri vm tU jJ)
theorem walk(N:aC)(L:az En)(hL:L.length<=1048576)(hN:L.length<N)(K0:aw->aw->aw->aw->aw->aQ->aQ->aQ->aQ->aQ->aQ->aQ->aQ->aQ->aQ->aQ->ay R)(now a5 a8:aw)(q1 q2 q3 q4 q6 q7 q9 Fm q11:aQ):
  l3 N K0 N (L.length:aw) 0 now a5 a8 (re []) (re L) q1 q2 q3 q4 q6 q7 q9 Fm q11=K0 (L.length:aw) (L.length:aw) now a5 a8 (re (L.filter λe=>gA.tv e now)) (re L) q1 q2 q3 q4 q6 q7 q9 Fm q11:=by
 have hw:∀i,i<L.length->br ((i:aw)+1)=((i+1:aC):aw):=λi h=>Lib.c5 h (by omega)
 have key:=Dq L (λe=>gA.tv e now) (λm (i:aC) acc=>l3 N K0 m (L.length:aw) (i:aw) now a5 a8 (re acc) (re L) q1 q2 q3 q4 q6 q7 q9 Fm q11) (λacc=>K0 (L.length:aw) (L.length:aw) now a5 a8 (re acc) (re L) q1 q2 q3 q4 q6 q7 q9 Fm q11) []
  (λm i acc hi ha hp=>by rw[<-fF hi]at hp⊢;unfold gA.tv at hp;simp only[l3,r3,dr,Lib.de,hi,aM,Lib.cz,aJ,au,Lib.dU,pF hi,r_ hi,sa hi,sb hi,bz,bF,hp,hw i hi,fU.uG,fU.tU];rw[Lib.cm (by simp at ha;omega) (by simp at ha;omega),au])
  (λm i acc hi hp=>by rw[<-fF hi]at hp;unfold gA.tv at hp;simp only[l3,r3,dr,Lib.de,hi,aM,Lib.cz,aJ,au,Lib.dU,pF hi,r_ hi,sa hi,sb hi,bz,bF,hp,hw i hi,ax])
  (λm acc=>by simp only[l3,r3,Lib.de,bg,a_,ax])
  N hN
 exact key
theorem ok{i:aC}{w:Wo}(h:v9 i w)(hi:i<=71)(left:aQ):c w.p.now (re w.p.en) (rs w.p.w) (rs w.p.m) (rr w.p.s) w.p.a (rf w.p.fe) (rc w.p.cl) w.p.hits (rd (dk w.o)) (ri w.cd) (re w.bd) left=ai/\v w.p.now (re w.p.en) (rs w.p.w) (rs w.p.m) (rr w.p.s) w.p.a (rf w.p.fe) (rc w.p.cl) w.p.hits (rd (dk w.o)) (ri w.cd) (re w.bd) left=vm (Dp w):=by
 refine out _ _ _ _ _ _ _ _ _ _ _ _ _ ?_;have XN:=h.tx hi;have hlen:=h.len hi;have Uf:=kB.AB w.o;have A:=wZ.ok (dk w.o) left (by omega);rw[kB.Ys (by omega) left,show rE.res (ah (dk w.o))=(rd (dk w.o),ai)from rfl]at A;have B:=(kB.acd (o:=w.o) (by omega) h.eo).1;have Fb:=iX.MD (es w.o);have hf:=iI.Ib h.eo;have QE:=iI.Du w;have htf:=iI.Xb _ hf;have C:=BT.ok (rd (dk w.o)) (re (mR w)) (by rw[ed];omega) (by rw[dr];omega);rw[kB.acb (by omega) hf]at C;have D:=vU.ok (dk w.o) (pN.tc (iX.tx (mR w))) (by omega) (by unfold pN.tc;simp) (λx hx=>by
  unfold pN.tc at hx;simp only[cB,lK,or_false]at hx;rcases hx with rfl|rfl|rfl
  ·show(iX.tx (mR w)).size<=_;omega
  ·exact bk _
  ·exact bk _)
 rw[kB.Oq (by omega) (by omega)]at D;have E:=Rz.ok w.p.now (mR w) (by omega);unfold vo;generalize hN:Lib.cy=N;have jb:(iX.kp (es w.o)).length<N:=by rw[<-hN];exact ck (by omega)
 clear hN;unfold b;rw[A.1,au,A.2,fU.lt_eq];show(bif U61.c (rd (dk w.o))then Lib.lt (U61.v (rd (dk w.o))) _ else aj)=_;rw[B.1,au,B.2,fU.lt_eq,dr,show aN [Ck.s,Ck.i ao,Ck.i ao,Ck.s] 0=re []from rfl,walk N (iX.kp (es w.o)) (by omega) jb];have e:((kpp:az En)->kpp=iX.kp (es w.o)->kpp.filter (λe=>gA.tv e w.p.now)=mR w):=λ_ h=>by subst h;rfl
 rw[e _ rfl];simp only[fU.lt_eq,C.1,C.2,D.1,D.2,E.1,E.2,au];have hinv:=gA.wA w.p.now (mR w) (mR w).length (cJ _);rw[dv]at hinv;unfold vm Dp;dsimp only;rw[hinv.now,hinv.fe,hinv.cl,hinv.hits];rfl
end BL

namespace Xy
open Lib (rr rs re rf rc rd Px En el)
open jm (Wo Ev closed Dp mR kZ flag)
open kB (dk es)
open iI (v9)
open fU (ri vm tU jJ)
theorem fl(b:aY):HL.v b=flag b:=by cases b<;>rfl
theorem ok{i:aC}{w:Wo}{e:Ev}(h:v9 i w)(hi:i<=71)(he:kZ e=ai):c w.p.now (re w.p.en) (rs w.p.w) (rs w.p.m) (rr w.p.s) w.p.a (rf w.p.fe) (rc w.p.cl) w.p.hits (rd (dk w.o)) (ri w.cd) (re w.bd) e.k e.id e.t e.n e.l=ai/\v w.p.now (re w.p.en) (rs w.p.w) (rs w.p.m) (rr w.p.s) w.p.a (rf w.p.fe) (rc w.p.cl) w.p.hits (rd (dk w.o)) (ri w.cd) (re w.bd) e.k e.id e.t e.n e.l=((jm.act w e).2,vm (jm.act w e).1):=by
 unfold kZ at he;simp only[aK,bj]at he;obtain⟨hk,Mp,ht,hn,hl⟩:=he;have hp:=jJ h.px;refine out _ _ _ _ _ _ _ _ _ _ _ _ _ _ _ _ _ ?_;unfold vo b jm.act;by_cases k1:e.k=1
 ·rw[aE k1,au];have A:=TC.ok w.p e.id e.t hp (by omega);rw[A.1,au,A.2,fU.lt_eq];try rfl
 rw[aG k1,ax,ax];by_cases k2:e.k=2
 ·rw[aE k2,au];have A:=XD.ok w.p e.id e.t hp;rw[A.1,au,A.2,fU.lt_eq,fl];unfold vm ig.Gz;cases ig.vB w.p e.id&&(decide (1<=e.t.size/\e.t.size<=40)&&decide ((el w.p.fe e.id.toNat).t.size+e.t.size<=400))<;>rfl
 rw[aG k2,ax,ax];by_cases k3:e.k=3
 ·rw[aE k3,au,jD hn];have A:=XE.ok h hi e.id (e.n%1000000) (by omega);rw[A.1,au,A.2,fU.lt_eq,fl];try rfl
 rw[aG k3,ax,ax];by_cases k4:e.k=4
 ·rw[aE k4,au];have A:=XF.ok w.p e.id hp;rw[A.1,au,A.2,fU.lt_eq,fl];unfold vm ig.F7;cases ig.vB w.p e.id<;>rfl
 rw[aG k4,ax,ax];by_cases k5:e.k=5
 ·rw[aE k5,au];have A:=EK.ok w.p e.n hp;rw[A.1,au,A.2,fU.lt_eq];try rfl
 rw[aG k5,ax,ax];by_cases k6:e.k=6
 ·rw[aE k6,au];have A:=EL.ok w.p e.id hp;have B:=Av.ok w.p.now (re w.p.en) (rs w.p.w) (rs w.p.m) (rr w.p.s) w.p.a (rf w.p.fe) w.p.cl w.p.hits e.id hp.cl;rw[B.1,au,fU.lt_eq,A.1,au,A.2,fU.lt_eq,fl,B.2];try rfl
 rw[aG k6,ax,ax];have A:=BL.ok h hi e.l;rw[A.1,au,A.2,fU.lt_eq];try rfl
end Xy

namespace Lw
open Lib (rr rs re rf rc rd Px En el)
open jm (Wo Ev kZ)
open kB (dk es)
open iI (v9)
open fU (ri vm)
open sB (rv lF wv0 wv1 wv2 wv3 wv4 run D6 tT B3 life W13 qF)
theorem chk(N n:aC)(l:az Ev)(hl:l.length<=1048576)(hn:l.length<n)(K0 K1:aQ->aY->aQ->aw->aw->aw->aw->aw->ay R)(kf:ay R)(hK:∀i:aw,K0 (rv l) ak (rv l) (l.length:aw) i 0 0 0=kf):
  l4 N K0 K1 n (rv l) ak (rv l) (l.length:aw) 0 0 0 0=bif(ch l.length).all λi=>kZ (el l i)then K1 (rv l) ak (rv l) (l.length:aw) (l.length:aw) 0 0 0 else kf:=by
 have hw:∀i,i<l.length->br ((i:aw)+1)=((i+1:aC):aw):=λi h=>Lib.c5 h (by omega)
 have key:=jS (λi=>kZ (el l i)) l.length (λm (i:aC)=>l4 N K0 K1 m (rv l) ak (rv l) (l.length:aw) (i:aw) 0 0 0) kf (K1 (rv l) ak (rv l) (l.length:aw) (l.length:aw) 0 0 0)
  (λm i hi hp=>by simp only[l4,r4,lF,Lib.de,hi,aM,Lib.cz,aJ,au,Lib.dU,wv0 hi,wv1 hi,wv2 hi,wv3 hi,wv4 hi,bF,bz,gD,sB.Iy,hp,aX,ax,hw i hi])
  (λm i hi hp=>by simp only[l4,r4,lF,Lib.de,hi,aM,Lib.cz,aJ,au,Lib.dU,wv0 hi,wv1 hi,wv2 hi,wv3 hi,wv4 hi,bF,bz,gD,sB.Iy,hp,bS,hK])
  (λm=>by simp only[l4,r4,Lib.de,bg,a_,ax]) n hn
 exact key
theorem go(N:aC)(l:az Ev)(hl:l.length<=70)(he:∀e∈l,kZ e=ai)(K:aQ->aw->aw->aw->aw->aw->aw->aw->aw->aQ->aQ->aQ->aQ->aQ->aQ->aQ->aQ->aQ->ay R):∀(d i n:aC) (w:Wo),w=run (l.take i)->l.length-i<=d->i<=l.length->d<n->
  QP N K n (rv l) (l.length:aw) (i:aw) 0 0 0 w.p.now w.p.a w.p.hits (re w.p.en) (rs w.p.w) (rs w.p.m) (rr w.p.s) (rf w.p.fe) (rc w.p.cl) (rd (dk w.o)) (ri w.cd) (re w.bd)=K (rv l) (l.length:aw) (l.length:aw) 0 0 0 (run l).p.now (run l).p.a (run l).p.hits (re (run l).p.en) (rs (run l).p.w) (rs (run l).p.m) (rr (run l).p.s) (rf (run l).p.fe) (rc (run l).p.cl) (rd (dk (run l).o)) (ri (run l).cd) (re (run l).bd):=by
 have fin:∀(n:aC) (w:Wo),w=run (l.take l.length)->QP N K (n+1) (rv l) (l.length:aw) (l.length:aw) 0 0 0 w.p.now w.p.a w.p.hits (re w.p.en) (rs w.p.w) (rs w.p.m) (rr w.p.s) (rf w.p.fe) (rc w.p.cl) (rd (dk w.o)) (ri w.cd) (re w.bd)=K (rv l) (l.length:aw) (l.length:aw) 0 0 0 (run l).p.now (run l).p.a (run l).p.hits (re (run l).p.en) (rs (run l).p.w) (rs (run l).p.m) (rr (run l).p.s) (rf (run l).p.fe) (rc (run l).p.cl) (rd (dk (run l).o)) (ri (run l).cd) (re (run l).bd):=by intro n w hw;rw[dv]at hw;subst hw;simp only[QP,tO,Lib.de,bg,a_,ax]
 intro d;induction d with
 |zero=>
  intro i n w hw h1 h2 h3;obtain⟨n,rfl⟩:∃m,n=m+1:=⟨n-1,by omega⟩
  have:i=l.length:=by omega
  subst this;exact fin n w hw
 |succ d ih=>
  intro i n w hw h1 h2 h3;obtain⟨n,rfl⟩:∃m,n=m+1:=⟨n-1,by omega⟩
  by_cases hi:i<l.length
  ·have hW:v9 i w:=by rw[hw];exact D6 he i h2
   have hE:=he _ (mO hi);have A:=Xy.ok hW (by omega) hE;have hcd:=hW.cd;have e1:(jm.act w (el l i)).1.cd=w.cd:=Tz.TE w _;have rm:cC ((ri w.cd).length+(aL (aN [Ck.i ao] 1) 0 [CV.i ao (jm.act w (el l i)).2]).length) 8=true:=by rw[fU.f_,fU.uG];exact Lib.cm (by omega) (by omega)
   have nx:=ih (i+1) n (jm.step w (el l i)) (by rw[tT l i hi,hw]) (by omega) hi (by omega);refine Eq.trans ?_ nx;have Uu:br ((i:aw)+1)=((i+1:aC):aw):=Lib.c5 hi (by omega);simp only[QP,tO,lF,Lib.de,hi,aM,Lib.cz,aJ,au,Lib.dU,wv0 hi,wv1 hi,wv2 hi,wv3 hi,wv4 hi,bF,bz,gD,Uu];rw[A.1,au,A.2,fU.lt_eq];unfold vm;dsimp only;rw[e1,rm,au,fU.aed];rfl
  ·have:i=l.length:=by omega
   subst this;exact fin n w hw
theorem ok(l:az Ev)(hl:l.length<=1048576):c (rv l)=ai/\v (rv l)=life l:=by
 refine out _ ?_;unfold vo;generalize hN:Lib.cy=N;have jb:l.length<N:=by rw[<-hN];exact ck (by omega)
 clear hN;unfold b life B3;rw[lF];by_cases h:l.length<=70
 ·rw[aE h,bm,aG (show¬(l.length:aw)>70 by omega),ax];rw[chk N N l hl jb _ _ (ah (0,[],[],[],[],0,[],[],0,[],[],[],ak)) (λ_=>rfl)];cases ha:(ch l.length).all λi=>kZ (el l i)with
  |false=>rfl
  |true=>have he:∀e∈l,kZ e=true:=(qF.1 (by unfold B3;rw[ha,aE h];rfl)).2;rw[au,au];simp only[lF];exact(go N l h he _ l.length 0 N sB.w0 rfl (by omega) (by omega) jb).trans rfl
 ·rw[aG h,lu,aE (show(l.length:aw)>70 by omega),au,ax]
end Lw

namespace LK
theorem run(a:aQ)(hl:a.length<=9223372036854775807):vo a a=ah true:=by
 unfold vo b;rw[show((a.length:aw) !=(a.length:aw))=ak from da _,ax];have:=Lib.dB (λn (i:aC)=>l4 Lib.cy (λ(_ _:aQ) (y:aY) (_:aw)=>ah y) (λ(_ _:aQ) (_:aY) (_:aw)=>ah ai) n a a ak (i:aw)) (λi=>a.length-i) (λi=>i<=a.length) (λ_=>ah ai) (λn i hi=>by
  by_cases h:i<a.length
  ·right;refine⟨i+1,h,by omega,rfl, ?_⟩
   have iV:br ((i:aw)+1)=((i+1:aC):aw):=bZ (by omega) (by omega);have Dx:∀(x0:aq) (x1:aw) (x2:aw) (x3:aq),Lx.v x0 x1 x2 x3 x0 x1 x2 x3=true:=λ_ _ _ _=>by simp only[Lx.v,da,fT,aX,ax]
   simp only[l4,r4,Lib.de,h,aM,Lib.cz,aJ,au,Lib.dU,iV,Dx,aX,ax]
  ·left;simp only[l4,r4,Lib.de,h,a_,ax]) Lib.cy 0 (bk _) (ck (by omega))
 exact this
theorem ok(a:aQ)(hl:a.length<=9223372036854775807):c a a=ai/\v a a=true:=out a a (run a hl)
end LK

namespace vZ
theorem run(a:aQ)(hl:a.length<=9223372036854775807):vo a a=ah true:=by
 unfold vo b;rw[show((a.length:aw) !=(a.length:aw))=ak from da _,ax];have:=Lib.dB (λn (i:aC)=>l4 Lib.cy (λ(_ _:aQ) (y:aY) (_:aw)=>ah y) (λ(_ _:aQ) (_:aY) (_:aw)=>ah ai) n a a ak (i:aw)) (λi=>a.length-i) (λi=>i<=a.length) (λ_=>ah ai) (λn i hi=>by
  by_cases h:i<a.length
  ·right;refine⟨i+1,h,by omega,rfl, ?_⟩
   have iV:br ((i:aw)+1)=((i+1:aC):aw):=bZ (by omega) (by omega);simp only[l4,r4,Lib.de,h,aM,Lib.cz,aJ,au,Lib.dU,iV,da,fT,aX,ax]
  ·left;simp only[l4,r4,Lib.de,h,a_,ax]) Lib.cy 0 (bk _) (ck (by omega))
 exact this
theorem ok(a:aQ)(hl:a.length<=9223372036854775807):c a a=ai/\v a a=true:=out a a (run a hl)
end vZ

namespace BW
theorem run(a:aQ)(hl:a.length<=9223372036854775807):vo a a=ah true:=by
 unfold vo b;rw[show((a.length:aw) !=(a.length:aw))=ak from da _,ax];have:=Lib.dB (λn (i:aC)=>l4 Lib.cy (λ(_ _:aQ) (y:aY) (_:aw)=>ah y) (λ(_ _:aQ) (_:aY) (_:aw)=>ah ai) n a a ak (i:aw)) (λi=>a.length-i) (λi=>i<=a.length) (λ_=>ah ai) (λn i hi=>by
  by_cases h:i<a.length
  ·right;refine⟨i+1,h,by omega,rfl, ?_⟩
   have iV:br ((i:aw)+1)=((i+1:aC):aw):=bZ (by omega) (by omega);simp only[l4,r4,Lib.de,h,aM,Lib.cz,aJ,au,Lib.dU,iV,Qc.refl,aX,ax]
  ·left;simp only[l4,r4,Lib.de,h,a_,ax]) Lib.cy 0 (bk _) (ck (by omega))
 exact this
theorem ok(a:aQ)(hl:a.length<=9223372036854775807):c a a=ai/\v a a=true:=out a a (run a hl)
end BW

namespace EU
theorem ok(r:aQ)(k:aw)(hl:r.length<=9223372036854775807):c r k r k=ai/\v r k r k=true:=by have h:=BW.ok r hl;exact out r k r k (by unfold vo b;rw[h.1,h.2,da];rfl)
end EU

namespace EN
theorem ok(r0 r1 r2:aQ)(k:aw)(h0:r0.length<=9223372036854775807)(h1:r1.length<=9223372036854775807)(h2:r2.length<=9223372036854775807):c r0 r1 r2 k r0 r1 r2 k=ai/\v r0 r1 r2 k r0 r1 r2 k=true:=by have a0:=vZ.ok r0 h0;have a1:=vZ.ok r1 h1;have a2:=EU.ok r2 k h2;exact out r0 r1 r2 k r0 r1 r2 k (by unfold vo b;rw[a0.1,a0.2,a1.1,a1.2,a2.1,a2.2];rfl)
end EN

namespace BN
theorem run(a:aQ)(hl:a.length<=9223372036854775807):vo a a=ah true:=by
 unfold vo b;rw[show((a.length:aw) !=(a.length:aw))=ak from da _,ax];have:=Lib.dB (λn (i:aC)=>l4 Lib.cy (λ(_ _:aQ) (y:aY) (_:aw)=>ah y) (λ(_ _:aQ) (_:aY) (_:aw)=>ah ai) n a a ak (i:aw)) (λi=>a.length-i) (λi=>i<=a.length) (λ_=>ah ai) (λn i hi=>by
  by_cases h:i<a.length
  ·right;refine⟨i+1,h,by omega,rfl, ?_⟩
   have iV:br ((i:aw)+1)=((i+1:aC):aw):=bZ (by omega) (by omega);have Dx:∀(x0:aq) (x1:aq) (x2:aw) (x3:aw) (x4:aw),LB.v x0 x1 x2 x3 x4 x0 x1 x2 x3 x4=true:=λ_ _ _ _ _=>by simp only[LB.v,da,fT,aX,ax]
   simp only[l4,r4,Lib.de,h,aM,Lib.cz,aJ,au,Lib.dU,iV,Dx,aX,ax]
  ·left;simp only[l4,r4,Lib.de,h,a_,ax]) Lib.cy 0 (bk _) (ck (by omega))
 exact this
theorem ok(a:aQ)(hl:a.length<=9223372036854775807):c a a=ai/\v a a=true:=out a a (run a hl)
end BN

namespace BO
theorem run(a:aQ)(hl:a.length<=9223372036854775807):vo a a=ah true:=by
 unfold vo b;rw[show((a.length:aw) !=(a.length:aw))=ak from da _,ax];have:=Lib.dB (λn (i:aC)=>l4 Lib.cy (λ(_ _:aQ) (y:aY) (_:aw)=>ah y) (λ(_ _:aQ) (_:aY) (_:aw)=>ah ai) n a a ak (i:aw)) (λi=>a.length-i) (λi=>i<=a.length) (λ_=>ah ai) (λn i hi=>by
  by_cases h:i<a.length
  ·right;refine⟨i+1,h,by omega,rfl, ?_⟩
   have iV:br ((i:aw)+1)=((i+1:aC):aw):=bZ (by omega) (by omega);have Dx:∀(x0:aw) (x1:aq) (x2:aw) (x3:aw) (x4:aw) (x5:aq) (x6:aw),LC.v x0 x1 x2 x3 x4 x5 x6 x0 x1 x2 x3 x4 x5 x6=true:=λ_ _ _ _ _ _ _=>by simp only[LC.v,da,fT,aX,ax]
   simp only[l4,r4,Lib.de,h,aM,Lib.cz,aJ,au,Lib.dU,iV,Dx,aX,ax]
  ·left;simp only[l4,r4,Lib.de,h,a_,ax]) Lib.cy 0 (bk _) (ck (by omega))
 exact this
theorem ok(a:aQ)(hl:a.length<=9223372036854775807):c a a=ai/\v a a=true:=out a a (run a hl)
end BO

namespace XA
theorem ok(i0:aw)(r1 r2 r3 r4:aQ)(i5:aw)(r6 r7:aQ)(i8:aw)(h1:r1.length<=9223372036854775807)(h2:r2.length<=9223372036854775807)(h3:r3.length<=9223372036854775807)(h4:r4.length<=9223372036854775807)(h6:r6.length<=9223372036854775807)(h7:r7.length<=9223372036854775807):
  c i0 r1 r2 r3 r4 i5 r6 r7 i8 i0 r1 r2 r3 r4 i5 r6 r7 i8=ai/\v i0 r1 r2 r3 r4 i5 r6 r7 i8 i0 r1 r2 r3 r4 i5 r6 r7 i8=true:=by have a1:=LK.ok r1 h1;have a2:=EN.ok r2 r3 r4 i5 h2 h3 h4;have a3:=BN.ok r6 h6;have a4:=BO.ok r7 h7;exact out _ _ _ _ _ _ _ _ _ _ _ _ _ _ _ _ _ _ (by unfold vo b;rw[a1.1,a1.2,a2.1,a2.2,a3.1,a3.2,a4.1,a4.2,da,da];rfl)
end XA

namespace BP
theorem run(a:aQ)(hl:a.length<=9223372036854775807):vo a a=ah true:=by
 unfold vo b;rw[show((a.length:aw) !=(a.length:aw))=ak from da _,ax];have:=Lib.dB (λn (i:aC)=>l4 Lib.cy (λ(_ _:aQ) (y:aY) (_:aw)=>ah y) (λ(_ _:aQ) (_:aY) (_:aw)=>ah ai) n a a ak (i:aw)) (λi=>a.length-i) (λi=>i<=a.length) (λ_=>ah ai) (λn i hi=>by
  by_cases h:i<a.length
  ·right;refine⟨i+1,h,by omega,rfl, ?_⟩
   have iV:br ((i:aw)+1)=((i+1:aC):aw):=bZ (by omega) (by omega);have Dx:∀(x0:aq) (x1:aq) (x2:aw),LD.v x0 x1 x2 x0 x1 x2=true:=λ_ _ _=>by simp only[LD.v,da,fT,aX,ax]
   simp only[l4,r4,Lib.de,h,aM,Lib.cz,aJ,au,Lib.dU,iV,Dx,aX,ax]
  ·left;simp only[l4,r4,Lib.de,h,a_,ax]) Lib.cy 0 (bk _) (ck (by omega))
 exact this
theorem ok(a:aQ)(hl:a.length<=9223372036854775807):c a a=ai/\v a a=true:=out a a (run a hl)
end BP

namespace XB
theorem ok(a:aQ)(hl:a.length<=9223372036854775807):c a a=ai/\v a a=true:=by have h:=BP.ok a hl;exact out a a (by unfold vo b;rw[h.1,h.2,au];rfl)
end XB

namespace Rw
theorem ok(i0:aw)(r1 r2 r3 r4:aQ)(i5:aw)(r6 r7:aQ)(i8:aw)(r9 yC tO:aQ)(h1:r1.length<=9223372036854775807)(h2:r2.length<=9223372036854775807)(h3:r3.length<=9223372036854775807)(h4:r4.length<=9223372036854775807)(h6:r6.length<=9223372036854775807)(h7:r7.length<=9223372036854775807)(h9:r9.length<=9223372036854775807)(h11:tO.length<=9223372036854775807):
  c i0 r1 r2 r3 r4 i5 r6 r7 i8 r9 yC tO i0 r1 r2 r3 r4 i5 r6 r7 i8 r9 yC tO=ai/\v i0 r1 r2 r3 r4 i5 r6 r7 i8 r9 yC tO i0 r1 r2 r3 r4 i5 r6 r7 i8 r9 yC tO=true:=by have a1:=XA.ok i0 r1 r2 r3 r4 i5 r6 r7 i8 h1 h2 h3 h4 h6 h7;have a2:=XB.ok r9 h9;have a4:=LK.ok tO h11;exact out _ _ _ _ _ _ _ _ _ _ _ _ _ _ _ _ _ _ _ _ _ _ _ _ (by unfold vo b;rw[a1.1,a1.2,a2.1,a2.2,Qc.refl,a4.1,a4.2];rfl)
end Rw

namespace Rx
theorem run(a:aQ)(hl:a.length<=9223372036854775807):vo a a=ah true:=by
 unfold vo b;rw[show((a.length:aw) !=(a.length:aw))=ak from da _,ax];have:=Lib.dB (λn (i:aC)=>l4 Lib.cy (λ(_ _:aQ) (y:aY) (_:aw)=>ah y) (λ(_ _:aQ) (_:aY) (_:aw)=>ah ai) n a a ak (i:aw)) (λi=>a.length-i) (λi=>i<=a.length) (λ_=>ah ai) (λn i hi=>by
  by_cases h:i<a.length
  ·right;refine⟨i+1,h,by omega,rfl, ?_⟩
   have iV:br ((i:aw)+1)=((i+1:aC):aw):=bZ (by omega) (by omega);have Dx:∀(x0 x1:aw) (x2:aq) (x3:aw) (x4:aQ),U70.v x0 x1 x2 x3 x4 x0 x1 x2 x3 x4=true:=λ_ _ _ _ _=>by simp only[U70.v,da,fT,Qc.refl,aX,ax]
   simp only[l4,r4,Lib.de,h,aM,Lib.cz,aJ,au,Lib.dU,iV,Dx,aX,ax]
  ·left;simp only[l4,r4,Lib.de,h,a_,ax]) Lib.cy 0 (bk _) (ck (by omega))
 exact this
theorem ok(a:aQ)(hl:a.length<=9223372036854775807):c a a=ai/\v a a=true:=out a a (run a hl)
end Rx

namespace ic
theorem post(k:aw)(h1:k<=1152921504606846976):∃x,vo k=ah x:=by
 unfold vo b;cases h:decide (k<=0)with
 |true=>exact⟨_,rfl⟩
 |false=>
  rw[ax];have h0:¬k<=0:=oK h
  obtain⟨x,hx,_⟩:=uB (λn (s:aw×aq)=>l4 Lib.cy (λ(y2:aw) (y3:aq)=>bif(decide (b8 {data:= #[aP 109]}+b8 y3<=4611686018427387904))then ah ({data:= #[aP 109]}++y3)else aj) n s.1 s.2)
   (λs=>s.1.toNat) (λs=>0<=s.1/\(s.2.size:aw)+s.1<=1152921504606846976) (λ_=>True) (λn s hs=>by
    obtain⟨x,t⟩:=s;obtain⟨a1,a2⟩:=hs;dsimp only at a1 a2⊢;have fZ:b8 (bytesOf (aL (aN [Ck.i ba] 1) 0 [CV.i ba (bE ba (br (48+cT x 10)))]))=1:=by rw[Lib.ie,cO];rfl
    by_cases hx:x>0
    ·right;have e1:c7 x 10=x/10:=g7 (by omega);refine⟨(br (c7 x 10),bytesOf (aL (aN [Ck.i ba] 1) 0 [CV.i ba (bE ba (br (48+cT x 10)))])++t), ?_, ?_, ?_⟩
     ·dsimp only;rw[e1,bZ (by omega) (by omega),Lib.jK,fZ];omega
     ·dsimp only;rw[e1,bZ (by omega) (by omega)];omega
     ·simp only[l4,r4,aE hx,au,fZ];rw[Lib.qC (Lib.LZ (by omega))]
    ·left;refine⟨{data:= #[aP 109]}++t, ?_,trivial⟩
     simp only[l4,r4,aG hx,ax];exact Lib.qC (Lib.LZ (show b8 {data:= #[aP 109]}+t.size<=_ by rw[show b8 {data:= #[aP 109]}=1 from rfl];omega))) Lib.cy (k,⟨#[]⟩) ⟨by dsimp only;omega,by dsimp only;rw[show b8 ⟨#[]⟩=0 from rfl];omega⟩ (ck (by dsimp only;omega))
  exact⟨x,hx⟩
theorem ok(k:aw)(h1:k<=1152921504606846976):c k=true:=by obtain⟨x,h⟩:=post k h1;exact(out k h).1
end ic

namespace sP
def row(k:aw):az CV:=[CV.i ao (k)]
def eK(k:aw)(n:aC):aQ:=(ch n).map λ(j:aC)=>row (k+1*(j:aw))
theorem jk(k:aw)(n:aC):(eK k n).length=n:=by unfold eK;simp
theorem Rm(y0 x:CV):dS [y0] 0 [x]=[x]:=rfl
theorem run(a0:aQ)(k1:aw)(hs:∀y∈a0,y.length=1)(hl:a0.length<=4194304)(h0:0<=k1)(h1:k1<=1000000000000):vo a0 k1=ah (k1+1*(a0.length:aw),eK k1 a0.length):=by
 unfold vo b;have:=Lib.dB (λn (i:aC)=>l2 Lib.cy (λ(y3 y4:aw) (y5:aQ)=>ah (y3,y5)) n (k1+1*(i:aw)) (i:aw) (eK k1 i++a0.drop i)) (λi=>a0.length-i) (λi=>i<=a0.length) (λ_=>ah (k1+1*(a0.length:aw),eK k1 a0.length)) (λn i hi=>by
  have oT:=jk k1 i;by_cases h:i<a0.length
  ·right;refine⟨i+1,h,by omega,rfl, ?_⟩
   have e3:eK k1 (i+1)++a0.drop (i+1)=eK k1 i++row (k1+1*(i:aw))::a0.drop (i+1):=by unfold eK;rw[iq,bU];rfl
   have eA:k1+1*((i+1:aC):aw)=(k1+1*(i:aw))+1:=by omega
   show l2 Lib.cy _ (n+1) (k1+1*(i:aw)) (i:aw) (eK k1 i++a0.drop i)=l2 Lib.cy _ n (k1+1*((i+1:aC):aw)) ((i+1:aC):aw) (eK k1 (i+1)++a0.drop (i+1));rw[eA,e3,Lib.dG h];have hy:=hs _ (bu h);have Gj:0<=k1+1*(i:aw):=by omega
   have AJ:k1+1*(i:aw)<=2000000000000:=by omega
   generalize k1+1*(i:aw)=k at Gj AJ;generalize a0[i]=y at hy;obtain⟨y0,rfl⟩:∃y0,y=[y0]:=by
    match y,hy with
    |[y0],_=>exact⟨y0,rfl⟩
   have hd:∀z:az CV,decide ((i:aw)<((eK k1 i++z::a0.drop (i+1)).length:aw))=true:=λz=>by rw[nF,oT];exact aE (by omega)
   have iV:br ((i:aw)+1)=((i+1:aC):aw):=bZ (by omega) (by omega);simp only[l2,r2,Lib.fG,hd,Lib.cz,aJ,au,Lib.dU,lT _ _ _ _ _ _ oT,Rm,bZ (x:=k+1) (by omega) (by omega),iV];rfl
  ·left;have:i=a0.length:=by omega
   subst this;show l2 Lib.cy _ (n+1) (k1+1*(a0.length:aw)) (a0.length:aw) (eK k1 a0.length++a0.drop a0.length)=_;rw[cD,cu];simp only[l2,r2,oT,Lib.de,bg,a_,ax]) Lib.cy 0 (bk _) (ck (by omega))
 have e0:eK k1 0++a0.drop 0=a0:=rfl;rw[e0]at this;simpa using this
theorem ok(a0:aQ)(k1:aw)(hs:∀y∈a0,y.length=1)(hl:a0.length<=4194304)(h0:0<=k1)(h1:k1<=1000000000000):c a0 k1=ai/\v a0 k1=(k1+1*(a0.length:aw),eK k1 a0.length):=out a0 k1 (run a0 k1 hs hl h0 h1)
end sP

namespace K9
open jm (Ev)
open sB (rv lF Evr)
def wd(e:Ev):aC:=4+e.l.length
def sz(l:az Ev):aC:=(l.map wd).sum
def oJ:aw->az Ev->aQ
 |_,[]=>[]
 |k,e::r=>[CV.i ao k,CV.i ao (k+1),CV.s (ic.v (k+1+1)),CV.i ao (k+1+1+1),CV.l 3 (sP.eK (k+1+1+1+1) e.l.length)]::oJ (k+(wd e:aC)) r
theorem tF:∀(l:az Ev) (k:aw) (e:Ev),oJ k (l++[e])=oJ k l++oJ (k+(sz l:aC)) [e]
 |[],k,e=>by simp[oJ,sz]
 |m::l,k,e=>by
  have h:k+((wd m:aC):aw)+((sz l:aC):aw)=k+((sz (m::l):aC):aw):=by unfold sz;rw[eC,qv];omega
  simp only[sZ,oJ];rw[tF l _ e,h];simp only[oJ]
theorem nG:∀(l:az Ev) (k:aw),(oJ k l).length=l.length
 |[],_=>rfl
 |e::l,k=>by simp[oJ,nG l]
theorem aba(s:az Ev)(i:aC)(h:i<s.length):sz (s.take (i+1))=sz (s.take i)+wd s[i]:=by unfold sz;rw[bQ h,cQ,mD];simp
theorem abb(s:az Ev)(i:aC):sz (s.take i)<=sz s:=by
 unfold sz;have e:(s.map wd).sum=((s.take i).map wd).sum+((s.drop i).map wd).sum:=by rw[<-mD,<-cQ,vO]
 rw[e];omega
theorem Rm(y0 y1 y2 y3 y4 x:CV):dS [y0,y1,y2,y3,y4] 0 [x]=[x,y1,y2,y3,y4]:=rfl
theorem sp1(y0 y1 y2 y3 y4 x:CV):dS [y0,y1,y2,y3,y4] 1 [x]=[y0,x,y2,y3,y4]:=rfl
theorem sp2(y0 y1 y2 y3 y4 x:CV):dS [y0,y1,y2,y3,y4] 2 [x]=[y0,y1,x,y3,y4]:=rfl
theorem sp3(y0 y1 y2 y3 y4 x:CV):dS [y0,y1,y2,y3,y4] 3 [x]=[y0,y1,y2,x,y4]:=rfl
theorem sp4(y0 y1 y2 y3 y4 x:CV):dS [y0,y1,y2,y3,y4] 4 [x]=[y0,y1,y2,y3,x]:=rfl
theorem ok(s:az Ev)(k:aw)(hs:∀e∈s,∀y∈e.l,y.length=1)(hl:s.length<=4194304)(ht:sz s<=40000000)(hq:∀e∈s,e.l.length<=4194304)(h0:0<=k)(h1:k<=500000000000):c (rv s) k=ai/\v (rv s) k=(k+(sz s:aC),oJ k s):=by
 refine out _ _ ?_;unfold vo b;have key:=jU s.length (λm (i:aC) (t:aw×aQ)=>l2 Lib.cy (λ(y3 _:aw) (y5:aQ)=>ah (y3,y5)) m t.1 (i:aw) t.2) (λi=>(k+((sz (s.take i):aC):aw),oJ k (s.take i)++rv (s.drop i))) (ah (k+((sz s:aC):aw),oJ k s)) (λm i h=>by
  dsimp only;have hA:(oJ k (s.take i)).length=i:=by rw[nG];simp;omega
  have hd:rv (s.drop i)=[CV.i ao s[i].k,CV.i ao s[i].id,CV.s s[i].t,CV.i ao s[i].n,CV.l 3 s[i].l]::rv (s.drop (i+1)):=by unfold sB.rv;rw[di h,eC];rfl
  have hb:=abb s i;have hq2:=hq _ (bu h);have nx:oJ k (s.take (i+1))=oJ k (s.take i)++oJ (k+((sz (s.take i):aC):aw)) [s[i]]:=by rw[bQ h,tF]
  rw[nx,aba s i h,bU];have Gj:0<=k+((sz (s.take i):aC):aw):=by omega
  have AJ:k+((sz (s.take i):aC):aw)<=600000000000:=by omega
  rw[show k+((sz (s.take i)+wd s[i]:aC):aw)=(k+((sz (s.take i):aC):aw))+1+1+1+1+1*(s[i].l.length:aw)by unfold wd;omega];generalize k+((sz (s.take i):aC):aw)=kk at Gj AJ;have hm:=sP.ok s[i].l (kk+1+1+1+1) (hs _ (bu h)) hq2 (by omega) (by omega);rw[hd];have Uf:∀z:az CV,decide ((i:aw)<((oJ k (s.take i)++z::rv (s.drop (i+1))).length:aw))=true:=λz=>by rw[nF,hA];exact aE (by omega)
  simp only[l2,r2,Lib.fG,Uf,Lib.cz,aJ,au,Lib.dU,lT _ _ _ _ _ _ hA,Rm,sp1,sp2,sp3,sp4,rK _ _ _ _ _ hA,NU,wT,gD,bZ (x:=kk+1) (by omega) (by omega),bZ (x:=kk+1+1) (by omega) (by omega),bZ (x:=kk+1+1+1) (by omega) (by omega),bZ (x:=kk+1+1+1+1) (by omega) (by omega),ic.ok (kk+1+1) (by omega),hm.1,hm.2,Lib.c5 h (by omega:s.length<=9223372036854775807)];rfl) (λm=>by
  have hA:(oJ k s).length=s.length:=nG s k;simp only[dv,cD,show rv []=[]from rfl,cu,l2,r2,hA,Lib.de,bg,a_,ax]) Lib.cy 0 (bk _) (ck (by omega))
 dsimp only[Jq,eN]at key;rw[show((sz []:aC):aw)=0 from rfl,K7]at key;exact key
end K9

namespace rF
open Lib (rr ri)
def sm(l:az aC):aw:=(l.sum:aC)
def lens(s:az (az aw)):az aC:=s.map bK
def oJ:aw->az aC->aQ
 |_,[]=>[]
 |k,n::r=>[CV.l 3 (sP.eK k n)]::oJ (k+n) r
theorem tF:∀(l:az aC) (k:aw) (n:aC),oJ k (l++[n])=oJ k l++[[CV.l 3 (sP.eK (k+sm l) n)]]
 |[],k,n=>by simp[oJ,sm]
 |m::l,k,n=>by
  have e:k+(m:aw)+sm l=k+sm (m::l):=by unfold sm;rw[qv];omega
  simp only[sZ,oJ];rw[tF l (k+m) n,e]
theorem nG:∀(l:az aC) (k:aw),(oJ k l).length=l.length
 |[],_=>rfl
 |n::l,k=>by simp[oJ,nG l]
theorem Pn(s:az (az aw))(i:aC)(h:i<s.length):sm (lens (s.take (i+1)))=sm (lens (s.take i))+(s[i].length:aw):=by unfold sm lens;rw[bQ h,cQ,mD];simp
theorem QT(s:az (az aw))(i:aC)(h:i<s.length):lens (s.take (i+1))=lens (s.take i)++[s[i].length]:=by unfold lens;rw[bQ h,cQ];rfl
theorem IV(s:az (az aw))(i:aC):0<=sm (lens (s.take i))/\sm (lens (s.take i))<=sm (lens s):=by
 unfold sm lens;refine⟨by omega, ?_⟩
 have e:(s.map bK).sum=((s.take i).map bK).sum+((s.drop i).map bK).sum:=by rw[<-mD,<-cQ,vO]
 rw[e];omega
theorem akU(s:az (az aw))(i:aC)(h:i<s.length):(s[i].length:aw)<=sm (lens s):=by have h1:=Pn s i h;have h2:=IV s (i+1);have h3:=IV s i;omega
theorem Wg(q:az aw):∀y∈ri q,y.length=1:=by intro y hy;unfold Lib.ri at hy;obtain⟨z,_,rfl⟩:=cw.1 hy;rfl
theorem ok(s:az (az aw))(k:aw)(hl:s.length<=4194304)(ht:sm (lens s)<=4194304)(h0:0<=k)(h1:k<=500000000000):c (rr s) k=ai/\v (rr s) k=(k+sm (lens s),oJ k (lens s)):=by
 refine out _ _ ?_;unfold vo b;have key:=jU s.length (λm (i:aC) (t:aw×aQ)=>l2 Lib.cy (λ(y3 _:aw) (y5:aQ)=>ah (y3,y5)) m t.1 (i:aw) t.2) (λi=>(k+sm (lens (s.take i)),oJ k (lens (s.take i))++rr (s.drop i))) (ah (k+sm (lens s),oJ k (lens s))) (λm i h=>by
  dsimp only;have hA:(oJ k (lens (s.take i))).length=i:=by rw[nG];unfold lens;simp;omega
  have hd:rr (s.drop i)=[CV.l 3 (ri s[i])]::rr (s.drop (i+1)):=by unfold Lib.rr;rw[di h,eC]
  have hb:=IV s i;have ha:=akU s i h;have hm:=sP.ok (ri s[i]) (k+sm (lens (s.take i))) (Wg _) (by rw[Lib.f_];omega) (by omega) (by omega);rw[Lib.f_]at hm;rw[hd];have Uf:∀z:az CV,decide ((i:aw)<((oJ k (lens (s.take i))++z::rr (s.drop (i+1))).length:aw))=true:=λz=>by rw[nF,hA];exact aE (by omega)
  simp only[l2,r2,Uf,Lib.cz,aJ,au,Lib.dU,rK _ _ _ _ _ hA,NU,gD,hm.1,hm.2,lT _ _ _ _ _ _ hA,Lib.c5 h (by omega:s.length<=9223372036854775807)];rw[Pn s i h,QT s i h,tF,bU,show k+sm (lens (s.take i))+1*(s[i].length:aw)=k+(sm (lens (s.take i))+(s[i].length:aw))by omega];rfl) (λm=>by
  have hA:(oJ k (lens s)).length=s.length:=by rw[nG];unfold lens;simp
  simp only[dv,cD,show rr []=[]from rfl,cu,l2,r2,hA,Lib.de,bg,a_,ax]) Lib.cy 0 (bk _) (ck (by omega))
 dsimp only[Jq,eN]at key;rw[show sm (lens [])=0 from rfl,K7]at key;exact key
end rF

namespace j6
def row(k:aw):az CV:=[CV.s (ic.v (k))]
def eK(k:aw)(n:aC):aQ:=(ch n).map λ(j:aC)=>row (k+1*(j:aw))
theorem jk(k:aw)(n:aC):(eK k n).length=n:=by unfold eK;simp
theorem Rm(y0 x:CV):dS [y0] 0 [x]=[x]:=rfl
theorem run(a0:aQ)(k1:aw)(hs:∀y∈a0,y.length=1)(hl:a0.length<=4194304)(h0:0<=k1)(h1:k1<=1000000000000):vo a0 k1=ah (k1+1*(a0.length:aw),eK k1 a0.length):=by
 unfold vo b;have:=Lib.dB (λn (i:aC)=>l2 Lib.cy (λ(y3 y4:aw) (y5:aQ)=>ah (y3,y5)) n (k1+1*(i:aw)) (i:aw) (eK k1 i++a0.drop i)) (λi=>a0.length-i) (λi=>i<=a0.length) (λ_=>ah (k1+1*(a0.length:aw),eK k1 a0.length)) (λn i hi=>by
  have oT:=jk k1 i;by_cases h:i<a0.length
  ·right;refine⟨i+1,h,by omega,rfl, ?_⟩
   have e3:eK k1 (i+1)++a0.drop (i+1)=eK k1 i++row (k1+1*(i:aw))::a0.drop (i+1):=by unfold eK;rw[iq,bU];rfl
   have eA:k1+1*((i+1:aC):aw)=(k1+1*(i:aw))+1:=by omega
   show l2 Lib.cy _ (n+1) (k1+1*(i:aw)) (i:aw) (eK k1 i++a0.drop i)=l2 Lib.cy _ n (k1+1*((i+1:aC):aw)) ((i+1:aC):aw) (eK k1 (i+1)++a0.drop (i+1));rw[eA,e3,Lib.dG h];have hy:=hs _ (bu h);have Gj:0<=k1+1*(i:aw):=by omega
   have AJ:k1+1*(i:aw)<=2000000000000:=by omega
   generalize k1+1*(i:aw)=k at Gj AJ;generalize a0[i]=y at hy;obtain⟨y0,rfl⟩:∃y0,y=[y0]:=by
    match y,hy with
    |[y0],_=>exact⟨y0,rfl⟩
   have hd:∀z:az CV,decide ((i:aw)<((eK k1 i++z::a0.drop (i+1)).length:aw))=true:=λz=>by rw[nF,oT];exact aE (by omega)
   have iV:br ((i:aw)+1)=((i+1:aC):aw):=bZ (by omega) (by omega);simp only[l2,r2,Lib.fG,hd,Lib.cz,aJ,au,Lib.dU,lT _ _ _ _ _ _ oT,Rm,bZ (x:=k+1) (by omega) (by omega),ic.ok (k) (by omega),iV];rfl
  ·left;have:i=a0.length:=by omega
   subst this;show l2 Lib.cy _ (n+1) (k1+1*(a0.length:aw)) (a0.length:aw) (eK k1 a0.length++a0.drop a0.length)=_;rw[cD,cu];simp only[l2,r2,oT,Lib.de,bg,a_,ax]) Lib.cy 0 (bk _) (ck (by omega))
 have e0:eK k1 0++a0.drop 0=a0:=rfl;rw[e0]at this;simpa using this
theorem ok(a0:aQ)(k1:aw)(hs:∀y∈a0,y.length=1)(hl:a0.length<=4194304)(h0:0<=k1)(h1:k1<=1000000000000):c a0 k1=ai/\v a0 k1=(k1+1*(a0.length:aw),eK k1 a0.length):=out a0 k1 (run a0 k1 hs hl h0 h1)
end j6

namespace C2
open Lib (rr)
open rF (oJ sm lens)
theorem ok(s:az (az aw))(a k:aw)(hl:s.length<=4194304)(ht:sm (lens s)<=4194304)(h0:0<=k)(h1:k<=500000000000):c (rr s) a k=ai/\v (rr s) a k=(k+sm (lens s),oJ k (lens s)):=by have h:=rF.ok s k hl ht h0 h1;exact out _ _ _ (by unfold vo b;rw[h.1,h.2,au])
end C2

namespace rD
open Lib (rr rs)
open rF (oJ sm lens)
theorem aea(q:az aq):∀y∈rs q,y.length=1:=by intro y hy;unfold Lib.rs at hy;obtain⟨z,_,rfl⟩:=cw.1 hy;rfl
def n1(k:aw)(w:aC):aw:=k+1*(w:aw)
theorem ok(w m:az aq)(s:az (az aw))(a k:aw)(hw:w.length<=2097152)(hm:m.length<=2097152)(hl:s.length<=4194304)(ht:sm (lens s)<=4194304)(h0:0<=k)(h1:k<=400000000000):c (rs w) (rs m) (rr s) a k=ai/\
  v (rs w) (rs m) (rr s) a k=(n1 (n1 k w.length) m.length+sm (lens s),j6.eK k w.length,j6.eK (n1 k w.length) m.length,oJ (n1 (n1 k w.length) m.length) (lens s)):=by have a1:=j6.ok (rs w) k (aea w) (by rw[eD];omega) h0 (by omega);have a2:=j6.ok (rs m) (n1 k w.length) (aea m) (by rw[eD];omega) (by unfold n1;omega) (by unfold n1;omega);have a3:=C2.ok s a (n1 (n1 k w.length) m.length) hl ht (by unfold n1;omega) (by unfold n1;omega);rw[eD]at a1 a2;unfold n1 at a2 a3⊢;exact out _ _ _ _ _ (by unfold vo b;simp only[a1.1,a1.2,a2.1,a2.2,a3.1,a3.2,au])
end rD

namespace FW
theorem run(k1:aw)(a:aC)(hl:a<=4194304)(h0:0<=k1)(h1:k1<=1000000000000):vo (sP.eK k1 a) k1=ah (k1+1*(a:aw)):=by
 have oT:=sP.jk k1 a;unfold vo b;have:=Lib.dB (λn (i:aC)=>l2 Lib.cy (λ(_:aQ) (_ y6 _:aw)=>ah y6) (λ(_:aQ) (y9 _ _:aw)=>ah y9) n (sP.eK k1 a) (k1+1*(i:aw)) 0 (i:aw)) (λi=>a-i) (λi=>i<=a) (λ_=>ah (k1+1*(a:aw))) (λn i hi=>by
  by_cases h:i<a
  ·right;refine⟨i+1,h,by omega,rfl, ?_⟩
   have eA:k1+1*((i+1:aC):aw)=(k1+1*(i:aw))+1:=by omega
   show l2 Lib.cy _ _ (n+1) (sP.eK k1 a) (k1+1*(i:aw)) 0 (i:aw)=l2 Lib.cy _ _ n (sP.eK k1 a) (k1+1*((i+1:aC):aw)) 0 ((i+1:aC):aw);rw[eA];have TS:bF (ar (sP.eK k1 a) i 0)=k1+1*(i:aw):=by unfold sP.eK;rw[eU _ _ _ _ h];rfl
   have Gj:0<=k1+1*(i:aw):=by omega
   have AJ:k1+1*(i:aw)<=2000000000000:=by omega
   generalize k1+1*(i:aw)=k at*
   have iV:br ((i:aw)+1)=((i+1:aC):aw):=bZ (by omega) (by omega);simp only[l2,r2,oT,Lib.de,h,aM,Lib.cz,aJ,au,Lib.dU,TS,bZ (x:=k+1) (by omega) (by omega),iV,da,ax,fT,aX]
  ·left;have:i=a:=by omega
   subst this;simp only[l2,r2,oT,Lib.de,bg,a_,ax]) Lib.cy 0 (bk _) (ck (by omega))
 simpa using this
theorem ok(k1:aw)(a:aC)(hl:a<=4194304)(h0:0<=k1)(h1:k1<=1000000000000):c (sP.eK k1 a) k1=ai/\v (sP.eK k1 a) k1=k1+1*(a:aw):=out _ _ (run k1 a hl h0 h1)
end FW

namespace u_
open rF (oJ nG sm)
theorem aa2(n:aC)(l:az aC):sm (n::l)=(n:aw)+sm l:=by unfold sm;rw[qv];omega
theorem Pm(l:az aC):0<=sm l:=by unfold sm;omega
theorem cells:∀(l:az aC) (k:aw) (i:aC) (h:i<l.length),ar (oJ k l) i 0=CV.l 3 (sP.eK (k+sm (l.take i)) l[i])
 |n::l,k,0,h=>by simp[oJ,ar,sm]
 |n::l,k,i+1,h=>by
  have:=cells l (k+n) i (by simpa using h);rw[List.take_succ_cons,aa2,List.getElem_cons_succ];rw[show k+((n:aw)+sm (l.take i))=k+n+sm (l.take i)by omega,<-this];rfl
theorem Wq(l:az aC)(i:aC)(h:i<l.length):sm (l.take (i+1))=sm (l.take i)+(l[i]:aw):=by unfold sm;rw[bQ h,mD];simp
theorem aoC(l:az aC)(i:aC):sm (l.take i)<=sm l:=by
 unfold sm;have e:l.sum=(l.take i).sum+(l.drop i).sum:=by rw[<-mD,vO]
 rw[e];omega
theorem ok(k:aw)(l:az aC)(hl:l.length<=4194304)(ht:sm l<=4194304)(h0:0<=k)(h1:k<=500000000000):c (oJ k l) k=ai/\v (oJ k l) k=k+sm l:=by
 refine out _ _ ?_;unfold vo b;have key:=jU l.length (λm (i:aC) (t:aw)=>l2 Lib.cy (λ(_:aQ) (_ y6 _:aw)=>ah y6) (λ(_:aQ) (y9 _ _:aw)=>ah y9) m (oJ k l) t 0 (i:aw)) (λi=>k+sm (l.take i)) (ah (k+sm l)) (λm i h=>by
  have hb:=Pm (l.take i);have hc:=Wq l i h;have hd:=aoC l (i+1);have hm:=FW.ok (k+sm (l.take i)) l[i] (by omega) (by omega) (by omega);simp only[l2,r2,nG,Lib.de,h,aM,Lib.cz,aJ,au,Lib.dU,cells l k i h,gD,hm.1,hm.2,Lib.c5 h (by omega:l.length<=9223372036854775807)];rw[aG (show¬k+sm (l.take i)+1*(l[i]:aw)<0 by omega),ax,hc,show k+sm (l.take i)+1*(l[i]:aw)=k+(sm (l.take i)+(l[i]:aw))by omega]) (λm=>by
  simp only[dv,l2,r2,nG,Lib.de,bg,a_,ax]) Lib.cy 0 (bk _) (ck (by omega))
 dsimp only[Jq]at key;rw[show sm []=0 from rfl,K7]at key;exact key
end u_

namespace qS
def row(k:aw):az CV:=[CV.s (ic.v (k)),CV.i ao (k+1),CV.i ao (k+1+1),CV.s (ic.v (k+1+1+1))]
def eK(k:aw)(n:aC):aQ:=(ch n).map λ(j:aC)=>row (k+4*(j:aw))
theorem jk(k:aw)(n:aC):(eK k n).length=n:=by unfold eK;simp
theorem Rm(y0 y1 y2 y3 x:CV):dS [y0,y1,y2,y3] 0 [x]=[x,y1,y2,y3]:=rfl
theorem sp1(y0 y1 y2 y3 x:CV):dS [y0,y1,y2,y3] 1 [x]=[y0,x,y2,y3]:=rfl
theorem sp2(y0 y1 y2 y3 x:CV):dS [y0,y1,y2,y3] 2 [x]=[y0,y1,x,y3]:=rfl
theorem sp3(y0 y1 y2 y3 x:CV):dS [y0,y1,y2,y3] 3 [x]=[y0,y1,y2,x]:=rfl
theorem run(a0:aQ)(k1:aw)(hs:∀y∈a0,y.length=4)(hl:a0.length<=4194304)(h0:0<=k1)(h1:k1<=1000000000000):vo a0 k1=ah (k1+4*(a0.length:aw),eK k1 a0.length):=by
 unfold vo b;have:=Lib.dB (λn (i:aC)=>l2 Lib.cy (λ(y3 y4:aw) (y5:aQ)=>ah (y3,y5)) n (k1+4*(i:aw)) (i:aw) (eK k1 i++a0.drop i)) (λi=>a0.length-i) (λi=>i<=a0.length) (λ_=>ah (k1+4*(a0.length:aw),eK k1 a0.length)) (λn i hi=>by
  have oT:=jk k1 i;by_cases h:i<a0.length
  ·right;refine⟨i+1,h,by omega,rfl, ?_⟩
   have e3:eK k1 (i+1)++a0.drop (i+1)=eK k1 i++row (k1+4*(i:aw))::a0.drop (i+1):=by unfold eK;rw[iq,bU];rfl
   have eA:k1+4*((i+1:aC):aw)=(k1+4*(i:aw))+1+1+1+1:=by omega
   show l2 Lib.cy _ (n+1) (k1+4*(i:aw)) (i:aw) (eK k1 i++a0.drop i)=l2 Lib.cy _ n (k1+4*((i+1:aC):aw)) ((i+1:aC):aw) (eK k1 (i+1)++a0.drop (i+1));rw[eA,e3,Lib.dG h];have hy:=hs _ (bu h);have Gj:0<=k1+4*(i:aw):=by omega
   have AJ:k1+4*(i:aw)<=2000000000000:=by omega
   generalize k1+4*(i:aw)=k at Gj AJ;generalize a0[i]=y at hy;obtain⟨y0,y1,y2,y3,rfl⟩:∃y0 y1 y2 y3,y=[y0,y1,y2,y3]:=by
    match y,hy with
    |[y0,y1,y2,y3],_=>exact⟨y0,y1,y2,y3,rfl⟩
   have hd:∀z:az CV,decide ((i:aw)<((eK k1 i++z::a0.drop (i+1)).length:aw))=true:=λz=>by rw[nF,oT];exact aE (by omega)
   have iV:br ((i:aw)+1)=((i+1:aC):aw):=bZ (by omega) (by omega);simp only[l2,r2,Lib.fG,hd,Lib.cz,aJ,au,Lib.dU,lT _ _ _ _ _ _ oT,Rm,sp1,sp2,sp3,bZ (x:=k+1) (by omega) (by omega),bZ (x:=k+1+1) (by omega) (by omega),bZ (x:=k+1+1+1) (by omega) (by omega),bZ (x:=k+1+1+1+1) (by omega) (by omega),ic.ok (k) (by omega),ic.ok (k+1+1+1) (by omega),iV];rfl
  ·left;have:i=a0.length:=by omega
   subst this;show l2 Lib.cy _ (n+1) (k1+4*(a0.length:aw)) (a0.length:aw) (eK k1 a0.length++a0.drop a0.length)=_;rw[cD,cu];simp only[l2,r2,oT,Lib.de,bg,a_,ax]) Lib.cy 0 (bk _) (ck (by omega))
 have e0:eK k1 0++a0.drop 0=a0:=rfl;rw[e0]at this;simpa using this
theorem ok(a0:aQ)(k1:aw)(hs:∀y∈a0,y.length=4)(hl:a0.length<=4194304)(h0:0<=k1)(h1:k1<=1000000000000):c a0 k1=ai/\v a0 k1=(k1+4*(a0.length:aw),eK k1 a0.length):=out a0 k1 (run a0 k1 hs hl h0 h1)
end qS

namespace C6
theorem run(k1:aw)(a:aC)(hl:a<=4194304)(h0:0<=k1)(h1:k1<=1000000000000):vo (qS.eK k1 a) k1=ah (k1+4*(a:aw)):=by
 have oT:=qS.jk k1 a;unfold vo b;have:=Lib.dB (λn (i:aC)=>l2 Lib.cy (λ(_:aQ) (_ y6 _:aw)=>ah y6) (λ(_:aQ) (y9 _ _:aw)=>ah y9) n (qS.eK k1 a) (k1+4*(i:aw)) 0 (i:aw)) (λi=>a-i) (λi=>i<=a) (λ_=>ah (k1+4*(a:aw))) (λn i hi=>by
  by_cases h:i<a
  ·right;refine⟨i+1,h,by omega,rfl, ?_⟩
   have eA:k1+4*((i+1:aC):aw)=(k1+4*(i:aw))+1+1+1+1:=by omega
   show l2 Lib.cy _ _ (n+1) (qS.eK k1 a) (k1+4*(i:aw)) 0 (i:aw)=l2 Lib.cy _ _ n (qS.eK k1 a) (k1+4*((i+1:aC):aw)) 0 ((i+1:aC):aw);rw[eA];have TS:bz (ar (qS.eK k1 a) i 0)=ic.v (k1+4*(i:aw)):=by unfold qS.eK;rw[eU _ _ _ _ h];rfl
   have ce1:bF (ar (qS.eK k1 a) i 1)=k1+4*(i:aw)+1:=by unfold qS.eK;rw[eU _ _ _ _ h];rfl
   have ce2:bF (ar (qS.eK k1 a) i 2)=k1+4*(i:aw)+1+1:=by unfold qS.eK;rw[eU _ _ _ _ h];rfl
   have ce3:bz (ar (qS.eK k1 a) i 3)=ic.v (k1+4*(i:aw)+1+1+1):=by unfold qS.eK;rw[eU _ _ _ _ h];rfl
   have Gj:0<=k1+4*(i:aw):=by omega
   have AJ:k1+4*(i:aw)<=2000000000000:=by omega
   generalize k1+4*(i:aw)=k at*
   have iV:br ((i:aw)+1)=((i+1:aC):aw):=bZ (by omega) (by omega);simp only[l2,r2,oT,Lib.de,h,aM,Lib.cz,aJ,au,Lib.dU,TS,ce1,ce2,ce3,bZ (x:=k+1) (by omega) (by omega),bZ (x:=k+1+1) (by omega) (by omega),bZ (x:=k+1+1+1) (by omega) (by omega),bZ (x:=k+1+1+1+1) (by omega) (by omega),ic.ok (k) (by omega),ic.ok (k+1+1+1) (by omega),iV,da,ax,fT,aX]
  ·left;have:i=a:=by omega
   subst this;simp only[l2,r2,oT,Lib.de,bg,a_,ax]) Lib.cy 0 (bk _) (ck (by omega))
 simpa using this
theorem ok(k1:aw)(a:aC)(hl:a<=4194304)(h0:0<=k1)(h1:k1<=1000000000000):c (qS.eK k1 a) k1=ai/\v (qS.eK k1 a) k1=k1+4*(a:aw):=out _ _ (run k1 a hl h0 h1)
end C6

namespace o7
theorem run(k1:aw)(a:aC)(hl:a<=4194304)(h0:0<=k1)(h1:k1<=1000000000000):vo (j6.eK k1 a) k1=ah (k1+1*(a:aw)):=by
 have oT:=j6.jk k1 a;unfold vo b;have:=Lib.dB (λn (i:aC)=>l2 Lib.cy (λ(_:aQ) (_ y6 _:aw)=>ah y6) (λ(_:aQ) (y9 _ _:aw)=>ah y9) n (j6.eK k1 a) (k1+1*(i:aw)) 0 (i:aw)) (λi=>a-i) (λi=>i<=a) (λ_=>ah (k1+1*(a:aw))) (λn i hi=>by
  by_cases h:i<a
  ·right;refine⟨i+1,h,by omega,rfl, ?_⟩
   have eA:k1+1*((i+1:aC):aw)=(k1+1*(i:aw))+1:=by omega
   show l2 Lib.cy _ _ (n+1) (j6.eK k1 a) (k1+1*(i:aw)) 0 (i:aw)=l2 Lib.cy _ _ n (j6.eK k1 a) (k1+1*((i+1:aC):aw)) 0 ((i+1:aC):aw);rw[eA];have TS:bz (ar (j6.eK k1 a) i 0)=ic.v (k1+1*(i:aw)):=by unfold j6.eK;rw[eU _ _ _ _ h];rfl
   have Gj:0<=k1+1*(i:aw):=by omega
   have AJ:k1+1*(i:aw)<=2000000000000:=by omega
   generalize k1+1*(i:aw)=k at*
   have iV:br ((i:aw)+1)=((i+1:aC):aw):=bZ (by omega) (by omega);simp only[l2,r2,oT,Lib.de,h,aM,Lib.cz,aJ,au,Lib.dU,TS,bZ (x:=k+1) (by omega) (by omega),ic.ok (k) (by omega),iV,da,ax,fT,aX]
  ·left;have:i=a:=by omega
   subst this;simp only[l2,r2,oT,Lib.de,bg,a_,ax]) Lib.cy 0 (bk _) (ck (by omega))
 simpa using this
theorem ok(k1:aw)(a:aC)(hl:a<=4194304)(h0:0<=k1)(h1:k1<=1000000000000):c (j6.eK k1 a) k1=ai/\v (j6.eK k1 a) k1=k1+1*(a:aw):=out _ _ (run k1 a hl h0 h1)
end o7

namespace C3
open rF (oJ sm)
theorem ok(a k:aw)(l:az aC)(hl:l.length<=4194304)(ht:sm l<=4194304)(h0:0<=k)(h1:k<=500000000000):c (oJ k l) a k=ai/\v (oJ k l) a k=k+sm l:=by have h:=u_.ok k l hl ht h0 h1;have hn:=u_.Pm l;exact out _ _ _ (by unfold vo b;rw[h.1,h.2,au,aG (show¬k+sm l<0 by omega),ax])
end C3

namespace vS
open rF (oJ sm)
open rD (n1)
theorem ok(a k:aw)(w m:aC)(l:az aC)(hw:w<=2097152)(hm:m<=2097152)(hl:l.length<=4194304)(ht:sm l<=4194304)(h0:0<=k)(h1:k<=400000000000):
  c (j6.eK k w) (j6.eK (n1 k w) m) (oJ (n1 (n1 k w) m) l) a k=ai/\v (j6.eK k w) (j6.eK (n1 k w) m) (oJ (n1 (n1 k w) m) l) a k=n1 (n1 k w) m+sm l:=by have a1:=o7.ok k w (by omega) h0 (by omega);have a2:=o7.ok (n1 k w) m (by omega) (by unfold n1;omega) (by unfold n1;omega);have a3:=C3.ok a (n1 (n1 k w) m) l hl ht (by unfold n1;omega) (by unfold n1;omega);have hn:=u_.Pm l;unfold n1 at a2 a3⊢;exact out _ _ _ _ _ (by unfold vo b;simp only[a1.1,a1.2,a2.1,a2.2,a3.1,a3.2,au,ax,aG (show¬k+1*(w:aw)<0 by omega),aG (show¬k+1*(w:aw)+1*(m:aw)<0 by omega),aG (show¬k+1*(w:aw)+1*(m:aw)+sm l<0 by omega)])
end vS

namespace lL
def row(k:aw):az CV:=[CV.s (ic.v (k)),CV.s (ic.v (k+1)),CV.i ao (k+1+1),CV.i ao (k+1+1+1),CV.i ao (k+1+1+1+1)]
def eK(k:aw)(n:aC):aQ:=(ch n).map λ(j:aC)=>row (k+5*(j:aw))
theorem jk(k:aw)(n:aC):(eK k n).length=n:=by unfold eK;simp
theorem Rm(y0 y1 y2 y3 y4 x:CV):dS [y0,y1,y2,y3,y4] 0 [x]=[x,y1,y2,y3,y4]:=rfl
theorem sp1(y0 y1 y2 y3 y4 x:CV):dS [y0,y1,y2,y3,y4] 1 [x]=[y0,x,y2,y3,y4]:=rfl
theorem sp2(y0 y1 y2 y3 y4 x:CV):dS [y0,y1,y2,y3,y4] 2 [x]=[y0,y1,x,y3,y4]:=rfl
theorem sp3(y0 y1 y2 y3 y4 x:CV):dS [y0,y1,y2,y3,y4] 3 [x]=[y0,y1,y2,x,y4]:=rfl
theorem sp4(y0 y1 y2 y3 y4 x:CV):dS [y0,y1,y2,y3,y4] 4 [x]=[y0,y1,y2,y3,x]:=rfl
theorem run(a0:aQ)(k1:aw)(hs:∀y∈a0,y.length=5)(hl:a0.length<=4194304)(h0:0<=k1)(h1:k1<=1000000000000):vo a0 k1=ah (k1+5*(a0.length:aw),eK k1 a0.length):=by
 unfold vo b;have:=Lib.dB (λn (i:aC)=>l2 Lib.cy (λ(y3 y4:aw) (y5:aQ)=>ah (y3,y5)) n (k1+5*(i:aw)) (i:aw) (eK k1 i++a0.drop i)) (λi=>a0.length-i) (λi=>i<=a0.length) (λ_=>ah (k1+5*(a0.length:aw),eK k1 a0.length)) (λn i hi=>by
  have oT:=jk k1 i;by_cases h:i<a0.length
  ·right;refine⟨i+1,h,by omega,rfl, ?_⟩
   have e3:eK k1 (i+1)++a0.drop (i+1)=eK k1 i++row (k1+5*(i:aw))::a0.drop (i+1):=by unfold eK;rw[iq,bU];rfl
   have eA:k1+5*((i+1:aC):aw)=(k1+5*(i:aw))+1+1+1+1+1:=by omega
   show l2 Lib.cy _ (n+1) (k1+5*(i:aw)) (i:aw) (eK k1 i++a0.drop i)=l2 Lib.cy _ n (k1+5*((i+1:aC):aw)) ((i+1:aC):aw) (eK k1 (i+1)++a0.drop (i+1));rw[eA,e3,Lib.dG h];have hy:=hs _ (bu h);have Gj:0<=k1+5*(i:aw):=by omega
   have AJ:k1+5*(i:aw)<=2000000000000:=by omega
   generalize k1+5*(i:aw)=k at Gj AJ;generalize a0[i]=y at hy;obtain⟨y0,y1,y2,y3,y4,rfl⟩:∃y0 y1 y2 y3 y4,y=[y0,y1,y2,y3,y4]:=by
    match y,hy with
    |[y0,y1,y2,y3,y4],_=>exact⟨y0,y1,y2,y3,y4,rfl⟩
   have hd:∀z:az CV,decide ((i:aw)<((eK k1 i++z::a0.drop (i+1)).length:aw))=true:=λz=>by rw[nF,oT];exact aE (by omega)
   have iV:br ((i:aw)+1)=((i+1:aC):aw):=bZ (by omega) (by omega);simp only[l2,r2,Lib.fG,hd,Lib.cz,aJ,au,Lib.dU,lT _ _ _ _ _ _ oT,Rm,sp1,sp2,sp3,sp4,bZ (x:=k+1) (by omega) (by omega),bZ (x:=k+1+1) (by omega) (by omega),bZ (x:=k+1+1+1) (by omega) (by omega),bZ (x:=k+1+1+1+1) (by omega) (by omega),bZ (x:=k+1+1+1+1+1) (by omega) (by omega),ic.ok (k) (by omega),ic.ok (k+1) (by omega),iV];rfl
  ·left;have:i=a0.length:=by omega
   subst this;show l2 Lib.cy _ (n+1) (k1+5*(a0.length:aw)) (a0.length:aw) (eK k1 a0.length++a0.drop a0.length)=_;rw[cD,cu];simp only[l2,r2,oT,Lib.de,bg,a_,ax]) Lib.cy 0 (bk _) (ck (by omega))
 have e0:eK k1 0++a0.drop 0=a0:=rfl;rw[e0]at this;simpa using this
theorem ok(a0:aQ)(k1:aw)(hs:∀y∈a0,y.length=5)(hl:a0.length<=4194304)(h0:0<=k1)(h1:k1<=1000000000000):c a0 k1=ai/\v a0 k1=(k1+5*(a0.length:aw),eK k1 a0.length):=out a0 k1 (run a0 k1 hs hl h0 h1)
end lL

namespace vT
theorem run(k1:aw)(a:aC)(hl:a<=4194304)(h0:0<=k1)(h1:k1<=1000000000000):vo (lL.eK k1 a) k1=ah (k1+5*(a:aw)):=by
 have oT:=lL.jk k1 a;unfold vo b;have:=Lib.dB (λn (i:aC)=>l2 Lib.cy (λ(_:aQ) (_ y6 _:aw)=>ah y6) (λ(_:aQ) (y9 _ _:aw)=>ah y9) n (lL.eK k1 a) (k1+5*(i:aw)) 0 (i:aw)) (λi=>a-i) (λi=>i<=a) (λ_=>ah (k1+5*(a:aw))) (λn i hi=>by
  by_cases h:i<a
  ·right;refine⟨i+1,h,by omega,rfl, ?_⟩
   have eA:k1+5*((i+1:aC):aw)=(k1+5*(i:aw))+1+1+1+1+1:=by omega
   show l2 Lib.cy _ _ (n+1) (lL.eK k1 a) (k1+5*(i:aw)) 0 (i:aw)=l2 Lib.cy _ _ n (lL.eK k1 a) (k1+5*((i+1:aC):aw)) 0 ((i+1:aC):aw);rw[eA];have TS:bz (ar (lL.eK k1 a) i 0)=ic.v (k1+5*(i:aw)):=by unfold lL.eK;rw[eU _ _ _ _ h];rfl
   have ce1:bz (ar (lL.eK k1 a) i 1)=ic.v (k1+5*(i:aw)+1):=by unfold lL.eK;rw[eU _ _ _ _ h];rfl
   have ce2:bF (ar (lL.eK k1 a) i 2)=k1+5*(i:aw)+1+1:=by unfold lL.eK;rw[eU _ _ _ _ h];rfl
   have ce3:bF (ar (lL.eK k1 a) i 3)=k1+5*(i:aw)+1+1+1:=by unfold lL.eK;rw[eU _ _ _ _ h];rfl
   have ce4:bF (ar (lL.eK k1 a) i 4)=k1+5*(i:aw)+1+1+1+1:=by unfold lL.eK;rw[eU _ _ _ _ h];rfl
   have Gj:0<=k1+5*(i:aw):=by omega
   have AJ:k1+5*(i:aw)<=2000000000000:=by omega
   generalize k1+5*(i:aw)=k at*
   have iV:br ((i:aw)+1)=((i+1:aC):aw):=bZ (by omega) (by omega);simp only[l2,r2,oT,Lib.de,h,aM,Lib.cz,aJ,au,Lib.dU,TS,ce1,ce2,ce3,ce4,bZ (x:=k+1) (by omega) (by omega),bZ (x:=k+1+1) (by omega) (by omega),bZ (x:=k+1+1+1) (by omega) (by omega),bZ (x:=k+1+1+1+1) (by omega) (by omega),bZ (x:=k+1+1+1+1+1) (by omega) (by omega),ic.ok (k) (by omega),ic.ok (k+1) (by omega),iV,da,ax,fT,aX]
  ·left;have:i=a:=by omega
   subst this;simp only[l2,r2,oT,Lib.de,bg,a_,ax]) Lib.cy 0 (bk _) (ck (by omega))
 simpa using this
theorem ok(k1:aw)(a:aC)(hl:a<=4194304)(h0:0<=k1)(h1:k1<=1000000000000):c (lL.eK k1 a) k1=ai/\v (lL.eK k1 a) k1=k1+5*(a:aw):=out _ _ (run k1 a hl h0 h1)
end vT

namespace kX
def row(k:aw):az CV:=[CV.i ao (k),CV.s (ic.v (k+1)),CV.i ao (k+1+1),CV.i ao (k+1+1+1),CV.i ao (k+1+1+1+1),CV.s (ic.v (k+1+1+1+1+1)),CV.i ao (k+1+1+1+1+1+1)]
def eK(k:aw)(n:aC):aQ:=(ch n).map λ(j:aC)=>row (k+7*(j:aw))
theorem jk(k:aw)(n:aC):(eK k n).length=n:=by unfold eK;simp
theorem Rm(y0 y1 y2 y3 y4 y5 y6 x:CV):dS [y0,y1,y2,y3,y4,y5,y6] 0 [x]=[x,y1,y2,y3,y4,y5,y6]:=rfl
theorem sp1(y0 y1 y2 y3 y4 y5 y6 x:CV):dS [y0,y1,y2,y3,y4,y5,y6] 1 [x]=[y0,x,y2,y3,y4,y5,y6]:=rfl
theorem sp2(y0 y1 y2 y3 y4 y5 y6 x:CV):dS [y0,y1,y2,y3,y4,y5,y6] 2 [x]=[y0,y1,x,y3,y4,y5,y6]:=rfl
theorem sp3(y0 y1 y2 y3 y4 y5 y6 x:CV):dS [y0,y1,y2,y3,y4,y5,y6] 3 [x]=[y0,y1,y2,x,y4,y5,y6]:=rfl
theorem sp4(y0 y1 y2 y3 y4 y5 y6 x:CV):dS [y0,y1,y2,y3,y4,y5,y6] 4 [x]=[y0,y1,y2,y3,x,y5,y6]:=rfl
theorem sp5(y0 y1 y2 y3 y4 y5 y6 x:CV):dS [y0,y1,y2,y3,y4,y5,y6] 5 [x]=[y0,y1,y2,y3,y4,x,y6]:=rfl
theorem sp6(y0 y1 y2 y3 y4 y5 y6 x:CV):dS [y0,y1,y2,y3,y4,y5,y6] 6 [x]=[y0,y1,y2,y3,y4,y5,x]:=rfl
theorem run(a0:aQ)(k1:aw)(hs:∀y∈a0,y.length=7)(hl:a0.length<=4194304)(h0:0<=k1)(h1:k1<=1000000000000):vo a0 k1=ah (k1+7*(a0.length:aw),eK k1 a0.length):=by
 unfold vo b;have:=Lib.dB (λn (i:aC)=>l2 Lib.cy (λ(y3 y4:aw) (y5:aQ)=>ah (y3,y5)) n (k1+7*(i:aw)) (i:aw) (eK k1 i++a0.drop i)) (λi=>a0.length-i) (λi=>i<=a0.length) (λ_=>ah (k1+7*(a0.length:aw),eK k1 a0.length)) (λn i hi=>by
  have oT:=jk k1 i;by_cases h:i<a0.length
  ·right;refine⟨i+1,h,by omega,rfl, ?_⟩
   have e3:eK k1 (i+1)++a0.drop (i+1)=eK k1 i++row (k1+7*(i:aw))::a0.drop (i+1):=by unfold eK;rw[iq,bU];rfl
   have eA:k1+7*((i+1:aC):aw)=(k1+7*(i:aw))+1+1+1+1+1+1+1:=by omega
   show l2 Lib.cy _ (n+1) (k1+7*(i:aw)) (i:aw) (eK k1 i++a0.drop i)=l2 Lib.cy _ n (k1+7*((i+1:aC):aw)) ((i+1:aC):aw) (eK k1 (i+1)++a0.drop (i+1));rw[eA,e3,Lib.dG h];have hy:=hs _ (bu h);have Gj:0<=k1+7*(i:aw):=by omega
   have AJ:k1+7*(i:aw)<=2000000000000:=by omega
   generalize k1+7*(i:aw)=k at Gj AJ;generalize a0[i]=y at hy;obtain⟨y0,y1,y2,y3,y4,y5,y6,rfl⟩:∃y0 y1 y2 y3 y4 y5 y6,y=[y0,y1,y2,y3,y4,y5,y6]:=by
    match y,hy with
    |[y0,y1,y2,y3,y4,y5,y6],_=>exact⟨y0,y1,y2,y3,y4,y5,y6,rfl⟩
   have hd:∀z:az CV,decide ((i:aw)<((eK k1 i++z::a0.drop (i+1)).length:aw))=true:=λz=>by rw[nF,oT];exact aE (by omega)
   have iV:br ((i:aw)+1)=((i+1:aC):aw):=bZ (by omega) (by omega);simp only[l2,r2,Lib.fG,hd,Lib.cz,aJ,au,Lib.dU,lT _ _ _ _ _ _ oT,Rm,sp1,sp2,sp3,sp4,sp5,sp6,bZ (x:=k+1) (by omega) (by omega),bZ (x:=k+1+1) (by omega) (by omega),bZ (x:=k+1+1+1) (by omega) (by omega),bZ (x:=k+1+1+1+1) (by omega) (by omega),bZ (x:=k+1+1+1+1+1) (by omega) (by omega),bZ (x:=k+1+1+1+1+1+1) (by omega) (by omega),bZ (x:=k+1+1+1+1+1+1+1) (by omega) (by omega),ic.ok (k+1) (by omega),ic.ok (k+1+1+1+1+1) (by omega),iV];rfl
  ·left;have:i=a0.length:=by omega
   subst this;show l2 Lib.cy _ (n+1) (k1+7*(a0.length:aw)) (a0.length:aw) (eK k1 a0.length++a0.drop a0.length)=_;rw[cD,cu];simp only[l2,r2,oT,Lib.de,bg,a_,ax]) Lib.cy 0 (bk _) (ck (by omega))
 have e0:eK k1 0++a0.drop 0=a0:=rfl;rw[e0]at this;simpa using this
theorem ok(a0:aQ)(k1:aw)(hs:∀y∈a0,y.length=7)(hl:a0.length<=4194304)(h0:0<=k1)(h1:k1<=1000000000000):c a0 k1=ai/\v a0 k1=(k1+7*(a0.length:aw),eK k1 a0.length):=out a0 k1 (run a0 k1 hs hl h0 h1)
end kX

namespace Aw
theorem run(k1:aw)(a:aC)(hl:a<=4194304)(h0:0<=k1)(h1:k1<=1000000000000):vo (kX.eK k1 a) k1=ah (k1+7*(a:aw)):=by
 have oT:=kX.jk k1 a;unfold vo b;have:=Lib.dB (λn (i:aC)=>l2 Lib.cy (λ(_:aQ) (_ y6 _:aw)=>ah y6) (λ(_:aQ) (y9 _ _:aw)=>ah y9) n (kX.eK k1 a) (k1+7*(i:aw)) 0 (i:aw)) (λi=>a-i) (λi=>i<=a) (λ_=>ah (k1+7*(a:aw))) (λn i hi=>by
  by_cases h:i<a
  ·right;refine⟨i+1,h,by omega,rfl, ?_⟩
   have eA:k1+7*((i+1:aC):aw)=(k1+7*(i:aw))+1+1+1+1+1+1+1:=by omega
   show l2 Lib.cy _ _ (n+1) (kX.eK k1 a) (k1+7*(i:aw)) 0 (i:aw)=l2 Lib.cy _ _ n (kX.eK k1 a) (k1+7*((i+1:aC):aw)) 0 ((i+1:aC):aw);rw[eA];have TS:bF (ar (kX.eK k1 a) i 0)=k1+7*(i:aw):=by unfold kX.eK;rw[eU _ _ _ _ h];rfl
   have ce1:bz (ar (kX.eK k1 a) i 1)=ic.v (k1+7*(i:aw)+1):=by unfold kX.eK;rw[eU _ _ _ _ h];rfl
   have ce2:bF (ar (kX.eK k1 a) i 2)=k1+7*(i:aw)+1+1:=by unfold kX.eK;rw[eU _ _ _ _ h];rfl
   have ce3:bF (ar (kX.eK k1 a) i 3)=k1+7*(i:aw)+1+1+1:=by unfold kX.eK;rw[eU _ _ _ _ h];rfl
   have ce4:bF (ar (kX.eK k1 a) i 4)=k1+7*(i:aw)+1+1+1+1:=by unfold kX.eK;rw[eU _ _ _ _ h];rfl
   have ce5:bz (ar (kX.eK k1 a) i 5)=ic.v (k1+7*(i:aw)+1+1+1+1+1):=by unfold kX.eK;rw[eU _ _ _ _ h];rfl
   have ce6:bF (ar (kX.eK k1 a) i 6)=k1+7*(i:aw)+1+1+1+1+1+1:=by unfold kX.eK;rw[eU _ _ _ _ h];rfl
   have Gj:0<=k1+7*(i:aw):=by omega
   have AJ:k1+7*(i:aw)<=2000000000000:=by omega
   generalize k1+7*(i:aw)=k at*
   have iV:br ((i:aw)+1)=((i+1:aC):aw):=bZ (by omega) (by omega);simp only[l2,r2,oT,Lib.de,h,aM,Lib.cz,aJ,au,Lib.dU,TS,ce1,ce2,ce3,ce4,ce5,ce6,bZ (x:=k+1) (by omega) (by omega),bZ (x:=k+1+1) (by omega) (by omega),bZ (x:=k+1+1+1) (by omega) (by omega),bZ (x:=k+1+1+1+1) (by omega) (by omega),bZ (x:=k+1+1+1+1+1) (by omega) (by omega),bZ (x:=k+1+1+1+1+1+1) (by omega) (by omega),bZ (x:=k+1+1+1+1+1+1+1) (by omega) (by omega),ic.ok (k+1) (by omega),ic.ok (k+1+1+1+1+1) (by omega),iV,da,ax,fT,aX]
  ·left;have:i=a:=by omega
   subst this;simp only[l2,r2,oT,Lib.de,bg,a_,ax]) Lib.cy 0 (bk _) (ck (by omega))
 simpa using this
theorem ok(k1:aw)(a:aC)(hl:a<=4194304)(h0:0<=k1)(h1:k1<=1000000000000):c (kX.eK k1 a) k1=ai/\v (kX.eK k1 a) k1=k1+7*(a:aw):=out _ _ (run k1 a hl h0 h1)
end Aw

namespace Jc
open Lib (rr rs re rf rc Px)
open rF (oJ sm lens)
open rD (n1)
theorem ad_(l:az Lib.En):∀y∈re l,y.length=4:=by intro y hy;unfold Lib.re at hy;obtain⟨z,_,rfl⟩:=cw.1 hy;rfl
theorem aot(l:az Lib.Fe):∀y∈rf l,y.length=5:=by intro y hy;unfold Lib.rf at hy;obtain⟨z,_,rfl⟩:=cw.1 hy;rfl
theorem aoq(l:az Lib.Cl):∀y∈rc l,y.length=7:=by intro y hy;unfold Lib.rc at hy;obtain⟨z,_,rfl⟩:=cw.1 hy;rfl
theorem akV(p:Px)(hp:p.Fit 2000000):∃(K:aw) (A1 A2 A3 A4 A5 A6:aQ),(0<=K/\K<=500000000)/\
  (Cj.c p.now (re p.en) (rs p.w) (rs p.m) (rr p.s) p.a (rf p.fe) (rc p.cl) p.hits 1=ai/\Cj.v p.now (re p.en) (rs p.w) (rs p.m) (rr p.s) p.a (rf p.fe) (rc p.cl) p.hits 1=(K,A1,A2,A3,A4,A5,A6))/\
  ∀(x y z:aw),c x A1 A2 A3 A4 y A5 A6 z 1=ai/\v x A1 A2 A3 A4 y A5 A6 z 1=K:=by
 have he:=hp.en;have hw:=hp.w;have hm:=hp.m;have hs:=hp.s.1;have ht:sm (lens p.s)<=2000000:=by have:=hp.s.2.2;unfold sm lens;omega
 have hf:=hp.fe;have hc:=hp.cl;have nn:=u_.Pm (lens p.s);have hll:(lens p.s).length<=4194304:=by unfold lens;rw[bR];omega
 have a1:=qS.ok (re p.en) 1 (ad_ _) (by rw[dr];omega) (by omega) (by omega);have b1:=C6.ok 1 p.en.length (by omega) (by omega) (by omega);rw[dr]at a1;generalize AJ:1+4*(p.en.length:aw)=k1 at a1 b1;have a2:=rD.ok p.w p.m p.s p.a k1 (by omega) (by omega) (by omega) (by omega) (by omega) (by omega);have b2:=λy=>vS.ok y k1 p.w.length p.m.length (lens p.s) (by omega) (by omega) hll (by omega) (by omega) (by omega);have avD:0<=n1 (n1 k1 p.w.length) p.m.length+sm (lens p.s)/\n1 (n1 k1 p.w.length) p.m.length+sm (lens p.s)<=100000000:=by unfold n1;omega
 generalize zA:n1 (n1 k1 p.w.length) p.m.length+sm (lens p.s)=k2 at a2 b2 avD;have a3:=lL.ok (rf p.fe) k2 (aot _) (by rw[dQ];omega) (by omega) (by omega);have b3:=vT.ok k2 p.fe.length (by omega) (by omega) (by omega);rw[dQ]at a3;generalize hk3:k2+5*(p.fe.length:aw)=k3 at a3 b3;have a4:=kX.ok (rc p.cl) k3 (aoq _) (by rw[fc];omega) (by omega) (by omega);have b4:=Aw.ok k3 p.cl.length (by omega) (by omega) (by omega);rw[fc]at a4;generalize hk4:k3+7*(p.cl.length:aw)=k4 at a4 b4;refine⟨k4,_,_,_,_,_,_,⟨by omega,by omega⟩,Cj.out _ _ _ _ _ _ _ _ _ _ (by
  unfold Cj.vo Cj.b;simp only[a1.1,a1.2,a2.1,a2.2,a3.1,a3.2,a4.1,a4.2,au];rfl),λx y z=>out _ _ _ _ _ _ _ _ _ _ (by
  unfold vo b;have q1:decide (k1<0)=false:=aG (by omega);have q2:decide (k2<0)=false:=aG (by omega);have q3:decide (k3<0)=false:=aG (by omega);have q4:decide (k4<0)=false:=aG (by omega);simp only[b1.1,b1.2,(b2 y).1,(b2 y).2,b3.1,b3.2,b4.1,b4.2,q1,q2,q3,q4,au,ax])⟩
end Jc

namespace mL
def row(k:aw):az CV:=[CV.s (ic.v (k)),CV.s (ic.v (k+1)),CV.i ao (k+1+1)]
def eK(k:aw)(n:aC):aQ:=(ch n).map λ(j:aC)=>row (k+3*(j:aw))
theorem jk(k:aw)(n:aC):(eK k n).length=n:=by unfold eK;simp
theorem Rm(y0 y1 y2 x:CV):dS [y0,y1,y2] 0 [x]=[x,y1,y2]:=rfl
theorem sp1(y0 y1 y2 x:CV):dS [y0,y1,y2] 1 [x]=[y0,x,y2]:=rfl
theorem sp2(y0 y1 y2 x:CV):dS [y0,y1,y2] 2 [x]=[y0,y1,x]:=rfl
theorem run(a0:aQ)(k1:aw)(hs:∀y∈a0,y.length=3)(hl:a0.length<=4194304)(h0:0<=k1)(h1:k1<=1000000000000):vo a0 k1=ah (k1+3*(a0.length:aw),eK k1 a0.length):=by
 unfold vo b;have:=Lib.dB (λn (i:aC)=>l2 Lib.cy (λ(y3 y4:aw) (y5:aQ)=>ah (y3,y5)) n (k1+3*(i:aw)) (i:aw) (eK k1 i++a0.drop i)) (λi=>a0.length-i) (λi=>i<=a0.length) (λ_=>ah (k1+3*(a0.length:aw),eK k1 a0.length)) (λn i hi=>by
  have oT:=jk k1 i;by_cases h:i<a0.length
  ·right;refine⟨i+1,h,by omega,rfl, ?_⟩
   have e3:eK k1 (i+1)++a0.drop (i+1)=eK k1 i++row (k1+3*(i:aw))::a0.drop (i+1):=by unfold eK;rw[iq,bU];rfl
   have eA:k1+3*((i+1:aC):aw)=(k1+3*(i:aw))+1+1+1:=by omega
   show l2 Lib.cy _ (n+1) (k1+3*(i:aw)) (i:aw) (eK k1 i++a0.drop i)=l2 Lib.cy _ n (k1+3*((i+1:aC):aw)) ((i+1:aC):aw) (eK k1 (i+1)++a0.drop (i+1));rw[eA,e3,Lib.dG h];have hy:=hs _ (bu h);have Gj:0<=k1+3*(i:aw):=by omega
   have AJ:k1+3*(i:aw)<=2000000000000:=by omega
   generalize k1+3*(i:aw)=k at Gj AJ;generalize a0[i]=y at hy;obtain⟨y0,y1,y2,rfl⟩:∃y0 y1 y2,y=[y0,y1,y2]:=by
    match y,hy with
    |[y0,y1,y2],_=>exact⟨y0,y1,y2,rfl⟩
   have hd:∀z:az CV,decide ((i:aw)<((eK k1 i++z::a0.drop (i+1)).length:aw))=true:=λz=>by rw[nF,oT];exact aE (by omega)
   have iV:br ((i:aw)+1)=((i+1:aC):aw):=bZ (by omega) (by omega);simp only[l2,r2,Lib.fG,hd,Lib.cz,aJ,au,Lib.dU,lT _ _ _ _ _ _ oT,Rm,sp1,sp2,bZ (x:=k+1) (by omega) (by omega),bZ (x:=k+1+1) (by omega) (by omega),bZ (x:=k+1+1+1) (by omega) (by omega),ic.ok (k) (by omega),ic.ok (k+1) (by omega),iV];rfl
  ·left;have:i=a0.length:=by omega
   subst this;show l2 Lib.cy _ (n+1) (k1+3*(a0.length:aw)) (a0.length:aw) (eK k1 a0.length++a0.drop a0.length)=_;rw[cD,cu];simp only[l2,r2,oT,Lib.de,bg,a_,ax]) Lib.cy 0 (bk _) (ck (by omega))
 have e0:eK k1 0++a0.drop 0=a0:=rfl;rw[e0]at this;simpa using this
theorem ok(a0:aQ)(k1:aw)(hs:∀y∈a0,y.length=3)(hl:a0.length<=4194304)(h0:0<=k1)(h1:k1<=1000000000000):c a0 k1=ai/\v a0 k1=(k1+3*(a0.length:aw),eK k1 a0.length):=out a0 k1 (run a0 k1 hs hl h0 h1)
end mL

namespace LL
theorem ok(a0:aQ)(k1:aw)(hs:∀y∈a0,y.length=3)(hl:a0.length<=4194304)(h0:0<=k1)(h1:k1<=1000000000000):c a0 k1=ai/\v a0 k1=(k1+3*(a0.length:aw),mL.eK k1 a0.length):=by have h:=mL.ok a0 k1 hs hl h0 h1;exact out a0 k1 (by unfold vo b;rw[h.1,h.2,au])
end LL

namespace Ax
theorem run(k1:aw)(a:aC)(hl:a<=4194304)(h0:0<=k1)(h1:k1<=1000000000000):vo (mL.eK k1 a) k1=ah (k1+3*(a:aw)):=by
 have oT:=mL.jk k1 a;unfold vo b;have:=Lib.dB (λn (i:aC)=>l2 Lib.cy (λ(_:aQ) (_ y6 _:aw)=>ah y6) (λ(_:aQ) (y9 _ _:aw)=>ah y9) n (mL.eK k1 a) (k1+3*(i:aw)) 0 (i:aw)) (λi=>a-i) (λi=>i<=a) (λ_=>ah (k1+3*(a:aw))) (λn i hi=>by
  by_cases h:i<a
  ·right;refine⟨i+1,h,by omega,rfl, ?_⟩
   have eA:k1+3*((i+1:aC):aw)=(k1+3*(i:aw))+1+1+1:=by omega
   show l2 Lib.cy _ _ (n+1) (mL.eK k1 a) (k1+3*(i:aw)) 0 (i:aw)=l2 Lib.cy _ _ n (mL.eK k1 a) (k1+3*((i+1:aC):aw)) 0 ((i+1:aC):aw);rw[eA];have TS:bz (ar (mL.eK k1 a) i 0)=ic.v (k1+3*(i:aw)):=by unfold mL.eK;rw[eU _ _ _ _ h];rfl
   have ce1:bz (ar (mL.eK k1 a) i 1)=ic.v (k1+3*(i:aw)+1):=by unfold mL.eK;rw[eU _ _ _ _ h];rfl
   have ce2:bF (ar (mL.eK k1 a) i 2)=k1+3*(i:aw)+1+1:=by unfold mL.eK;rw[eU _ _ _ _ h];rfl
   have Gj:0<=k1+3*(i:aw):=by omega
   have AJ:k1+3*(i:aw)<=2000000000000:=by omega
   generalize k1+3*(i:aw)=k at*
   have iV:br ((i:aw)+1)=((i+1:aC):aw):=bZ (by omega) (by omega);simp only[l2,r2,oT,Lib.de,h,aM,Lib.cz,aJ,au,Lib.dU,TS,ce1,ce2,bZ (x:=k+1) (by omega) (by omega),bZ (x:=k+1+1) (by omega) (by omega),bZ (x:=k+1+1+1) (by omega) (by omega),ic.ok (k) (by omega),ic.ok (k+1) (by omega),iV,da,ax,fT,aX]
  ·left;have:i=a:=by omega
   subst this;simp only[l2,r2,oT,Lib.de,bg,a_,ax]) Lib.cy 0 (bk _) (ck (by omega))
 simpa using this
theorem ok(k1:aw)(a:aC)(hl:a<=4194304)(h0:0<=k1)(h1:k1<=1000000000000):c (mL.eK k1 a) k1=ai/\v (mL.eK k1 a) k1=k1+3*(a:aw):=out _ _ (run k1 a hl h0 h1)
end Ax

namespace LM
theorem ok(k1:aw)(a:aC)(hl:a<=4194304)(h0:0<=k1)(h1:k1<=1000000000000):c (mL.eK k1 a) k1=ai/\v (mL.eK k1 a) k1=k1+3*(a:aw):=by have h:=Ax.ok k1 a hl h0 h1;exact out _ _ (by unfold vo b;rw[h.1,h.2,au,aG (show¬k1+3*(a:aw)<0 by omega),ax])
end LM

namespace Ty
open Lib (rr rs re rf rc rd Px)
open jm (Wo)
open kB (dk)
open fU (ri vm)
theorem aor(l:az Lib.Fi):∀y∈rd l,y.length=3:=by intro y hy;unfold Lib.rd at hy;obtain⟨z,_,rfl⟩:=cw.1 hy;rfl
theorem Wg(l:az aw):∀y∈ri l,y.length=1:=by intro y hy;unfold fU.ri at hy;obtain⟨z,_,rfl⟩:=cw.1 hy;rfl
theorem both(p:Px)(d:az Lib.Fi)(cd:az aw)(bd:az Lib.En)(hp:p.Fit 2000000)(h1:d.length<=1000)(h2:cd.length<=1000)(h3:bd.length<=1000):∃(K:aw) (A1 A2 A3 A4 A5 A6 A7 A8 A9:aQ),0<=K/\
  (Ry.c p.now (re p.en) (rs p.w) (rs p.m) (rr p.s) p.a (rf p.fe) (rc p.cl) p.hits (rd d) (ri cd) (re bd) 1=ai/\Ry.v p.now (re p.en) (rs p.w) (rs p.m) (rr p.s) p.a (rf p.fe) (rc p.cl) p.hits (rd d) (ri cd) (re bd) 1=(K,A1,A2,A3,A4,A5,A6,A7,A8,A9))/\
  ∀(x y z:aw),c x A1 A2 A3 A4 y A5 A6 z A7 A8 A9 1=ai/\v x A1 A2 A3 A4 y A5 A6 z A7 A8 A9 1=K:=by
 obtain⟨K,A1,A2,A3,A4,A5,A6,hK,a1,b1⟩:=Jc.akV p hp;have a2:=LL.ok (rd d) K (aor _) (by rw[ed];omega) hK.1 (by omega);have b2:=LM.ok K d.length (by omega) hK.1 (by omega);rw[ed]at a2;generalize AJ:K+3*(d.length:aw)=k1 at a2 b2;have a3:=sP.ok (ri cd) k1 (Wg _) (by rw[fU.f_];omega) (by omega) (by omega);have b3:=FW.ok k1 cd.length (by omega) (by omega) (by omega);rw[fU.f_]at a3;generalize zA:k1+1*(cd.length:aw)=k2 at a3 b3;have a4:=qS.ok (re bd) k2 (Jc.ad_ _) (by rw[dr];omega) (by omega) (by omega);have b4:=C6.ok k2 bd.length (by omega) (by omega) (by omega);rw[dr]at a4;generalize hk3:k2+4*(bd.length:aw)=k3 at a4 b4;refine⟨k3,_,_,_,_,_,_,_,_,_,by omega,Ry.out _ _ _ _ _ _ _ _ _ _ _ _ _ (by
  unfold Ry.vo Ry.b;simp only[a1.1,a1.2,a2.1,a2.2,a3.1,a3.2,a4.1,a4.2,au];rfl),λx y z=>out _ _ _ _ _ _ _ _ _ _ _ _ _ (by
  unfold vo b;have q1:decide (K<0)=false:=aG (by omega);have q2:decide (k1<0)=false:=aG (by omega);have q3:decide (k2<0)=false:=aG (by omega);have q4:decide (k3<0)=false:=aG (by omega);simp only[(b1 x y z).1,(b1 x y z).2,b2.1,b2.2,b3.1,b3.2,b4.1,b4.2,q1,q2,q3,q4,au,ax])⟩
end Ty

namespace U5
open Lib (rr rs re rf rc rd Px)
open jm (Wo)
open kB (dk)
open fU (ri)
open sB (rv life B3 qF run IL W13)
theorem shape(l:az jm.Ev):∃(p:Px) (d:az Lib.Fi) (cd:az aw) (bd:az Lib.En) (ok:aY),life l=(p.now,re p.en,rs p.w,rs p.m,rr p.s,p.a,rf p.fe,rc p.cl,p.hits,rd d,ri cd,re bd,ok)/\p.Fit 1048576/\d.length<=1000/\cd.length<=1000/\bd.length<=1000:=by
 unfold life;cases hg:B3 l with
 |false=>exact⟨⟨0,[],[],[],[],0,[],[],0⟩,[],[],[],ak,rfl,⟨bk _,bk _,bk _,⟨bk _,λq hq=>(by cases hq),bk _⟩,bk _,bk _⟩,bk _,bk _,bk _⟩
 |true=>obtain⟨h70,he⟩:=qF.1 hg;have hW:=IL he;have Uf:=kB.AB (run l).o;exact⟨(run l).p,dk (run l).o,(run l).cd,(run l).bd,ai,rfl,fU.jJ hW.px,by omega,by have:=hW.cd;omega,by have:=hW.bd;omega⟩
theorem UU:∀(l:az jm.Ev),∀x∈l,x.l.length<=(l.map λe=>e.l.length).sum
 |[],x,hx=>by cases hx
 |y::l,x,hx=>by
  rw[eC,qv];rcases cB.1 hx with rfl|hx
  ·omega
  ·have:=UU l x hx;omega
theorem aoA(r0:aQ)(f0:ng r0):vo r0=ah true:=by
 unfold vo b;obtain⟨z1,z2,z3⟩:=Jv.ok r0 1048576 (by omega) (by omega) f0;by_cases h:Jv.v r0 1048576<0
 ·simp only[fU.lt_eq,z1,au,aE h]
 obtain⟨hl,fP⟩:=z3 (by omega);obtain⟨l,ll,hs,aDL,t1,t2⟩:=LF.abs r0 hl fP;have S:=Ob.ok l ll;have I:=Lw.ok l ll;obtain⟨p,d,cd,bd,ok,e,hp,h1,h2,h3⟩:=shape l;rw[e]at S I;have E:=Rw.ok p.now (re p.en) (rs p.w) (rs p.m) (rr p.s) p.a (rf p.fe) (rc p.cl) p.hits (rd d) (ri cd) (re bd) (by rw[dr];have:=hp.en;omega) (by rw[eD];have:=hp.w;omega) (by rw[eD];have:=hp.m;omega) (by rw[gL];have:=hp.s.1;omega) (by rw[dQ];have:=hp.fe;omega) (by rw[fc];have:=hp.cl;omega) (by rw[ed];omega) (by rw[dr];omega);have V:=Rx.ok (rv l) (by rw[sB.lF];omega);have fZ:∀l:az jm.Ev,K9.sz l=4*l.length+(l.map λe=>e.l.length).sum:=λl=>by
  induction l with
  |nil=>rfl
  |cons x l ih=>unfold K9.sz at ih⊢;simp only[eC,qv,dh,ih,K9.wd];omega
 have Uk:=UU l;have M:=K9.ok l 1 hs (by omega) (by rw[fZ];omega) (λx hx=>dc (Uk x hx) (by omega)) (by omega) (by omega);have hk:decide (1+((K9.sz l:aC):aw)<0)=false:=aG (by omega);obtain⟨K,A1,A2,A3,A4,A5,A6,A7,A8,A9,hK,m1,m2⟩:=Ty.both p d cd bd (hp.le (by omega)) h1 h2 h3;have hK2:decide (K<0)=false:=aG (by omega);simp only[fU.lt_eq,z1,aG h,t1,t2,S.1,S.2,I.1,I.2,E.1,E.2,V.1,V.2,M.1,M.2,hk,m1.1,m1.2,(m2 _ _ _).1,(m2 _ _ _).2,hK2,au,ax,aM,aX,da]
theorem law(r0:aQ)(f0:ng r0):v r0=true:=(out r0 (aoA r0 f0)).2
theorem ayG(r0:aQ)(f0:ng r0):c r0=true:=(out r0 (aoA r0 f0)).1
end U5

end Go.FG
