/- What the functions come to, in plain numbers, texts and lists; last the law itself. No condition but those that each states. -/
import Derived.Test.YtjejmgffiilmlaaGreatPTimes
import Derived.Test.YtjejmgffiilmlaaGreatFTimesa
set_option linter.unusedVariables false
set_option linter.unusedSimpArgs false
set_option maxRecDepth 100000
open Bool renaming true->ai,false->ak,and_self->aM,false_and->CN,true_and->bG,and_eq_true->aF,not_true->a9,not_false->bS,not_eq_true'->dt,or_eq_true->dv
open ByteArray renaming toList->aJ,empty_append->n7,extract->bL
open Eq renaming trans->RX
open Go.IntKind renaming i64->ao
open Go.Op renaming bytesLess->bZ
open Int renaming tmod->bI,tmod_eq_emod_of_nonneg->iP,toNat_natCast->dJ,toNat->aX,le_refl->Vt,natCast_nonneg->vE,neg->gD
open List renaming getElem_set_self->mP,length_map->bP,length_set->c7,set_getElem_self->jD,length_singleton->bQ,map_append->c8,set->aw,length->bT,length_filter_le->dO,append_assoc->cf,find?_eq_none->o7,drop_length->dg,drop_eq_getElem_cons->dA,mem_cons->cq,not_mem_nil->qJ,nil_append->fF,take_length->gE,filter_eq_self->gb,mem_cons_self->du,mem_cons_of_mem->cM,map_cons->eK,length_cons->cS,take_succ_eq_append_getElem->dq,filter_append->jl,all_eq_true->bj,getElem_mem->bD,mem_or_eq_of_mem_set->ly,drop_eq_nil_of_le->rj,append_nil->dH,getElem_of_mem->dr,take->lX,drop->vF,drop_zero->fA,take_of_length_le->ir,getElem_take->xT,mem_map->cO,filter_map->Ba,find?_eq_some_iff_getElem->zl,mem_filter->dh
open List.cons renaming inj->ue
open Nat renaming lt_irrefl->bk,le_trans->cZ,zero_le->bm,le_refl->cm
open Option renaming some->ah,none->aj
open _root_ renaming Int->az,ByteArray->aq,decide_eq_true->aG,if_pos->bu,if_neg->bJ,decide_eq_false->aK,Nat->aE,decide_true->aR,cond_true->ay,cond_false->aC,decide_false->bg,decide_eq_true_eq->ba,List->ax,absurd->cw,decide_eq_false_iff_not->gi,Option->aA,Bool->aW,of_decide_eq_true->cg,bne_self_eq_false->eU,of_decide_eq_false->sZ
namespace Go.FG
open Lib (Dm all_congr js nM zw jE fJ yJ fc gj qe Hl oP Cd Jv uM lI wH cJ kG rc0 rc1 rc2 rc3 rc4 rc5 rc6 eI H5 Xi Xj fM ej eu Qa Ew gk RE er oV lN AJ AM nF yW Ks mX AQ vn pB pC rU qt cX KC QS QT QU QV QW QX wd0 wd1 wd2 rX vt vu vv Iq Ma Yj BJ RG RH)
variable {R:Type}
namespace Vo
theorem put(s:az)(t q:aq)(ht:(t.size:az)<=400)(hs:1<=s/\s<=3):ND.v s t [] q=bif decide (s=1)&&(decide (1<=q.size/\q.size<=40)&&decide (t.size+q.size<=400))then(s,t++q,[],ai)else(s,t,[],ak):=by
 unfold ND.v;have b7:qO.v s t []=true:=by unfold qO.v qO.rest;rw[aG hs,aG (show t.size<=400 by omega)];rfl
 by_cases h1:s=1
 ·by_cases h2:1<=q.size/\q.size<=40
  ·by_cases h3:t.size+q.size<=400
   ·rw[bu ⟨b7,h1,h2.1,h2.2,h3⟩,aG h1,aG h2,aG h3];rfl
   ·rw[bJ (by omega),aK h3];simp
  ·rw[bJ (by omega),aK h2];simp
 ·rw[bJ (by simp[h1]),aK h1];rfl
end Vo

namespace qL
open Lib (rr rs re rf rc Px Cl el)
open vL (ec qz uX)
theorem ok(p:Px)(f:aE)(st:az)(hf:f<p.fe.length)(hl:p.fe.length<=2097152)(hc:p.cl.length<=2097152):
  c p.now (re p.en) (rs p.w) (rs p.m) (rr p.s) p.a (rf p.fe) (rc p.cl) p.hits (f:az) st=ai/\v p.now (re p.en) (rs p.w) (rs p.m) (rr p.s) p.a (rf p.fe) (rc p.cl) p.hits (f:az) st=(p.now,re p.en,rs p.w,rs p.m,rr p.s,p.a,rf p.fe,rc (qz p.cl f st (el p.fe f).t),p.hits):=by
 refine out _ _ _ _ _ _ _ _ _ _ _ ?_;unfold vo b;have key:=qt Cl.row p.cl (λ_ c=>ec f st (el p.fe f).t c) (λn (i:aE) x=>l1 Lib.cR (λ(_ _ _ y15 Yl RI:az) (Q2 KE xO Q3 Q4 y23:aU)=>ah (y15,Q2,KE,xO,Q3,Yl,Q4,y23,RI)) n (f:az) st (i:az) p.now p.a p.hits (re p.en) (rs p.w) (rs p.m) (rr p.s) (rf p.fe) x) (λx=>ah (p.now,re p.en,rs p.w,rs p.m,rr p.s,p.a,rf p.fe,x,p.hits)) (λn i L h h2 hL DH=> ?_) (λn L hL=> ?_) Lib.cR (cJ (by omega))
 ·rw[uX]at key;exact key
 ·have e2:ar (L.map Cl.row) i 2=CV.i ao p.cl[i].fe:=by rw[fJ _ L i _ h2,DH];rfl
  have e4:ar (L.map Cl.row) i 4=CV.i ao p.cl[i].sta:=by rw[fJ _ L i _ h2,DH];rfl
  have s1:eA (L.map Cl.row) i 5 [CV.s (el p.fe f).t]=(L.set i {p.cl[i]with got:=(el p.fe f).t}).map Cl.row:=lN Cl.row L i 5 _ _ h2 (by rw[DH];rfl);have h3:i<(L.set i {p.cl[i]with got:=(el p.fe f).t}).length:=by simpa using h2
  have s2:eA ((L.set i {p.cl[i]with got:=(el p.fe f).t}).map Cl.row) i 4 [CV.i ao st]=((L.set i {p.cl[i]with got:=(el p.fe f).t}).set i {p.cl[i]with sta:=st,got:=(el p.fe f).t}).map Cl.row:=lN Cl.row _ i 4 _ _ h3 (by rw[mP];rfl);simp only[l1,r1,Lib.dE,h2,hf,bP,c7,aR,Lib.cT,aM,ay,Lib.eD,e2,e4,bU,s1,s2,List.set_set,eu,Ma hf,bM,Lib.dm h (by omega:p.cl.length<=9223372036854775807),cX (x:=(f:az)+1) (by omega) (by omega)];unfold ec;cases decide (p.cl[i].fe=(f:az)+1)with
  |false=>rw[CN,aC,aC,<-DH,jD]
  |true=>
   cases decide (p.cl[i].sta=1)with
   |false=>rw[bG,ay,aC,aC,<-DH,jD]
   |true=>rw[bG,ay,ay,ay]
 ·simp only[l1,r1,bP,hL,Lib.dE,bk,bg,aC]
end qL

namespace Ro
open Lib (rr rs re rf rc Px el)
open jA (yS J8 told j4 vl rF L9)
theorem ok(p:Px)(f:az)(q:aq)(hp:p.Fit 1048576):c p.now (re p.en) (rs p.w) (rs p.m) (rr p.s) p.a (rf p.fe) (rc p.cl) p.hits f q=ai/\v p.now (re p.en) (rs p.w) (rs p.m) (rr p.s) p.a (rf p.fe) (rc p.cl) p.hits f q=(p.now,re p.en,rs p.w,rs p.m,rr p.s,p.a,rf (J8 p f q).1.fe,rc (J8 p f q).1.cl,p.hits,(J8 p f q).2):=by
 have h1:=jM.ok p hp;have h2:=sR.ok p f hp;have hf:=hp.fe;have hc:=hp.cl;refine out _ _ _ _ _ _ _ _ _ _ _ ?_;unfold vo b J8;simp only[Lib.lt,h1.1,h1.2,h2.1,h2.2,ay];cases ho:yS p f with
 |false=>rfl
 |true=>
  obtain⟨n,rfl,hn,b7,hs1⟩:=j4 ho;have Fq:=jA.ade b7 n hn;unfold nr.m8 at Fq;simp only[aF,ba]at Fq;have adN:Dh.v 1 (el p.fe n).t [] q=_:=Vo.put 1 (el p.fe n).t q Fq.2.1 (by omega);rw[aG (show(1:az)=1 from rfl),bG]at adN;simp only[a9,aC,ay,Lib.cT,Lib.dE,eu,hn,aR,aM,Lib.eD,Ma hn,bM,adN,bG];cases hs:decide (1<=q.size/\q.size<=40)&&decide ((el p.fe n).t.size+q.size<=400)with
  |false=>rfl
  |true=>
   have e1:=L9 p.fe n 1 [CV.s ((el p.fe n).t++q)] {el p.fe n with t:=(el p.fe n).t++q} hn rfl;have S9:n<(p.fe.set n {el p.fe n with t:=(el p.fe n).t++q}).length:=by rw[c7];exact hn
   have h3:=qL.ok {p with fe:=p.fe.set n {el p.fe n with t:=(el p.fe n).t++q}} n 1 S9 (by rw[c7];omega) (by dsimp only;omega);dsimp only at h3;rw[rF hn]at h3;simp only[a9,aC,ay,e1,h3.1,h3.2];rfl
end Ro

namespace wx
open Lib (rr rs re rf rc Px En el)
open ik (So fK mo)
open m9 (Ii)
theorem ok(p:Px)(e:En)(r6 r7:aU)(hp:p.Fit 1048575)(hso:So p.en)(hk1:∀x∈p.en,1<=x.k.size)(hk:e.k.size<=140737488355328):
  c p.now (re p.en) (rs p.w) (rs p.m) (rr p.s) p.a r6 r7 p.hits e.k e.st e.li e.bo=ai/\v p.now (re p.en) (rs p.w) (rs p.m) (rr p.s) p.a r6 r7 p.hits e.k e.st e.li e.bo=(p.now,re (Ii p e).en,rs (Ii p e).w,rs (Ii p e).m,rr (Ii p e).s,(Ii p e).a,r6,r7,p.hits):=by
 have he:=hp.en;have hw:=hp.w;have hm:=hp.m;obtain⟨b1,b2,b3⟩:=j7.QP p.w p.m p.s p.a e.k;have h1:=j7.ok p.w p.m p.s p.a e.k (by omega) (by omega) ⟨cZ hp.s.1 (by omega),λq hq=>cZ (hp.s.2.1 q hq) (by omega)⟩ hk;refine out _ _ _ _ _ _ _ _ _ _ _ _ _ ?_;unfold vo b Ii;generalize j7.val p.w p.m p.s p.a e.k=V at h1 b1 b2 b3;obtain⟨W,M,T,A,G⟩:=V;dsimp only at h1 b1 b2⊢;have h2:=Bm.ok p.en G (by omega);have h3:=ry.ok W M (rr T) A e.k (by omega) (by omega);have hd:=ik.zK p.en G;have h4:=e8.ok (re (fK p.en G)) e.k e.st e.li e.bo (by rw[ej];omega);rw[ik.tZ]at h4;simp only[Lib.lt,h1.1,h1.2,h2.1,h2.2,h3.1,h3.2,h4.1,h4.2,ay,Lib.fB];by_cases hG:G=⟨#[]⟩
 ·subst hG;rw[ik.drop_nil hk1]at h4⊢;rw[aG rfl];simp only[a9,aC,h4.1,h4.2,ay];cases eQ.has W e.k||eQ.has M e.k<;>rfl
 ·rw[aK hG];simp only[bS,ay];cases eQ.has W e.k||eQ.has M e.k<;>rfl
end wx

namespace Rp
open Lib (rr rs re rf rc Px el)
open jA (yS told j4 vl rF L9)
open y_ (cls oO)
theorem ok(p:Px)(f life:az)(hp:p.Fit 1048576):c p.now (re p.en) (rs p.w) (rs p.m) (rr p.s) p.a (rf p.fe) (rc p.cl) p.hits f life=ai/\v p.now (re p.en) (rs p.w) (rs p.m) (rr p.s) p.a (rf p.fe) (rc p.cl) p.hits f life=(p.now,re (cls p f life).1.en,rs (cls p f life).1.w,rs (cls p f life).1.m,rr (cls p f life).1.s,(cls p f life).1.a,rf (cls p f life).1.fe,rc (cls p f life).1.cl,p.hits,(cls p f life).2):=by
 have h1:=jM.ok p hp;have h2:=sR.ok p f hp;have hf:=hp.fe;have hc:=hp.cl;refine out _ _ _ _ _ _ _ _ _ _ _ ?_;unfold vo b cls;simp only[Lib.lt,h1.1,h1.2,h2.1,h2.2,ay];cases ho:yS p f with
 |false=>rfl
 |true=>
  obtain⟨n,rfl,hn,b7,hs1⟩:=j4 ho;obtain⟨so,ks,_,_,_,_,_,_,_,_,Fq⟩:=m9.J9 b7;have Fq:=Fq n hn;unfold nr.m8 at Fq;rw[aF]at Fq;have Bw:=j7.po Fq.1;rw[show jV.v life 0 999999=decide (0<=life/\life<=999999)from eW.eH _ _ _];cases hl:decide (0<=life/\life<=999999)with
  |false=>rfl
  |true=>
   generalize hg:({el p.fe n with sta:=2,li:=life,st:=p.now}:Lib.Fe)=g;have hk:g.k=(el p.fe n).k:=by rw[<-hg]
   have ht:g.t=(el p.fe n).t:=by rw[<-hg]
   have gl:g.li=life:=by rw[<-hg]
   have gs:g.st=p.now:=by rw[<-hg]
   have e3:=L9 p.fe n 0 [CV.s (el p.fe n).k,CV.s (el p.fe n).t,CV.i ao 2,CV.i ao life,CV.i ao p.now] g hn (by rw[<-hg];rfl);have n3:n<(p.fe.set n g).length:=by rw[c7];exact hn
   have h3:=qL.ok {p with fe:=p.fe.set n g} n 2 n3 (by rw[c7];omega) (by dsimp only;omega);dsimp only at h3;rw[rF hn]at h3;have h4:=wx.ok (told p n g 2) (oO g) (rf (p.fe.set n g)) (rc (told p n g 2).cl) ((vl (m9.mq b7)).le (by omega)) so ks (by show g.k.size<=_;rw[hk];omega);unfold oO at h4;dsimp only[told]at h4;rw[gl,gs,hk,ht]at h4;unfold oO told;rw[ht]at h3;simp only[a9,aC,ay,Lib.cT,Lib.dE,eu,hn,aR,aM,bG,Lib.eD,Iq hn,Ma hn,Yj hn,RG hn,RH hn,bU,bM,e3,h3.1,h3.2,gl,gs,hk,ht];cases decide (life>0)with
   |true=>simp only[ay,h4.1,h4.2];subst hg;rfl
   |false=>subst hg;rfl
end Rp

namespace Bl
theorem ok(k:aq)(s l:az)(b0:aq):c k s l b0=ai/\v k s l b0=je.val k s l b0:=by
 refine out k s l b0 ?_;have hf:=fg.ok (jo.v k s l b0).1;unfold vo b je.val;rw[hf.1,hf.2];unfold jo.v fg.val;by_cases h:h_.v k s l b0=ai
 ·have h1:=gZ.vm h;have h2:=gZ.Ee h;rw[bu h,bu h,bu (by dsimp only;omega)];rfl
 ·rw[bJ h,bJ h];rfl
end Bl

namespace jU
open Lib (rd el Fi)
open eg (put)
theorem tail(l:ax Fi)(n t:aq)(k:az)(hl:l.length<=1000000)(c0:ax Fi)(hc:c0.length<=1000001):
  l9 Lib.cR (λ(_:az) (_:aU) (_ _:aq) (_:az) (y:aU)=>ah y) Lib.cR 0 (rd l) n t k (rd c0)=ah (rd (c0++l.filter λx=> !(ik.ff x.n n||decide (x.n=n)))):=by
 refine Cd l (λx=> !(ik.ff x.n n||decide (x.n=n))) (λm (i:aE) acc=>l9 Lib.cR (λ(_:az) (_:aU) (_ _:aq) (_:az) (y:aU)=>ah y) m (i:az) (rd l) n t k (rd acc)) (λacc=>ah (rd acc)) c0
  (λm i acc h ha hp=> ?_) (λm i acc h hp=> ?_) (λm acc=> ?_) Lib.cR (cJ (by omega))
 ·have mL:(!(bZ (aJ l[i].n) (aJ n)||decide (l[i].n=n)))=true:=hp;simp only[l9,r9,fM,Lib.dE,h,aR,Lib.cT,aM,ay,Lib.eD,H5 h,Xi h,Xj h,bM,bU,Lib.fB,mL,oV,bQ,Lib.dm h (by omega:l.length<=9223372036854775807),Lib.cF (n:=acc.length+1) (b:=40) (by omega) (by omega)];unfold Lib.rd;rw[c8];rfl
 ·have mL:(!(bZ (aJ l[i].n) (aJ n)||decide (l[i].n=n)))=false:=hp;simp only[l9,r9,fM,Lib.dE,h,aR,Lib.cT,aM,ay,aC,Lib.eD,H5 h,bM,Lib.fB,mL,Lib.dm h (by omega:l.length<=9223372036854775807)]
 ·simp only[l9,r9,fM,Lib.dE,bk,bg,aC]
theorem ok(l:ax Fi)(n t:aq)(k:az)(hl:l.length<=1000000):c (rd l) n t k=ai/\v (rd l) n t k=rd (put l ⟨n,t,k⟩):=by
 refine out _ _ _ _ ?_;unfold vo b
 have key:=Jv l (λx=>ik.ff x.n n)
  (λm (i:aE)=>l3 Lib.cR (λ(_:az) (y41:aU) (Ve Vf:aq) (Me:az)=>l9 Lib.cR (λ(_:az) (_:aU) (_ _:aq) (_:az) (y50:aU)=>ah y50) Lib.cR 0 y41 Ve Vf Me ([]++aw (aN [Ck.s,Ck.s,Ck.i ao] 1) 0 [CV.s Ve,CV.s Vf,CV.i ao Me])) (λ(_:az) (y52:aU) (Vg Vh:aq) (Vi:az) (y56:aU)=>bif(cy (bT y56+bT (aw (aN [Ck.s,Ck.s,Ck.i ao] 1) 0 [CV.s Vg,CV.s Vh,CV.i ao Vi])) 40)then(l9 Lib.cR (λ(_:az) (_:aU) (_ _:aq) (_:az) (y62:aU)=>ah y62) Lib.cR 0 y52 Vg Vh Vi (y56++aw (aN [Ck.s,Ck.s,Ck.i ao] 1) 0 [CV.s Vg,CV.s Vh,CV.i ao Vi]))else(aj)) m (i:az) (rd l) n t k)
  (λm (i:aE) acc=>qP Lib.cR (λ(_:az) (y41:aU) (Ve Vf:aq) (Me:az)=>l9 Lib.cR (λ(_:az) (_:aU) (_ _:aq) (_:az) (y50:aU)=>ah y50) Lib.cR 0 y41 Ve Vf Me ([]++aw (aN [Ck.s,Ck.s,Ck.i ao] 1) 0 [CV.s Ve,CV.s Vf,CV.i ao Me])) (λ(_:az) (y52:aU) (Vg Vh:aq) (Vi:az) (y56:aU)=>bif(cy (bT y56+bT (aw (aN [Ck.s,Ck.s,Ck.i ao] 1) 0 [CV.s Vg,CV.s Vh,CV.i ao Vi])) 40)then(l9 Lib.cR (λ(_:az) (_:aU) (_ _:aq) (_:az) (y62:aU)=>ah y62) Lib.cR 0 y52 Vg Vh Vi (y56++aw (aN [Ck.s,Ck.s,Ck.i ao] 1) 0 [CV.s Vg,CV.s Vh,CV.i ao Vi]))else(aj)) m (i:az) (rd l) n t k (rd acc))
  (λacc=>bif cy (acc.length+1) 40 then l9 Lib.cR (λ(_:az) (_:aU) (_ _:aq) (_:az) (y:aU)=>ah y) Lib.cR 0 (rd l) n t k (rd (acc++[⟨n,t,k⟩]))else aj)
  (λm i h hp=>by have mL:bZ (aJ l[i].n) (aJ n)=true:=hp;simp only[l3,r3,fM,Lib.dE,h,aR,Lib.cT,aM,ay,Lib.eD,H5 h,Xi h,Xj h,bM,bU,mL,oV,Lib.dm h (by omega:l.length<=9223372036854775807)];rfl)
  (λm i h hp=>by have mL:bZ (aJ l[i].n) (aJ n)=false:=hp;simp only[l3,r3,fM,Lib.dE,h,aR,Lib.cT,aM,ay,aC,Lib.eD,H5 h,bM,mL,Lib.dm h (by omega:l.length<=9223372036854775807)])
  (λm=>by simp only[l3,r3,fM,Lib.dE,bk,bg,aC];rw[Lib.cF (by simp) (by simp),ay];rfl)
  (λm i acc h ha hp=>by have mL:bZ (aJ l[i].n) (aJ n)=true:=hp;simp only[qP,wM,fM,Lib.dE,h,aR,Lib.cT,aM,ay,Lib.eD,H5 h,Xi h,Xj h,bM,bU,mL,oV,bQ,Lib.dm h (by omega:l.length<=9223372036854775807),Lib.cF (n:=acc.length+1) (b:=40) (by omega) (by omega)];unfold Lib.rd;rw[c8];rfl)
  (λm i acc h hp=>by have mL:bZ (aJ l[i].n) (aJ n)=false:=hp;simp only[qP,wM,fM,Lib.dE,h,aR,Lib.cT,aM,ay,aC,Lib.eD,H5 h,bM,mL,Lib.dm h (by omega:l.length<=9223372036854775807)])
  (λm acc=>by simp only[qP,wM,fM,Lib.dE,bk,bg,aC,oV,bQ];unfold Lib.rd;rw[c8];rfl) Lib.cR (cJ (by omega))
 refine key.trans ?_;have hf:=dO (λx:Fi=>ik.ff x.n n) l;rw[Lib.cF (by omega) (by omega),ay,tail l n t k hl _ (by simp;omega)];unfold put;rw[cf]
end jU

namespace lu
open Lib (rd el Fi)
open eg (without)
theorem ok(l:ax Fi)(n:aq)(hl:l.length<=1000000):c (rd l) n=ai/\v (rd l) n=rd (without l n):=by
 refine out _ _ ?_;unfold vo b
 have key:=Jv l (λx=> !decide (x.n=n))
  (λm (i:aE)=>l3 Lib.cR (λ(_:aq) (_:az) (_:aU)=>ah ([]:aU)) (λ(_:aq) (_:az) (_:aU) (xO:aU)=>ah xO) m n (i:az) (rd l))
  (λm (i:aE) acc=>qP Lib.cR (λ(_:aq) (_:az) (_:aU)=>ah ([]:aU)) (λ(_:aq) (_:az) (_:aU) (xO:aU)=>ah xO) m n (i:az) (rd l) (rd acc)) (λacc=>ah (rd acc))
  (λm i h hp=>by simp only[l3,r3,fM,Lib.dE,h,aR,Lib.cT,aM,ay,Lib.eD,H5 h,Xi h,Xj h,bM,bU,Lib.fB,hp,oV,Lib.dm h (by omega:l.length<=9223372036854775807)];rfl)
  (λm i h hp=>by simp only[l3,r3,fM,Lib.dE,h,aR,Lib.cT,aM,ay,aC,Lib.eD,H5 h,bM,Lib.fB,hp,Lib.dm h (by omega:l.length<=9223372036854775807)])
  (λm=>by simp only[l3,r3,fM,Lib.dE,bk,bg,aC];rfl)
  (λm i acc h ha hp=>by simp only[qP,wM,fM,Lib.dE,h,aR,Lib.cT,aM,ay,Lib.eD,H5 h,Xi h,Xj h,bM,bU,Lib.fB,hp,oV,bQ,Lib.dm h (by omega:l.length<=9223372036854775807),Lib.cF (n:=acc.length+1) (b:=40) (by omega) (by omega)];unfold Lib.rd;rw[c8];rfl)
  (λm i acc h hp=>by simp only[qP,wM,fM,Lib.dE,h,aR,Lib.cT,aM,ay,aC,Lib.eD,H5 h,bM,Lib.fB,hp,Lib.dm h (by omega:l.length<=9223372036854775807)])
  (λm acc=>by simp only[qP,wM,fM,Lib.dE,bk,bg,aC]) Lib.cR (cJ (by omega))
 exact key
end lu

namespace zu
open Lib (rd el Fi)
open eg (without put SoD tV act Et jZ)
open jN (res)
theorem okc(d:ax Fi)(h:d.length<=1000000):eS.c (rd d)=ai/\eS.v (rd d)=tV d:=eS.ok (rd d) (by rw[fM];omega)
theorem nm(n:aq):tH.v n=decide (1<=(n.size:az)/\(n.size:az)<=8):=eS.mM _ _ _
theorem Pg{l:ax Fi}{n t:aq}{k:az}(h:¬(1<=(n.size:az)/\(n.size:az)<=8)):tV (put l ⟨n,t,k⟩)=false:=by
 cases hk:tV (put l ⟨n,t,k⟩)with
 |false=>rfl
 |true=>have:=(jZ.1 hk).2.1 ⟨n,t,k⟩ (eg.oy.2 (.inl rfl));unfold eg.m8 at this;simp only[aF,ba]at this;exact cw this.1 h
theorem ok(l:ax Fi)(k:az)(n t o:aq)(hl:l.length<=1000)(ht:t.size<=2305843009213693952):c (rd l) k n t o=ai/\v (rd l) k n t o=res (act l k n t o):=by
 refine out _ _ _ _ _ ?_;unfold vo b h0;have h1:=jx.ok (rd l) n (by rw[fM];omega);have h2:=okc l (by omega);rw[h2.1,h2.2,ay];unfold act;cases hk:tV l with
 |false=>rfl
 |true=>
 rw[a9,aC,bG,nm];obtain⟨q1,q2,q3⟩:=jZ.1 hk;have rn:∀f∈l,(1<=(f.n.size:az)/\(f.n.size:az)<=8)/\(f.t.size:az)<=20000/\f.kp<=(f.t.size:az):=λf hf=>by have:=q2 f hf;unfold eg.m8 at this;simp only[aF,ba,dt,gi]at this;omega
 by_cases hn:1<=(n.size:az)/\(n.size:az)<=8;case neg=>
  rw[aK hn,bS,ay]
  have yv:l.find? (λx=>decide (x.n=n))=none:=by rw[o7];intro x hx;have:=(rn x hx).1;simp only[ba];intro e;rw[e]at this;exact hn this
  cases eg.kB k t o with
  |false=>rfl
  |true=>
   rw[ay];unfold Et;rw[yv];by_cases k1:k=1
   ·rw[bu k1];dsimp only;rw[Pg hn];rfl
   ·rw[bJ k1];rfl
 rw[aG hn,a9,aC,Lib.fB,Lib.fB,h1.1,h1.2,ay,fM];unfold Lib.lt;by_cases ko:k=3\/o=⟨#[]⟩
 case neg=>
  rw[not_or]at ko
  have:eg.kB k t o=false:=by unfold eg.kB;rw[aK ko.1,aK ko.2];simp
  rw[this,show(k !=3)=ai from bne_iff_ne.2 ko.1,ay,aK ko.2];rfl
 by_cases kt:k=1\/t=⟨#[]⟩
 case neg=>
  rw[not_or]at kt
  have:eg.kB k t o=false:=by unfold eg.kB;rw[aK kt.1,aK kt.2];simp
  rw[this,show(k !=1)=ai from bne_iff_ne.2 kt.1,ay,aK kt.2]
  rcases ko with ko|ko
  ·subst ko;rfl
  ·rw[aG ko];cases (k !=3)<;>rfl
 have Wh:∀x:aA (aU×aW),(bif k !=3 then(bif !decide (o=⟨#[]⟩)then ah (([]:aU),ak)else(bif k !=1 then(bif !decide (t=⟨#[]⟩)then ah ([],ak)else x)else x))else(bif k !=1 then(bif !decide (t=⟨#[]⟩)then ah ([],ak)else x)else x))=x:=λx=>by
  rcases ko with ko|ko<;>rcases kt with kt|kt
  ·omega
  ·subst ko;rw[aG kt];rfl
  ·subst kt;rw[aG ko];rfl
  ·rw[aG ko,aG kt];cases (k !=3)<;>cases (k !=1)<;>rfl
 have wp:=λ(m:ax Fi) (hml:m.length<=1000) (n t:aq) (k:az)=>jU.ok m n t k (by omega);have wo:=lu.ok l n (by omega);have wol:=eg.abp l n;have pl:=λ(m:ax Fi) (f:Fi) (hm:m.length<=1000)=>okc (put m f) (cZ (eg.sG f) (by omega));have fin:∀d:ax Fi,(bif !tV d then ah (([]:aU),ak)else ah (rd d,ai))=ah (res (bif tV d then ah d else aj)):=λd=>by cases tV d<;>rfl
 by_cases hk4:1<=k/\k<=4;case neg=>
  have ha:eg.kB k t o=false:=by unfold eg.kB;rw[aK hk4];rfl
  rw[ha]
  refine(Wh _).trans ?_
  rcases jN.find l n with ⟨e1,e2⟩|⟨i,hi,e1,e2⟩
  ·rw[e1,aK (show¬k=1 by omega)];rfl
  ·rw[e1];dsimp only;rw[aK (show¬k=1 by omega),aK (show¬k=2 by omega),aK (show¬k=3 by omega),aK (show¬k=4 by omega),aK (show¬((i:aE):az)<0 by omega),aG (show((i:aE):az)≥0 by omega)];simp only[Lib.dE,hi,aR,aM,bG,ay,aC];rfl
 have ha:eg.kB k t o=true:=by unfold eg.kB;rw[aG hk4,bG,aF,dv,dv,ba,ba,ba,ba];exact⟨kt.symm,ko.symm⟩
 rw[ha,ay];refine(Wh _).trans ?_;unfold Et;rcases jN.find l n with ⟨e1,e2⟩|⟨i,hi,e1,e2⟩
 ·rw[e1,e2];dsimp only;by_cases k1:k=1
  ·subst k1;have p:=wp l hl n (⟨#[]⟩++t) 0;have d:=pl l ⟨n,⟨#[]⟩++t,0⟩ hl;have et:(⟨#[]⟩:aq)++t=t:=n7;rw[show decide ((-1:az)≥0)=ak from rfl,aC,aG (show(1:az)=1 from rfl),ay,aG (show(⟨#[]⟩:aq).size+t.size<=4611686018427387904 from by rw[show(⟨#[]⟩:aq).size=0 from rfl];omega),ay,p.1,p.2,ay,d.1,d.2,ay,fin,et];rfl
  ·rw[show decide ((-1:az)≥0)=ak from rfl,aC,aK k1,aC,bJ k1];rfl
 ·have hf:(el l i).n=n:=by have:=List.find?_some e2;exact cg this
  have Fq:=rn _ (qe hi);rw[e1,e2];dsimp only;rw[aK (show¬((i:aE):az)<0 by omega),aG (show((i:aE):az)≥0 by omega),ay];simp only[Lib.dE,hi,aR,Lib.eD,wd0 hi,wd1 hi,wd2 hi,bM,bU,aM,bG,ay,aC];by_cases k1:k=1
  ·subst k1;have p:=wp l hl (el l i).n ((el l i).t++t) (el l i).kp;have d:=pl l ⟨(el l i).n,(el l i).t++t,(el l i).kp⟩ hl;rw[aG (show(1:az)=1 from rfl),ay,aG (show(el l i).t.size+t.size<=4611686018427387904 by omega),ay,p.1,p.2,ay,d.1,d.2,ay,fin];rfl
  rw[aK k1,aC,bJ k1];by_cases k2:k=2
  ·subst k2;have p:=wp l hl (el l i).n (el l i).t ((el l i).t.size:az);have d:=pl l ⟨(el l i).n,(el l i).t,((el l i).t.size:az)⟩ hl;rw[aG (show(2:az)=2 from rfl),ay,p.1,p.2,ay,d.1,d.2,ay,fin];rfl
  rw[aK k2,aC,bJ k2];by_cases k3:k=3
  ·subst k3;rw[aG (show(3:az)=3 from rfl),ay,bu rfl];by_cases b1:(el l i).kp=((el l i).t.size:az)
   ·rw[aK (show¬(el l i).kp<((el l i).t.size:az)by omega),aC,Lib.fB,nm];by_cases b2:o=n
    ·rw[aG b2,ay,bu (.inr b2)];rfl
    ·rw[aK b2,aC,bJ (by rintro (h|h);exact h b1;exact b2 h)];by_cases b3:1<=(o.size:az)/\(o.size:az)<=8
     ·have p:=wp (without l n) (by omega) o (el l i).t (el l i).kp;have d:=pl (without l n) ⟨o,(el l i).t,(el l i).kp⟩ (by omega);rw[aG b3,a9,aC,wo.1,wo.2,ay,p.1,p.2,ay,d.1,d.2,ay,fin]
     ·rw[aK b3];dsimp only;rw[Pg b3];rfl
   ·rw[aG (show(el l i).kp<((el l i).t.size:az)by omega),ay,bu (.inl b1)];rfl
  rw[aK k3,aC,bJ k3];have k4:k=4:=by omega
  subst k4;have d:=okc (without l n) (by omega);rw[aG (show(4:az)=4 from rfl),ay,wo.1,wo.2,ay,d.1,d.2,ay,fin]
end zu

namespace oK
open Lib (rd el Fi)
open eg (lT act ra Ac wa0 wa1 wa2 wa3 D3 Jd)
theorem ok(l:ax Fi)(a:ax Ac)(hl:l.length<=1000)(ha:a.length<=1000000)(ht:∀x∈a,x.t.size<=2305843009213693952):c (rd l) (ra a)=ai/\v (rd l) (ra a)=(rd (lT l 0 a).1,((lT l 0 a).2:az)):=by
 refine out _ _ ?_;unfold vo b;rw[Lib.uW,fM,Lib.cF (by omega) (by omega),ay,show aN [Ck.s,Ck.s,Ck.i ao] 0++rd l=rd l from rfl]
 have key:∀(d i n:aE) (z:az) (l:ax Fi),a.length-i<=d->i<=a.length->l.length<=1000->d<n->
   l3 Lib.cR (λ(_:aU) (y5 _:az) (y7:aU)=>ah (y7,y5)) (λ(y8:aU) (_ _:az) (xN:aU)=>ah (xN,(↑(bT y8):az))) n (ra a) z (i:az) (rd l)=ah (rd (lT l i (a.drop i)).1,((lT l i (a.drop i)).2:az)):=by
  intro d
  induction d with
  |zero=>
   intro i n z l e1 e2 e3 e4;obtain⟨n,rfl⟩:∃n',n=n'+1:=⟨n-1,by omega⟩
   have:i=a.length:=by omega
   subst this;simp only[l3,r3,Lib.dE,bk,bg,aC,D3,dg,lT]
  |succ d ih=>
   intro i n z l e1 e2 e3 e4;obtain⟨n,rfl⟩:∃n',n=n'+1:=⟨n-1,by omega⟩
   by_cases hi:i<a.length
   ·have hd:=zu.ok l (el a i).k (el a i).n (el a i).t (el a i).o e3 (ht _ (qe hi));simp only[l3,r3,Lib.dE,D3,hi,aR,Lib.cT,aM,ay,Lib.eD,wa0 hi,wa1 hi,wa2 hi,wa3 hi,bM,bU,hd.1,hd.2,Lib.dm hi (by omega:a.length<=9223372036854775807)];rw[dA hi,<-fc hi];unfold lT;cases hac:act l (el a i).k (el a i).n (el a i).t (el a i).o with
    |none=>rfl
    |some e=>have:=(Jd hac).2;exact ih (i+1) n z e (by omega) hi (by omega) (by omega)
   ·have:i=a.length:=by omega
    subst this;simp only[l3,r3,Lib.dE,bk,bg,aC,D3,dg,lT]
 exact key a.length 0 Lib.cR 0 l (by omega) (bm _) hl (cJ (by omega))
end oK

namespace Bj
open Lib (rr rs re rf rc rd Px En el Iq Ma RG RH)
open mz (Wo Ev closed)
open o6 (dk es)
open kO (A0)
open i9 (ri Dl CF mq)
open y_ (cls oO)
theorem ok{i:aE}{w:Wo}(h:A0 i w)(hi:i<=71)(k id:az)(t:aq)(nn:az)(left:aU)(h0:0<=nn):c w.p.now (re w.p.en) (rs w.p.w) (rs w.p.m) (rr w.p.s) w.p.a (rf w.p.fe) (rc w.p.cl) w.p.hits (rd (dk w.o)) (ri w.cd) (re w.bd) k id t nn left=ai/\v w.p.now (re w.p.en) (rs w.p.w) (rs w.p.m) (rr w.p.s) w.p.a (rf w.p.fe) (rc w.p.cl) w.p.hits (rd (dk w.o)) (ri w.cd) (re w.bd) k id t nn left=((closed w id (nn%1000000)).2,Dl (closed w id (nn%1000000)).1):=by
 refine out _ _ _ _ _ _ _ _ _ _ _ _ _ _ _ _ _ ?_;have hl:0<=nn%1000000/\nn%1000000<=999999:=by omega
 have hm:bI nn 1000000=nn%1000000:=iP h0;have hbd:=h.bd;have Wk:=h.tx hi;have hdl:=o6.N4 w.o;have A:=Rp.ok w.p id (nn%1000000) (mq h.px);obtain⟨q1,q2⟩:=kO.N2 (f:=id) h.px hl;obtain⟨s1,s2⟩:=y_.N3 (p:=w.p) (f:=id) (life:=nn%1000000);have mK:=mq q1;unfold vo b;rw[hm];generalize nn%1000000=life at*
 rw[A.1,ay,A.2,i9.lt_eq];unfold closed Dl;dsimp only;rw[<-s1,<-s2];generalize cls w.p id life=Q at q1 q2 s1 s2 mK;obtain⟨q,ok⟩:=Q;dsimp only at q1 q2 s1 s2 mK⊢;rcases q2 with ⟨r1,r2⟩|⟨r1,n,rn,hn,rf_,rs_,rl⟩
 ·subst r1;rfl
 subst r1;rw[ay,bG];by_cases hz:life=0
 ·rw[aK (show¬life>0 by omega)];rfl
 rw[aG (show life>0 by omega),ay,ay];obtain⟨t1,t2⟩:=rl (by omega);have S9:n<q.fe.length:=by rw[rf_,c7];exact hn
 have Ry:el q.fe n={el w.p.fe n with sta:=2,li:=life,st:=w.p.now}:=by rw[rf_,jA.rF hn]
 subst rn;rw[dJ];have C:=Bl.ok (el q.fe n).k (el q.fe n).st (el q.fe n).li (el q.fe n).t;have hE:h_.v (el q.fe n).k (el q.fe n).st (el q.fe n).li (el q.fe n).t=true:=by rw[Ry];exact t1
 have ZQ:=kO.Oh (e:=oO (el q.fe n)) hE;rw[je.val,bu hE,show je.lT (fg.fr (jo.qS (el q.fe n).k (el q.fe n).st (el q.fe n).li (el q.fe n).t))=eg.ra (j_.xF (j_.Hs (oO (el q.fe n))))from rfl]at C;have D:=oK.ok (dk w.o) (j_.xF (j_.Hs (oO (el q.fe n)))) (by omega) (by unfold j_.xF;simp) (λx hx=>by
  unfold j_.xF at hx;simp only[cq,qJ,or_false]at hx;rcases hx with rfl|rfl
  ·show(j_.Hs (oO (el q.fe n))).size<=_;omega
  ·exact bm _)
 rw[o6.SB (by omega)]at D;have room:∀y,cy ((re w.bd).length+(aw (aN [Ck.s,Ck.i ao,Ck.i ao,Ck.s] 1) 0 y).length) 48=true:=λy=>by rw[ej,i9.sF];exact Lib.cF (by omega) (by omega)
 have sn:=CF w.bd (oO (el q.fe n));unfold oO at sn C D;dsimp only at sn;have afz:cy ((aN [Ck.s,Ck.i ao,Ck.i ao,Ck.s] 0).length+(re w.bd).length) 48=true:=by rw[ej];exact Lib.cF (by show(0+w.bd.length)*48<=_;omega) (by show 0+w.bd.length<=_;omega)
 simp only[i9.lt_eq,i9.aoB,afz,eu,Lib.dE,S9,aR,Lib.cT,aM,ay,Lib.eD,Iq S9,Ma S9,RG S9,RH S9,bM,bU,C.1,C.2,D.1,D.2,room,sn,show oO (el q.fe n)=⟨(el q.fe n).k,(el q.fe n).st,(el q.fe n).li,(el q.fe n).t⟩from rfl];rfl
end Bj

namespace Rq
open Lib (rr rs re rf rc Px el)
open jA (yS Jg told j4 vl rF L9)
theorem ok(p:Px)(f:az)(hp:p.Fit 1048576):c p.now (re p.en) (rs p.w) (rs p.m) (rr p.s) p.a (rf p.fe) (rc p.cl) p.hits f=ai/\v p.now (re p.en) (rs p.w) (rs p.m) (rr p.s) p.a (rf p.fe) (rc p.cl) p.hits f=(p.now,re p.en,rs p.w,rs p.m,rr p.s,p.a,rf (Jg p f).1.fe,rc (Jg p f).1.cl,p.hits,(Jg p f).2):=by
 have h1:=jM.ok p hp;have h2:=sR.ok p f hp;have hf:=hp.fe;have hc:=hp.cl;refine out _ _ _ _ _ _ _ _ _ _ ?_;unfold vo b Jg;simp only[Lib.lt,h1.1,h1.2,h2.1,h2.2,ay];cases ho:yS p f with
 |false=>rfl
 |true=>
  obtain⟨n,rfl,hn,_,_⟩:=j4 ho;have e1:=L9 p.fe n 2 [CV.i ao 3] {el p.fe n with sta:=3} hn rfl;have S9:n<(p.fe.set n {el p.fe n with sta:=3}).length:=by rw[c7];exact hn
  have h3:=qL.ok {p with fe:=p.fe.set n {el p.fe n with sta:=3}} n 3 S9 (by rw[c7];omega) (by dsimp only;omega);dsimp only at h3;rw[rF hn]at h3;simp only[a9,aC,ay,Lib.cT,Lib.dE,eu,hn,aR,aM,Lib.eD,e1,h3.1,h3.2];rfl
end Rq

namespace uD
open Lib (rd Fi En el wd0 wd1 wd2)
open eg (tV)
open o6 (dk es)
open j_ (tx base)
theorem one(f:Fi)(left:aU)(h:tV [f]=ai)(hk:f.kp=(f.t.size:az)):c (rd [f]) left=ai/\v (rd [f]) left=(rd [f],ai):=by
 have h1:=eS.ok (rd [f]) (by rw[fM];simp);refine out _ _ ?_;unfold vo b;rw[h1.1,ay,h1.2,show eS.val (rd [f])=ai from h,a9,aC];have h0:0<[f].length:=by simp
 have c0:ar (rd [f]) 0 0=CV.s f.n:=wd0 (l:=[f]) h0;have c1:ar (rd [f]) 0 1=CV.s f.t:=wd1 (l:=[f]) h0;have c2:ar (rd [f]) 0 (1+1)=CV.i ao f.kp:=wd2 (l:=[f]) h0;have ib:iy 0 (f.t.size:az) (f.t.size:az)=true:=by simp[iy]
 have ex:bL f.t 0 (aX (f.t.size:az))=f.t:=Lib.Jq f.t;have w1:bE (0+1)=1:=rfl;have L:(rd [f]).length=1:=rfl;have step:∀(N m:aE),l5 Lib.cR (λ_ _ _=>ah (([]:aU),ai)) (λ_ _ _ xO=>ah (xO,ai)) (m+1) left 0 (rd [f])=l5a Lib.cR (λ_ _ _=>ah (([]:aU),ai)) (λ_ _ _ xO=>ah (xO,ai)) m left 1 (rd [f]) (rd [f]):=by
  intro N m;have t0:aX 0=0:=rfl;simp only[l5,r5,L,t0];generalize bU (ar left 0 0)=z;simp only[c0,c1,c2,bM,bU,hk,ib,ex,w1];rw[show decide ((0:az)<((1:aE):az))=ai from rfl,ay,show(decide ((0:az)<=0)&&ai)=ai from rfl,ay];have fin:([]++aw (aN [Ck.s,Ck.s,Ck.i ao] 1) 0 [CV.s f.n,CV.s f.t,CV.i ao (f.t.size:az)]:aU)=rd [f]:=by
   unfold Lib.rd;rw[fF];show [[CV.s f.n,CV.s f.t,CV.i ao (f.t.size:az)]]=[Fi.row f]
   unfold Fi.row;rw[hk]
  simp only[fin];by_cases hl:(0:az)<(left.length:az)
  ·simp only[aG hl,ay,show decide ((0:az)<=0)=ai from rfl,aM];by_cases a:z>(f.t.size:az)
   ·simp only[aG a,ay,aK (show¬(f.t.size:az)<(f.t.size:az)by omega),aC]
   ·by_cases b:z<(f.t.size:az)
    ·simp only[aK a,aC,aG b,ay]
    ·have e:z=(f.t.size:az):=by omega
     simp only[aK a,aC,aK b,e,ib,ex,fin,ay,show decide ((f.t.size:az)<(f.t.size:az))=ak from aK (by omega),show decide ((f.t.size:az)>(f.t.size:az))=ak from aK (by omega)]
  ·simp only[aK hl,aC,ay,aK (show¬(f.t.size:az)<(f.t.size:az)by omega)];try rw[aK (show¬(0:az)>(f.t.size:az)by omega),aC]
   by_cases b:(0:az)<(f.t.size:az)
   ·rw[aG b,ay]
   ·rw[aK b,aC];have e:(f.t.size:az)=0:=by omega
    rw[e]at ex fin;rw[show(0:az).toNat=0 from rfl]at ex;rw[ex,fin]
 have last:∀(m:aE),l5a Lib.cR (λ_ _ _=>ah (([]:aU),ai)) (λ_ _ _ xO=>ah (xO,ai)) (m+1) left 1 (rd [f]) (rd [f])=ah (rd [f],ai):=by intro m;simp only[l5a,r5a,L,show decide ((1:az)<((1:aE):az))=ak from rfl,aC]
 obtain⟨n,hn⟩:∃n,Lib.cR=n+2:=⟨Lib.cR-2,by have:=cJ (n:=2) (by omega);omega⟩
 have key:∀N,N=n+2->l5 Lib.cR (λ_ _ _=>ah (([]:aU),ai)) (λ_ _ _ xO=>ah (xO,ai)) N left 0 (rd [f])=ah (rd [f],ai):=by rintro N rfl;rw[step Lib.cR (n+1),last n]
 exact key _ hn
theorem ok{o:aA (ax En)}(h:(tx (es o)).size<=20000)(left:aU):c (rd (dk o)) left=ai/\v (rd (dk o)) left=(rd (dk o),ai):=by
 cases o with
 |some l=>exact one _ left (o6.Jn h) rfl
 |none=>
  have hd:tV []=true:=o6.Jn (o:=aj) h;have h1:=eS.ok (rd []) (by rw[fM];simp);refine out _ _ ?_;unfold vo b;show(bif eS.c (rd [])then bif !eS.v (rd [])then _ else l5 Lib.cR _ _ Lib.cR left 0 (rd [])else aj)=_;rw[h1.1,ay,h1.2,show eS.val (rd [])=ai from hd,a9,aC];obtain⟨n,hn⟩:∃n,Lib.cR=n+1:=⟨Lib.cR-1,by have:=cJ (n:=1) (by omega);omega⟩
  have key:∀N,N=n+1->l5 Lib.cR (λ_ _ _=>ah (([]:aU),ai)) (λ_ _ _ xO=>ah (xO,ai)) N left 0 (rd [])=ah (rd [],ai):=by rintro N rfl;rfl
  exact key _ hn
end uD

namespace mE
open Lib (rr rs re rf rc Px En el rX vt vu vv)
open g_ (AB yO one DN F_ DD p0)
theorem ok(now:az)(l:ax En)(hl:l.length<=1048576):
  c now (re l)=ai/\v now (re l)=(now,re (AB now l).en,rs (AB now l).w,rs (AB now l).m,rr (AB now l).s,(AB now l).a,[],[],0):=by
 refine out _ _ ?_;unfold vo b;have key:=lI l.length (λn (i:aE) (p:Px)=>l4 Lib.cR (λ(_:az) (_:aU) (_ _ _ _ Q4 y23 y24:az) (y25 Vc Iu RJ RK RM:aU)=>ah (Q4,y25,Vc,Iu,RJ,y23,RK,RM,y24)) n now (re l) (i:az) 0 0 0 now p.a 0 (re p.en) (rs p.w) (rs p.m) (rr p.s) [] []) (λi=>AB now (l.take i)) (ah (now,re (AB now l).en,rs (AB now l).w,rs (AB now l).m,rr (AB now l).s,(AB now l).a,[],[],0)) (λn i hi=>by
  have I:=DN now l i (by omega);have hs:=F_ now l i hi;generalize AB now (l.take i)=p at I hs;rw[hs];unfold one;have hw:bE ((i:az)+1)=((i+1:aE):az):=Lib.dm hi (by omega);have Oq:Gx.v (el l i).k (el l i).st (el l i).li (el l i).bo now=yO (el l i) now:=(Gx.eq _ _ _ _ _).symm;cases hf:yO (el l i) now with
  |false=>
   rw[hf]at Oq;cases hq:h_.v (el l i).k (el l i).st (el l i).li (el l i).bo with
   |false=>simp only[l4,r4,ej,Lib.dE,hi,aR,Lib.cT,aM,ay,Lib.eD,rX hi,vt hi,vu hi,vv hi,bM,bU,hq,aC,hw]
   |true=>simp only[l4,r4,ej,Lib.dE,hi,aR,Lib.cT,aM,ay,Lib.eD,rX hi,vt hi,vu hi,vv hi,bM,bU,hq,Oq,aC,hw]
  |true=>rw[hf]at Oq;have hq:=DD hf;have hk:=(h_.Eu hq).1;have h4:=wx.ok p (el l i) [] [] (I.fit (by omega) (by omega)) I.so I.ks (by omega);rw[I.now,I.hits]at h4;simp only[l4,r4,Lib.lt,ej,Lib.dE,hi,aR,Lib.cT,aM,ay,Lib.eD,rX hi,vt hi,vu hi,vv hi,bM,bU,hq,Oq,h4.1,h4.2,hw]) (λn=>by
  simp only[l4,r4,ej,Lib.dE,bk,bg,aC,gE]) Lib.cR 0 (bm _) (cJ (by omega))
 exact key
end mE

namespace uB
open Lib (rr rs re rf rc rd Px En el rX vt vu vv)
open mz (Wo Ev Hk pj)
open o6 (dk es)
open kO (A0)
open i9 (ri Dl CF mq)
theorem walk(N:aE)(L:ax En)(hL:L.length<=1048576)(hN:L.length<N)(K0 K1:az->az->az->az->aU->aU->aU->aU->aU->aU->aU->aU->aU->aU->aU->aA R)(now a5 a8:az)(q1 q2 q3 q4 q6 q7 q9 GF q11:aU):
  l7 N K0 K1 N 0 now a5 a8 (re L) (re []) q1 q2 q3 q4 q6 q7 q9 GF q11=K0 (L.length:az) now a5 a8 (re L) (re (L.filter λe=>g_.yO e now)) q1 q2 q3 q4 q6 q7 q9 GF q11:=by
 have hw:∀i,i<L.length->bE ((i:az)+1)=((i+1:aE):az):=λi h=>Lib.dm h (by omega)
 have key:=Cd L (λe=>g_.yO e now) (λm (i:aE) acc=>l7 N K0 K1 m (i:az) now a5 a8 (re L) (re acc) q1 q2 q3 q4 q6 q7 q9 GF q11) (λacc=>K0 (L.length:az) now a5 a8 (re L) (re acc) q1 q2 q3 q4 q6 q7 q9 GF q11) []
  (λm i acc hi ha hp=>by rw[<-fc hi]at hp⊢;unfold g_.yO at hp;rw[Gx.eq]at hp;simp only[l7,r7,ej,Lib.dE,hi,aR,Lib.cT,aM,ay,Lib.eD,rX hi,vt hi,vu hi,vv hi,bM,bU,hp,hw i hi,i9.sF,i9.CF];rw[Lib.cF (by simp at ha;omega) (by simp at ha;omega),ay])
  (λm i acc hi hp=>by rw[<-fc hi]at hp;unfold g_.yO at hp;rw[Gx.eq]at hp;simp only[l7,r7,ej,Lib.dE,hi,aR,Lib.cT,aM,ay,Lib.eD,rX hi,vt hi,vu hi,vv hi,bM,bU,hp,hw i hi,aC])
  (λm acc=>by simp only[l7,r7,ej,Lib.dE,bk,bg,aC])
  N hN
 exact key
theorem ok{i:aE}{w:Wo}(h:A0 i w)(hi:i<=71)(k id:az)(t:aq)(n:az)(left:aU):c w.p.now (re w.p.en) (rs w.p.w) (rs w.p.m) (rr w.p.s) w.p.a (rf w.p.fe) (rc w.p.cl) w.p.hits (rd (dk w.o)) (ri w.cd) (re w.bd) k id t n left=ai/\v w.p.now (re w.p.en) (rs w.p.w) (rs w.p.m) (rr w.p.s) w.p.a (rf w.p.fe) (rc w.p.cl) w.p.hits (rd (dk w.o)) (ri w.cd) (re w.bd) k id t n left=Dl (Hk w):=by
 refine out _ _ _ _ _ _ _ _ _ _ _ _ _ _ _ _ _ ?_;have Wk:=h.tx hi;have hlen:=h.len hi;have hdl:=o6.N4 w.o;have A:=uD.ok (o:=w.o) (by omega) left;have B:=(o6.ac8 (o:=w.o) (by omega) h.eo).2;have Wb:=j_.OZ (es w.o);have hf:=kO.JB h.eo;have Mt:=kO.Fl w;have htf:=kO.Yh _ hf;have C:=lS.ok (rd (dk w.o)) (re (pj w)) (by rw[fM];omega) (by rw[ej];omega);rw[o6.ac7 (by omega) hf]at C;have D:=oK.ok (dk w.o) (ui.w7 (j_.tx (pj w))) (by omega) (by unfold ui.w7;simp) (λx hx=>by
  unfold ui.w7 at hx;simp only[cq,qJ,or_false]at hx;rcases hx with rfl|rfl|rfl
  ·show(j_.tx (pj w)).size<=_;omega
  ·exact bm _
  ·exact bm _)
 rw[o6.SA (by omega) (by omega)]at D;have E:=mE.ok w.p.now (pj w) (by omega);unfold vo;generalize hN:Lib.cR=N;have ji:(j_.kp (es w.o)).length<N:=by rw[<-hN];exact cJ (by omega)
 clear hN;unfold b;rw[A.1,ay,A.2,i9.lt_eq];rw[show(rd (dk w.o),ai).2=ai from rfl,ay,show(rd (dk w.o),ai).1=rd (dk w.o)from rfl];rw[B.1,ay,B.2,i9.lt_eq,show aN [Ck.s,Ck.i ao,Ck.i ao,Ck.s] 0=re []from rfl,walk N (j_.kp (es w.o)) (by omega) ji];have e:((kpp:ax En)->kpp=j_.kp (es w.o)->kpp.filter (λe=>g_.yO e w.p.now)=pj w):=λ_ h=>by subst h;rfl
 rw[e _ rfl];simp only[i9.lt_eq,C.1,C.2,D.1,D.2,E.1,E.2,ay];have hinv:=g_.DN w.p.now (pj w) (pj w).length (cm _);rw[gE]at hinv;unfold Dl Hk;dsimp only;rw[hinv.now,hinv.fe,hinv.cl,hinv.hits];rfl
end uB

namespace Bg
open Lib (rr rs re rf rc rd Px En el)
open mz (Wo Ev closed Hk pj rG flag)
open o6 (dk es)
open kO (A0)
open i9 (ri Dl CF mq)
theorem fl(b:aW):yr.v b=flag b:=by cases b<;>rfl
theorem left(l:ax Lib.Cl)(id:az):decide ((((l.filter λc=> !decide (c.id=id)).length:aE):az)<(l.length:az))=iX.mJ l id:=by
 unfold iX.mJ;cases h:l.any λx=>decide (x.id=id)with
 |true=>
  obtain⟨x,hx,hp⟩:=List.any_eq_true.1 h;have:(l.filter λc=> !decide (c.id=id)).length<l.length:=by rw[List.length_filter_lt_length_iff_exists];exact⟨x,hx,by simpa using hp⟩
  exact aG (by omega)
 |false=>
  rw[List.any_eq_false]at h;have:l.filter (λc=> !decide (c.id=id))=l:=gb.2 λx hx=>by have:=h x hx;simpa using this
  rw[this];exact aK (by omega)
theorem ok{i:aE}{w:Wo}{e:Ev}(h:A0 i w)(hi:i<=71)(he:rG e=ai):c w.p.now (re w.p.en) (rs w.p.w) (rs w.p.m) (rr w.p.s) w.p.a (rf w.p.fe) (rc w.p.cl) w.p.hits (rd (dk w.o)) (ri w.cd) (re w.bd) e.k e.id e.t e.n e.l=ai/\v w.p.now (re w.p.en) (rs w.p.w) (rs w.p.m) (rr w.p.s) w.p.a (rf w.p.fe) (rc w.p.cl) w.p.hits (rd (dk w.o)) (ri w.cd) (re w.bd) e.k e.id e.t e.n e.l=((mz.act w e).2,Dl (mz.act w e).1):=by
 unfold rG at he;simp only[aF,ba]at he;obtain⟨hk,Hz,ht,hn,hl⟩:=he;have hp:=mq h.px;refine out _ _ _ _ _ _ _ _ _ _ _ _ _ _ _ _ _ ?_;unfold vo b mz.act;by_cases k1:e.k=1
 ·rw[aG k1,ay];have A:=U9.ok w.p e.id e.t hp (by omega);rw[A.1,ay,A.2,i9.lt_eq];try rfl
 rw[aK k1,aC,aC];by_cases k2:e.k=2
 ·rw[aG k2,ay];have A:=Ro.ok w.p e.id e.t hp;rw[A.1,ay,A.2,i9.lt_eq,fl];unfold Dl jA.J8;cases jA.yS w.p e.id&&(decide (1<=e.t.size/\e.t.size<=40)&&decide ((el w.p.fe e.id.toNat).t.size+e.t.size<=400))<;>rfl
 rw[aK k2,aC,aC];by_cases k3:e.k=3
 ·rw[aG k3,ay];have A:=Bj.ok h hi e.k e.id e.t e.n e.l hn;rw[k3]at A;rw[k3,A.1,ay,A.2,i9.lt_eq];try rfl
 rw[aK k3,aC,aC];by_cases k4:e.k=4
 ·rw[aG k4,ay];have A:=Rq.ok w.p e.id hp;rw[A.1,ay,A.2,i9.lt_eq,fl];unfold Dl jA.Jg;cases jA.yS w.p e.id<;>rfl
 rw[aK k4,aC,aC];by_cases k5:e.k=5
 ·rw[aG k5,ay];have A:=wA.ok w.p e.n hp;rw[A.1,ay,A.2,i9.lt_eq];try rfl
 rw[aK k5,aC,aC];by_cases k6:e.k=6
 ·rw[aG k6,ay];have A:=B5.ok w.p e.id hp;rw[A.1,ay,A.2,i9.lt_eq,fl];dsimp only;rw[eI,eI,show(B5.val w.p e.id).cl=w.p.cl.filter (λc=> !decide (c.id=e.id))from rfl,left];try rfl
 rw[aK k6,aC,aC];have k7:e.k=7:=by omega
 rw[aG k7,ay];have A:=uB.ok h hi e.k e.id e.t e.n e.l;rw[k7]at A;rw[k7,A.1,ay,A.2,i9.lt_eq];try rfl
end Bg

namespace wy
open Lib (rr rs re rf rc rd Px En el)
open mz (Wo Ev closed Hk pj rG flag)
open o6 (dk es)
open kO (A0)
open i9 (ri Dl CF mq)
theorem Y4(w:Wo)(e:Ev):(mz.act w e).1.cd=w.cd:=by
 unfold mz.act closed;cases decide (e.k=1)<;>cases decide (e.k=2)<;>cases decide (e.k=3)<;>cases decide (e.k=4)<;>cases decide (e.k=5)<;>cases decide (e.k=6)<;>(try rfl)
 all_goals
  dsimp only[ay,aC]
  cases (y_.cls w.p e.id (e.n%1000000)).2&&decide (e.n%1000000>0)<;>rfl
theorem ok{i:aE}{w:Wo}{e:Ev}(h:A0 i w)(hi:i<=71)(he:rG e=ai):c w.p.now (re w.p.en) (rs w.p.w) (rs w.p.m) (rr w.p.s) w.p.a (rf w.p.fe) (rc w.p.cl) w.p.hits (rd (dk w.o)) (ri w.cd) (re w.bd) e.k e.id e.t e.n e.l=ai/\v w.p.now (re w.p.en) (rs w.p.w) (rs w.p.m) (rr w.p.s) w.p.a (rf w.p.fe) (rc w.p.cl) w.p.hits (rd (dk w.o)) (ri w.cd) (re w.bd) e.k e.id e.t e.n e.l=Dl (mz.step w e):=by
 refine out _ _ _ _ _ _ _ _ _ _ _ _ _ _ _ _ _ ?_;have A:=Bg.ok h hi he;have hcd:=h.cd;unfold vo b;rw[A.1,ay,A.2,i9.lt_eq];have e1:(Dl (mz.act w e).1).2.2.2.2.2.2.2.2.2.2.1=ri w.cd:=by unfold Dl;rw[Y4]
 have r1:cy ((aN [Ck.i ao] 0).length+(ri w.cd).length) 8=true:=by rw[i9.fV];exact Lib.cF (by show(0+w.cd.length)*8<=_;omega) (by show 0+w.cd.length<=_;omega)
 have r2:cy ((ri w.cd).length+(aw (aN [Ck.i ao] 1) 0 [CV.i ao (mz.act w e).2]).length) 8=true:=by rw[i9.fV,i9.sF];exact Lib.cF (by omega) (by omega)
 show(bif cy ((aN [Ck.i ao] 0).length+((Dl (mz.act w e).1).2.2.2.2.2.2.2.2.2.2.1).length) 8 then _ else aj)=_;simp only[e1,i9.aoC,r1,r2,ay,i9.afH];rfl
end wy

namespace GJ
open Lib (rr rs re rf rc rd Px En el)
open mz (Wo Ev rG)
open o6 (dk es)
open kO (A0)
open i9 (ri Dl)
open RO (rv run)
open bK (I)
open A_Post (fI)
theorem ids{p:Px}(h:sL.gh p):∀j,j<(rc p.cl).length->0<=bU (ar (rc p.cl) j 0)/\bU (ar (rc p.cl) j 0)<=30:=by
 intro j hj;have RA:j<p.cl.length:=by rw[eI]at hj;exact hj
 have:=h.cl _ (qe RA);unfold sL.GA at this;simp only[aF,ba]at this;rw[show ar (rc p.cl) j 0=CV.i ao (el p.cl j).id from gj _ p.cl j 0 RA];show 0<=(el p.cl j).id/\(el p.cl j).id<=30;omega
theorem next{α:Type}{i:aE}{w:Wo}{q:aU}{a s:az}{X:az×az×aq×az×aU×aU×az×az×aU×aU×aU×aU×aU×aU×aU×aU×aU->aA α}{P:α->Prop}(h:A0 i w)(hI:I q a)
  (hx:∀k id t n a' s',I q a'->rG ⟨k,id,t,n,[]⟩=ai->k<=6->fI (X (k,id,t,n,[],q,a',s',re w.p.en,rs w.p.w,rs w.p.m,rr w.p.s,rf w.p.fe,rc w.p.cl,rd (dk w.o),ri w.cd,re w.bd)) P):
  fI (bif tD.c q a s w.p.now (re w.p.en) (rs w.p.w) (rs w.p.m) (rr w.p.s) w.p.a (rf w.p.fe) (rc w.p.cl) w.p.hits (rd (dk w.o)) (ri w.cd) (re w.bd)then Lib.lt (tD.v q a s w.p.now (re w.p.en) (rs w.p.w) (rs w.p.m) (rr w.p.s) w.p.a (rf w.p.fe) (rc w.p.cl) w.p.hits (rd (dk w.o)) (ri w.cd) (re w.bd)) X else aj) P:=by obtain⟨x,e,k,id,t,n,a',s',rfl,h1,h2,h3⟩:=tD.body q a s w.p.now (re w.p.en) (rs w.p.w) (rs w.p.m) (rr w.p.s) w.p.a (rf w.p.fe) (rc w.p.cl) w.p.hits (rd (dk w.o)) (ri w.cd) (re w.bd) hI (by rw[eu];exact h.px.fl) (ids h.px);obtain⟨c1,v1⟩:=tD.out _ _ _ _ _ _ _ _ _ _ _ _ _ _ _ e;exact A_Post.call c1 v1 (hx k id t n a' s' h1 h2 h3)
theorem step{α:Type}{i:aE}{w:Wo}{X:az×aU×aU×aU×aU×az×aU×aU×az×aU×aU×aU->aA α}{P:α->Prop}(e:Ev)(h:A0 i w)(hi:i<=71)(he:rG e=ai)(hx:fI (X (Dl (mz.step w e))) P):
  fI (bif wy.c w.p.now (re w.p.en) (rs w.p.w) (rs w.p.m) (rr w.p.s) w.p.a (rf w.p.fe) (rc w.p.cl) w.p.hits (rd (dk w.o)) (ri w.cd) (re w.bd) e.k e.id e.t e.n e.l then Lib.lt (wy.v w.p.now (re w.p.en) (rs w.p.w) (rs w.p.m) (rr w.p.s) w.p.a (rf w.p.fe) (rc w.p.cl) w.p.hits (rd (dk w.o)) (ri w.cd) (re w.bd) e.k e.id e.t e.n e.l) X else aj) P:=
 A_Post.call (wy.ok h hi he).1 (wy.ok h hi he).2 hx
end GJ

namespace G3
open Lib (rr rs re rf rc rd Px En el)
open mz (Wo Ev rG)
open o6 (dk es)
open kO (A0)
open i9 (ri Dl)
open sL (gh)
open bK (I)
open A_Post (fI)
theorem walk{P:R->Prop}(N:aE)(q:aU)(K:az->aU->az->az->az->az->az->az->az->az->aU->aU->aU->aU->aU->aU->aU->aU->aU->aA R)
  (hK:∀(x:az) (w:Wo) (a s:az),gh w.p->I q a->fI (K x q a s 0 0 0 w.p.now w.p.a w.p.hits (re w.p.en) (rs w.p.w) (rs w.p.m) (rr w.p.s) (rf w.p.fe) (rc w.p.cl) (rd (dk w.o)) (ri w.cd) (re w.bd)) P):
  ∀(d i n:aE) (w:Wo) (a s:az),30-i<=d->i<=30->d<n->A0 i w->I q a->
   fI (l3 N K n (i:az) q a s 0 0 0 w.p.now w.p.a w.p.hits (re w.p.en) (rs w.p.w) (rs w.p.m) (rr w.p.s) (rf w.p.fe) (rc w.p.cl) (rd (dk w.o)) (ri w.cd) (re w.bd)) P:=by
 intro d;induction d with
 |zero=>
  intro i n w a s h1 h2 h3 h4 h5;obtain⟨n,rfl⟩:∃k,n=k+1:=⟨n-1,by omega⟩
  rw[show l3 N K (n+1)=r3 N (l3 N K n) K from rfl];unfold r3;refine A_Post.below h5 (λx a1 s1 I1 g0 g1=> ?_);have:=g1 (by omega);exact A_Post.cn (aK (by dsimp only;omega)) (hK _ w _ _ h4.px I1)
 |succ d ih=>
  intro i n w a s h1 h2 h3 h4 h5;obtain⟨n,rfl⟩:∃k,n=k+1:=⟨n-1,by omega⟩
  rw[show l3 N K (n+1)=r3 N (l3 N K n) K from rfl];unfold r3;refine A_Post.below h5 (λx a1 s1 I1 g0 g1=> ?_);have:=g1 (by omega);by_cases h:(i:az)<x
  ·have jr:bE ((i:az)+1)=((i+1:aE):az):=cX (by omega) (by omega);refine A_Post.ck (aG (by dsimp only;omega)) ?_;refine GJ.next h4 I1 (λk id t n0 a2 s2 I2 he hk=> ?_);refine GJ.step ⟨k,id,t,n0,[]⟩ h4 (by omega) he ?_;have:=ih (i+1) n (mz.step w ⟨k,id,t,n0,[]⟩) a2 s2 (by omega) (by omega) (by omega) (kO.yV h4 he) I2;rw[jr];exact this
  ·exact A_Post.cn (aK (by dsimp only;omega)) (hK _ w _ _ h4.px I1)
theorem run{q:aU}{a s:az}(hI:I q a):fI (vo q a s) (λx=>∃(p:Px) (a' s':az),gh p/\I q a'/\x=(p.now,re p.en,rs p.w,rs p.m,rr p.s,p.a,rf p.fe,rc p.cl,p.hits,q,a',s')):=by
 unfold vo;generalize hN:Lib.cR=N;have V3:30<N:=by rw[<-hN];exact cJ (by omega)
 clear hN;unfold b;exact walk N q _ (λx w a1 s1 h I1=>A_Post.ret ⟨w.p,a1,s1,h,I1,rfl⟩) 30 0 N RO.w0 a s (cm _) (bm _) V3 RO.agz hI
theorem ok{q:aU}{a s:az}(hI:I q a):∃(p:Px) (a' s':az),gh p/\I q a'/\c q a s=ai/\v q a s=(p.now,re p.en,rs p.w,rs p.m,rr p.s,p.a,rf p.fe,rc p.cl,p.hits,q,a',s'):=by obtain⟨x,hx,p,a',s',h1,h2,rfl⟩:=run (s:=s) hI;obtain⟨c1,v1⟩:=out _ _ _ hx;exact⟨p,a',s',h1,h2,c1,v1⟩
end G3

namespace G2
open Lib (rr rs re rf rc Px En Fe Cl el)
open bK (I)
open sL (gh)
open A_Post (fI)
open yp (Sm md ix)
open zq (Pm)
structure An (p:Px):Prop where
 en:p.en.length<=100
 pm:Pm p.w p.m p.s
 fe:p.fe.length<=20
 cl:p.cl.length<=6
theorem An.fit{p:Px}(h:An p):p.Fit 1048576:=by
 obtain⟨h1,h2,h3,h4⟩:=h.pm;refine⟨by have:=h.en;omega,by omega,by omega,⟨by omega,λq hq=>by have:=h4 q hq;omega, ?_⟩,by have:=h.fe;omega,by have:=h.cl;omega⟩
 have key:∀l:ax (ax az),(∀q∈l,q.length<=16)->(l.map bT).sum<=16*l.length:=by
  intro l;induction l with
  |nil=>intro _;exact cm _
  |cons x l ih=>intro hq;have a1:=hq x du;have a2:=ih (λq hq'=>hq q (cM _ hq'));simp only[eK,List.sum_cons,cS];omega
 have:=key p.s h4;omega
theorem An.of{p:Px}(h:gh p):An p:=by obtain⟨_,l1,l2,hs⟩:=qw.gq.1 h.pol;have:=h.len;exact⟨by omega,⟨by omega,by omega,Sm.of hs⟩,h.fl,h.cll⟩
def row(p:Px){α:Type}(x:α):az×aU×aU×aU×aU×az×aU×aU×az×α:=(p.now,re p.en,rs p.w,rs p.m,rr p.s,p.a,rf p.fe,rc p.cl,p.hits,x)
theorem akH(l:ax Fe)(i:aE)(x:az)(h:i<l.length):eA (rf l) i 2 [CV.i ao x]=rf (l.set i {l[i]with sta:=x}):=lN Fe.row l i 2 _ _ h rfl
theorem akC(l:ax Cl)(i:aE)(x:az)(h:i<l.length):eA (rc l) i 2 [CV.i ao x]=rc (l.set i {l[i]with fe:=x}):=lN Cl.row l i 2 _ _ h rfl
theorem ok{q:aU}{a s:az}(hI:I q a):∃(p:Px) (a' s':az),An p/\I q a'/\c q a s=ai/\v q a s=row p (q,a',s'):=by
 have main:fI (vo q a s) (λx=>∃(p:Px) (a' s':az),An p/\I q a'/\x=row p (q,a',s')):=by
  unfold vo b;refine A_Post.below hI (λk a1 s1 I1 k0 k1=> ?_);refine A_Post.below I1 (λx a2 s2 I2 x0 x1=> ?_);obtain⟨p,a3,s3,hp,I3,c3,v3⟩:=G3.ok (s:=s2) I2;refine A_Post.call c3 v3 ?_;have C:=jM.ok p (i9.mq hp);refine A_Post.call C.1 C.2 ?_;dsimp only;have hA:=An.of hp;obtain⟨m4,hm4,e4⟩:=md x 4 (by omega) x0;rw[show(((4:aE):az))=4 from rfl]at e4;rw[e4];refine A_Post.br (λ_=> ?_) (λ_=> ?_)
  ·exact A_Post.ck (ix (by simpa [aN]using hm4)) (A_Post.ret ⟨{p with now:=bU (ar (aw (aw (aw (aw (aN [Ck.i ao] 4) 0 [CV.i ao 0]) 1 [CV.i ao 1]) 2 [CV.i ao 1000000000]) 3 [CV.i ao 1000000001]) (aX (m4:az)) 0)},a3,s3,⟨hA.en,hA.pm,hA.fe,hA.cl⟩,I3,rfl⟩)
  refine A_Post.br (λ_=> ?_) (λ_=> ?_)
  ·obtain⟨w,m,S,A,a4,s4,h4,I4,c4,v4⟩:=zq.ok (s:=s3) I3;exact A_Post.call c4 v4 (A_Post.ret ⟨{p with w:=w,m:=m,s:=S,a:=A},a4,s4,⟨hA.en,h4,hA.fe,hA.cl⟩,I4,rfl⟩)
  refine A_Post.br (λ_=> ?_) (λ_=> ?_)
  ·rw[eu];refine A_Post.br (λg=> ?_) (λ_=>A_Post.ret ⟨p,a3,s3,hA,I3,rfl⟩);have g:=cg g;obtain⟨m,hm,e⟩:=md x p.fe.length (by omega) x0;rw[e,dJ,akH _ _ _ hm];exact A_Post.ck (by rw[aK (show¬((p.fe.length:az)=0)by omega)];rfl) (A_Post.ck (ix hm) (A_Post.ret ⟨{p with fe:=p.fe.set m {p.fe[m]with sta:=bI x 5}},a3,s3,⟨hA.en,hA.pm,by show(p.fe.set m _).length<=20;rw[c7];exact hA.fe,hA.cl⟩,I3,rfl⟩))
  refine A_Post.br (λ_=> ?_) (λ_=> ?_)
  ·rw[eI];refine A_Post.br (λg=> ?_) (λ_=>A_Post.ret ⟨p,a3,s3,hA,I3,rfl⟩);have g:=cg g;obtain⟨m,hm,e⟩:=md x p.cl.length (by omega) x0;rw[e,dJ,akC _ _ _ hm];exact A_Post.ck (by rw[aK (show¬((p.cl.length:az)=0)by omega)];rfl) (A_Post.ck (ix hm) (A_Post.ret ⟨{p with cl:=p.cl.set m {p.cl[m]with fe:=bE (bI x 30-1)}},a3,s3,⟨hA.en,hA.pm,hA.fe,by show(p.cl.set m _).length<=6;rw[c7];exact hA.cl⟩,I3,rfl⟩))
  refine A_Post.br (λ_=> ?_) (λ_=> ?_)
  ·exact A_Post.ret ⟨{p with hits:= -1},a3,s3,⟨hA.en,hA.pm,hA.fe,hA.cl⟩,I3,rfl⟩
  ·exact A_Post.ret ⟨p,a3,s3,hA,I3,rfl⟩
 obtain⟨x,hx,p,a',s',h1,h2,rfl⟩:=main;obtain⟨c1,v1⟩:=out _ _ _ hx;exact⟨p,a',s',h1,h2,c1,v1⟩
end G2

namespace El
theorem ok(q:aU)(hl:q.length<=1048576):∃h,c q=ai/\v q=(q,0,h):=by
 have key:=wH (λn (s:aE×az)=>l3 Lib.cR (λ(y3:aU) (y4 _:az)=>ah (y3,(0:az),y4)) n q s.2 (s.1:az)) (λs=>q.length-s.1) (λs=>s.1<=q.length) (λr=>∃h,r=(q,0,h)) (λn s hs=>by
  obtain⟨i,h⟩:=s;dsimp only at hs⊢;by_cases hi:i<q.length
  ·by_cases h4:(i:az)<4000
   ·right;have jr:bE ((i:az)+1)=((i+1:aE):az):=cX (by omega) (by omega)
    have e:∃h',l3 Lib.cR (λ(y3:aU) (y4 _:az)=>ah (y3,(0:az),y4)) (n+1) q h (i:az)=l3 Lib.cR (λ(y3:aU) (y4 _:az)=>ah (y3,(0:az),y4)) n q h' ((i+1:aE):az):=
     ⟨_,by simp only[l3,r3,Lib.dE,hi,h4,aR,Lib.cT,aM,ay,Lib.eD,jr];rfl⟩
    obtain⟨h',e⟩:=e;exact⟨(i+1,h'),hi,by dsimp only;omega,e⟩
   ·left;exact⟨_,by simp only[l3,r3,Lib.dE,hi,h4,aR,bg,ay,aC];rfl,_,rfl⟩
  ·left;exact⟨_,by simp only[l3,r3,Lib.dE,hi,bg,aC];rfl,_,rfl⟩) Lib.cR (0,bE (34901+(q.length:az))) (bm _) (cJ (by omega))
 obtain⟨b',hb,h,rfl⟩:=key;obtain⟨e1,e2⟩:=out q (x:=(q,0,h)) hb;exact⟨h,e1,e2⟩
end El

namespace Rk
open Lib (rr rs re rf rc Px)
open bK (I)
open A_Post (fI)
open G2 (An row)
theorem ok(code:aU)(hc:code.length<=1048576):∃(p:Px) (n:az),An p/\c code=ai/\v code=row p n:=by
 have main:fI (vo code) (λx=>∃(p:Px) (n:az),An p/\x=row p n):=by
  obtain⟨h,c0,v0⟩:=El.ok code hc;have I0:I code 0:=⟨Vt _,vE _,hc⟩
  unfold vo b;refine A_Post.call c0 v0 ?_;refine A_Post.PQ (λ_=>True) ⟨by simp[aN],λ_ _=>trivial⟩ I0 (λn a s I1 _=> ?_);obtain⟨p,a1,s1,hp,I1,c1,v1⟩:=G2.ok (s:=s) I1;exact A_Post.call c1 v1 (A_Post.ret ⟨p,n,hp,rfl⟩)
 obtain⟨x,hx,p,n,hp,rfl⟩:=main;obtain⟨c1,v1⟩:=out _ hx;exact⟨p,n,hp,c1,v1⟩
end Rk

namespace Rs
theorem ok(q:aU)(a s k:az)(hI:bK.I q a):∃n a' s',c q a s k=ai/\v q a s k=(n,q,a',s')/\bK.I q a':=by
 obtain⟨x,a1,s1,c1,v1,I1⟩:=gT.ok q a s 15 hI;cases x with
 |true=>obtain⟨i,a3,s3,c3,v3,I3,g3⟩:=sg.ok q a1 s1 (aw (aw (aw (aw (aw (aN [Ck.i ao] 5) 0 [CV.i ao (gD 1)]) 1 [CV.i ao k]) 2 [CV.i ao (bE (k+1))]) 3 [CV.i ao 9223372036854775807]) 4 [CV.i ao (gD 9223372036854775808)]) I1 (by simp[aN]);obtain⟨e1,e2⟩:=out q a s k (x:=(_,q,a3,s3)) (by unfold vo b;simp only[c1,v1,c3,v3,ay];rfl);exact⟨_,a3,s3,e1,e2,I3⟩
 |false=>obtain⟨n,a3,s3,c3,v3,I3,_⟩:=c9.ok q a1 s1 k I1;obtain⟨e1,e2⟩:=out q a s k (x:=(n,q,a3,s3)) (by unfold vo b;simp only[c1,v1,c3,v3,ay,aC]);exact⟨_,a3,s3,e1,e2,I3⟩
end Rs

namespace Rl
open Lib (rr rs re rf rc Px)
open bK (I)
open A_Post (fI)
open G2 (An row)
theorem ok(code:aU)(hc:code.length<=1048576):∃(p:Px) (n:az),An p/\c code=ai/\v code=row p n:=by
 have main:fI (vo code) (λx=>∃(p:Px) (n:az),An p/\x=row p n):=by
  obtain⟨h,c0,v0⟩:=El.ok code hc;have I0:I code 0:=⟨Vt _,vE _,hc⟩
  unfold vo b;refine A_Post.call c0 v0 ?_;obtain⟨n,a,s,c1,v1,I1⟩:=Rs.ok code 0 h 6 I0;refine A_Post.call c1 v1 ?_;obtain⟨p,a1,s1,hp,I1,c1,v1⟩:=G2.ok (s:=s) I1;exact A_Post.call c1 v1 (A_Post.ret ⟨p,n,hp,rfl⟩)
 obtain⟨x,hx,p,n,hp,rfl⟩:=main;obtain⟨c1,v1⟩:=out _ hx;exact⟨p,n,hp,c1,v1⟩
end Rl

namespace Rn
open Lib (rr rs re rf rc Px)
open sL (gh)
theorem ok(code:aU)(hc:code.length<=1048576):∃p:Px,gh p/\c code=ai/\v code=(p.now,re p.en,rs p.w,rs p.m,rr p.s,p.a,rf p.fe,rc p.cl,p.hits):=by obtain⟨h,c0,v0⟩:=El.ok code hc;obtain⟨p,a',s',h1,h2,c1,v1⟩:=G3.ok (q:=code) (a:=0) (s:=h) ⟨Vt _,vE _,hc⟩;obtain⟨c2,v2⟩:=out code (x:=(p.now,re p.en,rs p.w,rs p.m,rr p.s,p.a,rf p.fe,rc p.cl,p.hits)) (by unfold vo b;rw[c0,ay,v0,i9.lt_eq,c1,ay,v1,i9.lt_eq]);exact⟨p,h1,c2,v2⟩
end Rn

namespace KR
open Lib (rr rs re rf rc Px)
open wA (tm later)
theorem md(n:az):Mo.c n 1000=ai/\Mo.v n 1000=n%1000:=by
 refine Mo.out _ _ ?_;unfold Mo.vo Mo.b;have t:=tm n;rw[show(!decide ((1000:az)=0))=ai from rfl,ay,ay];congr 1;by_cases hn:bI n 1000<0
 ·have e:=t.2 hn;rw[e,cX (x:=n%1000) (by omega) (by omega),iP (by omega)];omega
 ·have e:=t.1 (by omega);rw[e,cX (x:=n%1000+1000) (by omega) (by omega),iP (by omega)];omega
theorem ok(p:Px)(n:az)(hp:p.Fit 1048576):c p.now (re p.en) (rs p.w) (rs p.m) (rr p.s) p.a (rf p.fe) (rc p.cl) p.hits n=ai/\v p.now (re p.en) (rs p.w) (rs p.m) (rr p.s) p.a (rf p.fe) (rc p.cl) p.hits n=((wA.val p n).now,re p.en,rs p.w,rs p.m,rr p.s,p.a,rf p.fe,rc p.cl,p.hits):=by have h:=p9.ok p hp;have hm:=md n;refine out _ _ _ _ _ _ _ _ _ _ ?_;unfold vo b wA.val later;simp only[Lib.lt,h.1,h.2,hm.1,hm.2,ay];rw[cX (x:=1000000000-n%1000) (by omega) (by omega)];cases decide (p.now>1000000000-n%1000)<;>rfl
end KR

namespace lZ
def p(s:aU)(k:az)(i:aE):aW:=decide (bU (ar s i 0)=k)
theorem ok(d:aU)(n:az)(hl:d.length<=4294967296):c d n=ai/\v d n=Lib.fi (p d n) d.length 0:=by
 refine out d n ?_;unfold vo b;refine oP (p d n) d.length (λm (i:aE)=>l2 Lib.cR (λ(_:aU) (_:az) (y7 _ _:az)=>ah y7) (λ(_:aU) (_:az) (_ _ _:az)=>ah (-1)) m d n 0 (d.length:az) (i:az)) ah (λm i hi hp=> ?_) (λm i hi hp=> ?_) (λm=> ?_) Lib.cR (cJ (by omega))
 ·unfold p at hp;simp only[l2,r2,Lib.dE,Lib.cT,Lib.eD,hi,aR,aM,ay,Mp.v,hp]
 ·unfold p at hp;simp only[l2,r2,Lib.dE,Lib.cT,Lib.eD,hi,aR,aM,ay,Mp.v,hp,aC,Lib.dm hi (by omega:d.length<=9223372036854775807)]
 ·simp only[l2,r2,Lib.dE,bk,bg,aC]
end lZ

namespace Jb
def cn(y:ax CV):aW:=match y with|[.i .i64 _, .s _, .i .i64 _, .i .i64 _, .i .i64 _, .s _, .i .i64 _]=>ai|_=>ak
def cr(y:ax CV):ax CV:=[CV.i ao (bU (y.getD 0 (.b ak))),CV.s (bM (y.getD 1 (.b ak))),CV.i ao (bU (y.getD 2 (.b ak))),CV.i ao (bU (y.getD 3 (.b ak))),CV.i ao (bU (y.getD 4 (.b ak))),CV.s (bM (y.getD 5 (.b ak))),CV.i ao (bU (y.getD 6 (.b ak)))]
theorem E2{y:ax CV}(h:cn y=ai):cr y=y:=by
 unfold cn at h;split at h
 ·rfl
 ·cases h
theorem tR{y:ax CV}(h:cn y=ai):y.length=7:=by rw[<-E2 h];rfl
def keep(d:az)(y:ax CV):aW:= !decide (bU (y.getD 0 (.b ak))=d)
theorem mH(d:az){s:aU}{i:aE}(h:i<s.length):(s.take (i+1)).filter (keep d)=(s.take i).filter (keep d)++(bif keep d s[i]then [s[i]]else []):=by rw[dq h,jl];cases hk:keep d s[i]<;>simp[hk]
theorem run(N:aE)(s0:aU)(d:az)(hc:s0.all cn=ai)(hn:s0.length<=9223372036854775807)(K:az->az->az->aU->aA R)(kr:aU->aA R)
  (hK:∀(j:aE) x,x.length=s0.length->j<=s0.length->K d j s0.length x=kr (x.take j)) (m j i:aE) (x:aU)
  (hi:j<i/\i<=s0.length/\x.length=s0.length/\(∀y∈x,y.length=7)/\x.take j=(s0.take i).filter (keep d)/\x.drop i=s0.drop i) (hm:s0.length-i<m):
  l5 N K m d j i x=kr (s0.filter (keep d)):=by
 have ZJ:∀y∈s0,cn y=true:=bj.1 hc
 refine Lib.gv (λm (s:aE×aE×aU)=>l5 N K m d s.1 s.2.1 s.2.2) (λs=>s0.length-s.2.1)
  (λs=>s.1<s.2.1/\s.2.1<=s0.length/\s.2.2.length=s0.length/\(∀y∈s.2.2,y.length=7)/\s.2.2.take s.1=(s0.take s.2.1).filter (keep d)/\s.2.2.drop s.2.1=s0.drop s.2.1)
  (λ_=>kr (s0.filter (keep d))) (λm s hs=> ?_) m (j,i,x) hi hm
 obtain⟨j,i,x⟩:=s;obtain⟨h1,h2,h3,h4,h5,h6⟩:=hs;simp only at h1 h2 h3 h4 h5 h6⊢;by_cases gO:i<s0.length
 ·right;have vJ:i<x.length:=by omega
  have S6:j<x.length:=by omega
  have hx:x[i]=s0[i]:=by have e1:=Lib.gV vJ;have e2:=Lib.gV gO;rw[h6,e2]at e1;exact(ue e1).1.symm
  have hd:x.drop (i+1)=s0.drop (i+1):=by have e1:=Lib.gV vJ;have e2:=Lib.gV gO;rw[h6,e2]at e1;exact(ue e1).2.symm
  have ZN:=ZJ _ (bD gO);have hf:=mH d gO;cases hk:keep d s0[i]with
  |true=>
   refine⟨(j+1,i+1,x.set j s0[i]), ?_,by simp only;omega,trivial, ?_⟩
   ·rw[hk,ay,<-h5]at hf;refine⟨by simp only;omega,by simp only;omega,by simpa using h3, ?_, ?_, ?_⟩
    ·intro y hy;rcases ly hy with h|h
     ·exact h4 y h
     ·rw[h];exact tR ZN
    ·rw[hf];rw[dq (by simpa using S6)];simp[List.take_set_of_le]
    ·simp only;rw[List.drop_set_of_lt (by omega)];exact hd
   ·have e:Mp.v (bU (ar x i 0)) (bM (ar x i 1)) (bU (ar x i (1+1))) (bU (ar x i (1+1+1))) (bU (ar x i (1+1+1+1))) (bM (ar x i (1+1+1+1+1))) (bU (ar x i (1+1+1+1+1+1))) d=false:=by
     have:(!Mp.v (bU (ar x i 0)) (bM (ar x i 1)) (bU (ar x i (1+1))) (bU (ar x i (1+1+1))) (bU (ar x i (1+1+1+1))) (bM (ar x i (1+1+1+1+1))) (bU (ar x i (1+1+1+1+1+1))) d)=true:=by rw[Lib.da vJ,hx];exact hk
     simpa using this
    have es:eA x j 0 [CV.i ao (bU (ar x i 0)),CV.s (bM (ar x i 1)),CV.i ao (bU (ar x i (1+1))),CV.i ao (bU (ar x i (1+1+1))),CV.i ao (bU (ar x i (1+1+1+1))),CV.s (bM (ar x i (1+1+1+1+1))),CV.i ao (bU (ar x i (1+1+1+1+1+1)))]=x.set j s0[i]:=by
     have hl:=h4 _ (bD S6);rw[Lib.Ka S6,Lib.da vJ,Lib.da vJ,Lib.da vJ,Lib.da vJ,Lib.da vJ,Lib.da vJ,Lib.da vJ,hx];have:iH x[j] 0 (cr s0[i])=s0[i]:=by rw[E2 ZN];unfold iH;have:=tR ZN;simp[hl,this,rj]
     unfold cr at this;rw[this]
    have b1:(j:az)<(x.length:az):=by omega
    simp only[l5,r5,Lib.dE,Lib.cT,Lib.eD,vJ,S6,aR,bG,ay,e,bS,es,Lib.dm gO hn,Lib.dm (show j<s0.length by omega) hn]
  |false=>
   refine⟨(j,i+1,x), ?_,by simp only;omega,trivial, ?_⟩
   ·rw[hk,aC,dH,<-h5]at hf;exact⟨by simp only;omega,by simp only;omega,h3,h4,hf.symm,hd⟩
   ·have e:Mp.v (bU (ar x i 0)) (bM (ar x i 1)) (bU (ar x i (1+1))) (bU (ar x i (1+1+1))) (bU (ar x i (1+1+1+1))) (bM (ar x i (1+1+1+1+1))) (bU (ar x i (1+1+1+1+1+1))) d=true:=by
     have:(!Mp.v (bU (ar x i 0)) (bM (ar x i 1)) (bU (ar x i (1+1))) (bU (ar x i (1+1+1))) (bU (ar x i (1+1+1+1))) (bM (ar x i (1+1+1+1+1))) (bU (ar x i (1+1+1+1+1+1))) d)=false:=by rw[Lib.da vJ,hx];exact hk
     simpa using this
    simp only[l5,r5,Lib.dE,Lib.cT,Lib.eD,vJ,aR,bG,ay,e,a9,aC,Lib.dm gO hn]
 ·left;have:i=s0.length:=by omega
  subst this;rw[gE]at h5;have e:=hK j x h3 (by omega);rw[h5]at e;have vJ:¬s0.length<x.length:=by omega
  simp only[l5,r5,Lib.dE,vJ,bg,aC,e]
theorem ok(s0:aU)(nO:az)(hc:s0.all cn=ai)(hn:s0.length<=4294967296):c s0 nO=ai/\v s0 nO=s0.filter (keep nO):=by
 refine out s0 nO ?_;have hv:=lZ.ok s0 nO hn;unfold vo b;rw[hv.1,hv.2,ay];rcases Lib.rI (lZ.p s0 nO) s0.length 0 with ⟨h,od⟩|⟨k,_,xE,hk,ZV,ZI⟩
 ·rw[h];have:s0.filter (keep nO)=s0:=by rw[gb];intro y hy;obtain⟨i,hi,rfl⟩:=dr hy;have:=od i (bm _) (by omega);unfold lZ.p at this;rw[Lib.da hi]at this;unfold keep;rw[this];rfl
  rw[this];rfl
 ·rw[hk];have Wb:k<s0.length:=by omega
  have iq:decide ((k:az)=gD 1)=false:=aK (by show¬(k:az)= -1;omega);rw[iq,aC,Lib.dm Wb (by omega)];have ZJ:∀y∈s0,cn y=true:=bj.1 hc;refine run _ s0 nO hc (by omega) _ ah (λj x hx hj=> ?_) _ k (k+1) s0 ⟨by omega,by omega,rfl,λy hy=>tR (ZJ y hy), ?_,rfl⟩ (cJ (by omega))
  ·have b1:iy (j:az) (s0.length:az) (s0.length:az)=true:=by simp[iy];omega
   have e:lX j x++aN [Ck.i ao,Ck.s,Ck.i ao,Ck.i ao,Ck.i ao,Ck.s,Ck.i ao] (s0.length-j)++vF s0.length x=lX j x++aN [Ck.i ao,Ck.s,Ck.i ao,Ck.i ao,Ck.i ao,Ck.s,Ck.i ao] (s0.length-j):=by rw[rj (by omega),dH]
   have hl:(lX j x).length=j:=by simp;omega
   simp only[hx,Lib.eD,b1,ay,e];rw[Lib.zE (by simp[iy];omega)];unfold dW;rw[show aX 0=0 from rfl,fA,Nat.sub_zero,List.take_append_of_le_length (by omega),ir (by omega)]
  ·rw[mH nO Wb];have e1:keep nO s0[k]=false:=by unfold lZ.p at ZV;rw[Lib.da Wb]at ZV;unfold keep;rw[ZV];rfl
   have e2:(s0.take k).filter (keep nO)=s0.take k:=by
    rw[gb];intro y hy;obtain⟨i,hi,rfl⟩:=dr hy;have hik:i<k:=by simp at hi;omega
    have:=ZI i (bm _) hik;unfold lZ.p at this;rw[Lib.da (by omega)]at this;rw[xT];unfold keep;rw[this];rfl
   rw[e1,e2,aC,dH]
end Jb

namespace Rm
open Lib (rr rs re rf rc Px Cl)
theorem ac1(l:ax Cl):(rc l).all Jb.cn=true:=by rw[bj];intro y hy;unfold Lib.rc at hy;obtain⟨z,_,rfl⟩:=cO.1 hy;rfl
theorem akD(l:ax Cl)(id:az):(rc l).filter (Jb.keep id)=rc (l.filter λc=> !decide (c.id=id)):=by unfold Lib.rc;rw[Ba];rfl
theorem ok(p:Px)(id:az)(hp:p.Fit 1048576):c p.now (re p.en) (rs p.w) (rs p.m) (rr p.s) p.a (rf p.fe) (rc p.cl) p.hits id=ai/\v p.now (re p.en) (rs p.w) (rs p.m) (rr p.s) p.a (rf p.fe) (rc p.cl) p.hits id=(p.now,re p.en,rs p.w,rs p.m,rr p.s,p.a,rf p.fe,rc (B5.val p id).cl,p.hits):=by have h:=p9.ok p hp;have hc:=hp.cl;have h2:=Jb.ok (rc p.cl) id (ac1 _) (by rw[eI];omega);rw[akD]at h2;exact out _ _ _ _ _ _ _ _ _ _ (by unfold vo b;simp only[Lib.lt,h.1,h.2,h2.1,h2.2,ay];rfl)
end Rm

namespace Mn
open Lib (rr rs re rf rc Px Cl el)
def ans:aA Cl->az×aq×az×az×az×aq×az×aW
 |some c=>(c.id,c.k,c.fe,c.fr,c.sta,c.got,c.age,ai)
 |none=>(0,⟨#[]⟩,0,0,0,⟨#[]⟩,0,ak)
theorem walk(N:aE)(kr:az->aq->az->az->az->aq->az->aW->aA R)(id now:az)(q1 q2 q3 q4:aU)(a5:az)(q6:aU)(cl:ax Cl)(a8:az)(hl:cl.length<=1000):∀(d i n:aE),cl.length-i<=d->i<=cl.length->d<n->(∀j,j<i->(el cl j).id≠id)->
  l2 N (λKE xO Q3 Q4 y23 y24 y25 Vc Iu RJ RK RM My Md Q5 Q6 Q7 Vd RN=>kr My Md Q5 Q6 Q7 Vd RN xO) (λy38 y39 y40 y41 Ve Vf Me y45 y46 y47 y48 y49 y50 y51 y52 Vg Vh Vi y56=>kr 0 ({data:= #[]}) 0 0 0 ({data:= #[]}) 0 ak) n id ak (i:az) now q1 q2 q3 q4 a5 q6 (rc cl) a8 0 ({data:= #[]}) 0 0 0 ({data:= #[]}) 0=(match cl.find? (λc=>decide (c.id=id))with|some c=>kr c.id c.k c.fe c.fr c.sta c.got c.age ai|none=>kr 0 ⟨#[]⟩ 0 0 0 ⟨#[]⟩ 0 ak):=by
 have fin:∀n:aE,(∀j,j<cl.length->(el cl j).id≠id)->l2 N (λKE xO Q3 Q4 y23 y24 y25 Vc Iu RJ RK RM My Md Q5 Q6 Q7 Vd RN=>kr My Md Q5 Q6 Q7 Vd RN xO) (λy38 y39 y40 y41 Ve Vf Me y45 y46 y47 y48 y49 y50 y51 y52 Vg Vh Vi y56=>kr 0 ({data:= #[]}) 0 0 0 ({data:= #[]}) 0 ak) (n+1) id ak (cl.length:az) now q1 q2 q3 q4 a5 q6 (rc cl) a8 0 ({data:= #[]}) 0 0 0 ({data:= #[]}) 0=(match cl.find? (λc=>decide (c.id=id))with|some c=>kr c.id c.k c.fe c.fr c.sta c.got c.age ai|none=>kr 0 ⟨#[]⟩ 0 0 0 ⟨#[]⟩ 0 ak):=λn hn=>by
  have:cl.find? (λc=>decide (c.id=id))=none:=by rw[o7];intro x hx q;obtain⟨j,hj,rfl⟩:=dr hx;have:=hn j hj;rw[fc hj]at this;exact this (cg q)
  rw[this];simp only[l2,r2,eI,Lib.dE,bk,bg,aC]
 intro d;induction d with
 |zero=>
  intro i n h1 h2 h3 h4;obtain⟨n,rfl⟩:∃k,n=k+1:=⟨n-1,by omega⟩
  have:i=cl.length:=by omega
  subst this;exact fin n h4
 |succ d ih=>
  intro i n h1 h2 h3 h4;obtain⟨n,rfl⟩:∃k,n=k+1:=⟨n-1,by omega⟩
  by_cases hi:i<cl.length
  ·have jr:bE ((i:az)+1)=((i+1:aE):az):=cX (by omega) (by omega);by_cases he:(el cl i).id=id
   ·have hf:cl.find? (λc=>decide (c.id=id))=ah (el cl i):=by
     rw[zl];refine⟨aG he,i,hi,(fc hi).symm,λj hj=> ?_⟩
     have:=h4 j hj;rw[fc (by omega:j<cl.length)]at this;rw[aK this];rfl
    rw[hf];have e0:bU (ar (rc cl) i 0)=(el cl i).id:=by rw[KC hi];rfl
    have e1:bM (ar (rc cl) i 1)=(el cl i).k:=by rw[QS hi];rfl
    have e2:bU (ar (rc cl) i (1+1))=(el cl i).fe:=by rw[QT hi];rfl
    have e3:bU (ar (rc cl) i (1+1+1))=(el cl i).fr:=by rw[QU hi];rfl
    have e4:bU (ar (rc cl) i (1+1+1+1))=(el cl i).sta:=by rw[QV hi];rfl
    have e5:bM (ar (rc cl) i (1+1+1+1+1))=(el cl i).got:=by rw[QW hi];rfl
    have e6:bU (ar (rc cl) i (1+1+1+1+1+1))=(el cl i).age:=by rw[QX hi];rfl
    simp only[l2,r2,eI,Lib.dE,hi,aR,Lib.cT,aM,ay,Lib.eD,e0,e1,e2,e3,e4,e5,e6,he]
   ·refine RX ?_ (ih (i+1) n (by omega) hi (by omega) λj hj=> ?_)
    ·have e0:bU (ar (rc cl) i 0)=(el cl i).id:=by rw[KC hi];rfl
     simp only[l2,r2,eI,Lib.dE,hi,aR,Lib.cT,aM,ay,aC,Lib.eD,e0,he,bg,jr]
    ·by_cases HB:j=i
     ·subst HB;exact he
     ·exact h4 j (by omega)
  ·have:i=cl.length:=by omega
   subst this;exact fin n h4
theorem ok(id now:az)(q1 q2 q3 q4:aU)(a5:az)(q6:aU)(cl:ax Cl)(a8:az)(hl:cl.length<=1000):c now q1 q2 q3 q4 a5 q6 (rc cl) a8 id=ai/\v now q1 q2 q3 q4 a5 q6 (rc cl) a8 id=ans (cl.find? λc=>decide (c.id=id)):=by
 refine out _ _ _ _ _ _ _ _ _ _ ?_;unfold vo;generalize hN:Lib.cR=N;have V3:cl.length<N:=by rw[<-hN];exact cJ (by omega)
 clear hN;unfold b;refine(walk N _ id now q1 q2 q3 q4 a5 q6 cl a8 hl cl.length 0 N (by omega) (bm _) V3 (λj hj=>cw hj (Nat.not_lt_zero j))).trans ?_;cases cl.find? λc=>decide (c.id=id)<;>rfl
end Mn

namespace Mq
theorem run(a:aU)(hl:a.length<=9223372036854775807):vo a a=ah true:=by
 unfold vo b;rw[show((a.length:az) !=(a.length:az))=ak from eU _,aC];have:=Lib.gv (λn (i:aE)=>l4 Lib.cR (λ(_ _:aU) (y:aW) (_:az)=>ah y) (λ(_ _:aU) (_:aW) (_:az)=>ah ai) n a a ak (i:az)) (λi=>a.length-i) (λi=>i<=a.length) (λ_=>ah ai) (λn i hi=>by
  by_cases h:i<a.length
  ·right;refine⟨i+1,h,by omega,rfl, ?_⟩
   have jr:bE ((i:az)+1)=((i+1:aE):az):=cX (by omega) (by omega);simp only[l4,r4,Lib.dE,h,aR,Lib.cT,aM,ay,Lib.eD,jr,jE,a9,aC]
  ·left;simp only[l4,r4,Lib.dE,h,bg,aC]) Lib.cR 0 (bm _) (cJ (by omega))
 exact this
theorem ok(a:aU)(hl:a.length<=9223372036854775807):c a a=ai/\v a a=true:=out a a (run a hl)
end Mq

namespace tE
theorem run(a:aU)(hl:a.length<=9223372036854775807):vo a a=ah true:=by
 unfold vo b;rw[show((a.length:az) !=(a.length:az))=ak from eU _,aC];have:=Lib.gv (λn (i:aE)=>l4 Lib.cR (λ(_ _:aU) (y:aW) (_:az)=>ah y) (λ(_ _:aU) (_:aW) (_:az)=>ah ai) n a a ak (i:az)) (λi=>a.length-i) (λi=>i<=a.length) (λ_=>ah ai) (λn i hi=>by
  by_cases h:i<a.length
  ·right;refine⟨i+1,h,by omega,rfl, ?_⟩
   have jr:bE ((i:az)+1)=((i+1:aE):az):=cX (by omega) (by omega);simp only[l4,r4,Lib.dE,h,aR,Lib.cT,aM,ay,Lib.eD,jr,jE,eU,a9,aC]
  ·left;simp only[l4,r4,Lib.dE,h,bg,aC]) Lib.cR 0 (bm _) (cJ (by omega))
 exact this
theorem ok(a:aU)(hl:a.length<=9223372036854775807):c a a=ai/\v a a=true:=out a a (run a hl)
end tE

namespace yq
theorem run(a:aU)(hl:a.length<=9223372036854775807):vo a a=ah true:=by
 unfold vo b;rw[show((a.length:az) !=(a.length:az))=ak from eU _,aC];have:=Lib.gv (λn (i:aE)=>l4 Lib.cR (λ(_ _:aU) (y:aW) (_:az)=>ah y) (λ(_ _:aU) (_:aW) (_:az)=>ah ai) n a a ak (i:az)) (λi=>a.length-i) (λi=>i<=a.length) (λ_=>ah ai) (λn i hi=>by
  by_cases h:i<a.length
  ·right;refine⟨i+1,h,by omega,rfl, ?_⟩
   have jr:bE ((i:az)+1)=((i+1:aE):az):=cX (by omega) (by omega);simp only[l4,r4,Lib.dE,h,aR,Lib.cT,aM,ay,Lib.eD,jr,jE,eU,a9,aC]
  ·left;simp only[l4,r4,Lib.dE,h,bg,aC]) Lib.cR 0 (bm _) (cJ (by omega))
 exact this
theorem ok(a:aU)(hl:a.length<=9223372036854775807):c a a=ai/\v a a=true:=out a a (run a hl)
end yq

namespace xX
open Lib (rr)
theorem run(s:ax (ax az))(n:az)(hl:s.length<=1048576)(hq:∀q∈s,q.length<=1048576):vo (rr s) n (rr s) n=ah true:=by
 have hlen:(rr s).length=s.length:=gk s;unfold vo b;rw[show(n !=n)=ak from eU _,aC,show(((rr s).length:az) !=((rr s).length:az))=ak from eU _,aC];have:=Lib.gv (λm (i:aE)=>l4 Lib.cR (λ(y:aW) (_:az) (_:aU) (_:az) (_:aU) (_:az)=>ah y) (λ(_:aW) (_:az) (_:aU) (_:az) (_:aU) (_:az)=>ah ai) m ak (i:az) (rr s) n (rr s) n) (λi=>(rr s).length-i) (λi=>i<=(rr s).length) (λ_=>ah ai) (λm i hi=>by
  by_cases h:i<(rr s).length
  ·right;refine⟨i+1,h,by omega,rfl, ?_⟩
   have jr:bE ((i:az)+1)=((i+1:aE):az):=cX (by omega) (by omega);have hA:=yq.ok (g9 (ar (rr s) i 0)) (by rw[Ew (show i<s.length by omega)];show(Lib.ri _).length<=_;rw[Lib.fV];have:=hq _ (bD (show i<s.length by omega));omega);simp only[l4,r4,Lib.dE,h,aR,Lib.cT,aM,ay,Lib.eD,jr,hA.1,hA.2,a9,aC]
  ·left;simp only[l4,r4,Lib.dE,h,bg,aC]) Lib.cR 0 (bm _) (cJ (by omega))
 exact this
theorem ok(s:ax (ax az))(n:az)(hl:s.length<=1048576)(hq:∀q∈s,q.length<=1048576):c (rr s) n (rr s) n=ai/\v (rr s) n (rr s) n=true:=out _ _ _ _ (run s n hl hq)
end xX

namespace Rt
open Lib (rr rs)
theorem ok(w m:ax aq)(s:ax (ax az))(n:az)(hw:w.length<=1048576)(hm:m.length<=1048576)(hl:s.length<=1048576)(hq:∀q∈s,q.length<=1048576):c (rs w) (rs m) (rr s) n (rs w) (rs m) (rr s) n=ai/\v (rs w) (rs m) (rr s) n (rs w) (rs m) (rr s) n=true:=by have h1:=tE.ok (rs w) (by rw[er];omega);have h2:=tE.ok (rs m) (by rw[er];omega);have h3:=xX.ok s n hl hq;refine out _ _ _ _ _ _ _ _ ?_;unfold vo b;rw[h1.1,ay,h1.2,ay,h2.1,ay,h2.2,ay,h3.1,ay,h3.2]
end Rt

namespace EJ
open Lib (rr rs re rf rc Px)
theorem w4(N:aE)(k0 k1:aW->az->az->aU->aU->aU->aU->az->aU->aU->az->az->aU->aU->aU->aU->az->aU->aU->az->aA R)(i0:az)(q1 q2 q3 q4:aU)(i5:az)(fe cl:aU)(i8:az)(hl:fe.length<=1048576):∀(d i n:aE),fe.length-i<=d->i<=fe.length->d<n->
  l4 N k0 k1 n ak (i:az) i0 q1 q2 q3 q4 i5 fe cl i8 i0 q1 q2 q3 q4 i5 fe cl i8=k1 ak (fe.length:az) i0 q1 q2 q3 q4 i5 fe cl i8 i0 q1 q2 q3 q4 i5 fe cl i8:=by
 have fin:∀n:aE,l4 N k0 k1 (n+1) ak (fe.length:az) i0 q1 q2 q3 q4 i5 fe cl i8 i0 q1 q2 q3 q4 i5 fe cl i8=k1 ak (fe.length:az) i0 q1 q2 q3 q4 i5 fe cl i8 i0 q1 q2 q3 q4 i5 fe cl i8:=λn=>by simp only[l4,r4,Lib.dE,bk,bg,aC]
 intro d;induction d with
 |zero=>
  intro i n h1 h2 h3;obtain⟨n,rfl⟩:∃k,n=k+1:=⟨n-1,by omega⟩
  have:i=fe.length:=by omega
  subst this;exact fin n
 |succ d ih=>
  intro i n h1 h2 h3;obtain⟨n,rfl⟩:∃k,n=k+1:=⟨n-1,by omega⟩
  by_cases h:i<fe.length
  ·have jr:bE ((i:az)+1)=((i+1:aE):az):=cX (by omega) (by omega);refine RX ?_ (ih (i+1) n (by omega) h (by omega));simp only[l4,r4,Lib.dE,h,aR,Lib.cT,aM,ay,Lib.eD,jr,jE,a9,aC]
  ·have:i=fe.length:=by omega
   subst this;exact fin n
theorem w9(N:aE)(k0 k1:aW->az->az->aU->aU->aU->aU->az->aU->aU->az->az->aU->aU->aU->aU->az->aU->aU->az->aA R)(i0:az)(q1 q2 q3 q4:aU)(i5:az)(fe cl:aU)(i8:az)(hl:cl.length<=1048576):∀(d i n:aE),cl.length-i<=d->i<=cl.length->d<n->
  l9 N k0 k1 n ak (i:az) i0 q1 q2 q3 q4 i5 fe cl i8 i0 q1 q2 q3 q4 i5 fe cl i8=k1 ak (cl.length:az) i0 q1 q2 q3 q4 i5 fe cl i8 i0 q1 q2 q3 q4 i5 fe cl i8:=by
 have fin:∀n:aE,l9 N k0 k1 (n+1) ak (cl.length:az) i0 q1 q2 q3 q4 i5 fe cl i8 i0 q1 q2 q3 q4 i5 fe cl i8=k1 ak (cl.length:az) i0 q1 q2 q3 q4 i5 fe cl i8 i0 q1 q2 q3 q4 i5 fe cl i8:=λn=>by simp only[l9,r9,Lib.dE,bk,bg,aC]
 intro d;induction d with
 |zero=>
  intro i n h1 h2 h3;obtain⟨n,rfl⟩:∃k,n=k+1:=⟨n-1,by omega⟩
  have:i=cl.length:=by omega
  subst this;exact fin n
 |succ d ih=>
  intro i n h1 h2 h3;obtain⟨n,rfl⟩:∃k,n=k+1:=⟨n-1,by omega⟩
  by_cases h:i<cl.length
  ·have jr:bE ((i:az)+1)=((i+1:aE):az):=cX (by omega) (by omega);refine RX ?_ (ih (i+1) n (by omega) h (by omega));simp only[l9,r9,Lib.dE,h,aR,Lib.cT,aM,ay,Lib.eD,jr,jE,a9,aC]
  ·have:i=cl.length:=by omega
   subst this;exact fin n
theorem ok(p:Px)(h:p.Fit 1048576):c p.now (re p.en) (rs p.w) (rs p.m) (rr p.s) p.a (rf p.fe) (rc p.cl) p.hits p.now (re p.en) (rs p.w) (rs p.m) (rr p.s) p.a (rf p.fe) (rc p.cl) p.hits=ai/\v p.now (re p.en) (rs p.w) (rs p.m) (rr p.s) p.a (rf p.fe) (rc p.cl) p.hits p.now (re p.en) (rs p.w) (rs p.m) (rr p.s) p.a (rf p.fe) (rc p.cl) p.hits=true:=by have hf:=h.fe;have hc:=h.cl;have he:=h.en;have h1:=Mq.ok (re p.en) (by rw[ej];omega);have h2:=Rt.ok p.w p.m p.s p.a h.w h.m h.s.1 h.s.2.1;refine out _ _ _ _ _ _ _ _ _ _ _ _ _ _ _ _ _ _ ?_;unfold vo b;rw[show(p.now !=p.now)=ak from eU _,aC,show(p.hits !=p.hits)=ak from eU _,aC,h1.1,ay,h1.2,a9,aC,h2.1,ay,h2.2,a9,aC,show(((rf p.fe).length:az) !=((rf p.fe).length:az))=ak from eU _,aC,show(((rc p.cl).length:az) !=((rc p.cl).length:az))=ak from eU _,aC];refine(w4 Lib.cR _ _ p.now (re p.en) (rs p.w) (rs p.m) (rr p.s) p.a (rf p.fe) (rc p.cl) p.hits (by rw[eu];omega) (rf p.fe).length 0 Lib.cR (by omega) (bm _) (cJ (by rw[eu];omega))).trans ?_;exact(w9 Lib.cR _ _ p.now (re p.en) (rs p.w) (rs p.m) (rr p.s) p.a (rf p.fe) (rc p.cl) p.hits (by rw[eI];omega) (rc p.cl).length 0 Lib.cR (by omega) (bm _) (cJ (by rw[eI];omega))).trans rfl
end EJ

namespace U4
open Lib (rr rs re rf rc Px)
open sL (gh)
open A_Post (fI)
theorem aap(n:az)(h:1<=n/\n<=1000000000):wA.later n 7=bE (n+7)\/wA.later n 7=1000000000:=by
 unfold wA.later;rw[show(7:az)%1000=7 from rfl];cases decide (n>1000000000-7)with
 |true=>exact .inr rfl
 |false=>exact .inl rfl
theorem gone(l:ax Lib.Cl)(id:az):(l.filter λc=> !decide (c.id=id)).find? (λc=>decide (c.id=id))=none:=by rw[o7];intro c hc;have:=(dh.1 hc).2;simpa using this
theorem afB(a:aU)(ha:vS a):vo a=ah true:=by
 have hb:∀x:aW,YZ.v a=x->vo a=ah true:=λx hx=>by
  cases x with
  |true=>unfold vo b;rw[hx,ay]
  |false=>
   have hlen:a.length<=1048576:=by unfold YZ.v at hx;have:=sZ hx;omega
   obtain⟨p,n,hp,c0,v0⟩:=Rk.ok a hlen;obtain⟨x,id,Ls,c1,v1⟩:=Rl.ok a hlen;obtain⟨y,hy,c2,v2⟩:=Rn.ok a hlen;have fp:=hp.fit;have fx:=Ls.fit;have fy:=i9.mq hy;have I0:=KR.ok p n fp;have S0:=wA.ok p n fp;have I1:=Rm.ok x id fx;have S1:=B5.ok x id fx;have I2:=KR.ok y 7 fy;have hl:(x.cl.filter λc=> !decide (c.id=id)).length<=6:=cZ (dO _ _) Ls.cl;have C:=Mn.ok id x.now (re x.en) (rs x.w) (rs x.m) (rr x.s) x.a (rf x.fe) (x.cl.filter λc=> !decide (c.id=id)) x.hits (by omega);rw[gone]at C;have W0:=EJ.ok (wA.val p n) ⟨fp.en,fp.w,fp.m,fp.s,fp.fe,fp.cl⟩;have W1:=EJ.ok (B5.val x id) ⟨fx.en,fx.w,fx.m,fx.s,fx.fe,by show(x.cl.filter λc=> !decide (c.id=id)).length<=_;omega⟩;have hz:=CL.J7 7 hy;have O:=I9.ok (wA.val y 7) (i9.mq hz);rw[sL.qk.2 hz]at O;have main:fI (vo a) (λx=>x=ai):=by
    unfold vo b;refine A_Post.cn hx ?_;refine A_Post.call c0 v0 ?_;refine A_Post.call I0.1 I0.2 ?_;refine A_Post.call c1 v1 ?_;refine A_Post.call I1.1 I1.2 ?_;refine A_Post.call C.1 C.2 ?_;refine A_Post.call c2 v2 ?_;refine A_Post.call I2.1 I2.2 ?_;refine A_Post.call S0.1 S0.2 ?_;refine A_Post.call W0.1 W0.2 ?_;refine A_Post.ck rfl ?_;refine A_Post.call S1.1 S1.2 ?_;refine A_Post.call W1.1 W1.2 ?_;refine A_Post.ck rfl ?_;refine A_Post.ck rfl ?_;refine A_Post.br (λ_=> ?_) (λh=> ?_)
    ·refine A_Post.ck (aG rfl) ?_;refine A_Post.call O.1 O.2 ?_;exact A_Post.ck rfl (A_Post.ret rfl)
    ·have h7:wA.later y.now 7=1000000000:=(aap y.now hy.now).resolve_left (λe=>cw e (sZ h));refine A_Post.ck (aG h7) ?_;refine A_Post.ck (aG rfl) ?_;refine A_Post.call O.1 O.2 ?_;exact A_Post.ck rfl (A_Post.ret rfl)
   obtain⟨x,h1,h2⟩:=main;rw[h1,h2]
 exact hb _ rfl
theorem law(a:aU)(ha:vS a):v a=true:=(out a (afB a ha)).2
theorem anE(a:aU)(ha:vS a):c a=true:=(out a (afB a ha)).1
end U4

end Go.FG
