/- What the functions come to, in plain numbers, texts and lists; last the law itself. No condition but those that each states. -/
import Derived.Test.YtpcfgiocpohbmaaGreatDoorPShown
import Derived.Test.YtpcfgiocpohbmaaGreatDoorFShowna
set_option linter.unusedVariables false
set_option linter.unusedSimpArgs false
set_option maxRecDepth 100000
open Array renaming getD_eq_getD_getElem?->dc,getElem?_append_left->Bw,toList_append->kC
open Bool renaming and_self->aL,true->aj,and_eq_true->aJ,not_true->a9,true_and->bK,not_eq_true'->dA,not_false->bO,false->ao,or_eq_true->dq,false_eq_true->cN
open ByteArray renaming toList->aC,empty_append->ka,extract->bc,ext->lh,data_append->eH,append_assoc->dY,size_append->dh,size->bh
open Go.IntKind renaming i64->ar
open Go.Op renaming bytesLess->bP
open Int renaming tmod->bZ,tmod_eq_emod_of_nonneg->iJ,toNat_natCast->dD,toNat->aY
open List renaming length_singleton->bu,map_append->c7,set->aF,length->bI,length_filter_le->dM,append_assoc->bY,find?_eq_none->RQ,find?_some->CG,drop_length->cU,drop_eq_getElem_cons->cQ,length_set->dt,mem_cons->b7,not_mem_nil->qE,nil_append->eR,take_length->d_,filter_eq_self->fX,mem_of_mem_take->kh,length_cons->bU,length_map->bM,mem_map->cD,mem_filter->cJ,take_succ_eq_append_getElem->cj,all_append->U_,all_cons->mv,beq->cu,getD_eq_getElem?_getD->cM,getElem?_map->bg,length_take->eg,filter_append->ik,append_nil->dv,getElem_mem->bH,take_of_length_le->gb,getD->e6,mem_cons_self->cw,mem_of_mem_drop->j6,length_append->bW,drop_zero->eB,take_left'->Q8,all_eq_true->bf,mem_cons_of_mem->cg,eq_nil_of_length_eq_zero->fj
open Nat renaming lt_irrefl->bB,le_trans->cm,zero_le->bC,le_refl->bR,sub_zero->Eh,le_add_right->Yd,add_sub_cancel_left->Eu,add_zero->rS
open Option renaming some->ah,none->ai
open UInt8 renaming ofNat->ak
open _root_ renaming List->ax,ByteArray->aq,Int->ay,Nat->aG,decide_true->aT,cond_true->aw,cond_false->az,decide_false->bn,decide_eq_true_eq->aZ,absurd->b_,decide_eq_false_iff_not->eV,decide_eq_false->aK,if_pos->ba,if_neg->a_,decide_eq_true->aE,Option->aA,Bool->aU,of_decide_eq_true->ca,UInt8->eE,congrArg->je,decide_eq_decide->c_
namespace Go.FG
open _root_.Go.FG.Lib (nh qV zj fF yF fy fQ kO wh BU Jo uF jO wu c6 pz ZY rc1 rc2 rc3 rc4 rc5 rc6 fc H7 Ww Wx eh ff gf Z0 LX iW Z1 pD n5 D0 vd nD yR Gl oq Ea yT rI rJ vg vh dj Rt UD UE UF wd0 wd1 wd2 xX AQ AR AU Ru Rv wf2 Iq wf3 wf4)
variable {R:Type}
namespace jM
open _root_.Go.FG.Lib (rd el Fi)
open dp (put)
theorem tail(l:ax Fi)(n t:aq)(k:ay)(hl:l.length<=1000000)(c0:ax Fi)(hc:c0.length<=1000001):
  l9 Lib.cR (λ(_:ay) (_:Row) (_ _:aq) (_:ay) (y:Row)=>ah y) Lib.cR 0 (rd l) n t k (rd c0)=ah (rd (c0++l.filter λx=> !(fH.ew x.n n||decide (x.n=n)))):=by
 refine BU l (λx=> !(fH.ew x.n n||decide (x.n=n))) (λm (i:aG) acc=>l9 Lib.cR (λ(_:ay) (_:Row) (_ _:aq) (_:ay) (y:Row)=>ah y) m (i:ay) (rd l) n t k (rd acc)) (λacc=>ah (rd acc)) c0
  (λm i acc h ha hp=> ?_) (λm i acc h hp=> ?_) (λm acc=> ?_) Lib.cR (c6 (by omega))
 ·have mE:(!(bP (aC l[i].n) (aC n)||decide (l[i].n=n)))=true:=hp;simp only[l9,r9,eh,Lib.dJ,h,aT,Lib.c9,aL,aw,Lib.eK,H7 h,Ww h,Wx h,bJ,bS,Lib.fP,mE,pD,bu,Lib.dn h (by omega:l.length<=9223372036854775807),Lib.cE (n:=acc.length+1) (b:=40) (by omega) (by omega)];unfold Lib.rd;rw[c7];rfl
 ·have mE:(!(bP (aC l[i].n) (aC n)||decide (l[i].n=n)))=false:=hp;simp only[l9,r9,eh,Lib.dJ,h,aT,Lib.c9,aL,aw,az,Lib.eK,H7 h,bJ,Lib.fP,mE,Lib.dn h (by omega:l.length<=9223372036854775807)]
 ·simp only[l9,r9,eh,Lib.dJ,bB,bn,az]
theorem ok(l:ax Fi)(n t:aq)(k:ay)(hl:l.length<=1000000):c (rd l) n t k=aj/\v (rd l) n t k=rd (put l ⟨n,t,k⟩):=by
 refine out _ _ _ _ ?_;unfold vo b
 have key:=Jo l (λx=>fH.ew x.n n)
  (λm (i:aG)=>l3 Lib.cR (λ(_:ay) (y41:Row) (y42 y43:aq) (QX:ay)=>l9 Lib.cR (λ(_:ay) (_:Row) (_ _:aq) (_:ay) (y50:Row)=>ah y50) Lib.cR 0 y41 y42 y43 QX ([]++aF (aR [Ck.s,Ck.s,Ck.i ar] 1) 0 [CV.s y42,CV.s y43,CV.i ar QX])) (λ(_:ay) (y52:Row) (y53 y54:aq) (y55:ay) (y56:Row)=>bif(cF (bI y56+bI (aF (aR [Ck.s,Ck.s,Ck.i ar] 1) 0 [CV.s y53,CV.s y54,CV.i ar y55])) 40)then(l9 Lib.cR (λ(_:ay) (_:Row) (_ _:aq) (_:ay) (y62:Row)=>ah y62) Lib.cR 0 y52 y53 y54 y55 (y56++aF (aR [Ck.s,Ck.s,Ck.i ar] 1) 0 [CV.s y53,CV.s y54,CV.i ar y55]))else(ai)) m (i:ay) (rd l) n t k)
  (λm (i:aG) acc=>oa Lib.cR (λ(_:ay) (y41:Row) (y42 y43:aq) (QX:ay)=>l9 Lib.cR (λ(_:ay) (_:Row) (_ _:aq) (_:ay) (y50:Row)=>ah y50) Lib.cR 0 y41 y42 y43 QX ([]++aF (aR [Ck.s,Ck.s,Ck.i ar] 1) 0 [CV.s y42,CV.s y43,CV.i ar QX])) (λ(_:ay) (y52:Row) (y53 y54:aq) (y55:ay) (y56:Row)=>bif(cF (bI y56+bI (aF (aR [Ck.s,Ck.s,Ck.i ar] 1) 0 [CV.s y53,CV.s y54,CV.i ar y55])) 40)then(l9 Lib.cR (λ(_:ay) (_:Row) (_ _:aq) (_:ay) (y62:Row)=>ah y62) Lib.cR 0 y52 y53 y54 y55 (y56++aF (aR [Ck.s,Ck.s,Ck.i ar] 1) 0 [CV.s y53,CV.s y54,CV.i ar y55]))else(ai)) m (i:ay) (rd l) n t k (rd acc))
  (λacc=>bif cF (acc.length+1) 40 then l9 Lib.cR (λ(_:ay) (_:Row) (_ _:aq) (_:ay) (y:Row)=>ah y) Lib.cR 0 (rd l) n t k (rd (acc++[⟨n,t,k⟩]))else ai)
  (λm i h hp=>by have mE:bP (aC l[i].n) (aC n)=true:=hp;simp only[l3,r3,eh,Lib.dJ,h,aT,Lib.c9,aL,aw,Lib.eK,H7 h,Ww h,Wx h,bJ,bS,mE,pD,Lib.dn h (by omega:l.length<=9223372036854775807)];rfl)
  (λm i h hp=>by have mE:bP (aC l[i].n) (aC n)=false:=hp;simp only[l3,r3,eh,Lib.dJ,h,aT,Lib.c9,aL,aw,az,Lib.eK,H7 h,bJ,mE,Lib.dn h (by omega:l.length<=9223372036854775807)])
  (λm=>by simp only[l3,r3,eh,Lib.dJ,bB,bn,az];rw[Lib.cE (by simp) (by simp),aw];rfl)
  (λm i acc h ha hp=>by have mE:bP (aC l[i].n) (aC n)=true:=hp;simp only[oa,uU,eh,Lib.dJ,h,aT,Lib.c9,aL,aw,Lib.eK,H7 h,Ww h,Wx h,bJ,bS,mE,pD,bu,Lib.dn h (by omega:l.length<=9223372036854775807),Lib.cE (n:=acc.length+1) (b:=40) (by omega) (by omega)];unfold Lib.rd;rw[c7];rfl)
  (λm i acc h hp=>by have mE:bP (aC l[i].n) (aC n)=false:=hp;simp only[oa,uU,eh,Lib.dJ,h,aT,Lib.c9,aL,aw,az,Lib.eK,H7 h,bJ,mE,Lib.dn h (by omega:l.length<=9223372036854775807)])
  (λm acc=>by simp only[oa,uU,eh,Lib.dJ,bB,bn,az,pD,bu];unfold Lib.rd;rw[c7];rfl) Lib.cR (c6 (by omega))
 refine key.trans ?_;have hf:=dM (λx:Fi=>fH.ew x.n n) l;rw[Lib.cE (by omega) (by omega),aw,tail l n t k hl _ (by simp;omega)];unfold put;rw[bY]
end jM

namespace k_
open _root_.Go.FG.Lib (rd el Fi)
open dp (without)
theorem ok(l:ax Fi)(n:aq)(hl:l.length<=1000000):c (rd l) n=aj/\v (rd l) n=rd (without l n):=by
 refine out _ _ ?_;unfold vo b
 have key:=Jo l (λx=> !decide (x.n=n))
  (λm (i:aG)=>l3 Lib.cR (λ(_:aq) (_:ay) (_:Row)=>ah ([]:Row)) (λ(_:aq) (_:ay) (_:Row) (AW:Row)=>ah AW) m n (i:ay) (rd l))
  (λm (i:aG) acc=>oa Lib.cR (λ(_:aq) (_:ay) (_:Row)=>ah ([]:Row)) (λ(_:aq) (_:ay) (_:Row) (AW:Row)=>ah AW) m n (i:ay) (rd l) (rd acc)) (λacc=>ah (rd acc))
  (λm i h hp=>by simp only[l3,r3,eh,Lib.dJ,h,aT,Lib.c9,aL,aw,Lib.eK,H7 h,Ww h,Wx h,bJ,bS,Lib.fP,hp,pD,Lib.dn h (by omega:l.length<=9223372036854775807)];rfl)
  (λm i h hp=>by simp only[l3,r3,eh,Lib.dJ,h,aT,Lib.c9,aL,aw,az,Lib.eK,H7 h,bJ,Lib.fP,hp,Lib.dn h (by omega:l.length<=9223372036854775807)])
  (λm=>by simp only[l3,r3,eh,Lib.dJ,bB,bn,az];rfl)
  (λm i acc h ha hp=>by simp only[oa,uU,eh,Lib.dJ,h,aT,Lib.c9,aL,aw,Lib.eK,H7 h,Ww h,Wx h,bJ,bS,Lib.fP,hp,pD,bu,Lib.dn h (by omega:l.length<=9223372036854775807),Lib.cE (n:=acc.length+1) (b:=40) (by omega) (by omega)];unfold Lib.rd;rw[c7];rfl)
  (λm i acc h hp=>by simp only[oa,uU,eh,Lib.dJ,h,aT,Lib.c9,aL,aw,az,Lib.eK,H7 h,bJ,Lib.fP,hp,Lib.dn h (by omega:l.length<=9223372036854775807)])
  (λm acc=>by simp only[oa,uU,eh,Lib.dJ,bB,bn,az]) Lib.cR (c6 (by omega))
 exact key
end k_

namespace zf
open _root_.Go.FG.Lib (rd el Fi)
open dp (without put Q9 rB act DL jl)
open A_ (res)
theorem Ws(d:ax Fi)(h:d.length<=1000000):eO.c (rd d)=aj/\eO.v (rd d)=rB d:=eO.ok (rd d) (by rw[eh];omega)
theorem nm(n:aq):th.v n=decide (1<=(n.size:ay)/\(n.size:ay)<=8):=eO.mF _ _ _
theorem O6{l:ax Fi}{n t:aq}{k:ay}(h:¬(1<=(n.size:ay)/\(n.size:ay)<=8)):rB (put l ⟨n,t,k⟩)=false:=by
 cases hk:rB (put l ⟨n,t,k⟩)with
 |false=>rfl
 |true=>have:=(jl.1 hk).2.1 ⟨n,t,k⟩ (dp.oE.2 (.inl rfl));unfold dp.oU at this;simp only[aJ,aZ]at this;exact b_ this.1 h
theorem ok(l:ax Fi)(k:ay)(n t o:aq)(hl:l.length<=1000)(ht:t.size<=2305843009213693952):c (rd l) k n t o=aj/\v (rd l) k n t o=res (act l k n t o):=by
 refine out _ _ _ _ _ ?_;unfold vo b h0;have h1:=ju.ok (rd l) n (by rw[eh];omega);have h2:=Ws l (by omega);rw[h2.1,h2.2,aw];unfold act;cases hk:rB l with
 |false=>rfl
 |true=>
 rw[a9,az,bK,nm];obtain⟨q1,q2,q3⟩:=jl.1 hk;have rn:∀f∈l,(1<=(f.n.size:ay)/\(f.n.size:ay)<=8)/\(f.t.size:ay)<=20000/\f.kp<=(f.t.size:ay):=λf hf=>by have:=q2 f hf;unfold dp.oU at this;simp only[aJ,aZ,dA,eV]at this;omega
 by_cases hn:1<=(n.size:ay)/\(n.size:ay)<=8;case neg=>
  rw[aK hn,bO,aw]
  have xV:l.find? (λx=>decide (x.n=n))=none:=by rw[RQ];intro x hx;have:=(rn x hx).1;simp only[aZ];intro e;rw[e]at this;exact hn this
  cases dp.jd k t o with
  |false=>rfl
  |true=>
   rw[aw];unfold DL;rw[xV];by_cases k1:k=1
   ·rw[ba k1];dsimp only;rw[O6 hn];rfl
   ·rw[a_ k1];rfl
 rw[aE hn,a9,az,Lib.fP,Lib.fP,h1.1,h1.2,aw,eh];unfold Lib.lt;by_cases ko:k=3\/o=⟨#[]⟩
 case neg=>
  rw[not_or]at ko
  have:dp.jd k t o=false:=by unfold dp.jd;rw[aK ko.1,aK ko.2];simp
  rw[this,show(k !=3)=aj from bne_iff_ne.2 ko.1,aw,aK ko.2];rfl
 by_cases kt:k=1\/t=⟨#[]⟩
 case neg=>
  rw[not_or]at kt
  have:dp.jd k t o=false:=by unfold dp.jd;rw[aK kt.1,aK kt.2];simp
  rw[this,show(k !=1)=aj from bne_iff_ne.2 kt.1,aw,aK kt.2]
  rcases ko with ko|ko
  ·subst ko;rfl
  ·rw[aE ko];cases (k !=3)<;>rfl
 have Vz:∀x:aA (Row×aU),(bif k !=3 then(bif !decide (o=⟨#[]⟩)then ah (([]:Row),ao)else(bif k !=1 then(bif !decide (t=⟨#[]⟩)then ah ([],ao)else x)else x))else(bif k !=1 then(bif !decide (t=⟨#[]⟩)then ah ([],ao)else x)else x))=x:=λx=>by
  rcases ko with ko|ko<;>rcases kt with kt|kt
  ·omega
  ·subst ko;rw[aE kt];rfl
  ·subst kt;rw[aE ko];rfl
  ·rw[aE ko,aE kt];cases (k !=3)<;>cases (k !=1)<;>rfl
 have wp:=λ(m:ax Fi) (hml:m.length<=1000) (n t:aq) (k:ay)=>jM.ok m n t k (by omega);have wo:=k_.ok l n (by omega);have wol:=dp.Is l n;have pl:=λ(m:ax Fi) (f:Fi) (hm:m.length<=1000)=>Ws (put m f) (cm (dp.qh f) (by omega));have fin:∀d:ax Fi,(bif !rB d then ah (([]:Row),ao)else ah (rd d,aj))=ah (res (bif rB d then ah d else ai)):=λd=>by cases rB d<;>rfl
 by_cases hk4:1<=k/\k<=4;case neg=>
  have ha:dp.jd k t o=false:=by unfold dp.jd;rw[aK hk4];rfl
  rw[ha]
  refine(Vz _).trans ?_
  rcases A_.find l n with ⟨e1,e2⟩|⟨i,hi,e1,e2⟩
  ·rw[e1,aK (show¬k=1 by omega)];rfl
  ·rw[e1];dsimp only;rw[aK (show¬k=1 by omega),aK (show¬k=2 by omega),aK (show¬k=3 by omega),aK (show¬k=4 by omega),aK (show¬((i:aG):ay)<0 by omega),aE (show((i:aG):ay)≥0 by omega)];simp only[Lib.dJ,hi,aT,aL,bK,aw,az];rfl
 have ha:dp.jd k t o=true:=by unfold dp.jd;rw[aE hk4,bK,aJ,dq,dq,aZ,aZ,aZ,aZ];exact⟨kt.symm,ko.symm⟩
 rw[ha,aw];refine(Vz _).trans ?_;unfold DL;rcases A_.find l n with ⟨e1,e2⟩|⟨i,hi,e1,e2⟩
 ·rw[e1,e2];dsimp only;by_cases k1:k=1
  ·subst k1;have p:=wp l hl n (⟨#[]⟩++t) 0;have d:=pl l ⟨n,⟨#[]⟩++t,0⟩ hl;have et:(⟨#[]⟩:aq)++t=t:=ka;rw[show decide ((-1:ay)≥0)=ao from rfl,az,aE (show(1:ay)=1 from rfl),aw,aE (show(⟨#[]⟩:aq).size+t.size<=4611686018427387904 from by rw[show(⟨#[]⟩:aq).size=0 from rfl];omega),aw,p.1,p.2,aw,d.1,d.2,aw,fin,et];rfl
  ·rw[show decide ((-1:ay)≥0)=ao from rfl,az,aK k1,az,a_ k1];rfl
 ·have hf:(el l i).n=n:=by have:=CG e2;exact ca this
  have Ej:=rn _ (kO hi);rw[e1,e2];dsimp only;rw[aK (show¬((i:aG):ay)<0 by omega),aE (show((i:aG):ay)≥0 by omega),aw];simp only[Lib.dJ,hi,aT,Lib.eK,wd0 hi,wd1 hi,wd2 hi,bJ,bS,aL,bK,aw,az];by_cases k1:k=1
  ·subst k1;have p:=wp l hl (el l i).n ((el l i).t++t) (el l i).kp;have d:=pl l ⟨(el l i).n,(el l i).t++t,(el l i).kp⟩ hl;rw[aE (show(1:ay)=1 from rfl),aw,aE (show(el l i).t.size+t.size<=4611686018427387904 by omega),aw,p.1,p.2,aw,d.1,d.2,aw,fin];rfl
  rw[aK k1,az,a_ k1];by_cases k2:k=2
  ·subst k2;have p:=wp l hl (el l i).n (el l i).t ((el l i).t.size:ay);have d:=pl l ⟨(el l i).n,(el l i).t,((el l i).t.size:ay)⟩ hl;rw[aE (show(2:ay)=2 from rfl),aw,p.1,p.2,aw,d.1,d.2,aw,fin];rfl
  rw[aK k2,az,a_ k2];by_cases k3:k=3
  ·subst k3;rw[aE (show(3:ay)=3 from rfl),aw,ba rfl];by_cases b1:(el l i).kp=((el l i).t.size:ay)
   ·rw[aK (show¬(el l i).kp<((el l i).t.size:ay)by omega),az,Lib.fP,nm];by_cases b2:o=n
    ·rw[aE b2,aw,ba (.inr b2)];rfl
    ·rw[aK b2,az,a_ (by rintro (h|h);exact h b1;exact b2 h)];by_cases b3:1<=(o.size:ay)/\(o.size:ay)<=8
     ·have p:=wp (without l n) (by omega) o (el l i).t (el l i).kp;have d:=pl (without l n) ⟨o,(el l i).t,(el l i).kp⟩ (by omega);rw[aE b3,a9,az,wo.1,wo.2,aw,p.1,p.2,aw,d.1,d.2,aw,fin]
     ·rw[aK b3];dsimp only;rw[O6 b3];rfl
   ·rw[aE (show(el l i).kp<((el l i).t.size:ay)by omega),aw,ba (.inl b1)];rfl
  rw[aK k3,az,a_ k3];have k4:k=4:=by omega
  subst k4;have d:=Ws (without l n) (by omega);rw[aE (show(4:ay)=4 from rfl),aw,wo.1,wo.2,aw,d.1,d.2,aw,fin]
end zf

namespace oO
open _root_.Go.FG.Lib (rd el Fi)
open dp (lL act ra Ac wa0 wa1 wa2 wa3 DU I9)
theorem ok(l:ax Fi)(a:ax Ac)(hl:l.length<=1000)(ha:a.length<=1000000)(ht:∀x∈a,x.t.size<=2305843009213693952):c (rd l) (ra a)=aj/\v (rd l) (ra a)=(rd (lL l 0 a).1,((lL l 0 a).2:ay)):=by
 refine out _ _ ?_;unfold vo b;rw[Lib.lB,eh,Lib.cE (by omega) (by omega),aw,show aR [Ck.s,Ck.s,Ck.i ar] 0++rd l=rd l from rfl]
 have key:∀(d i n:aG) (z:ay) (l:ax Fi),a.length-i<=d->i<=a.length->l.length<=1000->d<n->
   l3 Lib.cR (λ(_:Row) (y5 _:ay) (y7:Row)=>ah (y7,y5)) (λ(y8:Row) (_ _:ay) (rO:Row)=>ah (rO,(↑(bI y8):ay))) n (ra a) z (i:ay) (rd l)=ah (rd (lL l i (a.drop i)).1,((lL l i (a.drop i)).2:ay)):=by
  intro d
  induction d with
  |zero=>
   intro i n z l e1 e2 e3 e4;obtain⟨n,rfl⟩:∃n',n=n'+1:=⟨n-1,by omega⟩
   have:i=a.length:=by omega
   subst this;simp only[l3,r3,Lib.dJ,bB,bn,az,DU,cU,lL]
  |succ d ih=>
   intro i n z l e1 e2 e3 e4;obtain⟨n,rfl⟩:∃n',n=n'+1:=⟨n-1,by omega⟩
   by_cases hi:i<a.length
   ·have hd:=zf.ok l (el a i).k (el a i).n (el a i).t (el a i).o e3 (ht _ (kO hi));simp only[l3,r3,Lib.dJ,DU,hi,aT,Lib.c9,aL,aw,Lib.eK,wa0 hi,wa1 hi,wa2 hi,wa3 hi,bJ,bS,hd.1,hd.2,Lib.dn hi (by omega:a.length<=9223372036854775807)];rw[cQ hi,<-fy hi];unfold lL;cases hac:act l (el a i).k (el a i).n (el a i).t (el a i).o with
    |none=>rfl
    |some e=>have:=(I9 hac).2;exact ih (i+1) n z e (by omega) hi (by omega) (by omega)
   ·have:i=a.length:=by omega
    subst this;simp only[l3,r3,Lib.dJ,bB,bn,az,DU,cU,lL]
 exact key a.length 0 Lib.cR 0 l (by omega) (bC _) hl (c6 (by omega))
end oO

namespace A6
open _root_.Go.FG.Lib (rr rs re rf rc rd Px En el Ru Rv wf3 wf4)
open iO (Wo Ev closed)
open oG (dk es)
open jY (zh)
open iw (ri BL Cp oY)
open sK (cls oT)
theorem ok{i:aG}{w:Wo}(h:zh i w)(hi:i<=71)(k id:ay)(t:aq)(nn:ay)(left:Row)(h0:0<=nn):c w.p.now (re w.p.en) (rs w.p.w) (rs w.p.m) (rr w.p.s) w.p.a (rf w.p.fe) (rc w.p.cl) w.p.hits (rd (dk w.o)) (ri w.cd) (re w.bd) k id t nn left=aj/\v w.p.now (re w.p.en) (rs w.p.w) (rs w.p.m) (rr w.p.s) w.p.a (rf w.p.fe) (rc w.p.cl) w.p.hits (rd (dk w.o)) (ri w.cd) (re w.bd) k id t nn left=((closed w id (nn%1000000)).2,BL (closed w id (nn%1000000)).1):=by
 refine out _ _ _ _ _ _ _ _ _ _ _ _ _ _ _ _ _ ?_;have hl:0<=nn%1000000/\nn%1000000<=999999:=by omega
 have hm:bZ nn 1000000=nn%1000000:=iJ h0;have hbd:=h.bd;have VD:=h.tx hi;have hdl:=oG.NY w.o;have A:=Bb.ok w.p id (nn%1000000) (oY h.px);obtain⟨q1,q2⟩:=jY.NU (f:=id) h.px hl;obtain⟨s1,s2⟩:=sK.NV (p:=w.p) (f:=id) (life:=nn%1000000);have mD:=oY q1;unfold vo b;rw[hm];generalize nn%1000000=life at*
 rw[A.1,aw,A.2,iw.lt_eq];unfold closed BL;dsimp only;rw[<-s1,<-s2];generalize cls w.p id life=Q at q1 q2 s1 s2 mD;obtain⟨q,ok⟩:=Q;dsimp only at q1 q2 s1 s2 mD⊢;rcases q2 with ⟨r1,r2⟩|⟨r1,n,rn,hn,rf_,rs_,rl⟩
 ·subst r1;rfl
 subst r1;rw[aw,bK];by_cases hz:life=0
 ·rw[aK (show¬life>0 by omega)];rfl
 rw[aE (show life>0 by omega),aw,aw];obtain⟨t1,t2⟩:=rl (by omega);have Bl:n<q.fe.length:=by rw[rf_,dt];exact hn
 have Rh:el q.fe n={el w.p.fe n with sta:=2,li:=life,st:=w.p.now}:=by rw[rf_,gV.qZ hn]
 subst rn;rw[dD];have C:=Bc.ok (el q.fe n).k (el q.fe n).st (el q.fe n).li (el q.fe n).t;have hE:ie.v (el q.fe n).k (el q.fe n).st (el q.fe n).li (el q.fe n).t=true:=by rw[Rh];exact t1
 have Y7:=jY.Oa (e:=oT (el q.fe n)) hE;rw[i_.val,ba hE,show i_.lL (e_.fr (jb.qN (el q.fe n).k (el q.fe n).st (el q.fe n).li (el q.fe n).t))=dp.ra (jX.wX (jX.Hv (oT (el q.fe n))))from rfl]at C;have D:=oO.ok (dk w.o) (jX.wX (jX.Hv (oT (el q.fe n)))) (by omega) (by unfold jX.wX;simp) (λx hx=>by
  unfold jX.wX at hx;simp only[b7,qE,or_false]at hx;rcases hx with rfl|rfl
  ·show(jX.Hv (oT (el q.fe n))).size<=_;omega
  ·exact bC _)
 rw[oG.Sf (by omega)]at D;have room:∀y,cF ((re w.bd).length+(aF (aR [Ck.s,Ck.i ar,Ck.i ar,Ck.s] 1) 0 y).length) 48=true:=λy=>by rw[ff,iw.sd];exact Lib.cE (by omega) (by omega)
 have sn:=Cp w.bd (oT (el q.fe n));unfold oT at sn C D;dsimp only at sn;have aee:cF ((aR [Ck.s,Ck.i ar,Ck.i ar,Ck.s] 0).length+(re w.bd).length) 48=true:=by rw[ff];exact Lib.cE (by show(0+w.bd.length)*48<=_;omega) (by show 0+w.bd.length<=_;omega)
 simp only[iw.lt_eq,iw.anN,aee,gf,Lib.dJ,Bl,aT,Lib.c9,aL,aw,Lib.eK,Ru Bl,Rv Bl,wf3 Bl,wf4 Bl,bJ,bS,C.1,C.2,D.1,D.2,room,sn,show oT (el q.fe n)=⟨(el q.fe n).k,(el q.fe n).st,(el q.fe n).li,(el q.fe n).t⟩from rfl];rfl
end A6

namespace A7
open _root_.Go.FG.Lib (rr rs re rf rc Px el)
open gV (uS Gy told jm ve qZ L6)
theorem ok(p:Px)(f:ay)(hp:p.Fit 1048576):c p.now (re p.en) (rs p.w) (rs p.m) (rr p.s) p.a (rf p.fe) (rc p.cl) p.hits f=aj/\v p.now (re p.en) (rs p.w) (rs p.m) (rr p.s) p.a (rf p.fe) (rc p.cl) p.hits f=(p.now,re p.en,rs p.w,rs p.m,rr p.s,p.a,rf (Gy p f).1.fe,rc (Gy p f).1.cl,p.hits,(Gy p f).2):=by
 have h1:=j7.ok p hp;have h2:=sG.ok p f hp;have hf:=hp.fe;have hc:=hp.cl;refine out _ _ _ _ _ _ _ _ _ _ ?_;unfold vo b Gy;simp only[Lib.lt,h1.1,h1.2,h2.1,h2.2,aw];cases ho:uS p f with
 |false=>rfl
 |true=>
  obtain⟨n,rfl,hn,_,_⟩:=jm ho;have e1:=L6 p.fe n 2 [CV.i ar 3] {el p.fe n with sta:=3} hn rfl;have Bl:n<(p.fe.set n {el p.fe n with sta:=3}).length:=by rw[dt];exact hn
  have h3:=qF.ok {p with fe:=p.fe.set n {el p.fe n with sta:=3}} n 3 Bl (by rw[dt];omega) (by dsimp only;omega);dsimp only at h3;rw[qZ hn]at h3;simp only[a9,az,aw,Lib.c9,Lib.dJ,gf,hn,aT,aL,Lib.eK,e1,h3.1,h3.2];rfl
end A7

namespace uk
open _root_.Go.FG.Lib (rd Fi En el wd0 wd1 wd2)
open dp (rB)
open oG (dk es)
open jX (tx base)
theorem one(f:Fi)(left:Row)(h:rB [f]=aj)(hk:f.kp=(f.t.size:ay)):c (rd [f]) left=aj/\v (rd [f]) left=(rd [f],aj):=by
 have h1:=eO.ok (rd [f]) (by rw[eh];simp);refine out _ _ ?_;unfold vo b;rw[h1.1,aw,h1.2,show eO.val (rd [f])=aj from h,a9,az];have h0:0<[f].length:=by simp
 have c0:au (rd [f]) 0 0=CV.s f.n:=wd0 (l:=[f]) h0;have c1:au (rd [f]) 0 1=CV.s f.t:=wd1 (l:=[f]) h0;have c2:au (rd [f]) 0 (1+1)=CV.i ar f.kp:=wd2 (l:=[f]) h0;have ib:gU 0 (f.t.size:ay) (f.t.size:ay)=true:=by simp[gU]
 have ex:bc f.t 0 (aY (f.t.size:ay))=f.t:=Lib.Jj f.t;have w1:bN (0+1)=1:=rfl;have L:(rd [f]).length=1:=rfl;have step:∀(N m:aG),l5 Lib.cR (λ_ _ _=>ah (([]:Row),aj)) (λ_ _ _ AW=>ah (AW,aj)) (m+1) left 0 (rd [f])=l5a Lib.cR (λ_ _ _=>ah (([]:Row),aj)) (λ_ _ _ AW=>ah (AW,aj)) m left 1 (rd [f]) (rd [f]):=by
  intro N m;have t0:aY 0=0:=rfl;simp only[l5,r5,L,t0];generalize bS (au left 0 0)=z;simp only[c0,c1,c2,bJ,bS,hk,ib,ex,w1];rw[show decide ((0:ay)<((1:aG):ay))=aj from rfl,aw,show(decide ((0:ay)<=0)&&aj)=aj from rfl,aw];have fin:([]++aF (aR [Ck.s,Ck.s,Ck.i ar] 1) 0 [CV.s f.n,CV.s f.t,CV.i ar (f.t.size:ay)]:Row)=rd [f]:=by
   unfold Lib.rd;rw[eR];show [[CV.s f.n,CV.s f.t,CV.i ar (f.t.size:ay)]]=[Fi.row f]
   unfold Fi.row;rw[hk]
  simp only[fin];by_cases hl:(0:ay)<(left.length:ay)
  ·simp only[aE hl,aw,show decide ((0:ay)<=0)=aj from rfl,aL];by_cases a:z>(f.t.size:ay)
   ·simp only[aE a,aw,aK (show¬(f.t.size:ay)<(f.t.size:ay)by omega),az]
   ·by_cases b:z<(f.t.size:ay)
    ·simp only[aK a,az,aE b,aw]
    ·have e:z=(f.t.size:ay):=by omega
     simp only[aK a,az,aK b,e,ib,ex,fin,aw,show decide ((f.t.size:ay)<(f.t.size:ay))=ao from aK (by omega),show decide ((f.t.size:ay)>(f.t.size:ay))=ao from aK (by omega)]
  ·simp only[aK hl,az,aw,aK (show¬(f.t.size:ay)<(f.t.size:ay)by omega)];try rw[aK (show¬(0:ay)>(f.t.size:ay)by omega),az]
   by_cases b:(0:ay)<(f.t.size:ay)
   ·rw[aE b,aw]
   ·rw[aK b,az];have e:(f.t.size:ay)=0:=by omega
    rw[e]at ex fin;rw[show(0:ay).toNat=0 from rfl]at ex;rw[ex,fin]
 have last:∀(m:aG),l5a Lib.cR (λ_ _ _=>ah (([]:Row),aj)) (λ_ _ _ AW=>ah (AW,aj)) (m+1) left 1 (rd [f]) (rd [f])=ah (rd [f],aj):=by intro m;simp only[l5a,r5a,L,show decide ((1:ay)<((1:aG):ay))=ao from rfl,az]
 obtain⟨n,hn⟩:∃n,Lib.cR=n+2:=⟨Lib.cR-2,by have:=c6 (n:=2) (by omega);omega⟩
 have key:∀N,N=n+2->l5 Lib.cR (λ_ _ _=>ah (([]:Row),aj)) (λ_ _ _ AW=>ah (AW,aj)) N left 0 (rd [f])=ah (rd [f],aj):=by rintro N rfl;rw[step Lib.cR (n+1),last n]
 exact key _ hn
theorem ok{o:aA (ax En)}(h:(tx (es o)).size<=20000)(left:Row):c (rd (dk o)) left=aj/\v (rd (dk o)) left=(rd (dk o),aj):=by
 cases o with
 |some l=>exact one _ left (oG.Jh h) rfl
 |none=>
  have hd:rB []=true:=oG.Jh (o:=ai) h;have h1:=eO.ok (rd []) (by rw[eh];simp);refine out _ _ ?_;unfold vo b;show(bif eO.c (rd [])then bif !eO.v (rd [])then _ else l5 Lib.cR _ _ Lib.cR left 0 (rd [])else ai)=_;rw[h1.1,aw,h1.2,show eO.val (rd [])=aj from hd,a9,az];obtain⟨n,hn⟩:∃n,Lib.cR=n+1:=⟨Lib.cR-1,by have:=c6 (n:=1) (by omega);omega⟩
  have key:∀N,N=n+1->l5 Lib.cR (λ_ _ _=>ah (([]:Row),aj)) (λ_ _ _ AW=>ah (AW,aj)) N left 0 (rd [])=ah (rd [],aj):=by rintro N rfl;rfl
  exact key _ hn
end uk

namespace my
open _root_.Go.FG.Lib (rr rs re rf rc Px En el xX AQ AR AU)
open gW (Am xT one DD F9 Du p0)
theorem ok(now:ay)(l:ax En)(hl:l.length<=1048576):
  c now (re l)=aj/\v now (re l)=(now,re (Am now l).en,rs (Am now l).w,rs (Am now l).m,rr (Am now l).s,(Am now l).a,[],[],0):=by
 refine out _ _ ?_;unfold vo b;have key:=jO l.length (λn (i:aG) (p:Px)=>l4 Lib.cR (λ(_:ay) (_:Row) (_ _ _ _ y22 y23 y24:ay) (y25 XB KA UK UL y30:Row)=>ah (y22,y25,XB,KA,UK,y23,UL,y30,y24)) n now (re l) (i:ay) 0 0 0 now p.a 0 (re p.en) (rs p.w) (rs p.m) (rr p.s) [] []) (λi=>Am now (l.take i)) (ah (now,re (Am now l).en,rs (Am now l).w,rs (Am now l).m,rr (Am now l).s,(Am now l).a,[],[],0)) (λn i hi=>by
  have I:=DD now l i (by omega);have hs:=F9 now l i hi;generalize Am now (l.take i)=p at I hs;rw[hs];unfold one;have hw:bN ((i:ay)+1)=((i+1:aG):ay):=Lib.dn hi (by omega);have Jy:sE.v (el l i).k (el l i).st (el l i).li (el l i).bo now=xT (el l i) now:=(sE.eq _ _ _ _ _).symm;cases hf:xT (el l i) now with
  |false=>
   rw[hf]at Jy;cases hq:ie.v (el l i).k (el l i).st (el l i).li (el l i).bo with
   |false=>simp only[l4,r4,ff,Lib.dJ,hi,aT,Lib.c9,aL,aw,Lib.eK,xX hi,AQ hi,AR hi,AU hi,bJ,bS,hq,az,hw]
   |true=>simp only[l4,r4,ff,Lib.dJ,hi,aT,Lib.c9,aL,aw,Lib.eK,xX hi,AQ hi,AR hi,AU hi,bJ,bS,hq,Jy,az,hw]
  |true=>rw[hf]at Jy;have hq:=Du hf;have hk:=(ie.DX hq).1;have h4:=v_.ok p (el l i) [] [] (I.fit (by omega) (by omega)) I.so I.ks (by omega);rw[I.now,I.hits]at h4;simp only[l4,r4,Lib.lt,ff,Lib.dJ,hi,aT,Lib.c9,aL,aw,Lib.eK,xX hi,AQ hi,AR hi,AU hi,bJ,bS,hq,Jy,h4.1,h4.2,hw]) (λn=>by
  simp only[l4,r4,ff,Lib.dJ,bB,bn,az,d_]) Lib.cR 0 (bC _) (c6 (by omega))
 exact key
end my

namespace ui
open _root_.Go.FG.Lib (rr rs re rf rc rd Px En el xX AQ AR AU)
open iO (Wo Ev Hp pj)
open oG (dk es)
open jY (zh)
open iw (ri BL Cp oY)
theorem walk(N:aG)(L:ax En)(hL:L.length<=1048576)(hN:L.length<N)(K0 K1:ay->ay->ay->ay->Row->Row->Row->Row->Row->Row->Row->Row->Row->Row->Row->aA R)(now a5 a8:ay)(q1 q2 q3 q4 q6 q7 q9 GI q11:Row):
  l7 N K0 K1 N 0 now a5 a8 (re L) (re []) q1 q2 q3 q4 q6 q7 q9 GI q11=K0 (L.length:ay) now a5 a8 (re L) (re (L.filter λe=>gW.xT e now)) q1 q2 q3 q4 q6 q7 q9 GI q11:=by
 have hw:∀i,i<L.length->bN ((i:ay)+1)=((i+1:aG):ay):=λi h=>Lib.dn h (by omega)
 have key:=BU L (λe=>gW.xT e now) (λm (i:aG) acc=>l7 N K0 K1 m (i:ay) now a5 a8 (re L) (re acc) q1 q2 q3 q4 q6 q7 q9 GI q11) (λacc=>K0 (L.length:ay) now a5 a8 (re L) (re acc) q1 q2 q3 q4 q6 q7 q9 GI q11) []
  (λm i acc hi ha hp=>by rw[<-fy hi]at hp⊢;unfold gW.xT at hp;rw[sE.eq]at hp;simp only[l7,r7,ff,Lib.dJ,hi,aT,Lib.c9,aL,aw,Lib.eK,xX hi,AQ hi,AR hi,AU hi,bJ,bS,hp,hw i hi,iw.sd,iw.Cp];rw[Lib.cE (by simp at ha;omega) (by simp at ha;omega),aw])
  (λm i acc hi hp=>by rw[<-fy hi]at hp;unfold gW.xT at hp;rw[sE.eq]at hp;simp only[l7,r7,ff,Lib.dJ,hi,aT,Lib.c9,aL,aw,Lib.eK,xX hi,AQ hi,AR hi,AU hi,bJ,bS,hp,hw i hi,az])
  (λm acc=>by simp only[l7,r7,ff,Lib.dJ,bB,bn,az])
  N hN
 exact key
theorem ok{i:aG}{w:Wo}(h:zh i w)(hi:i<=71)(k id:ay)(t:aq)(n:ay)(left:Row):c w.p.now (re w.p.en) (rs w.p.w) (rs w.p.m) (rr w.p.s) w.p.a (rf w.p.fe) (rc w.p.cl) w.p.hits (rd (dk w.o)) (ri w.cd) (re w.bd) k id t n left=aj/\v w.p.now (re w.p.en) (rs w.p.w) (rs w.p.m) (rr w.p.s) w.p.a (rf w.p.fe) (rc w.p.cl) w.p.hits (rd (dk w.o)) (ri w.cd) (re w.bd) k id t n left=BL (Hp w):=by
 refine out _ _ _ _ _ _ _ _ _ _ _ _ _ _ _ _ _ ?_;have VD:=h.tx hi;have hlen:=h.len hi;have hdl:=oG.NY w.o;have A:=uk.ok (o:=w.o) (by omega) left;have B:=(oG.ab6 (o:=w.o) (by omega) h.eo).2;have Vv:=jX.OQ (es w.o);have hf:=jY.Ju h.eo;have Ml:=jY.Fk w;have htf:=jY.Xl _ hf;have C:=lK.ok (rd (dk w.o)) (re (pj w)) (by rw[eh];omega) (by rw[ff];omega);rw[oG.ab5 (by omega) hf]at C;have D:=oO.ok (dk w.o) (tZ.wP (jX.tx (pj w))) (by omega) (by unfold tZ.wP;simp) (λx hx=>by
  unfold tZ.wP at hx;simp only[b7,qE,or_false]at hx;rcases hx with rfl|rfl|rfl
  ·show(jX.tx (pj w)).size<=_;omega
  ·exact bC _
  ·exact bC _)
 rw[oG.Sd (by omega) (by omega)]at D;have E:=my.ok w.p.now (pj w) (by omega);unfold vo;generalize hN:Lib.cR=N;have jj:(jX.kp (es w.o)).length<N:=by rw[<-hN];exact c6 (by omega)
 clear hN;unfold b;rw[A.1,aw,A.2,iw.lt_eq];rw[show(rd (dk w.o),aj).2=aj from rfl,aw,show(rd (dk w.o),aj).1=rd (dk w.o)from rfl];rw[B.1,aw,B.2,iw.lt_eq,show aR [Ck.s,Ck.i ar,Ck.i ar,Ck.s] 0=re []from rfl,walk N (jX.kp (es w.o)) (by omega) jj];have e:((kpp:ax En)->kpp=jX.kp (es w.o)->kpp.filter (λe=>gW.xT e w.p.now)=pj w):=λ_ h=>by subst h;rfl
 rw[e _ rfl];simp only[iw.lt_eq,C.1,C.2,D.1,D.2,E.1,E.2,aw];have hinv:=gW.DD w.p.now (pj w) (pj w).length (bR _);rw[d_]at hinv;unfold BL Hp;dsimp only;rw[hinv.now,hinv.fe,hinv.cl,hinv.hits];rfl
end ui

namespace Rb
open _root_.Go.FG.Lib (rr rs re rf rc rd Px En el)
open iO (Wo Ev closed Hp pj kl flag)
open oG (dk es)
open jY (zh)
open iw (ri BL Cp oY)
theorem fl(b:aU):xM.v b=flag b:=by cases b<;>rfl
theorem left(l:ax Lib.Cl)(id:ay):decide ((((l.filter λc=> !decide (c.id=id)).length:aG):ay)<(l.length:ay))=fU.oy l id:=by
 unfold fU.oy;cases h:l.any λx=>decide (x.id=id)with
 |true=>
  obtain⟨x,hx,hp⟩:=List.any_eq_true.1 h;have:(l.filter λc=> !decide (c.id=id)).length<l.length:=by rw[List.length_filter_lt_length_iff_exists];exact⟨x,hx,by simpa using hp⟩
  exact aE (by omega)
 |false=>
  rw[List.any_eq_false]at h;have:l.filter (λc=> !decide (c.id=id))=l:=fX.2 λx hx=>by have:=h x hx;simpa using this
  rw[this];exact aK (by omega)
theorem ok{i:aG}{w:Wo}{e:Ev}(h:zh i w)(hi:i<=71)(he:kl e=aj):c w.p.now (re w.p.en) (rs w.p.w) (rs w.p.m) (rr w.p.s) w.p.a (rf w.p.fe) (rc w.p.cl) w.p.hits (rd (dk w.o)) (ri w.cd) (re w.bd) e.k e.id e.t e.n e.l=aj/\v w.p.now (re w.p.en) (rs w.p.w) (rs w.p.m) (rr w.p.s) w.p.a (rf w.p.fe) (rc w.p.cl) w.p.hits (rd (dk w.o)) (ri w.cd) (re w.bd) e.k e.id e.t e.n e.l=((iO.act w e).2,BL (iO.act w e).1):=by
 unfold kl at he;simp only[aJ,aZ]at he;obtain⟨hk,Gz,ht,hn,hl⟩:=he;have hp:=oY h.px;refine out _ _ _ _ _ _ _ _ _ _ _ _ _ _ _ _ _ ?_;unfold vo b iO.act;by_cases k1:e.k=1
 ·rw[aE k1,aw];have A:=uh.ok w.p e.id e.t hp (by omega);rw[A.1,aw,A.2,iw.lt_eq];try rfl
 rw[aK k1,az,az];by_cases k2:e.k=2
 ·rw[aE k2,aw];have A:=A4.ok w.p e.id e.t hp;rw[A.1,aw,A.2,iw.lt_eq,fl];unfold BL gV.GH;cases gV.uS w.p e.id&&(decide (1<=e.t.size/\e.t.size<=40)&&decide ((el w.p.fe e.id.toNat).t.size+e.t.size<=400))<;>rfl
 rw[aK k2,az,az];by_cases k3:e.k=3
 ·rw[aE k3,aw];have A:=A6.ok h hi e.k e.id e.t e.n e.l hn;rw[k3]at A;rw[k3,A.1,aw,A.2,iw.lt_eq];try rfl
 rw[aK k3,az,az];by_cases k4:e.k=4
 ·rw[aE k4,aw];have A:=A7.ok w.p e.id hp;rw[A.1,aw,A.2,iw.lt_eq,fl];unfold BL gV.Gy;cases gV.uS w.p e.id<;>rfl
 rw[aK k4,az,az];by_cases k5:e.k=5
 ·rw[aE k5,aw];have A:=ta.ok w.p e.n hp;rw[A.1,aw,A.2,iw.lt_eq];try rfl
 rw[aK k5,az,az];by_cases k6:e.k=6
 ·rw[aE k6,aw];have A:=tc.ok w.p e.id hp;rw[A.1,aw,A.2,iw.lt_eq,fl];dsimp only;rw[fc,fc,show(tc.val w.p e.id).cl=w.p.cl.filter (λc=> !decide (c.id=e.id))from rfl,left];try rfl
 rw[aK k6,az,az];have k7:e.k=7:=by omega
 rw[aE k7,aw];have A:=ui.ok h hi e.k e.id e.t e.n e.l;rw[k7]at A;rw[k7,A.1,aw,A.2,iw.lt_eq];try rfl
end Rb

namespace KO
open _root_.Go.FG.Lib (rr rs re rf rc rd Px En el)
open iO (Wo Ev closed Hp pj kl flag)
open oG (dk es)
open jY (zh)
open iw (ri BL Cp oY)
theorem Yh(w:Wo)(e:Ev):(iO.act w e).1.cd=w.cd:=by
 unfold iO.act closed;cases decide (e.k=1)<;>cases decide (e.k=2)<;>cases decide (e.k=3)<;>cases decide (e.k=4)<;>cases decide (e.k=5)<;>cases decide (e.k=6)<;>(try rfl)
 all_goals
  dsimp only[aw,az]
  cases (sK.cls w.p e.id (e.n%1000000)).2&&decide (e.n%1000000>0)<;>rfl
theorem ok{i:aG}{w:Wo}{e:Ev}(h:zh i w)(hi:i<=71)(he:kl e=aj):c w.p.now (re w.p.en) (rs w.p.w) (rs w.p.m) (rr w.p.s) w.p.a (rf w.p.fe) (rc w.p.cl) w.p.hits (rd (dk w.o)) (ri w.cd) (re w.bd) e.k e.id e.t e.n e.l=aj/\v w.p.now (re w.p.en) (rs w.p.w) (rs w.p.m) (rr w.p.s) w.p.a (rf w.p.fe) (rc w.p.cl) w.p.hits (rd (dk w.o)) (ri w.cd) (re w.bd) e.k e.id e.t e.n e.l=BL (iO.step w e):=by
 refine out _ _ _ _ _ _ _ _ _ _ _ _ _ _ _ _ _ ?_;have A:=Rb.ok h hi he;have hcd:=h.cd;unfold vo b;rw[A.1,aw,A.2,iw.lt_eq];have e1:(BL (iO.act w e).1).2.2.2.2.2.2.2.2.2.2.1=ri w.cd:=by unfold BL;rw[Yh]
 have r1:cF ((aR [Ck.i ar] 0).length+(ri w.cd).length) 8=true:=by rw[iw.j8];exact Lib.cE (by show(0+w.cd.length)*8<=_;omega) (by show 0+w.cd.length<=_;omega)
 have r2:cF ((ri w.cd).length+(aF (aR [Ck.i ar] 1) 0 [CV.i ar (iO.act w e).2]).length) 8=true:=by rw[iw.j8,iw.sd];exact Lib.cE (by omega) (by omega)
 show(bif cF ((aR [Ck.i ar] 0).length+((BL (iO.act w e).1).2.2.2.2.2.2.2.2.2.2.1).length) 8 then _ else ai)=_;simp only[e1,iw.anO,r1,r2,aw,iw.aem];rfl
end KO

namespace GP
open _root_.Go.FG.Lib (rr rs re rf rc rd Px En el)
open iO (Wo Ev kl)
open oG (dk es)
open jY (zh)
open iw (ri BL)
open AY (rv run)
open cZ (I)
open A_Post (iU)
theorem ids{p:Px}(h:qO.gd p):∀j,j<(rc p.cl).length->0<=bS (au (rc p.cl) j 0)/\bS (au (rc p.cl) j 0)<=30:=by
 intro j hj;have Rj:j<p.cl.length:=by rw[fc]at hj;exact hj
 have:=h.cl _ (kO Rj);unfold qO.EO at this;simp only[aJ,aZ]at this;rw[show au (rc p.cl) j 0=CV.i ar (el p.cl j).id from fQ _ p.cl j 0 Rj];show 0<=(el p.cl j).id/\(el p.cl j).id<=30;omega
theorem step{α:Type}{i:aG}{w:Wo}{X:ay×Row×Row×Row×Row×ay×Row×Row×ay×Row×Row×Row->aA α}{P:α->Prop}(e:Ev)(h:zh i w)(hi:i<=71)(he:kl e=aj)(hx:iU (X (BL (iO.step w e))) P):
  iU (bif KO.c w.p.now (re w.p.en) (rs w.p.w) (rs w.p.m) (rr w.p.s) w.p.a (rf w.p.fe) (rc w.p.cl) w.p.hits (rd (dk w.o)) (ri w.cd) (re w.bd) e.k e.id e.t e.n e.l then Lib.lt (KO.v w.p.now (re w.p.en) (rs w.p.w) (rs w.p.m) (rr w.p.s) w.p.a (rf w.p.fe) (rc w.p.cl) w.p.hits (rd (dk w.o)) (ri w.cd) (re w.bd) e.k e.id e.t e.n e.l) X else ai) P:=
 A_Post.call (KO.ok h hi he).1 (KO.ok h hi he).2 hx
end GP

namespace Mj
open _root_.Go.FG.Lib (rr rs re rf rc rd Px En el)
open iO (Wo Ev kl)
open oG (dk es)
open jY (zh)
open iw (ri BL)
open qO (gd)
open cZ (I)
open A_Post (iU)
end Mj

namespace abk
open cZ (I)
open A_Post (iU)
open iO (Ev kl)
open G8 (idA idB idC tA opens vo b)
def Dr(q e w m s fe cl dk cd bd:Row)(x:ay×ay×aq×ay×Row×Row×ay×ay×Row×Row×Row×Row×Row×Row×Row×Row×Row):Prop:=
 ∃k id t n a' s',x=(k,id,t,n,[],q,a',s',e,w,m,s,fe,cl,dk,cd,bd)/\I q a'/\kl ⟨k,id,t,n,[]⟩=aj/\(k<=6/\(k=2->xB.nt t=aj))
theorem leaf{q e w m s fe cl dk cd bd:Row}{k id:ay}{t:aq}{n a' s':ay}(hI:I q a')(hk:1<=k/\k<=6)(Gz:0<=id/\id<=30)(ht:t.size<=60)(hn:0<=n)(h1:k=2->xB.nt t=aj):iU (ah (k,id,t,n,([]:Row),q,a',s',e,w,m,s,fe,cl,dk,cd,bd)) (Dr q e w m s fe cl dk cd bd):=by
 refine⟨_,rfl,k,id,t,n,a',s',rfl,hI, ?_,hk.2,h1⟩
 unfold kl;rw[aE (show 1<=k/\k<=7 by omega),aE Gz,aE ht,aE hn];rfl
def TTb(t:aq):aU:=decide (t.size<=60)&&xB.nt t
theorem abT{t:aq}(h:TTb t=aj):t.size<=60:=by unfold TTb at h;rw[aJ]at h;exact ca h.1
theorem abS{t:aq}(h:TTb t=aj):xB.nt t=true:=by unfold TTb at h;rw[aJ]at h;exact h.2
theorem ne2{k m:ay}(h:decide (k=m)=aj)(t:aq)(hm:m≠2):k=2->xB.nt t=true:=λe=>b_ ((ca h).symm.trans e) hm
set_option maxHeartbeats 8000000 in
theorem body(q:Row)(a s:ay)(now:ay)(en w m sk:Row)(ag:ay)(fe cl:Row)(hits:ay)(dk cd bd:Row)(hI:I q a)(hf:fe.length<=20)(hc:∀j,j<cl.length->0<=bS (au cl j 0)/\bS (au cl j 0)<=30):iU (vo q a s now en w m sk ag fe cl hits dk cd bd) (Dr q en w m sk fe cl dk cd bd):=by
 unfold vo;generalize hN:Lib.cR=N;have hN1:20<N:=by rw[<-hN];exact c6 (by omega)
 unfold b;refine A_Post.Wu (λn=>1<=n/\n<=6) ⟨by decide,by decide⟩ hI (λkd a1 s1 I1 hk=> ?_);refine opens N _ _ _ _ _ _ _ _ _ _ _ _ _ _ _ _ _ _ _ _ _ _ _ _ _ _ _ hf (λl hl=> ?_) fe.length 0 N _ (by omega) (by omega) (by omega) (bC _) (λj hj=>b_ hj (Nat.not_lt_zero j));dsimp only
 repeat' first
  |refine A_Post.below (by assumption) (λn a s hI h0 h1=> ?_)
  |refine A_Post.once (by assumption) (λn a s hI=> ?_)
  |refine A_Post.key (by assumption) (λn a s hI h0=> ?_)
  |refine A_Post.Wu (λn=>0<=n) ⟨by decide,by decide⟩ (by assumption) (λn a s hI h0=> ?_)
  |refine A_Post.ad8 (λt=>TTb t=aj) ⟨by decide,by decide⟩ (by assumption) (λn a s hI h0=> ?_)
  |refine A_Post.ck (A_Post.idx (by assumption) (by assumption) (by assumption)) ?_
  |refine leaf (by assumption) (by first|exact hk|decide) (by first|exact idA (by assumption) (by assumption)|exact idB (by assumption) (by assumption)|exact idC hl (by assumption) (by assumption) (by assumption)|exact idC hc (by assumption) (by assumption) (by assumption)|decide) (by first|exact bC _|exact abT (by assumption)|exact tA (by assumption)) (by first|exact Int.le_refl 0|assumption) (by first|exact λ_=>rfl|exact λ_=>abS (by assumption)|exact λe=>b_ e (by decide)|exact ne2 (m:=1) (by assumption) _ (by decide))
  |refine A_Post.br (λh=> ?_) (λh=> ?_)
end abk

namespace abl
open _root_.Go.FG.Lib (rr rs re rf rc rd Px En el)
open iO (Wo Ev kl)
open oG (dk es)
open jY (zh)
open iw (ri BL)
open qO (gd)
open cZ (I)
open A_Post (iU)
open Mj (l3 r3 vo b c v out)
open xB (NN nt)
theorem ev1{e:Ev}(h:kl e=aj):1<=e.k:=by unfold iO.kl at h;simp only[aJ,aZ]at h;exact h.1.1
theorem adg{α:Type}{i:aG}{w:Wo}{q:Row}{a s:ay}{X:ay×ay×aq×ay×Row×Row×ay×ay×Row×Row×Row×Row×Row×Row×Row×Row×Row->aA α}{P:α->Prop}(h:zh i w)(hI:I q a)
  (hx:∀k id t n a' s',I q a'->kl ⟨k,id,t,n,[]⟩=aj->k<=6->(k=2->nt t=aj)->iU (X (k,id,t,n,[],q,a',s',re w.p.en,rs w.p.w,rs w.p.m,rr w.p.s,rf w.p.fe,rc w.p.cl,rd (dk w.o),ri w.cd,re w.bd)) P):
  iU (bif G8.c q a s w.p.now (re w.p.en) (rs w.p.w) (rs w.p.m) (rr w.p.s) w.p.a (rf w.p.fe) (rc w.p.cl) w.p.hits (rd (dk w.o)) (ri w.cd) (re w.bd)then Lib.lt (G8.v q a s w.p.now (re w.p.en) (rs w.p.w) (rs w.p.m) (rr w.p.s) w.p.a (rf w.p.fe) (rc w.p.cl) w.p.hits (rd (dk w.o)) (ri w.cd) (re w.bd)) X else ai) P:=by obtain⟨x,e,k,id,t,n,a',s',rfl,h1,h2,h3,h4⟩:=abk.body q a s w.p.now (re w.p.en) (rs w.p.w) (rs w.p.m) (rr w.p.s) w.p.a (rf w.p.fe) (rc w.p.cl) w.p.hits (rd (dk w.o)) (ri w.cd) (re w.bd) hI (by rw[gf];exact h.px.fl) (GP.ids h.px);obtain⟨c1,v1⟩:=G8.out _ _ _ _ _ _ _ _ _ _ _ _ _ _ _ e;exact A_Post.call c1 v1 (hx k id t n a' s' h1 h2 h3 h4)
theorem walk{P:R->Prop}(N:aG)(q:Row)(K:ay->Row->ay->ay->ay->ay->ay->ay->ay->ay->Row->Row->Row->Row->Row->Row->Row->Row->Row->aA R)
  (hK:∀(x:ay) (w:Wo) (a s:ay),gd w.p->NN w.p->I q a->iU (K x q a s 0 0 0 w.p.now w.p.a w.p.hits (re w.p.en) (rs w.p.w) (rs w.p.m) (rr w.p.s) (rf w.p.fe) (rc w.p.cl) (rd (dk w.o)) (ri w.cd) (re w.bd)) P):
  ∀(d i n:aG) (w:Wo) (a s:ay),30-i<=d->i<=30->d<n->zh i w->NN w.p->I q a->
   iU (l3 N K n (i:ay) q a s 0 0 0 w.p.now w.p.a w.p.hits (re w.p.en) (rs w.p.w) (rs w.p.m) (rr w.p.s) (rf w.p.fe) (rc w.p.cl) (rd (dk w.o)) (ri w.cd) (re w.bd)) P:=by
 intro d;induction d with
 |zero=>
  intro i n w a s h1 h2 h3 h4 hn h5;obtain⟨n,rfl⟩:∃k,n=k+1:=⟨n-1,by omega⟩
  rw[show l3 N K (n+1)=r3 N (l3 N K n) K from rfl];unfold r3;refine A_Post.below h5 (λx a1 s1 I1 g0 g1=> ?_);have:=g1 (by omega);exact A_Post.cn (aK (by dsimp only;omega)) (hK _ w _ _ h4.px hn I1)
 |succ d ih=>
  intro i n w a s h1 h2 h3 h4 hn h5;obtain⟨n,rfl⟩:∃k,n=k+1:=⟨n-1,by omega⟩
  rw[show l3 N K (n+1)=r3 N (l3 N K n) K from rfl];unfold r3;refine A_Post.below h5 (λx a1 s1 I1 g0 g1=> ?_);have:=g1 (by omega);by_cases h:(i:ay)<x
  ·have m8:bN ((i:ay)+1)=((i+1:aG):ay):=dj (by omega) (by omega);refine A_Post.ck (aE (by dsimp only;omega)) ?_;refine adg h4 I1 (λk id t n0 a2 s2 I2 he hk ht=> ?_);refine GP.step ⟨k,id,t,n0,[]⟩ h4 (by omega) he ?_;have:=ih (i+1) n (iO.step w ⟨k,id,t,n0,[]⟩) a2 s2 (by omega) (by omega) (by omega) (jY.yQ h4 he) (xB.Uw h4.px hn hk (ev1 he) ht) I2;rw[m8];exact this
  ·exact A_Post.cn (aK (by dsimp only;omega)) (hK _ w _ _ h4.px hn I1)
theorem run{q:Row}{a s:ay}(hI:I q a):iU (vo q a s) (λx=>∃(p:Px) (a' s':ay),gd p/\NN p/\I q a'/\x=(p.now,re p.en,rs p.w,rs p.m,rr p.s,p.a,rf p.fe,rc p.cl,p.hits,q,a',s')):=by
 unfold vo;generalize hN:Lib.cR=N;have hN1:30<N:=by rw[<-hN];exact c6 (by omega)
 clear hN;unfold b;exact walk N q _ (λx w a1 s1 h hn I1=>A_Post.ret ⟨w.p,a1,s1,h,hn,I1,rfl⟩) 30 0 N AY.w0 a s (bR _) (bC _) hN1 AY.afd ⟨λf h=>(by cases h),λe h=>(by cases h),λe h=>(by cases h)⟩ hI
theorem ok{q:Row}{a s:ay}(hI:I q a):∃(p:Px) (a' s':ay),gd p/\NN p/\I q a'/\c q a s=aj/\v q a s=(p.now,re p.en,rs p.w,rs p.m,rr p.s,p.a,rf p.fe,rc p.cl,p.hits,q,a',s'):=by obtain⟨x,hx,p,a',s',h1,hn,h2,rfl⟩:=run (s:=s) hI;obtain⟨c1,v1⟩:=out _ _ _ hx;exact⟨p,a',s',h1,hn,h2,c1,v1⟩
end abl

namespace Q_
open _root_.Go.FG.Lib (rr rs re rf rc Px)
open qO (gd)
theorem ok(code:Row)(hc:code.length<=1048576):∃p:Px,gd p/\xB.NN p/\c code=aj/\v code=(p.now,re p.en,rs p.w,rs p.m,rr p.s,p.a,rf p.fe,rc p.cl,p.hits):=by obtain⟨h,c0,v0⟩:=Mi.ok code hc;obtain⟨p,a',s',h1,hn,h2,c1,v1⟩:=abl.ok (q:=code) (a:=0) (s:=h) ⟨Int.le_refl _,Int.natCast_nonneg _,hc⟩;obtain⟨c2,v2⟩:=out code (x:=(p.now,re p.en,rs p.w,rs p.m,rr p.s,p.a,rf p.fe,rc p.cl,p.hits)) (by unfold vo b;rw[c0,aw,v0,iw.lt_eq,c1,aw,v1,iw.lt_eq]);exact⟨p,h1,hn,c2,v2⟩
end Q_

namespace KK
open _root_.Go.FG.Lib (Cl rc el)
open du (shown ln room Bf sp LC)
theorem step(K:aq->Row->ay->ay->aA R)(l:ax Cl)(hr:room l<=1000000000)(ho:∀c∈l,Bf c)(m i:aG)(h:i<l.length):
  l3 Lib.cR K (m+1) (shown (l.take i)) (rc l) (l.length:ay) (i:ay)=l3 Lib.cR K m (shown (l.take (i+1))) (rc l) (l.length:ay) ((i+1:aG):ay):=by
 have hc:=ho _ (kO h);have d1:=du.dec _ (du.lD hc.1);have d2:=du.dec _ (du.lD hc.2);have s1:=mo.qa _ (du.lD hc.1).1 (du.lD hc.1).2;have s2:=mo.qa _ (du.lD hc.2).1 (du.lD hc.2).2;have s3:=du.Kj (el l i).sta;have s4:=du.Al l i h;have s5:(shown (l.take i)).size<=room l:=cm (du.qk _ (λc hc=>ho c (kh hc))) (du.wB l i);rw[show l3 Lib.cR K (m+1)=r3 Lib.cR (l3 Lib.cR K m) K from rfl];unfold r3;have hl:l.length<=1000000000:=by
  have:∀l:ax Cl,l.length<=room l:=by
   intro l;induction l with
   |nil=>exact bR _
   |cons c r ih=>unfold room;simp only[bU];omega
  exact cm (this l) hr
 rw[du.take_succ l i h,show bN ((i:ay)+1)=((i+1:aG):ay)from dj (by omega) (by omega),fc];unfold du.ln;simp only[dD,Rt h,UD h,UE h,UF h,bS,bJ,du.ms,d1.1,d1.2,d2.1,d2.2,aw,aE (show(i:ay)<(l.length:ay)by omega),aE (show 0<=(i:ay)by omega),aL,Lib.dX,show sp.size=1 from rfl,show LC.size=1 from rfl,show EC.v (el l i).sta=du.st (el l i).sta from rfl];rw[aE (by omega),aE (by omega),aE (by omega),aE (by omega),aE (by omega),aE (by omega),aE (by omega),aE (by omega)];rfl
theorem ok(i0:ay)(q1 q2 q3 q4:Row)(i5:ay)(q6:Row)(l:ax Cl)(i8:ay)(hr:room l<=1000000000)(ho:∀c∈l,Bf c):c i0 q1 q2 q3 q4 i5 q6 (rc l) i8=aj/\v i0 q1 q2 q3 q4 i5 q6 (rc l) i8=shown l:=by
 refine out _ _ _ _ _ _ _ _ _ ?_;unfold vo b;rw[fc];have hl:l.length<=1000000000:=by
  have:∀l:ax Cl,l.length<=room l:=by
   intro l;induction l with
   |nil=>exact bR _
   |cons c r ih=>unfold room;simp only[bU];omega
  exact cm (this l) hr
 have key:=jO l.length (λm (i:aG) (x:aq)=>l3 Lib.cR (λy4 (_:Row) (_ _:ay)=>ah y4) m x (rc l) (l.length:ay) (i:ay)) (λi=>shown (l.take i)) (ah (shown l)) (λm i h=>step _ l hr ho m i h) (λm=>by rw[show l3 Lib.cR (λy4 (_:Row) (_ _:ay)=>ah y4) (m+1)=r3 Lib.cR (l3 Lib.cR (λy4 (_:Row) (_ _:ay)=>ah y4) m) (λy4 (_:Row) (_ _:ay)=>ah y4)from rfl];unfold KK.r3;rw[aK (by omega),az,d_]) Lib.cR 0 (bC _) (c6 (by omega));exact key
end KK

namespace qP
open _root_.Go.FG.Lib (rs)
open ua (sp mk GG bt sz zC NW DJ)
def ne(x:aq):aU:=x.size !=0
def L9(c:eE):aU:=decide (32<=c.toNat)&&decide (c.toNat<=126)
def F(cur r:ax eE):ax aq:=((sp 32 cur r).map mk).filter ne
def W(s:aq):ax aq:=(GG 32 s).filter ne
def parts(s:aq):ax aq×aU:=
 bif decide (s.size<=600)&&s.data.toList.all L9&&decide ((W s).length<=10)then(W s,aj)else([],ao)
theorem Ih(c:eE):∀(r cur:ax eE),(sp c cur r).length<=r.length+1
 |[],_=>by simp[sp]
 |b::r,cur=>by
  rw[sp];split
  ·have:=Ih c r [];simp;omega
  ·have:=Ih c r (cur++[b]);simp;omega
theorem JW(c:eE)(s:aq):(GG c s).length<=s.size+1:=by unfold ua.GG;rw[bM];exact Ih c _ _
theorem D5(c:eE):∀(r cur:ax eE),∀x∈sp c cur r,x.length<=cur.length+r.length
 |[],cur,x,h=>by
  simp[sp]at h;subst h;simp
 |b::r,cur,x,h=>by
  rw[sp]at h;split at h
  ·rcases b7.1 h with rfl|h
   ·simp
   ·have:=D5 c r [] x h;simp at this⊢;omega
  ·have:=D5 c r (cur++[b]) x h;simp at this⊢;omega
theorem PF(c:eE)(s:aq):∀x∈GG c s,x.size<=s.size:=by intro x h;unfold ua.GG at h;obtain⟨l,hl,rfl⟩:=cD.1 h;have:=D5 c _ _ l hl;simp at this;exact this
theorem Nv(s:aq):∀x∈W s,0<x.size/\x.size<=s.size:=by
 intro x h;obtain⟨h1,h2⟩:=cJ.1 h;have:x.size≠0:=by simpa [ne]using h2
 exact⟨by omega,PF 32 s x h1⟩
theorem within(a b c:ay):qu.v a b c=(decide (b<=a)&&decide (a<=c)):=by unfold qu.v;cases h:decide (a≥b)<;>rfl
theorem bad{s:aq}{c:eE}(h:c∈s.data.toList)(hc:L9 c=ao):parts s=([],ao):=by
 unfold parts;have:s.data.toList.all L9=false:=by rw[List.all_eq_false];exact⟨c,h,by rw[hc];simp⟩
 rw[this];simp
theorem Nz{l:ax eE}{i:aG}(h:i<l.length)(ha:(l.take i).all L9=aj)(hv:L9 l[i]=aj):(l.take (i+1)).all L9=true:=by rw[cj h,U_,ha,mv,hv];rfl
end qP

namespace mK
open _root_.Go.FG.Lib (rs)
open AZ (kI)
open iO (Ev kl)
def WL:ax aq:=[⟨#[97,115,107]⟩,⟨#[112,97,114,116]⟩,⟨#[99,108,111,115,101]⟩,⟨#[98,114,101,97,107]⟩,⟨#[112,97,115,115]⟩,⟨#[108,101,97,118,101]⟩,⟨#[102,97,108,108]⟩]
def wd(i:aG):aq:=WL.getD i ⟨#[]⟩
def SL:ax ay:=[3,3,3,2,2,2,0]
def res(e:Ev)(b:aU):aA Ev:=bif b&&kl e then ah e else ai
def fz:ax aq->Row->Row×aU
 |[],acc=>(acc,aj)
 |x::r,acc=>bif(kI x).2 then fz r (acc++[[CV.i ar (kI x).1]])else(acc++[[CV.i ar (kI x).1]],ao)
def E(p:ax aq):aA Ev:=
 let w:=p.getD 0 ⟨#[]⟩
 let a:=kI (p.getD 1 ⟨#[]⟩)
 let t:=p.getD 2 ⟨#[]⟩
 if w=wd 0 then(if p.length=3 then res ⟨1,a.1,t,0,[]⟩ a.2 else ai)
 else if w=wd 1 then(if p.length=3 then res ⟨2,a.1,t,0,[]⟩ a.2 else ai)
 else if w=wd 2 then(if p.length=3 then res ⟨3,a.1,⟨#[]⟩,(kI t).1,[]⟩ (a.2&&(kI t).2)else ai)
 else if w=wd 3 then(if p.length=2 then res ⟨4,a.1,⟨#[]⟩,0,[]⟩ a.2 else ai)
 else if w=wd 4 then(if p.length=2 then res ⟨5,0,⟨#[]⟩,a.1,[]⟩ a.2 else ai)
 else if w=wd 5 then(if p.length=2 then res ⟨6,a.1,⟨#[]⟩,0,[]⟩ a.2 else ai)
 else if w=wd 6 then res ⟨7,0,⟨#[]⟩,0,(fz (p.drop 1) []).1⟩ (fz (p.drop 1) []).2
 else ai
theorem Yu(a b:aq):cu a.toList b.toList=decide (a=b):=by
 rw[_root_.Go.Lib.toList_data,_root_.Go.Lib.toList_data];show(a.data.toList==b.data.toList)=_;by_cases h:a=b
 ·subst h;simp
 ·rw[aK h];refine beq_eq_false_iff_ne.2 λe=>h ?_;have:=je List.toArray e;exact lh (by simpa using this)
theorem ajs:∀j k:Fin 7,wd j.val=wd k.val->j=k:=by decide+kernel
theorem jW{j k:aG}(hj:j<7)(hk:k<7)(h:j≠k):wd j≠wd k:=λe=>h (je Fin.val (ajs ⟨j,hj⟩ ⟨k,hk⟩ e))
theorem cS(p:ax aq)(i:aG):bJ (au (rs p) i 0)=p.getD i ⟨#[]⟩:=by unfold au Lib.rs;simp only[cM,bg];cases p[i]? <;>rfl
theorem dG(p:ax aq):(rs p).length=p.length:=by simp[Lib.rs]
theorem ri1(n:ay):aF (aR [Ck.i ar] 1) 0 [CV.i ar n]=[[CV.i ar n]]:=rfl
theorem E0{p:ax aq}(h:p.getD 0 ⟨#[]⟩=wd 0):E p=(if p.length=3 then res ⟨1,(kI (p.getD 1 ⟨#[]⟩)).1,p.getD 2 ⟨#[]⟩,0,[]⟩ (kI (p.getD 1 ⟨#[]⟩)).2 else ai):=by unfold E;dsimp only;rw[h,ba rfl]
theorem E1{p:ax aq}(h:p.getD 0 ⟨#[]⟩=wd 1):E p=(if p.length=3 then res ⟨2,(kI (p.getD 1 ⟨#[]⟩)).1,p.getD 2 ⟨#[]⟩,0,[]⟩ (kI (p.getD 1 ⟨#[]⟩)).2 else ai):=by unfold E;dsimp only;rw[h,a_ (jW (by omega) (by omega) (by omega)),ba rfl]
theorem E2{p:ax aq}(h:p.getD 0 ⟨#[]⟩=wd 2):E p=(if p.length=3 then res ⟨3,(kI (p.getD 1 ⟨#[]⟩)).1,⟨#[]⟩,(kI (p.getD 2 ⟨#[]⟩)).1,[]⟩ ((kI (p.getD 1 ⟨#[]⟩)).2&&(kI (p.getD 2 ⟨#[]⟩)).2)else ai):=by unfold E;dsimp only;rw[h,a_ (jW (by omega) (by omega) (by omega)),a_ (jW (by omega) (by omega) (by omega)),ba rfl]
theorem E3{p:ax aq}(h:p.getD 0 ⟨#[]⟩=wd 3):E p=(if p.length=2 then res ⟨4,(kI (p.getD 1 ⟨#[]⟩)).1,⟨#[]⟩,0,[]⟩ (kI (p.getD 1 ⟨#[]⟩)).2 else ai):=by unfold E;dsimp only;rw[h,a_ (jW (by omega) (by omega) (by omega)),a_ (jW (by omega) (by omega) (by omega)),a_ (jW (by omega) (by omega) (by omega)),ba rfl]
theorem E4{p:ax aq}(h:p.getD 0 ⟨#[]⟩=wd 4):E p=(if p.length=2 then res ⟨5,0,⟨#[]⟩,(kI (p.getD 1 ⟨#[]⟩)).1,[]⟩ (kI (p.getD 1 ⟨#[]⟩)).2 else ai):=by unfold E;dsimp only;rw[h,a_ (jW (by omega) (by omega) (by omega)),a_ (jW (by omega) (by omega) (by omega)),a_ (jW (by omega) (by omega) (by omega)),a_ (jW (by omega) (by omega) (by omega)),ba rfl]
theorem E5{p:ax aq}(h:p.getD 0 ⟨#[]⟩=wd 5):E p=(if p.length=2 then res ⟨6,(kI (p.getD 1 ⟨#[]⟩)).1,⟨#[]⟩,0,[]⟩ (kI (p.getD 1 ⟨#[]⟩)).2 else ai):=by unfold E;dsimp only;rw[h,a_ (jW (by omega) (by omega) (by omega)),a_ (jW (by omega) (by omega) (by omega)),a_ (jW (by omega) (by omega) (by omega)),a_ (jW (by omega) (by omega) (by omega)),a_ (jW (by omega) (by omega) (by omega)),ba rfl]
theorem E6{p:ax aq}(h:p.getD 0 ⟨#[]⟩=wd 6):E p=res ⟨7,0,⟨#[]⟩,0,(fz (p.drop 1) []).1⟩ (fz (p.drop 1) []).2:=by unfold E;dsimp only;rw[h,a_ (jW (by omega) (by omega) (by omega)),a_ (jW (by omega) (by omega) (by omega)),a_ (jW (by omega) (by omega) (by omega)),a_ (jW (by omega) (by omega) (by omega)),a_ (jW (by omega) (by omega) (by omega)),a_ (jW (by omega) (by omega) (by omega)),ba rfl]
theorem En{p:ax aq}(h:∀j,j<7->p.getD 0 ⟨#[]⟩≠wd j):E p=none:=by unfold E;dsimp only;rw[a_ (h 0 (by omega)),a_ (h 1 (by omega)),a_ (h 2 (by omega)),a_ (h 3 (by omega)),a_ (h 4 (by omega)),a_ (h 5 (by omega)),a_ (h 6 (by omega))]
end mK

namespace Mu
open _root_.Go.FG.Lib (rs)
open ua (sp mk GG DJ)
def lnn:ax eE->ax eE->ax (ax eE)
 |cur,[]=>if cur=[]then []else [cur]
 |cur,b::r=>if b=10 then cur::lnn [] r else lnn (cur++[b]) r
def lines(s:aq):ax aq:=(lnn [] s.data.toList).map mk
theorem two:∀(r cur:ax eE),∃a z,sp 10 cur r=a++[z]/\lnn cur r=(if z=[]then a else a++[z])
 |[],cur=>⟨[],cur,rfl,by rw[lnn];rfl⟩
 |b::r,cur=>by
  rw[sp,lnn];by_cases h:b=10
  ·rw[ba h,ba h];obtain⟨a,z,h1,h2⟩:=two r [];refine⟨cur::a,z,by rw[h1];rfl, ?_⟩
   rw[h2];split<;>rfl
  ·rw[a_ h,a_ h];exact two r _
theorem Lx(s:aq):∃(A:ax aq) (Z:aq),GG 10 s=A++[Z]/\lines s=(if Z.size=0 then A else A++[Z]):=by
 obtain⟨a,z,h1,h2⟩:=two s.data.toList [];refine⟨a.map mk,mk z,by unfold ua.GG;rw[h1];simp, ?_⟩
 unfold lines;rw[h2];cases z with
 |nil=>rfl
 |cons x t=>simp[DJ]
end Mu

namespace Rw
open _root_.Go.FG.Lib (rs)
open iO (Ev kl)
open AY (rv Evr)
open qP (parts W)
open mK (E)
open Mu (lines)
def jI(w:aq):aU:=decide (fK w 0=35)
def idle:ax aq->aU
 |[]=>aj
 |w::_=>jI w
def Qe:aG->ax aq->ax Ev->ax Ev×ay
 |_,[],acc=>(acc,0)
 |i,x::r,acc=>
  bif(parts x).2 then(bif idle (parts x).1 then Qe (i+1) r acc else
   match E (parts x).1 with
   |none=>([],((i+1:aG):ay))
   |some e=>bif decide (acc.length=70)then([],((i+1:aG):ay))else Qe (i+1) r (acc++[e]))
  else([],((i+1:aG):ay))
def qj(s:aq):ax Ev×ay:=
 bif decide (s.size<=3000)&&decide ((lines s).length<=90)then Qe 0 (lines s) []else([],-1)
theorem Ah{s:aq}(h:(parts s).2=aj):(parts s).1.length<=10/\∀x∈(parts s).1,0<x.size/\x.size<=600:=by
 unfold qP.parts at h⊢;cases hc:(decide (s.size<=600)&&s.data.toList.all qP.L9&&decide ((W s).length<=10))with
 |false=>rw[hc]at h;cases h
 |true=>rw[aw];simp only[aJ,aZ]at hc;exact⟨hc.2,λx hx=>⟨(qP.Nv s x hx).1,cm (qP.Nv s x hx).2 hc.1.1⟩⟩
theorem J6(acc:ax Ev)(e:Ev):rv acc++aF (aR [Ck.i ar,Ck.i ar,Ck.s,Ck.i ar,Ck.l 3] 1) 0 [CV.i ar e.k,CV.i ar e.id,CV.s e.t,CV.i ar e.n,CV.l 3 e.l]=rv (acc++[e]):=by unfold AY.rv;rw[c7];rfl
theorem zJ(w:aq):decide (((fK w 0:aG):ay)=35)=jI w:=by unfold jI;rw[c_];omega
end Rw

namespace n_
open _root_.Go.FG.Lib (rs)
open ua (sp mk GG bt sz)
open qP (parts W ne L9 within)
theorem wds(L:ax aq)(K:Row->ay->ay->Row->aA (Row×aU))(hl:L.length<=601):Zy Lib.cR K Lib.cR (rs L) (L.length:ay) 0 []=K (rs L) (L.length:ay) (L.length:ay) (rs (L.filter ne)):=by
 have key:=jO L.length (λm (i:aG) (t:Row)=>Zy Lib.cR K m (rs L) (L.length:ay) (i:ay) t) (λi=>rs ((L.take i).filter ne)) (K (rs L) (L.length:ay) (L.length:ay) (rs (L.filter ne))) (λm i h=>by
  have hc:au (rs L) i 0=CV.s L[i]:=by rw[Lib.de (by simp[Lib.rs];exact h)];simp[Lib.rs]
  have hL:(rs L).length=L.length:=by simp[Lib.rs]
  have hf:(rs ((L.take i).filter ne)).length<=601:=by have:=dM ne (L.take i);rw[eg]at this;simp only[Lib.rs,bM];omega
  have ht:(L.take (i+1)).filter ne=(L.take i).filter ne++(if ne L[i]then [L[i]]else []):=by rw[cj h,ik];cases hx:ne L[i]<;>simp[hx]
  have hq:(!List.beq (aC L[i]) (aC {data:= #[]}))=ne L[i]:=by
   rw[_root_.Go.Lib.toList_data,_root_.Go.Lib.toList_data];unfold qP.ne;show(!(L[i].data.toList==[]))=_;cases hz:L[i].data.toList with
   |nil=>rw[show L[i].size=L[i].data.toList.length from rfl,hz];rfl
   |cons a t=>rw[show L[i].size=L[i].data.toList.length from rfl,hz];rfl
  simp only[Zy,GJ,Lib.dJ,h,aT,hL,Lib.c9,aL,aw,Lib.eK,hc,bJ,hq,Lib.dn h (show L.length<=9223372036854775807 by omega)];rw[ht];cases hx:ne L[i]with
  |false=>simp only[az,cN,if_false,dv]
  |true=>rw[aw,show cF (bI (rs ((L.take i).filter ne))+bI (aF (aR [Ck.s] 1) 0 [CV.s L[i]])) 16=aj from Lib.cE (by rw[dt];simp only[Lib.lB];omega) (by rw[dt];simp only[Lib.lB];omega),aw];congr 1;simp[Lib.rs];rfl) (λm=>by
  simp only[Zy,GJ,Lib.dJ,bB,bn,az,d_]) Lib.cR 0 (bC _) (c6 (by omega))
 exact key
theorem ok(s:aq):c s=aj/\v s=(rs (parts s).1,(parts s).2):=by
 refine out _ ?_;unfold vo b;by_cases hs:(s.size:ay)>600
 ·rw[aE hs,aw];unfold qP.parts;rw[aK (show¬s.size<=600 by omega)];rfl
 ·rw[aK hs,az];have hs:s.size<=600:=by omega
  have key:∀(m i:aG),i<=s.size->s.size-i<m->(s.data.toList.take i).all L9=aj->∀K0 K1:aq->aU->ay->Row->aA (Row×aU),(∀a b c d,K0 a b c d=ah ([],b))->
    (s.data.toList.all L9=aj->K1 s ao (s.size:ay) []=ah (rs (parts s).1,(parts s).2))->
    l5 Lib.cR K0 K1 m s ao (i:ay) []=ah (rs (parts s).1,(parts s).2):=by
   intro m
   induction m with
   |zero=>intro i _ h;omega
   |succ m ih=>
    intro i hi hm hd K0 K1 hK0 hK1;by_cases h:i<s.size
    ·have hb:=bt h;have hl:i<s.data.toList.length:=by rw[sz];exact h
     have hu:(s.data.toList[i]).toNat<256:=UInt8.toNat_lt _;have e:qu.v (bN (((s.data.toList[i]).toNat:aG):ay)) 32 126=L9 s.data.toList[i]:=by rw[within,dj (by omega) (by omega)];unfold qP.L9;congr 1<;>(rw[c_];omega)
     simp only[l5,r5,Lib.dJ,h,aT,Lib.c9,aL,aw,Lib.eK,hb,e,Lib.dn h (show s.size<=9223372036854775807 by omega)];cases hv:L9 s.data.toList[i]with
     |false=>rw[bO,aw,hK0,qP.bad (bH hl) hv];rfl
     |true=>rw[a9,az];exact ih (i+1) h (by omega) (qP.Nz hl hd hv) K0 K1 hK0 hK1
    ·have:i=s.size:=by omega
     subst this;rw[gb (by rw[sz];omega)]at hd;simp only[l5,r5,Lib.dJ,bB,bn,az];exact hK1 hd
  refine key Lib.cR 0 (bC _) (c6 (by omega)) rfl _ _ (λ_ _ _ _=>rfl) (λhd=> ?_);have e1:=ua.Kh 32 s (by omega);have e2:=ua.Ki 32 s;have e3:=qP.JW 32 s;rw[show({data:= #[ak 32]}:aq)=⟨#[32]⟩from rfl,e1,aw,e2];rw[show(rs (GG 32 s)).length=(GG 32 s).length from by simp[Lib.rs],wds (GG 32 s) _ (by omega)];dsimp only;unfold qP.parts;rw[aE hs,hd];show(bif decide ((((rs (W s)).length:aG):ay)>10)then _ else ah (rs (W s),aj))=_;rw[show(rs (W s)).length=(W s).length from by simp[Lib.rs]];by_cases hx:(W s).length<=10
  ·rw[aK (by omega),aE hx];rfl
  ·rw[aE (by omega),aK hx];rfl
end n_

namespace BK
open _root_.Go.FG.Lib (rs)
open AZ (kI)
open iO (Ev kl)
open mK (res fz cS dG ri1)
abbrev Z:aq:={data:= #[]}
def told(e:Ev)(b:aU):aA Ev:=bif b then ah e else ai
theorem np(e:Ev):told e (KN.v e.k e.id e.t e.n e.l)=res e true:=by unfold told mK.res;rw[AY.T9];rfl
theorem rc{s:aq}(h:s.size<=600):vt.c s=true:=by unfold vt.c;rw[Nat.ble_eq];omega
theorem Rr(s:aq):vt.v s=kI s:=AZ.Zr s
abbrev T6:=ay×ay×aq×ay×Row×aU
abbrev J0:aU->Row->ay->ay->ay->ay->aq->ay->ay->ay->aq->ay->aA T6:=λy75 y76 y77 y78 y79 y80 y81 y82 y83 y84 y85 y86=>ah (y79,y80,y81,y82,[],y75)
abbrev J1:aU->Row->ay->ay->ay->ay->aq->ay->ay->ay->aq->ay->aA T6:=λy87 y88 y89 y90 y91 y92 y93 y94 y95 y96 y97 y98=>ah (y95,y96,y97,y98,[],KN.v y95 y96 y97 y98 [])
abbrev J2:aU->Row->ay->ay->ay->ay->aq->ay->ay->ay->aq->ay->Row->aA T6:=λy99 atE atF atG am6 am7 am8 am9 atH atI atJ atK am_=>ah (am6,am7,am8,am9,am_,y99)
abbrev J3:aU->Row->ay->ay->ay->ay->aq->ay->ay->ay->aq->ay->Row->aA T6:=λatL atM atN atO atP atQ atS atT afp afq afr afs aft=>ah (afp,afq,afr,afs,aft,KN.v afp afq afr afs aft)
def G(o:aA T6)(x:aA Ev):Prop:=∃(e:Ev) (b:aU),o=ah (e.k,e.id,e.t,e.n,e.l,b)/\told e b=x
theorem sh(p:ax aq)(hl:p.length<=600)(hs:∀x∈p,x.size<=600):∀(m i:aG) (acc:Row),i<=p.length->p.length-i<m->acc.length<=i->
  G (oa Lib.cR J0 J1 J2 J3 m ao (rs p) (p.length:ay) (i:ay) 0 0 Z 0 7 0 Z 0 acc) (res ⟨7,0,Z,0,(fz (p.drop i) acc).1⟩ (fz (p.drop i) acc).2):=by
 intro m;induction m with
 |zero=>intro i acc _ h;omega
 |succ m ih=>
  intro i acc hi hm ha;by_cases h:i<p.length
  ·have e1:p.drop i=p[i]::p.drop (i+1):=cQ h;have e2:p.getD i ⟨#[]⟩=p[i]:=by simp[e6,h]
   have hc:=rc (hs _ (bH h));have rm:cF (bI acc+bI [[CV.i ar (kI p[i]).1]]) 8=true:=Lib.cE (by simp;omega) (by simp;omega);rw[e1,fz];cases hf:(kI p[i]).2 with
   |true=>
    have st:oa Lib.cR J0 J1 J2 J3 (m+1) ao (rs p) (p.length:ay) (i:ay) 0 0 Z 0 7 0 Z 0 acc=oa Lib.cR J0 J1 J2 J3 m ao (rs p) (p.length:ay) ((i+1:aG):ay) 0 0 Z 0 7 0 Z 0 (acc++[[CV.i ar (kI p[i]).1]]):=by simp only[oa,uU,dG,Lib.dJ,h,aT,Lib.c9,aL,aw,az,Lib.eK,cS,hc,Rr,ri1,e2,hf,a9,rm,Lib.dn h (show p.length<=9223372036854775807 by omega)]
    rw[st,aw];exact ih (i+1) _ h (by omega) (by simp;omega)
   |false=>
    rw[az];refine⟨⟨7,0,Z,0,acc⟩,ao, ?_,rfl⟩
    simp only[oa,uU,dG,Lib.dJ,h,aT,Lib.c9,aL,aw,az,Lib.eK,cS,hc,Rr,ri1,e2,hf,bO]
  ·have:i=p.length:=by omega
   subst this;rw[cU,fz];refine⟨⟨7,0,Z,0,acc⟩,_, ?_,np _⟩
   simp only[oa,uU,dG,Lib.dJ,bB,bn,az]
theorem ok(p:ax aq)(hl:p.length<=600)(hs:∀x∈p,x.size<=600):∃(e:Ev) (b:aU),c (rs p)=aj/\v (rs p)=(e.k,e.id,e.t,e.n,e.l,b)/\told e b=res ⟨7,0,Z,0,(fz p []).1⟩ (fz p []).2:=by
 have key:G (vo (rs p)) (res ⟨7,0,Z,0,(fz p []).1⟩ (fz p []).2):=by
  have hb:vo (rs p)=l3 Lib.cR J0 J1 J2 J3 (18446744073709551615+1) ao (rs p) ((rs p).length:ay) 0 0 0 Z 0 7 0 Z 0:=rfl;rw[hb,dG];match p,hl,hs with
  |[],_,_=>refine⟨⟨7,0,Z,0,[]⟩,_,rfl,np _⟩
  |x::p,hl,hs=>
   have hl:p.length+1<=600:=hl;have hc:=rc (hs x cw);have h0:decide ((0:ay)<(((x::p).length:aG):ay))=true:=aE (by rw[bU];omega);have e2:(x::p).getD 0 ⟨#[]⟩=x:=rfl;rw[fz];cases hf:(kI x).2 with
   |true=>
    have st:l3 Lib.cR J0 J1 J2 J3 (18446744073709551615+1) ao (rs (x::p)) (((x::p).length:aG):ay) 0 0 0 Z 0 7 0 Z 0=oa Lib.cR J0 J1 J2 J3 18446744073709551615 ao (rs (x::p)) (((x::p).length:aG):ay) ((1:aG):ay) 0 0 Z 0 7 0 Z 0 ([]++[[CV.i ar (kI x).1]]):=by show r3 Lib.cR (l3 Lib.cR J0 J1 J2 J3 18446744073709551615) (oa Lib.cR J0 J1 J2 J3 18446744073709551615) J0 J1 J2 J3 ao (rs (x::p)) (((x::p).length:aG):ay) 0 0 0 Z 0 7 0 Z 0=_;unfold r3;rw[h0,aw,dG,h0,show decide ((0:ay)<=0)=aj from rfl,aL,aw,show aY 0=0 from rfl,cS,e2,hc,aw,Rr,hf,a9,az,ri1];rfl
    rw[st,aw];exact sh (x::p) hl hs 18446744073709551615 1 _ (by simp) (by rw[bU];omega) (by simp)
   |false=>
    rw[az];refine⟨⟨7,0,Z,0,[]⟩,ao, ?_,rfl⟩
    show r3 Lib.cR (l3 Lib.cR J0 J1 J2 J3 18446744073709551615) (oa Lib.cR J0 J1 J2 J3 18446744073709551615) J0 J1 J2 J3 ao (rs (x::p)) (((x::p).length:aG):ay) 0 0 0 Z 0 7 0 Z 0=_;unfold r3;rw[h0,aw,dG,h0,show decide ((0:ay)<=0)=aj from rfl,aL,aw,show aY 0=0 from rfl,cS,e2,hc,aw,Rr,hf,bO,aw]
 obtain⟨e,b,h1,h2⟩:=key;obtain⟨k1,k2⟩:=out _ h1;exact⟨e,b,k1,k2,h2⟩
end BK

namespace qU
open _root_.Go.FG.Lib (rs)
open AZ (kI)
open iO (Ev kl)
open mK (WL wd res fz E Yu cS dG jW)
open BK (told np rc Rr Z T6 G)
abbrev K9:Type:=aU->aq->Row->ay->ay->ay->ay->aq->ay->ay->ay->aq->ay->aA T6
abbrev J0:K9:=λMs QV y15 UJ QW Ma Mt AW XA y22 y23 y24 y25=>ah (Ma,Mt,AW,XA,[],Ms)
abbrev J1:K9:=λXB KA UK UL y30 y31 y32 y33 y34 y35 y36 y37 y38=>ah (y35,y36,y37,y38,[],KN.v y35 y36 y37 y38 [])
abbrev g8(m:aG)(ks:aq)(q:ax aq)(i:aG)(k id:ay)(t:aq)(n:ay):aA T6:=l8 Lib.cR J0 J1 m ao ks (rs q) (q.length:ay) (i:ay) 0 0 Z 0 k id t n
theorem Gx{o:aA T6}{x y:aA Ev}(h:G o x)(e:x=y):G o y:=e▸h
theorem fin(m:aG)(ks:aq)(q:ax aq)(k id:ay)(t:aq)(n:ay):G (g8 (m+1) ks q q.length k id t n) (res ⟨k,id,t,n,[]⟩ aj):=by
 refine⟨⟨k,id,t,n,[]⟩,_, ?_,np _⟩
 simp only[g8,l8,r8,Lib.dJ,bB,bn,az]
section
variable {ks:aq} {q:ax aq} (hq:q.length<=600) (hs:∀x∈q,x.size<=600) {i:aG} (h:i<q.length) (hk:i<ks.size)
include hq hs h hk
theorem sti(m:aG)(hb:fK ks i=105)(k id:ay)(t:aq)(n:ay)(x:aA Ev)(hx:G (g8 m ks q (i+1) k (kI (q.getD i ⟨#[]⟩)).1 t n) x):G (g8 (m+1) ks q i k id t n) (bif(kI (q.getD i ⟨#[]⟩)).2 then x else ai):=by
 have e2:q.getD i ⟨#[]⟩=q[i]:=by simp[e6,h]
 have hc:=rc (hs _ (bH h));rw[e2]at hx⊢;cases hf:(kI q[i]).2 with
 |true=>
  have st:g8 (m+1) ks q i k id t n=g8 m ks q (i+1) k (kI q[i]).1 t n:=by simp only[g8,l8,r8,dG,Lib.dJ,h,hk,aT,Lib.c9,aL,aw,az,Lib.eK,cS,e2,hc,Rr,hf,hb,a9,show decide (((105:aG):ay)=105)=aj from rfl,Lib.dn h (show q.length<=9223372036854775807 by omega)]
  rw[st,aw];exact hx
 |false=>
  rw[az];refine⟨⟨k,(kI q[i]).1,t,n,[]⟩,ao, ?_,rfl⟩
  simp only[g8,l8,r8,dG,Lib.dJ,h,hk,aT,Lib.c9,aL,aw,az,Lib.eK,cS,e2,hc,Rr,hf,hb,bO,show decide (((105:aG):ay)=105)=aj from rfl]
theorem stn(m:aG)(hb:fK ks i=110)(k id:ay)(t:aq)(n:ay)(x:aA Ev)(hx:G (g8 m ks q (i+1) k id t (kI (q.getD i ⟨#[]⟩)).1) x):G (g8 (m+1) ks q i k id t n) (bif(kI (q.getD i ⟨#[]⟩)).2 then x else ai):=by
 have e2:q.getD i ⟨#[]⟩=q[i]:=by simp[e6,h]
 have hc:=rc (hs _ (bH h));rw[e2]at hx⊢;cases hf:(kI q[i]).2 with
 |true=>
  have st:g8 (m+1) ks q i k id t n=g8 m ks q (i+1) k id t (kI q[i]).1:=by simp only[g8,l8,r8,dG,Lib.dJ,h,hk,aT,Lib.c9,aL,aw,az,Lib.eK,cS,e2,hc,Rr,hf,hb,a9,show decide (((110:aG):ay)=105)=ao from rfl,show decide (((110:aG):ay)=110)=aj from rfl,Lib.dn h (show q.length<=9223372036854775807 by omega)]
  rw[st,aw];exact hx
 |false=>
  rw[az];refine⟨⟨k,id,t,(kI q[i]).1,[]⟩,ao, ?_,rfl⟩
  simp only[g8,l8,r8,dG,Lib.dJ,h,hk,aT,Lib.c9,aL,aw,az,Lib.eK,cS,e2,hc,Rr,hf,hb,bO,show decide (((110:aG):ay)=105)=ao from rfl,show decide (((110:aG):ay)=110)=aj from rfl]
theorem stt(m:aG)(hb:fK ks i=116)(k id:ay)(t:aq)(n:ay)(x:aA Ev)(hx:G (g8 m ks q (i+1) k id (q.getD i ⟨#[]⟩) n) x):G (g8 (m+1) ks q i k id t n) x:=by
 have e2:q.getD i ⟨#[]⟩=q[i]:=by simp[e6,h]
 have hc:=rc (hs _ (bH h));rw[e2]at hx;have st:g8 (m+1) ks q i k id t n=g8 m ks q (i+1) k id q[i] n:=by simp only[g8,l8,r8,dG,Lib.dJ,h,hk,aT,Lib.c9,aL,aw,az,Lib.eK,cS,e2,hc,Rr,hb,show decide (((116:aG):ay)=105)=ao from rfl,show decide (((116:aG):ay)=110)=ao from rfl,Lib.dn h (show q.length<=9223372036854775807 by omega)]
 rw[st];exact hx
end
abbrev it:aq:=⟨#[105,116]⟩
abbrev la:aq:=⟨#[105,110]⟩
abbrev ii:aq:=⟨#[105]⟩
abbrev nn:aq:=⟨#[110]⟩
def fm(w:aq):ay×aq:=bif decide (w=wd 0)then(1,it)else bif decide (w=wd 1)then(2,it)else bif decide (w=wd 2)then(3,la)else bif decide (w=wd 3)then(4,ii)else bif decide (w=wd 4)then(5,nn)else bif decide (w=wd 5)then(6,ii)else bif decide (w=wd 6)then(7,Z)else(0,Z)
theorem ov(w:aq):Gv.v w=fm w:=by unfold Gv.v fm;simp only[Yu];rfl
theorem Sz{w:aq}(h:∀j,j<7->w≠wd j):fm w=(0,Z):=by unfold fm;simp only[aK (h 0 (by omega)),aK (h 1 (by omega)),aK (h 2 (by omega)),aK (h 3 (by omega)),aK (h 4 (by omega)),aK (h 5 (by omega)),aK (h 6 (by omega)),az]
theorem Xn(p:ax aq):dR (rs p) (aY 1) (aY ((p.length:aG):ay))=rs (p.drop 1):=by unfold dR Lib.rs;rw[show aY 1=1 from rfl,Lib.eK,gb (by simp),List.map_drop]
theorem BP(p:ax aq)(hp:0<p.length)(kk:ay)(ks:aq)(hf:Gv.v (p.getD 0 ⟨#[]⟩)=(kk,ks))(h7:kk≠7)(h0:kk≠0)(AM:ks.size<=2):
  vo (rs p)=bif(((p.length:aG):ay) !=((ks.size+1:aG):ay))then ah (kk,0,Z,0,[],ao)else g8 Lib.cR ks (p.drop 1) 0 kk 0 Z 0:=by unfold vo b;rw[dG,aE (show(0:ay)<((p.length:aG):ay)by omega),aw,show aY 0=0 from rfl,cS,hf];dsimp only;rw[aK h7,az,aK h0,az,dj (by omega) (by omega),Xn,dG,show gU 1 ((p.length:aG):ay) ((p.length:aG):ay)=aj from by unfold gU;simp;omega,aw];rfl
theorem post(p:ax aq)(hp:0<p.length)(hl:p.length<=600)(hs:∀x∈p,x.size<=600):G (vo (rs p)) (E p):=by
 have hq:(p.drop 1).length<=600:=by simp;omega
 have Rl:∀x∈p.drop 1,x.size<=600:=λx hx=>hs x (j6 hx);have d0:(p.drop 1).getD 0 ⟨#[]⟩=p.getD 1 ⟨#[]⟩:=by simp[e6]
 have d1:(p.drop 1).getD 1 ⟨#[]⟩=p.getD 2 ⟨#[]⟩:=by simp[e6]
 have pr:∀(kk:ay) {x:aA Ev},x=ai->G (ah (kk,0,Z,0,[],ao)) x:=λkk x h=>⟨⟨kk,0,Z,0,[]⟩,ao,rfl,h.symm⟩
 have e0:(Lib.cR)=18446744073709551613+1+1+1:=rfl;by_cases h0:p.getD 0 ⟨#[]⟩=wd 0
 ·rw[mK.E0 h0,BP p hp 1 it (by rw[ov,h0];decide+kernel) (by omega) (by omega) (by decide)];by_cases hn:p.length=3
  ·have Bl:(p.drop 1).length=2:=by simp;omega
   rw[hn,ba rfl,show((((3:aG)):ay) !=((it.size+1:aG):ay))=ao from rfl,az,e0];have k3:=fin 18446744073709551613 it (p.drop 1) 1 (kI (p.getD 1 ⟨#[]⟩)).1 (p.getD 2 ⟨#[]⟩) 0;rw[Bl]at k3;have k2:=stt hq Rl (i:=1) (by omega) (show 1<it.size by decide) (18446744073709551613+1) rfl 1 (kI (p.getD 1 ⟨#[]⟩)).1 Z 0 _ (by rw[d1];exact k3);have k1:=sti hq Rl (i:=0) (by omega) (show 0<it.size by decide) (18446744073709551613+1+1) rfl 1 0 Z 0 _ (by rw[d0];exact k2);rw[d0]at k1;refine Gx k1 ?_;unfold mK.res;cases (kI (p.getD 1 ⟨#[]⟩)).2<;>rfl
  ·rw[a_ hn,show(((p.length:aG):ay) !=((it.size+1:aG):ay))=aj from bne_iff_ne.2 (by show((p.length:aG):ay)≠3;omega),aw];exact pr _ rfl
 by_cases h1:p.getD 0 ⟨#[]⟩=wd 1
 ·rw[mK.E1 h1,BP p hp 2 it (by rw[ov,h1];decide+kernel) (by omega) (by omega) (by decide)];by_cases hn:p.length=3
  ·have Bl:(p.drop 1).length=2:=by simp;omega
   rw[hn,ba rfl,show((((3:aG)):ay) !=((it.size+1:aG):ay))=ao from rfl,az,e0];have k3:=fin 18446744073709551613 it (p.drop 1) 2 (kI (p.getD 1 ⟨#[]⟩)).1 (p.getD 2 ⟨#[]⟩) 0;rw[Bl]at k3;have k2:=stt hq Rl (i:=1) (by omega) (show 1<it.size by decide) (18446744073709551613+1) rfl 2 (kI (p.getD 1 ⟨#[]⟩)).1 Z 0 _ (by rw[d1];exact k3);have k1:=sti hq Rl (i:=0) (by omega) (show 0<it.size by decide) (18446744073709551613+1+1) rfl 2 0 Z 0 _ (by rw[d0];exact k2);rw[d0]at k1;refine Gx k1 ?_;unfold mK.res;cases (kI (p.getD 1 ⟨#[]⟩)).2<;>rfl
  ·rw[a_ hn,show(((p.length:aG):ay) !=((it.size+1:aG):ay))=aj from bne_iff_ne.2 (by show((p.length:aG):ay)≠3;omega),aw];exact pr _ rfl
 by_cases h2:p.getD 0 ⟨#[]⟩=wd 2
 ·rw[mK.E2 h2,BP p hp 3 la (by rw[ov,h2];decide+kernel) (by omega) (by omega) (by decide)];by_cases hn:p.length=3
  ·have Bl:(p.drop 1).length=2:=by simp;omega
   rw[hn,ba rfl,show((((3:aG)):ay) !=((la.size+1:aG):ay))=ao from rfl,az,e0];have k3:=fin 18446744073709551613 la (p.drop 1) 3 (kI (p.getD 1 ⟨#[]⟩)).1 Z (kI (p.getD 2 ⟨#[]⟩)).1;rw[Bl]at k3;have k2:=stn hq Rl (i:=1) (by omega) (show 1<la.size by decide) (18446744073709551613+1) rfl 3 (kI (p.getD 1 ⟨#[]⟩)).1 Z 0 _ (by rw[d1];exact k3);have k1:=sti hq Rl (i:=0) (by omega) (show 0<la.size by decide) (18446744073709551613+1+1) rfl 3 0 Z 0 _ (by rw[d0];exact k2);rw[d0,d1]at k1;refine Gx k1 ?_;unfold mK.res;cases (kI (p.getD 1 ⟨#[]⟩)).2<;>cases (kI (p.getD 2 ⟨#[]⟩)).2<;>rfl
  ·rw[a_ hn,show(((p.length:aG):ay) !=((la.size+1:aG):ay))=aj from bne_iff_ne.2 (by show((p.length:aG):ay)≠3;omega),aw];exact pr _ rfl
 by_cases h3:p.getD 0 ⟨#[]⟩=wd 3
 ·rw[mK.E3 h3,BP p hp 4 ii (by rw[ov,h3];decide+kernel) (by omega) (by omega) (by decide)];by_cases hn:p.length=2
  ·have Bl:(p.drop 1).length=1:=by simp;omega
   rw[hn,ba rfl,show((((2:aG)):ay) !=((ii.size+1:aG):ay))=ao from rfl,az,e0];have k3:=fin (18446744073709551613+1) ii (p.drop 1) 4 (kI (p.getD 1 ⟨#[]⟩)).1 Z 0;rw[Bl]at k3;have k1:=sti hq Rl (i:=0) (by omega) (show 0<ii.size by decide) (18446744073709551613+1+1) rfl 4 0 Z 0 _ (by rw[d0];exact k3);rw[d0]at k1;refine Gx k1 ?_;unfold mK.res;cases (kI (p.getD 1 ⟨#[]⟩)).2<;>rfl
  ·rw[a_ hn,show(((p.length:aG):ay) !=((ii.size+1:aG):ay))=aj from bne_iff_ne.2 (by show((p.length:aG):ay)≠2;omega),aw];exact pr _ rfl
 by_cases h4:p.getD 0 ⟨#[]⟩=wd 4
 ·rw[mK.E4 h4,BP p hp 5 nn (by rw[ov,h4];decide+kernel) (by omega) (by omega) (by decide)];by_cases hn:p.length=2
  ·have Bl:(p.drop 1).length=1:=by simp;omega
   rw[hn,ba rfl,show((((2:aG)):ay) !=((nn.size+1:aG):ay))=ao from rfl,az,e0];have k3:=fin (18446744073709551613+1) nn (p.drop 1) 5 0 Z (kI (p.getD 1 ⟨#[]⟩)).1;rw[Bl]at k3;have k1:=stn hq Rl (i:=0) (by omega) (show 0<nn.size by decide) (18446744073709551613+1+1) rfl 5 0 Z 0 _ (by rw[d0];exact k3);rw[d0]at k1;refine Gx k1 ?_;unfold mK.res;cases (kI (p.getD 1 ⟨#[]⟩)).2<;>rfl
  ·rw[a_ hn,show(((p.length:aG):ay) !=((nn.size+1:aG):ay))=aj from bne_iff_ne.2 (by show((p.length:aG):ay)≠2;omega),aw];exact pr _ rfl
 by_cases h5:p.getD 0 ⟨#[]⟩=wd 5
 ·rw[mK.E5 h5,BP p hp 6 ii (by rw[ov,h5];decide+kernel) (by omega) (by omega) (by decide)];by_cases hn:p.length=2
  ·have Bl:(p.drop 1).length=1:=by simp;omega
   rw[hn,ba rfl,show((((2:aG)):ay) !=((ii.size+1:aG):ay))=ao from rfl,az,e0];have k3:=fin (18446744073709551613+1) ii (p.drop 1) 6 (kI (p.getD 1 ⟨#[]⟩)).1 Z 0;rw[Bl]at k3;have k1:=sti hq Rl (i:=0) (by omega) (show 0<ii.size by decide) (18446744073709551613+1+1) rfl 6 0 Z 0 _ (by rw[d0];exact k3);rw[d0]at k1;refine Gx k1 ?_;unfold mK.res;cases (kI (p.getD 1 ⟨#[]⟩)).2<;>rfl
  ·rw[a_ hn,show(((p.length:aG):ay) !=((ii.size+1:aG):ay))=aj from bne_iff_ne.2 (by show((p.length:aG):ay)≠2;omega),aw];exact pr _ rfl
 by_cases h6:p.getD 0 ⟨#[]⟩=wd 6
 ·rw[mK.E6 h6];obtain⟨e,b,c1,c2,c3⟩:=BK.ok (p.drop 1) hq Rl;refine⟨e,b, ?_,c3⟩
  have hf:Gv.v (p.getD 0 ⟨#[]⟩)=(7,Z):=by rw[ov,h6];decide+kernel
  unfold vo qU.b;rw[dG,aE (show(0:ay)<((p.length:aG):ay)by omega),aw,show aY 0=0 from rfl,cS,hf,show decide ((7:ay)=7)=aj from rfl,aw,Xn,show gU 1 ((p.length:aG):ay) ((p.length:aG):ay)=aj from by unfold gU;simp;omega,aw,c1,c2,aw]
 ·have l_:∀j,j<7->p.getD 0 ⟨#[]⟩≠wd j:=λj hj=>by
   match j,hj with
   |0,_=>exact h0
   |1,_=>exact h1
   |2,_=>exact h2
   |3,_=>exact h3
   |4,_=>exact h4
   |5,_=>exact h5
   |6,_=>exact h6
  have hf:Gv.v (p.getD 0 ⟨#[]⟩)=(0,Z):=by rw[ov,Sz l_]
  rw[mK.En l_];refine⟨⟨0,0,Z,0,[]⟩,ao, ?_,rfl⟩
  unfold vo b;rw[dG,aE (show(0:ay)<((p.length:aG):ay)by omega),aw,show aY 0=0 from rfl,cS,hf,show decide ((0:ay)=7)=ao from rfl,az,show decide ((0:ay)=0)=aj from rfl,aw]
theorem ok(p:ax aq)(hp:0<p.length)(hl:p.length<=600)(hs:∀x∈p,x.size<=600):∃(e:Ev) (b:aU),c (rs p)=aj/\v (rs p)=(e.k,e.id,e.t,e.n,e.l,b)/\told e b=E p:=by obtain⟨e,b,h1,h2⟩:=post p hp hl hs;obtain⟨k1,k2⟩:=out _ h1;exact⟨e,b,k1,k2,h2⟩
end qU

namespace I7
open _root_.Go.FG.Lib (rs)
open iO (Ev kl)
open AY (rv Evr Qb)
open qP (parts W)
open mK (E cS dG res)
open Mu (lines)
open Rw (Qe qj idle jI zJ J6 Ah)
abbrev T2:=Row×ay
abbrev J0:ay->Row->ay->ay->Row->aA T2:=λy5 y6 y7 y8 y9=>ah ([],y5)
abbrev J1:ay->Row->ay->ay->Row->aA T2:=λKz rO Mr Ms QV=>ah (QV,0)
abbrev g7(m:aG)(ls:ax aq)(i:aG)(acc:ax Ev):aA T2:=l8 Lib.cR J0 J1 m 0 (rs ls) (ls.length:ay) (i:ay) (rv acc)
theorem stop(m:aG)(ls:ax aq)(acc:ax Ev):g7 (m+1) ls ls.length acc=ah (rv acc,0):=by simp only[g7,l8,r8,dG,Lib.dJ,bB,bn,az]
section
variable {ls:ax aq} {i:aG} (h:i<ls.length) (hl:ls.length<=90) (acc:ax Ev) (m:aG)
include h hl
theorem st0(hq:(parts ls[i]).2=ao):g7 (m+1) ls i acc=ah ([],((i+1:aG):ay)):=by
 have e2:ls.getD i ⟨#[]⟩=ls[i]:=by simp[e6,h]
 obtain⟨hpc,B4⟩:=n_.ok ls[i];rw[hq]at B4;simp only[g7,l8,r8,dG,Lib.dJ,h,aT,Lib.c9,aL,aw,Lib.eK,cS,e2,hpc,B4,az,bO,Lib.dn h (show ls.length<=9223372036854775807 by omega)]
theorem st1(hq:(parts ls[i]).2=aj)(hi:idle (parts ls[i]).1=aj):g7 (m+1) ls i acc=g7 m ls (i+1) acc:=by
 have e2:ls.getD i ⟨#[]⟩=ls[i]:=by simp[e6,h]
 obtain⟨hpc,B4⟩:=n_.ok ls[i];have ho:=(Ah hq).2;rw[hq]at B4;cases hp:(parts ls[i]).1 with
 |nil=>rw[hp]at B4;simp only[g7,l8,r8,dG,Lib.dJ,h,aT,Lib.c9,aL,aw,Lib.eK,cS,e2,hpc,B4,show(([]:ax aq)).length=0 from rfl,show decide (((0:aG):ay)=0)=aj from rfl,show decide (((([]:ax aq).length:aG):ay)=0)=aj from rfl,Lib.dn h (show ls.length<=9223372036854775807 by omega)]
 |cons w t=>rw[hp]at B4 hi ho;have hi:jI w=true:=hi;have hw:=(ho w cw).1;have z1:decide ((((w::t).length:aG):ay)=0)=false:=aK (by rw[bU];omega);have z2:decide ((0:ay)<(((w::t).length:aG):ay))=true:=aE (by rw[bU];omega);have z3:decide ((0:ay)<((w.size:aG):ay))=true:=aE (by omega);simp only[g7,l8,r8,dG,Lib.dJ,h,aT,Lib.c9,aL,aw,Lib.eK,cS,e2,hpc,B4,az,z1,z2,show aY (0:ay)=0 from rfl,show(w::t).getD 0 ⟨#[]⟩=w from rfl,z3,zJ,hi,Lib.dn h (show ls.length<=9223372036854775807 by omega)]
theorem st2(hq:(parts ls[i]).2=aj)(hi:idle (parts ls[i]).1=ao)(ha:acc.length<=70):g7 (m+1) ls i acc=(match E (parts ls[i]).1 with|none=>ah ([],((i+1:aG):ay))|some e=>bif decide (acc.length=70)then ah ([],((i+1:aG):ay))else g7 m ls (i+1) (acc++[e])):=by
 have e2:ls.getD i ⟨#[]⟩=ls[i]:=by simp[e6,h]
 obtain⟨hpc,B4⟩:=n_.ok ls[i];obtain⟨hn,ho⟩:=Ah hq;rw[hq]at B4;cases hp:(parts ls[i]).1 with
 |nil=>rw[hp]at hi;cases hi
 |cons w t=>
  rw[hp]at B4 hi ho hn;have hi:jI w=false:=hi;have hw:=(ho w cw).1;have z1:decide ((((w::t).length:aG):ay)=0)=false:=aK (by rw[bU];omega);have z2:decide ((0:ay)<(((w::t).length:aG):ay))=true:=aE (by rw[bU];omega);have z3:decide ((0:ay)<((w.size:aG):ay))=true:=aE (by omega);obtain⟨e,b,hec,hev,hE⟩:=qU.ok (w::t) (by simp) (by omega) (λx hx=>(ho x hx).2);rw[<-hE];have st:g7 (m+1) ls i acc=bif !b then ah ([],((i+1:aG):ay))else bif decide (((acc.length:aG):ay)=70)then ah ([],((i+1:aG):ay))else bif cF (acc.length+1) 64 then g7 m ls (i+1) (acc++[e])else none:=by simp only[g7,l8,r8,dG,Lib.dJ,h,aT,Lib.c9,aL,aw,Lib.eK,cS,e2,hpc,B4,az,z1,z2,show aY (0:ay)=0 from rfl,show(w::t).getD 0 ⟨#[]⟩=w from rfl,z3,zJ,hi,hec,hev,a9,az,Qb,J6,Lib.dn h (show ls.length<=9223372036854775807 by omega)];rfl
  have rm:cF (acc.length+1) 64=true:=Lib.cE (by omega) (by omega);have d7:decide (((acc.length:aG):ay)=70)=decide (acc.length=70):=by rw[c_];omega
  rw[st,rm,d7];cases b<;>rfl
end
theorem run(ls:ax aq)(hl:ls.length<=90):∀(m i:aG) (acc:ax Ev),i<=ls.length->ls.length-i<m->acc.length<=70->g7 m ls i acc=ah (rv (Qe i (ls.drop i) acc).1,(Qe i (ls.drop i) acc).2):=by
 intro m;induction m with
 |zero=>intro i acc _ h;omega
 |succ m ih=>
  intro i acc hi hm ha;by_cases h:i<ls.length
  ·rw[cQ h,Qe];cases hq:(parts ls[i]).2 with
   |false=>rw[st0 h hl acc m hq];rfl
   |true=>
    rw[aw];cases hd:idle (parts ls[i]).1 with
    |true=>rw[st1 h hl acc m hq hd,aw];exact ih (i+1) acc h (by omega) ha
    |false=>
     rw[st2 h hl acc m hq hd ha,az];cases hE:E (parts ls[i]).1 with
     |none=>rfl
     |some e=>
      dsimp only;by_cases h70:acc.length=70
      ·rw[aE h70];rfl
      ·rw[aK h70,az,az];exact ih (i+1) _ h (by omega) (by simp;omega)
  ·have:i=ls.length:=by omega
   subst this;rw[stop,cU,Qe]
theorem ok(s:aq)(h:s.size<=4000000000):c s=aj/\v s=(rv (qj s).1,(qj s).2):=by
 refine out _ ?_;unfold vo b;have c1:=ua.Kh 10 s h;have c2:=ua.Ki 10 s;obtain⟨A,Z,h1,h2⟩:=Mu.Lx s;have hA:=qP.JW 10 s;rw[h1,bW,bu]at hA;rw[show({data:= #[ak 10]}:aq)=⟨#[10]⟩from rfl,c1,aw,c2,h1,dG,bW,bu];have e1:bN (((A.length+1:aG):ay)-1)=((A.length:aG):ay):=by rw[dj (by omega) (by omega)];omega
 have e3:(A++[Z]).getD A.length ⟨#[]⟩=Z:=by simp[e6]
 have hb:gU 0 ((A.length:aG):ay) ((A.length+1:aG):ay)=true:=by unfold gU;simp;omega
 have hv:dR (rs (A++[Z])) (aY 0) A.length=rs A:=by unfold dR Lib.rs;rw[show aY 0=0 from rfl,eB,Eh,c7,Q8 (by simp)]
 rw[e1,Lib.c9,aE (show((A.length:aG):ay)<((A.length+1:aG):ay)by omega),aL,aw,Lib.eK,cS,e3,mK.Yu,hb,aw,hv,dG];have fin:∀ls:ax aq,lines s=ls->(bif decide (((s.size:aG):ay)>3000)then ah (([]:Row),(-1:ay))else bif decide (((ls.length:aG):ay)>90)then ah ([],-1)else g7 Lib.cR ls 0 [])=ah (rv (qj s).1,(qj s).2):=by
  intro ls e;unfold Rw.qj;rw[e];by_cases hs:(s.size:ay)>3000
  ·rw[aE hs,aw,aK (show¬s.size<=3000 by omega)];rfl
  ·rw[aK hs,az,aE (show s.size<=3000 by omega)];by_cases hl:((ls.length:aG):ay)>90
   ·rw[aE hl,aw,aK (show¬ls.length<=90 by omega)];rfl
   ·rw[aK hl,az,aE (show ls.length<=90 by omega)];exact run ls (by omega) Lib.cR 0 [] (bC _) (c6 (by omega)) (by simp)
 by_cases hZ:Z.size=0
 ·rw[ba hZ]at h2;have hz:Z=⟨#[]⟩:=lh (Array.size_eq_zero_iff.1 hZ);rw[aE hz,aw];exact fin A h2
 ·rw[a_ hZ]at h2;have hz:¬Z=⟨#[]⟩:=λe=>hZ (by rw[e];rfl);rw[aK hz,az];rw[show A.length+1=(A++[Z]).length by simp];exact fin (A++[Z]) h2
end I7

namespace XG
open _root_.Go.FG.Lib (rs)
open AZ (kI vl Sb)
open iO (Ev kl)
open qP (parts)
open mK (E fz res wd)
open Rw (Qe qj idle)
open Mu (lines)
abbrev T0:aq:=⟨#[97,115,107,32,49,32,47,97,10,102,97,108,108,32,51,32,52,10]⟩
abbrev L1:aq:=⟨#[97,115,107,32,49,32,47,97]⟩
abbrev L2:aq:=⟨#[102,97,108,108,32,51,32,52]⟩
abbrev P1:ax aq:=[⟨#[97,115,107]⟩,⟨#[49]⟩,⟨#[47,97]⟩]
abbrev P2:ax aq:=[⟨#[102,97,108,108]⟩,⟨#[51]⟩,⟨#[52]⟩]
theorem fig(d:aG)(h:d<10):kI ⟨#[ak (48+d)]⟩=((d:ay),aj):=by have e:=AZ.Dj d d (bR _);rw[mo.Vk h]at e;unfold AZ.kI;show(bif([ak (48+d)]).all Sb&&decide (([ak (48+d)]:ax eE).length<=10)&&decide (vl 0 [ak (48+d)]<=1000000000)&&(mo.dd (vl 0 [ak (48+d)])==[ak (48+d)])then(((vl 0 [ak (48+d)]:aG):ay),aj)else(0,ao))=_;rw[e.1,e.2,mo.Vk h,aE (show d<=1000000000 by omega)];simp
theorem f1:kI ⟨#[49]⟩=(1,aj):=fig 1 (by omega)
theorem f3:kI ⟨#[51]⟩=(3,aj):=fig 3 (by omega)
theorem f4:kI ⟨#[52]⟩=(4,aj):=fig 4 (by omega)
theorem hl:lines T0=[L1,L2]:=by decide+kernel
theorem p1:parts L1=(P1,aj):=by decide+kernel
theorem p2:parts L2=(P2,aj):=by decide+kernel
theorem e1:E P1=ah ⟨1,1,⟨#[47,97]⟩,0,[]⟩:=by rw[mK.E0 (p:=P1) rfl,ba (show P1.length=3 from rfl),show P1.getD 1 ⟨#[]⟩=⟨#[49]⟩from rfl,f1];rfl
theorem e2:E P2=ah ⟨7,0,⟨#[]⟩,0,[[CV.i ar 3],[CV.i ar 4]]⟩:=by
 have hz:fz (P2.drop 1) []=([[CV.i ar 3],[CV.i ar 4]],aj):=by show fz [⟨#[51]⟩,⟨#[52]⟩] []=_;simp only[mK.fz,f3,f4,aw];rfl
 rw[mK.E6 (p:=P2) rfl,hz];rfl
theorem sc:qj T0=([⟨1,1,⟨#[47,97]⟩,0,[]⟩,⟨7,0,⟨#[]⟩,0,[[CV.i ar 3],[CV.i ar 4]]⟩],0):=by unfold qj;rw[show decide (T0.size<=3000)=aj from by decide,hl,show decide (([L1,L2]:ax aq).length<=90)=aj from rfl,aL,aw];rw[Qe,p1,aw,show idle P1=ao from by decide+kernel,az,e1];dsimp only;rw[show decide (([]:ax Ev).length=70)=ao from rfl,az,Qe,p2,aw,show idle P2=ao from by decide+kernel,az,e2];rfl
theorem ok:I7.c T0=aj/\I7.v T0=(AY.rv [⟨1,1,⟨#[47,97]⟩,0,[]⟩,⟨7,0,⟨#[]⟩,0,[[CV.i ar 3],[CV.i ar 4]]⟩],0):=by have h:=I7.ok T0 (by decide);rw[sc]at h;exact h
end XG

namespace U5
open _root_.Go.FG.Lib (Cl rc el)
open du (shown sp LC Bf room Rq pos st)
open xB (nt rA)
open mo (it)
structure CK (c:Cl):Prop where
 id:1<=c.id/\c.id<=9
 age:0<=c.age/\c.age<=1000000000
 nt:nt c.got=aj
 sz:c.got.size<=400
theorem CK.ok{c:Cl}(h:CK c):Bf c:=by have h1:=h.id;have h2:=h.age;exact⟨by unfold du.Rq;omega,by unfold du.Rq;omega⟩
theorem YA(A B:aq)(k:aG):fK (A++B) (A.size+k)=fK B k:=by unfold fK;rw[eH,dc,dc,Array.getElem?_append_right (show A.data.size<=A.size+k from Yd _ _),show A.size+k-A.data.size=k from Eu _ _]
theorem Yz(A B:aq)(k:aG)(h:k<A.size):fK (A++B) k=fK A k:=by unfold fK;rw[eH,dc,dc,Bw (show k<A.data.size from h)]
theorem adl{t:aq}(h:nt t=aj){k:aG}(hk:k<t.size):fK t k≠10:=by rw[ua.bt hk];unfold xB.nt at h;have h1:=bf.1 h _ (bH (show k<t.data.toList.length from hk));intro e;have:t.data.toList[k]'(show k<t.data.toList.length from hk)=10:=UInt8.toNat_inj.1 e;rw[this]at h1;cases h1
theorem V6{n:ay}(h:0<=n):nt (it n)=true:=by
 obtain⟨u,rfl⟩:=Int.eq_ofNat_of_zero_le h;unfold xB.nt mo.it;rw[_root_.Go.Lib.itoa_nonneg];have hd:=(AZ.Dj u u (bR _)).2;refine bf.2 λc hc=> ?_;have h1:=AZ.uv.1 (bf.1 hd c hc);have:c≠10:=by intro e;rw[e]at h1;exact b_ h1.1 (by decide)
 simp[this]
theorem adm(n:ay):nt (st n)=true:=by unfold du.st EC.v;cases decide (n=1)<;>cases decide (n=2)<;>decide
def NH(c:Cl):aq:=it (pos c.id)++sp++st c.sta++sp++it (pos c.age)++sp++c.got
theorem wq(c:Cl):du.ln c=NH c++LC:=rfl
theorem ad9(n:ay):0<=pos n:=by unfold du.pos;split<;>omega
theorem ZO{c:Cl}(h:CK c):nt (NH c)=true:=
 rA (rA (rA (rA (rA (rA (V6 (ad9 _)) (by decide)) (adm _)) (by decide)) (V6 (ad9 _))) (by decide)) h.nt
theorem head(c:Cl)(h:CK c):du.ln c=(it c.id++sp)++(st c.sta++sp++it (pos c.age)++sp++c.got++LC):=by
 have e:pos c.id=c.id:=by unfold du.pos;rw[a_ (by have:=h.id;omega)]
 unfold du.ln;rw[e];simp only[dY]
theorem Co:∀(a b:ax Cl),shown (a++b)=shown a++shown b
 |[],b=>by rw[eR];exact(du.JK _).symm
 |c::a,b=>by
  show du.ln c++shown (a++b)=du.ln c++shown a++shown b;rw[Co a b,dY]
theorem H5(l:ax Cl)(i:aG)(h:i<l.length):shown l=shown (l.take i)++(du.ln (el l i)++shown (l.drop (i+1))):=by
 have e:l=l.take i++(el l i::l.drop (i+1)):=by rw[fy h,<-cQ h,List.take_append_drop]
 conv=>lhs;rw[e]
 rw[Co];rfl
theorem aca(A B:aq):(A++B).extract A.size (A++B).size=B:=by rw[ua.zC,eH,kC,List.drop_left' (show A.data.toList.length=A.size from rfl),dh,Eu,gb (show B.data.toList.length<=B.size from bR _)];rfl
theorem ab_(A B:aq):(A++B).extract 0 A.size=A:=by rw[ua.zC,eH,kC,eB,Eh,Q8 (show A.data.toList.length=A.size from rfl)];rfl
section
variable {Q:Type} (N:aG)
theorem aeg(K:aq->ay->ay->ay->ay->ay->ay->Row->Row->Row->Row->Row->Row->Row->aA Q)(S:aq)(hS:S.size<=1000000000)(Kr Ks Ku Kv Kw:ay)(Kx Xu Xv Xw Xx Xy Xz:Row):
  ∀(k m j:aG),k<m->j+k<S.size->(∀t,t<k->fK S (j+t)≠10)->fK S (j+k)=10->Ro N K m S Kr (j:ay) Ks Ku Kv Kw Kx Xu Xv Xw Xx Xy Xz=K S Kr ((j+k:aG):ay) Ks Ku Kv Kw Kx Xu Xv Xw Xx Xy Xz:=by
 intro k;induction k with
 |zero=>
  intro m j hm hj _ hb;obtain⟨m,rfl⟩:∃m',m=m'+1:=⟨m-1,by omega⟩
  have hj:j<S.size:=hj;have hb:fK S j=10:=hb;simp only[Ro,r13,Lib.dJ,hj,aT,Lib.c9,aL,aw,Lib.eK,hb,show(((10:aG):ay) !=10)=ao from rfl,az];rfl
 |succ k ih=>
  intro m j hm hj hn hb;obtain⟨m,rfl⟩:∃m',m=m'+1:=⟨m-1,by omega⟩
  have GA:j<S.size:=by omega
  have g_:(((fK S j:aG):ay) !=10)=true:=bne_iff_ne.2 (by have:=hn 0 (by omega);rw[rS]at this;omega);have st:Ro N K (m+1) S Kr (j:ay) Ks Ku Kv Kw Kx Xu Xv Xw Xx Xy Xz=Ro N K m S Kr ((j+1:aG):ay) Ks Ku Kv Kw Kx Xu Xv Xw Xx Xy Xz:=by simp only[Ro,r13,Lib.dJ,GA,aT,Lib.c9,aL,aw,Lib.eK,g_,Lib.dn GA (show S.size<=9223372036854775807 by omega)]
  rw[st,ih m (j+1) (by omega) (by omega) (λt ht=>by rw[show j+1+t=j+(t+1)by omega];exact hn (t+1) (by omega)) (by rw[show j+1+k=j+(k+1)by omega];exact hb),show j+1+k=j+(k+1)by omega]
def pl(l:ax Cl)(i:aG):aG:=(shown (l.take i)).size
theorem JY(l:ax Cl)(i:aG)(h:i<l.length):pl l (i+1)=pl l i+(NH (el l i)).size+1:=by unfold pl;rw[du.take_succ l i h,Lib.dX,wq,Lib.dX];rfl
variable (l:ax Cl) (hl:l.length<=6) (hc:∀c∈l,CK c) (hN:(shown l).size<N) (hS:(shown l).size<=1000000000)
include hl hc hN hS
theorem inner(G:aq->ay->ay->ay->ay->ay->ay->Row->Row->Row->Row->Row->Row->Row->aA Q)(X:aA Q)(i:aG)(h:i<l.length)(Kr Ks Ku Kv Kw:ay)(Kx Xu Xv Xw Xx Xy Xz:Row):
  (bif(Ei.c (bS (au (rc l) i 0)))then(Lib.lt (Ei.v (bS (au (rc l) i 0))) (λZ9=>bif(decide (bh Z9+bh sp<=4611686018427387904))then(bif(gU (pl l i:ay) (↑(bh (shown l)):ay) (↑(bh (shown l)):ay))then(bif(I8.c (Z9++sp) (bc (shown l) (pl l i) (bh (shown l))))then(Lib.lt (I8.v (Z9++sp) (bc (shown l) (pl l i) (bh (shown l)))) (λam0=>bif(!am0)then X else(Ro N G N (shown l) Kr (pl l i:ay) Ks Ku Kv Kw Kx Xu Xv Xw Xx Xy Xz)))else(ai))else(ai))else(ai)))else(ai))
   =G (shown l) Kr ((pl l i+(NH (el l i)).size:aG):ay) Ks Ku Kv Kw Kx Xu Xv Xw Xx Xy Xz:=by
 have _:=hl;have hck:=hc _ (kO h);have Gz:=hck.id;have e3:=H5 l i h;have hsz:(shown l).size=pl l i+((du.ln (el l i)).size+(shown (l.drop (i+1))).size):=by rw[e3,Lib.dX,Lib.dX];rfl
 have hln:(du.ln (el l i)).size=(NH (el l i)).size+1:=by rw[wq,Lib.dX];rfl
 have ajZ:bS (au (rc l) i 0)=(el l i).id:=by rw[show au (rc l) i 0=CV.i ar (el l i).id from fQ _ l i 0 h];rfl
 obtain⟨d1,d2⟩:=mo.eq (el l i).id (by omega) (by omega);have d3:=mo.qa (el l i).id (by omega) (by omega);have hx:bc (shown l) (pl l i) (bh (shown l))=du.ln (el l i)++shown (l.drop (i+1)):=by rw[e3];exact aca _ _
 have hh:du.ln (el l i)++shown (l.drop (i+1))=(it (el l i).id++sp)++((st (el l i).sta++sp++it (pos (el l i).age)++sp++(el l i).got++LC)++shown (l.drop (i+1))):=by rw[head _ hck,dY]
 have hb:=I8.ok (it (el l i).id++sp) (du.ln (el l i)++shown (l.drop (i+1))) (by rw[hh,Lib.dX (it (el l i).id++sp)];exact Yd _ _) (by rw[hh];exact ab_ _ _);have inb:gU (pl l i:ay) (↑(bh (shown l)):ay) (↑(bh (shown l)):ay)=true:=by unfold gU;simp;omega
 rw[ajZ,d1,aw,d2,iw.lt_eq,aE (by rw[show sp.size=1 from rfl];omega),aw,inb,aw,hx,hb.1,aw,hb.2,iw.lt_eq,a9,az];refine aeg N G (shown l) hS Kr Ks Ku Kv Kw Kx Xu Xv Xw Xx Xy Xz (NH (el l i)).size N (pl l i) (by omega) (by omega) (λt ht=> ?_) ?_
 ·rw[e3];unfold pl;rw[YA,Yz _ _ _ (by omega),wq,Yz _ _ _ ht];exact adl (ZO hck) ht
 ·rw[e3];unfold pl;rw[YA,Yz _ _ _ (by omega),wq];have:=YA (NH (el l i)) LC 0;rw[rS]at this;rw[this];rfl
end
open _root_.Go.FG.Lib (rr rs re rf Px)
abbrev K0:aU->aq->ay->ay->ay->ay->ay->ay->Row->Row->Row->Row->Row->Row->Row->aA aU:=λanE atU atV atW atX atY atZ at0 at2 at4 at5 at6 at7 at8 at9=>ah anE
abbrev K1:aU->aq->ay->ay->ay->ay->ay->ay->Row->Row->Row->Row->Row->Row->Row->aA aU:=λaua afu anF anG aub afv afw afx aas afy afz afA afB afC afD=>bif(decide (anG=(↑(bh afu):ay)))then(bif(C_.c afv afy afz afA afB afw afC afD afx)then(Lib.lt (C_.v afv afy afz afA afB afw afC afD afx) (λam1=>bif(cu (aC afu) (aC am1))then(bif(decide (anF=0))then(bif(decide ((↑(bI aas):ay)=2))then(bif(decide (1<(↑(bI aas):ay)))then(ah (decide ((↑(bI (kU (au aas (aY 1) 4))):ay)=2)))else(ai))else(ah ao))else(ah ao))else(ah ao)))else(ai))else(ah ao)
abbrev K2:aq->ay->ay->ay->ay->ay->ay->Row->Row->Row->Row->Row->Row->Row->aA aU:=λafE anH anI auc afF afG afH aat afI afJ afK afL afM afN=>bif(decide (anI=(↑(bh afE):ay)))then(bif(C_.c afF afI afJ afK afL afG afM afN afH)then(Lib.lt (C_.v afF afI afJ afK afL afG afM afN afH) (λam2=>bif(cu (aC afE) (aC am2))then(bif(decide (anH=0))then(bif(decide ((↑(bI aat):ay)=2))then(bif(decide (1<(↑(bI aat):ay)))then(ah (decide ((↑(bI (kU (au aat (aY 1) 4))):ay)=2)))else(ai))else(ah ao))else(ah ao))else(ah ao)))else(ai))else(ah ao)
abbrev ev:Row:=AY.rv [⟨1,1,⟨#[47,97]⟩,0,[]⟩,⟨7,0,⟨#[]⟩,0,[[CV.i ar 3],[CV.i ar 4]]⟩]
theorem fin(l:ax Cl)(hl:l.length<=6)(hc:∀c∈l,CK c)(i:aG)(now a hits:ay)(q1 q2 q3 q4 q6:Row):K2 (shown l) 0 (pl l l.length:ay) i now a hits ev q1 q2 q3 q4 q6 (rc l)=ah true:=by
 have hr:room l<=1000000000:=by
  have:∀l:ax Cl,(∀c∈l,CK c)->room l<=460*l.length:=by
   intro l;induction l with
   |nil=>intro _;exact bR _
   |cons c r ih=>intro h;have h1:=ih (λx hx=>h x (cg _ hx));have h2:=(h c cw).sz;unfold du.room;rw[bU];omega
  have:=this l hc;omega
 obtain⟨c1,v1⟩:=C_.ok now q1 q2 q3 q4 a q6 l hits hr (λc h=>(hc c h).ok);have e:pl l l.length=(shown l).size:=by unfold pl;rw[d_]
 show(bif(decide ((pl l l.length:ay)=(↑(bh (shown l)):ay)))then _ else _)=_;rw[e,aE rfl,aw,c1,aw,v1,iw.lt_eq,Lib.nN,aw];rfl
theorem J5:∀l:ax Cl,(∀c∈l,CK c)->room l<=460*l.length
 |[],_=>bR _
 |c::r,h=>by
  have h1:=J5 r (λx hx=>h x (cg _ hx));have h2:=(h c cw).sz;unfold du.room;rw[bU];omega
theorem loop(N:aG)(l:ax Cl)(hl:l.length<=6)(hc:∀c∈l,CK c)(hN:(shown l).size<N)(hS:(shown l).size<=1000000000)(now a hits:ay)(q1 q2 q3 q4 q6:Row):
  ∀(d i m:aG),l.length-i<=d->i<=l.length->d<m->Rp N K0 K1 K2 m (shown l) 0 (pl l i:ay) (i:ay) now a hits ev q1 q2 q3 q4 q6 (rc l)=ah true:=by
 intro d;induction d with
 |zero=>
  intro i m h1 h2 h3;obtain⟨m,rfl⟩:∃m',m=m'+1:=⟨m-1,by omega⟩
  have:i=l.length:=by omega
  subst this;rw[<-fin l hl hc l.length now a hits q1 q2 q3 q4 q6];simp only[Rp,r8a,fc,Lib.dJ,bB,bn,az]
 |succ d ih=>
  intro i m h1 h2 h3;obtain⟨m,rfl⟩:∃m',m=m'+1:=⟨m-1,by omega⟩
  by_cases h:i<l.length
  ·rw[<-ih (i+1) m (by omega) h (by omega)];have key:=inner N l hl hc hN hS (λanp anq anr ans ant anu anv anw anx anz anA anB anC anD=>Rp N K0 K1 K2 m anp anq (bN (anr+1)) (bN (ans+1)) ant anu anv anw anx anz anA anB anC anD) (ah ao) i h 0 (i:ay) now a hits ev q1 q2 q3 q4 q6 (rc l);have e:=JY l i h;have hp:pl l (i+1)<=(shown l).size:=by have:=H5 l i h;have e2:=je bh this;rw[Lib.dX,Lib.dX,wq,Lib.dX]at e2;rw[e];show(shown (l.take i)).size+_+1<=_;have:du.LC.size=1:=rfl;omega
   rw[dj (x:=((pl l i+(NH (el l i)).size:aG):ay)+1) (by omega) (by omega),Lib.dn h (show l.length<=9223372036854775807 by omega)]at key;rw[show((pl l (i+1):aG):ay)=((pl l i+(NH (el l i)).size:aG):ay)+1 by rw[e];omega];rw[<-key];show r8a N (λ_ _ _ _ _ _ _ _ _ _ _ _ _ _ _=>ai) (Rp N K0 K1 K2 m) K0 K1 K2 (shown l) 0 (pl l i:ay) (i:ay) now a hits ev q1 q2 q3 q4 q6 (rc l)=_;unfold r8a;rw[fc,Lib.dJ,aE h,aw,Lib.c9,aL,aw,Lib.eK,Lib.eK,Lib.eK]
  ·have:i=l.length:=by omega
   subst this;rw[<-fin l hl hc l.length now a hits q1 q2 q3 q4 q6];simp only[Rp,r8a,fc,Lib.dJ,bB,bn,az]
theorem first(N:aG)(l:ax Cl)(hl:l.length<=6)(hc:∀c∈l,CK c)(hN:(shown l).size<N)(hS:(shown l).size<=1000000000)(now a hits:ay)(q1 q2 q3 q4 q6:Row)(m:aG)(hm:10<m):
  l8 N K0 K1 K2 (m+1) ao (shown l) 0 0 0 now a hits ev q1 q2 q3 q4 q6 (rc l)=ah true:=by
 by_cases h:0<l.length
 ·rw[<-loop N l hl hc hN hS now a hits q1 q2 q3 q4 q6 l.length 1 m (by omega) h (by omega)];have key:=inner N l hl hc hN hS (λana anb anc ane anf ang anh ani anj ank anl anm ann ano=>Rp N K0 K1 K2 m ana anb (bN (anc+1)) (bN (ane+1)) anf ang anh ani anj ank anl anm ann ano) (ah ao) 0 h 0 ((0:aG):ay) now a hits ev q1 q2 q3 q4 q6 (rc l);have e:=JY l 0 h;have hp:pl l (0+1)<=(shown l).size:=by have:=H5 l 0 h;have e2:=je bh this;rw[Lib.dX,Lib.dX,wq,Lib.dX]at e2;rw[e];show(shown (l.take 0)).size+_+1<=_;have:du.LC.size=1:=rfl;omega
  rw[dj (x:=((pl l 0+(NH (el l 0)).size:aG):ay)+1) (by omega) (by omega),Lib.dn h (show l.length<=9223372036854775807 by omega)]at key;rw[show((pl l 1:aG):ay)=((pl l 0+(NH (el l 0)).size:aG):ay)+1 by rw[show(1:aG)=0+1 from rfl,e];omega];refine Eq.trans ?_ key;show r8 N (l8 N K0 K1 K2 m) (Rp N K0 K1 K2 m) K0 K1 K2 ao (shown l) 0 0 ((0:aG):ay) now a hits ev q1 q2 q3 q4 q6 (rc l)=_;unfold r8;rw[fc,Lib.dJ,aE h,aw,Lib.c9,aL,aw,Lib.eK,show aY 0=0 from rfl,Lib.eK,show pl l 0=0 from rfl];rfl
 ·have h0:l=[]:=fj (by omega);subst h0;rw[<-fin [] (by simp) hc 0 now a hits q1 q2 q3 q4 q6];rfl
theorem run(code:Row):vo code=ah true:=by
 unfold vo b;by_cases xU:(code.length:ay)>1048576
 ·rw[show U8.v code=aj from aE xU];rfl
 rw[show U8.v code=ao from aK xU,az];obtain⟨p,hp,hn,c1,v1⟩:=Q_.ok code (by omega);have hc:∀c∈p.cl,CK c:=λc h=>by have h1:=hp.cl c h;unfold qO.EO at h1;simp only[aJ,aZ]at h1;have h2:=hn.2.2 c h;exact⟨h1.1,⟨h1.2.2.2.2.2.2,h2.2⟩,h2.1,by have:=h1.2.2.2.2.1;omega⟩
 have hr:=J5 p.cl hc;have nC:=hp.cll;obtain⟨c2,v2⟩:=KK.ok p.now (re p.en) (rs p.w) (rs p.m) (rr p.s) p.a (rf p.fe) p.cl p.hits (by omega) (λc h=>(hc c h).ok);have hsz:=du.qk p.cl (λc h=>(hc c h).ok);obtain⟨c3,v3⟩:=XG.ok;rw[c1,aw,v1,iw.lt_eq,c2,aw,v2,iw.lt_eq];rw[show({data:= #[ak 97,ak 115,ak 107,ak 32,ak 49,ak 32,ak 47,ak 97,ak 10,ak 102,ak 97,ak 108,ak 108,ak 32,ak 51,ak 32,ak 52,ak 10]}:aq)=XG.T0 from rfl,c3,aw,v3,iw.lt_eq];generalize hN:Lib.cR=N;have hN1:(shown p.cl).size<N/\20<N:=by rw[<-hN];exact⟨c6 (by omega),c6 (by omega)⟩
 clear hN;obtain⟨m,rfl⟩:∃m,N=m+1:=⟨N-1,by omega⟩
 exact first (m+1) p.cl (by omega) hc hN1.1 (by omega) p.now p.a p.hits (re p.en) (rs p.w) (rs p.m) (rr p.s) (rf p.fe) m (by omega)
theorem law(code:Row)(_:xG code):v code=true:=(out _ (run code)).2
theorem amh(code:Row)(_:xG code):c code=true:=(out _ (run code)).1
end U5

end Go.FG
