/- What the functions come to, in plain numbers, texts and lists; last the law itself. No condition but those that each states. -/
import Derived.Test.YtijidheebmbkcaaPHits
set_option linter.unusedVariables false
set_option linter.unusedSimpArgs false
set_option maxRecDepth 100000
open Array renaming toList_extract->ql,length_toList->c8
open BitVec renaming toNat->db,and->gA,ofInt->bG,xor->jA
open Bool renaming true->ae,false->ah,true_and->bA,and_self->aN,not_true->bz,not_false->bX,and_eq_true->az,or_eq_true->dg,or_eq_false_iff->je,not_eq_true'->dt,and_assoc->mY,and_true->j9,false_eq_true->cJ,cond_eq_ite->dA,not_eq_false'->s6,false_or->zy,true_or->U2,false_and->x6
open ByteArray renaming toList->aA,data_extract->mC,data_append->u_,size_extract->O8,size_append->fE,size->fW
open Classical renaming byContradiction->uL
open Eq renaming trans->Rv
open Go.IntKind renaming i64->aj,wrap->bj,u32->dx,u8->aU
open Go.Op renaming bytesLess->bZ
open Int renaming natCast_zero->Ma,lt_irrefl->Bb,toNat->aX,neg->GA,tmod->bL,tdiv->cj,tmod_eq_emod_of_nonneg->ed,tdiv_eq_ediv_of_nonneg->gn,pow_succ->vZ,toNat_natCast->gY,tmod_nonneg->MI,tdiv_nonneg->MH,le_trans->uo,tdiv_le_self->Mb,emod_nonneg->MF,emod_lt_of_pos->HS
open List renaming filter_eq_self->ew,length_filter_le->kI,length->cq,getElem_mem->bk,length_nil->gX,length_pos_iff->EU,length_singleton->bM,length_take->eA,take_length->la,nil_append->fU,range->cy,drop_zero->iK,map_congr_left->HV,mem_filter->dh,append_assoc->bR,pairwise_append->qp,filter_sublist->jg,singleton_append->qq,pairwise_cons->tl,mem_append->aQ,mem_singleton->aP,filter_cons_of_pos->eQ,filter_cons_of_neg->dI,length_cons->cE,length_append->b8,beq->cC,take_succ_eq_append_getElem->dB,filter_append->mD,all_eq_true->aZ,mem_or_eq_of_mem_set->gG,take_set_of_le->qP,drop_set_of_lt->qM,drop_eq_nil_of_le->fT,append_nil->da,getElem_of_mem->cu,take->gE,drop->mL,take_append_of_le_length->lG,take_of_length_le->km,getElem_take->j_,pairwise_map->ka,mem_map->b7,filter_map->lF,map_map->jC,map_append->fw,filter_congr->gC,pairwise_iff_getElem->cQ,mem_range->mF,getD->gW,length_set->cF,length_drop->im,drop_eq_getElem_cons->nR,cons_append->MO,extract_eq_take_drop->Bc,drop_drop->RY,drop_append_of_le_length->vf,drop_of_length_le->Bp,filter_filter->mE,set->aF,takeWhile_map->GD,dropWhile_map->GC,find?_eq_none->tf,find?_eq_some_iff_getElem->kQ,find?_some->x9,takeWhile_cons_of_pos->m8,takeWhile_cons_of_neg->m7,ext_getElem->ja,length_map->bC,getElem_set_self->iv,set_getElem_self->eD,set_set->lW,nodup_iff_pairwise_ne->mG,mem_cons_self->cR,any_eq_false->Mc,findIdx?_eq_none_iff->yG,findIdx?_eq_some_iff_getElem->sU,nodup_append->dr,nodup_cons->iz,mem_cons->bP,getElem_set->IL,getD_eq_getElem?_getD->cT,getElem?_eq_getElem->dV,drop_length->MP,mem_append_left->bw,mem_append_right->bm,getElem?_append_left->cS
open List.Pairwise renaming filter->ve,nil->o0
open List.cons renaming inj->jP
open Nat renaming lt_irrefl->ca,sub_zero->tp,le_refl->cD,zero_le->bT,add_sub_cancel->HW,zero_add->bu,le_trans->c5,le_succ->Vz,le_succ_of_le->uq,lt_or_ge->rA,not_lt_zero->MR
open Option renaming some->ab,none->af
open Prod.mk renaming inj->bn
open UInt8 renaming lt_iff_toNat_lt->o4,ofNat->ay,toNat_ofNat'->Fa
open _root_ renaming List->ak,ByteArray->ai,Bool->aL,Int->ax,Nat->au,Option->ar,decide_false->bK,cond_false->aC,decide_true->aW,cond_true->aw,decide_eq_true->aE,decide_eq_false->aK,of_decide_eq_true->bU,UInt8->Bd,decide_eq_true_eq->a9,absurd->bS,decide_eq_false_iff_not->ik,if_pos->br,if_neg->bF,congrArg->o6,decide_eq_decide->cO,eq_comm->Ss,of_decide_eq_false->nK
namespace Go.FG
open Lib (Fb all_congr nY o9 o_ wu gT vp fg wA n9 pZ tT du pF jd Zv rd1 rd2 kG fZ fa Ms f_ Ga fJ Zw iu CL mo AY sM nH vI CR lN A5 vK pL pM sO oD cY Mu Ue Uf Ug Uh Ui Uj wd0 wd1 wd2 Bh Gl Gm Gn OV Mv UQ EE)
variable {R:Type}
namespace fC
def has(l:ak ai)(k:ai):aL:=l.any λx=>decide (x=k)
def without(l:ak ai)(k:ai):ak ai:=l.filter λx=> !decide (x=k)
theorem eU{l:ak ai}{k:ai}:has l k=ae↔k∈l:=by unfold has;simp
theorem jb{l:ak ai}{k:ai}:has l k=ah↔k∉l:=by rw[<-eU];cases has l k<;>simp
theorem ry{l:ak ai}{k:ai}(h:has l k=ah):without l k=l:=by unfold without;rw[ew];intro x hx;have:=jb.1 h;simp;intro e;subst e;exact this hx
theorem g8{l:ak ai}{k:ai}:(without l k).length<=l.length:=kI ..
theorem mv{l:ak ai}{k:ai}(h:has l k=ae):(without l k).length<l.length:=by unfold without;refine List.length_filter_lt_length_iff_exists.2 ⟨k,eU.1 h,by simp⟩
end fC

namespace qU
theorem ok(l:aY)(hl:l.length<=4294967296):c l=ae/\v l=l:=by refine out l ?_;unfold vo b;rw[show cq (aM [Ck.i aj] 0)+l.length=l.length by simp[aM],Lib.dH (by omega) (by omega)];rfl
end qU

namespace iq
open Lib (rr)
def pj(s:ak (ak ax)):Prop:=s.length<=1048576/\∀q∈s,q.length<=1048576
theorem run(N:au)(K0:aY->ax->ax->ax->ax->ar R)(K1:aY->ax->ax->ax->ax->aY->ar R)(s:ak (ak ax))(z a:ax)(hf:pj s)(m:au)(hm:s.length+1<m)(kr:aY->ar R)
  (h0:s=[]->K0 (rr s) 0 0 z a=kr []) (h1:K1 (rr s) s.length s.length z a (rr s)=kr (rr s)):l3 N K0 K1 m (rr s) (s.length:ax) 0 z a=kr (rr s):=by
 obtain⟨m,rfl⟩:∃m',m=m'+1:=⟨m-1,by omega⟩
 have SQ:∀i (h:i<s.length),qU.c (Lib.ri s[i])=ae/\qU.v (Lib.ri s[i])=Lib.ri s[i]:=λi h=>qU.ok _ (by rw[f_];have:=hf.2 _ (bk h);omega);by_cases hs:s=[]
 ·subst hs;simp only[l3,r3,gX,Ma,Bb,bK,aC];exact h0 rfl
 ·have hp:0<s.length:=EU.2 hs;have key:=pZ (R:=R) s.length (λm i (x:aY)=>Ce N K0 K1 m (rr s) (s.length:ax) (i:ax) z a x) (λi=>rr (s.take i)) (kr (rr s)) (λm i h=>by
   have hl:=hf.1;simp only[Ce,K5,Lib.eO,h,aW,aw,Lib.dC,bA,fJ,Lib.gg,Ga h,ia,(SQ i h).1,(SQ i h).2,CL,bM];rw[Lib.dH (by rw[eA];omega) (by rw[eA];omega),aw,Lib.dQ h (by omega)];have:=nH (λq=>[CV.l 3 (Lib.ri q)]) s i h;unfold rr;rw[<-this]) (λm=>by
   simp only[Ce,K5,Lib.eO,ca,bK,aC,la];exact h1) m 1 hp (by omega)
  simp only[l3,r3,aE (show(0:ax)<(s.length:ax)by omega),aw,aN,fJ,show decide ((0:ax)<=0)=ae from rfl];have e:=SQ 0 hp;have e0:=Ga (l:=s) hp;simp only[show aX 0=0 from rfl,e0,ia,e.1,e.2,aw,CL,fU];rw[show bE (0+1)=((1:au):ax)from rfl];refine Rv ?_ key;have:=nH (λq=>[CV.l 3 (Lib.ri q)]) s 0 hp;unfold rr;rw[show(0+1)=1 from rfl]at this;rw[<-this];rfl
theorem ok(s:ak (ak ax))(a:ax)(hf:pj s):c (rr s) a=ae/\v (rr s) a=(rr s,a):=by refine out _ _ ?_;unfold vo b;rw[fJ];exact run Lib.dE (λ_ _ _ _ y=>ab ([],y)) (λ_ _ _ _ EG EH=>ab (EH,EG)) s 0 a hf Lib.dE (du (by have:=hf.1;omega)) (λx=>ab (x,a)) (λ_=>rfl) rfl
end iq

namespace e_
open Lib (rr)
def FT(n:ax):aL:=decide (0<=n/\n<=15)
def oM(q:ak ax):aL:=decide (q.length=16)&&q.all FT
def mq(s:ak (ak ax))(a:ax):aL:=decide (s.length=3)&&(decide (0<=a/\a<=63)&&s.all oM)
theorem eg(n a b:ax):fX.v n a b=decide (a<=n/\n<=b):=by
 unfold fX.v;by_cases h1:a<=n
 ·rw[aE (show n≥a from h1),aw];by_cases h2:n<=b<;>simp[h1,h2]
 ·rw[aK (show¬n≥a from h1),aC];simp[h1]
theorem ok(s:ak (ak ax))(a:ax)(hf:iq.pj s):c (rr s) a=ae/\v (rr s) a=mq s a:=by
 refine out _ _ ?_;unfold vo b mq;rw[fJ];by_cases h3:¬s.length=3
 ·rw[show((s.length:ax) !=3)=ae by simp;omega,aK h3];rfl
 have h3:s.length=3:=Decidable.not_not.1 h3;rw[show((s.length:ax) !=3)=ah by simp;omega,aE h3,aC,eg];cases h4:decide (0<=a/\a<=63)with
 |false=>rfl
 |true=>
  rw[bz,aC,bA,bA];have inner:∀i (h:i<s.length) (K0 K1:aL->ax->ax->aY->ax->ar aL) (kf kt:ar aL) (h0:∀j:ax,K0 ah i j (rr s) a=kf) (h1:∀j:ax,K1 ah i j (rr s) a=kt),l9 Lib.dE K0 K1 Lib.dE ah (i:ax) 0 (rr s) a=bif(s[i]).all FT then kt else kf:=λi h K0 K1 kf kt h0 h1=>
   o9 (s[i]) FT (λm (j:au)=>l9 Lib.dE K0 K1 m ah (i:ax) (j:ax) (rr s) a) kf kt
    (λm j hj hp=>by have hl:=hf.2 _ (bk h);unfold FT at hp;simp only[l9,r9,fJ,Lib.eO,h,aW,Lib.dC,aN,aw,Lib.gg,Ga h,ia,f_,hj,Ms hj,cw,eg,hp,bz,aC,Lib.dQ hj (by omega:s[i].length<=9223372036854775807)])
    (λm j hj hp=>by unfold FT at hp;simp only[l9,r9,fJ,Lib.eO,h,aW,Lib.dC,aN,aw,Lib.gg,Ga h,ia,f_,hj,Ms hj,cw,eg,hp,bX,h0])
    (λm=>by simp only[l9,r9,fJ,Lib.eO,h,aW,Lib.dC,aN,aw,Lib.gg,Ga h,ia,f_,ca,bK,aC,h1]) Lib.dE (du (by have:=hf.2 _ (bk h);omega))
  have key:=o9 s oM (λm (i:au)=>l4 Lib.dE (λ(LZ:aL) (_:ax) (_:aY) (_:ax)=>ab LZ) (λ(_:aL) (_:ax) (_:aY) (_:ax)=>ab ae) m ah (i:ax) (rr s) a) (ab ah) (ab ae)
   (λm i h hp=>by unfold oM at hp;rw[az]at hp;have hl:=bU hp.1;simp only[l4,r4,fJ,Lib.eO,h,aW,Lib.dC,aN,aw,Lib.gg,Ga h,ia,f_,hl,show(((16:au):ax) !=16)=ah from rfl,aC];rw[inner i h _ _ _ _ (λ_=>rfl) (λ_=>rfl),hp.2,aw,Lib.dQ h (by omega)])
   (λm i h hp=>by
    unfold oM at hp;by_cases hl:s[i].length=16
    ·rw[aE hl,bA]at hp;simp only[l4,r4,fJ,Lib.eO,h,aW,Lib.dC,aN,aw,Lib.gg,Ga h,ia,f_,hl,show(((16:au):ax) !=16)=ah from rfl,aC];rw[inner i h _ _ _ _ (λ_=>rfl) (λ_=>rfl),hp,aC]
    ·simp only[l4,r4,fJ,Lib.eO,h,aW,Lib.dC,aN,aw,Lib.gg,Ga h,ia,f_,show((s[i].length:ax) !=16)=ae by simp;omega])
   (λm=>by simp only[l4,r4,fJ,Lib.eO,ca,bK,aC]) Lib.dE (du (by omega))
  refine key.trans ?_;cases s.all oM<;>rfl
end e_

namespace jW
open Lib (rr rs)
open fC (has without eU jb)
def d_(k:ai):aL:=decide (1<=(k.size:ax)/\(k.size:ax)<=30)
def Kq(l:ak ai)(i:au):aL:=d_ (l.getD i ⟨#[]⟩)&& !has (l.take i) (l.getD i ⟨#[]⟩)
def ll(l:ak ai):aL:=(cy l.length).all (Kq l)
def rn(w m:ak ai)(s:ak (ak ax))(a:ax):aL:=ll (w++m)&&(decide (w.length<=2)&&(decide (m.length<=4)&&e_.mq s a))
theorem jx(k:ai):tG.v k=d_ k:=e_.eg _ _ _
theorem A6(l:ak ai)(i:au):dM (Lib.rs l) (aX 0) i=Lib.rs (l.take i):=by unfold dM Lib.rs;rw[show aX 0=0 from rfl,iK,tp,List.map_take]
end jW

namespace zZ
open Lib (rr rs)
open fC (has)
end zZ

namespace mH
open Lib (rr rs re el Bh Gl Gm Gn En)
open fC (has)
open jW (rn)
def rW(e:En):aL:=jD.v e.k e.st e.li e.bo
def Fm(en:ak En)(w m:ak ai)(i:au):aL:=
 rW (el en i)&&((decide (i=0)||Go.Op.bytesLess (aA (el en (i-1)).k) (aA (el en i).k))&&(has w (el en i).k||has m (el en i).k))
def JF(en:ak En)(w m:ak ai)(s:ak (ak ax))(a:ax):aL:=(cy en.length).all (Fm en w m)&&(rn w m s a&&decide (w.length+m.length=en.length))
end mH

namespace nV
open Lib (rf el OV Mv UQ EE Zy Zz Fe)
open jW (d_)
def oI(now:ax)(f:Fe):aL:=d_ f.k&&(decide ((f.t.size:ax)<=400)&&(decide (1<=f.sta/\f.sta<=3)&&(decide (0<=f.li/\f.li<=999999)&&decide (0<=f.st/\f.st<=now))))
def oN(f g:Fe):aL:=decide (f.sta=1)&&(decide (g.sta=1)&&decide (f.k=g.k))
def apart(fe:ak Fe)(i:au):aL:=(cy i).all λj=> !oN (el fe i) (el fe j)
theorem eg(n a b:ax):fX.v n a b=decide (a<=n/\n<=b):=e_.eg n a b
end nV

namespace sW
open Lib (rr rs re rf rc el En Fe Cl Px Mu Ue Uf Ug Uh Ui Uj)
open jW (d_)
open mH (JF)
open nV (oI apart eg)
def H8(now:ax)(nf:au)(cl:ak Cl)(i:au):aL:=
 decide (1<=(el cl i).id/\(el cl i).id<=9)&&((decide (i=0)||decide ((el cl (i-1)).id<(el cl i).id))&&(d_ (el cl i).k&&(decide (1<=(el cl i).sta/\(el cl i).sta<=3)&&(decide (0<=(el cl i).fe/\(el cl i).fe<=(nf:ax))&&(decide (((el cl i).got.size:ax)<=400)&&(decide (0<=(el cl i).fr/\(el cl i).fr<=now)&&decide (0<=(el cl i).age)))))))
def iF(p:Px):aL:=
 decide (1<=p.now/\p.now<=1000000000)&&(JF p.en p.w p.m p.s p.a&&(decide (p.fe.length<=20)&&(decide (p.cl.length<=6)&&(decide (0<=p.hits/\p.hits<=1000000000)&&((cy p.fe.length).all (λi=>oI p.now (el p.fe i)&&apart p.fe i)&&(cy p.cl.length).all (H8 p.now p.fe.length p.cl))))))
end sW

namespace k9
theorem lS:∀x:ak Bd,bZ x x=ah
 |[]=>rfl
 |a::x=>by
  have h:¬a<a:=by rw[o4];omega
  simp[bZ,lS x,h]
theorem mb:∀x y z:ak Bd,bZ x y=ae->bZ y z=ae->bZ x z=ae
 |_,[],_,h,_=>by cases ‹ak Bd›<;>simp[bZ]at h
 |_,_::_,[],_,h=>by simp[bZ]at h
 |[],_::_,_::_,_,_=>by simp[bZ]
 |a::x,b::y,c::z,h1,h2=>by
  simp only[bZ,dg,az,a9,beq_iff_eq]at h1 h2⊢;simp only[o4]at h1 h2⊢;rcases h1 with h1|⟨rfl,h1⟩
  ·rcases h2 with h2|⟨rfl,h2⟩
   ·left;omega
   ·left;exact h1
  ·rcases h2 with h2|⟨rfl,h2⟩
   ·left;exact h2
   ·right;exact⟨rfl,mb x y z h1 h2⟩
theorem Jv:∀x y:ak Bd,bZ x y=ah->x≠y->bZ y x=ae
 |[],[],_,h=>bS rfl h
 |[],_::_,h,_=>by simp[bZ]at h
 |_::_,[],_,_=>by simp[bZ]
 |a::x,b::y,h,hn=>by
  simp only[bZ,je,Bool.and_eq_false_iff,ik,beq_eq_false_iff_ne]at h;simp only[bZ,dg,az,a9,beq_iff_eq];obtain⟨h1,h2⟩:=h;by_cases he:a=b
  ·subst he;right;refine⟨rfl,Jv x y ?_ (λe=>hn (by rw[e]))⟩
   rcases h2 with h2|h2
   ·exact bS rfl h2
   ·exact h2
  ·left;rw[o4]at h1⊢;have:a.toNat≠b.toNat:=λe=>he (UInt8.toNat_inj.1 e);omega
def key(y:ak CV):ak Bd:=aA (bW (y.getD 0 (.b ah)))
def lt(y z:ak CV):Prop:=bZ (key y) (key z)=ae
def cr(y:ak CV):ak CV:=[CV.s (bW (y.getD 0 (.b ah))),CV.i aj (cw (y.getD 1 (.b ah))),CV.i aj (cw (y.getD 2 (.b ah))),CV.s (bW (y.getD 3 (.b ah)))]
def nw(k:ai)(s l:ax)(b:ai):ak CV:=[CV.s k,CV.i aj s,CV.i aj l,CV.s b]
def pl(k:ai)(y:ak CV):aL:=bZ (key y) (aA k)
def pg(k:ai)(y:ak CV):aL:= !(bZ (key y) (aA k)||List.beq (key y) (aA k))
def val(r:aY)(k:ai)(s l:ax)(b:ai):aY:=(r.filter (pl k)).map cr++[nw k s l b]++(r.filter (pg k)).map cr
def Or(r:aY):Prop:=r.Pairwise lt/\∀y∈r,cr y=y
theorem AE{r:aY}(h:∀y∈r,cr y=y)(q:ak CV->aL):(r.filter q).map cr=r.filter q:=by have:=HV (l:=r.filter q) (f:=cr) (g:=λz=>z) (λy hy=>h y (dh.1 hy).1);rw[this];exact List.map_id _
theorem Az{r:aY}(h:Or r)(k:ai)(s l:ax)(b:ai):Or (val r k s l b)/\(val r k s l b).length<=r.length+1:=by
 unfold val;rw[AE h.2,AE h.2];have hg:∀y,pg k y=ae->bZ (aA k) (key y)=true:=by intro y hy;unfold pg at hy;simp only[dt,je]at hy;refine Jv _ _ hy.1 (λe=> ?_);have:=hy.2;rw[e,Lib.pb]at this;cases this
 refine⟨⟨?_, ?_⟩, ?_⟩
 ·rw[bR,qp];refine⟨h.1.sublist jg, ?_, ?_⟩
  ·rw[qq,tl];exact⟨λy hy=>hg y (dh.1 hy).2,h.1.sublist jg⟩
  ·intro y hy z hz;have h1:bZ (key y) (aA k)=true:=(dh.1 hy).2;rcases aQ.1 hz with q|q
   ·rw[aP.1 q];exact h1
   ·exact mb _ _ _ h1 (hg z (dh.1 q).2)
 ·intro y hy;rcases aQ.1 hy with q|q
  ·rcases aQ.1 q with q|q
   ·exact h.2 y (dh.1 q).1
   ·rw[aP.1 q];rfl
  ·exact h.2 y (dh.1 q).1
 ·have hlen:∀r:aY,(r.filter (pl k)).length+(r.filter (pg k)).length<=r.length:=by
   intro r;induction r with
   |nil=>exact cD _
   |cons y r ih=>
    have hx:pl k y=ae->pg k y=false:=by intro h;unfold pl at h;unfold pg;rw[h];rfl
    cases h1:pl k y with
    |true=>rw[eQ h1,dI (by rw[hx h1];simp)];simp only[cE];omega
    |false=>
     rw[dI (by simp[h1])];cases h2:pg k y with
     |true=>rw[eQ h2];simp only[cE];omega
     |false=>rw[dI (by simp[h2])];simp only[cE];omega
  have:=hlen r;simp only[b8,bM];omega
end k9

namespace oV
def p(s:aY)(k:ai)(i:au):aL:=cC (aA (bW (ao s i 0))) (aA k)
theorem ok(d:aY)(n:ai)(hl:d.length<=4294967296):c d n=ae/\v d n=Lib.fi (p d n) d.length 0:=by
 refine out d n ?_;unfold vo b;refine n9 (p d n) d.length (λm (i:au)=>l2 Lib.dE (λ(_:aY) (_:ai) (y7 _ _:ax)=>ab y7) (λ(_:aY) (_:ai) (_ _ _:ax)=>ab (-1)) m d n 0 (d.length:ax) (i:ax)) ab (λm i hi hp=> ?_) (λm i hi hp=> ?_) (λm=> ?_) Lib.dE (du (by omega))
 ·unfold p at hp;simp only[l2,r2,Lib.eO,Lib.dC,Lib.gg,hi,aW,aN,aw,uR.v,hp]
 ·unfold p at hp;simp only[l2,r2,Lib.eO,Lib.dC,Lib.gg,hi,aW,aN,aw,uR.v,hp,aC,Lib.dQ hi (by omega:d.length<=9223372036854775807)]
 ·simp only[l2,r2,Lib.eO,ca,bK,aC]
end oV

namespace l_
def cn(y:ak CV):aL:=match y with|[.s _, .i .i64 _, .i .i64 _, .s _]=>ae|_=>ah
def cr(y:ak CV):ak CV:=[CV.s (bW (y.getD 0 (.b ah))),CV.i aj (cw (y.getD 1 (.b ah))),CV.i aj (cw (y.getD 2 (.b ah))),CV.s (bW (y.getD 3 (.b ah)))]
theorem uv{y:ak CV}(h:cn y=ae):cr y=y:=by
 unfold cn at h;split at h
 ·rfl
 ·cases h
theorem mj{y:ak CV}(h:cn y=ae):y.length=4:=by rw[<-uv h];rfl
def keep(d:ai)(y:ak CV):aL:= !List.beq (aA (bW (y.getD 0 (.b ah)))) (aA d)
theorem g6(d:ai){s:aY}{i:au}(h:i<s.length):(s.take (i+1)).filter (keep d)=(s.take i).filter (keep d)++(bif keep d s[i]then [s[i]]else []):=by rw[dB h,mD];cases hk:keep d s[i]<;>simp[hk]
theorem run(N:au)(s0:aY)(d:ai)(hc:s0.all cn=ae)(hn:s0.length<=9223372036854775807)(K:ai->ax->ax->aY->ar R)(kr:aY->ar R)
  (hK:∀(j:au) x,x.length=s0.length->j<=s0.length->K d j s0.length x=kr (x.take j)) (m j i:au) (x:aY)
  (hi:j<i/\i<=s0.length/\x.length=s0.length/\(∀y∈x,y.length=4)/\x.take j=(s0.take i).filter (keep d)/\x.drop i=s0.drop i) (hm:s0.length-i<m):
  l5 N K m d j i x=kr (s0.filter (keep d)):=by
 have JX:∀y∈s0,cn y=true:=aZ.1 hc
 refine Lib.j5 (λm (s:au×au×aY)=>l5 N K m d s.1 s.2.1 s.2.2) (λs=>s0.length-s.2.1)
  (λs=>s.1<s.2.1/\s.2.1<=s0.length/\s.2.2.length=s0.length/\(∀y∈s.2.2,y.length=4)/\s.2.2.take s.1=(s0.take s.2.1).filter (keep d)/\s.2.2.drop s.2.1=s0.drop s.2.1)
  (λ_=>kr (s0.filter (keep d))) (λm s hs=> ?_) m (j,i,x) hi hm
 obtain⟨j,i,x⟩:=s;obtain⟨h1,h2,h3,h4,h5,h6⟩:=hs;simp only at h1 h2 h3 h4 h5 h6⊢;by_cases fO:i<s0.length
 ·right;have p9:i<x.length:=by omega
  have FJ:j<x.length:=by omega
  have hx:x[i]=s0[i]:=by have e1:=Lib.eF p9;have e2:=Lib.eF fO;rw[h6,e2]at e1;exact(jP e1).1.symm
  have hd:x.drop (i+1)=s0.drop (i+1):=by have e1:=Lib.eF p9;have e2:=Lib.eF fO;rw[h6,e2]at e1;exact(jP e1).2.symm
  have JY:=JX _ (bk fO);have hf:=g6 d fO;cases hk:keep d s0[i]with
  |true=>
   refine⟨(j+1,i+1,x.set j s0[i]), ?_,by simp only;omega,trivial, ?_⟩
   ·rw[hk,aw,<-h5]at hf;refine⟨by simp only;omega,by simp only;omega,by simpa using h3, ?_, ?_, ?_⟩
    ·intro y hy;rcases gG hy with h|h
     ·exact h4 y h
     ·rw[h];exact mj JY
    ·rw[hf];rw[dB (by simpa using FJ)];simp[qP]
    ·simp only;rw[qM (by omega)];exact hd
   ·have e:uR.v (bW (ao x i 0)) (cw (ao x i 1)) (cw (ao x i (1+1))) (bW (ao x i (1+1+1))) d=false:=by
     have:(!uR.v (bW (ao x i 0)) (cw (ao x i 1)) (cw (ao x i (1+1))) (bW (ao x i (1+1+1))) d)=true:=by rw[Lib.dc p9,hx];exact hk
     simpa using this
    have es:dP x j 0 [CV.s (bW (ao x i 0)),CV.i aj (cw (ao x i 1)),CV.i aj (cw (ao x i (1+1))),CV.s (bW (ao x i (1+1+1)))]=x.set j s0[i]:=by
     have hl:=h4 _ (bk FJ);rw[Lib.AX FJ,Lib.dc p9,Lib.dc p9,Lib.dc p9,Lib.dc p9,hx];have:gb x[j] 0 (cr s0[i])=s0[i]:=by rw[uv JY];unfold gb;have:=mj JY;simp[hl,this,fT]
     unfold cr at this;rw[this]
    have b1:(j:ax)<(x.length:ax):=by omega
    simp only[l5,r5,Lib.eO,Lib.dC,Lib.gg,p9,FJ,aW,bA,aw,e,bX,es,Lib.dQ fO hn,Lib.dQ (show j<s0.length by omega) hn]
  |false=>
   refine⟨(j,i+1,x), ?_,by simp only;omega,trivial, ?_⟩
   ·rw[hk,aC,da,<-h5]at hf;exact⟨by simp only;omega,by simp only;omega,h3,h4,hf.symm,hd⟩
   ·have e:uR.v (bW (ao x i 0)) (cw (ao x i 1)) (cw (ao x i (1+1))) (bW (ao x i (1+1+1))) d=true:=by
     have:(!uR.v (bW (ao x i 0)) (cw (ao x i 1)) (cw (ao x i (1+1))) (bW (ao x i (1+1+1))) d)=false:=by rw[Lib.dc p9,hx];exact hk
     simpa using this
    simp only[l5,r5,Lib.eO,Lib.dC,Lib.gg,p9,aW,bA,aw,e,bz,aC,Lib.dQ fO hn]
 ·left;have:i=s0.length:=by omega
  subst this;rw[la]at h5;have e:=hK j x h3 (by omega);rw[h5]at e;have p9:¬s0.length<x.length:=by omega
  simp only[l5,r5,Lib.eO,p9,bK,aC,e]
theorem ok(s0:aY)(iA:ai)(hc:s0.all cn=ae)(hn:s0.length<=4294967296):c s0 iA=ae/\v s0 iA=s0.filter (keep iA):=by
 refine out s0 iA ?_;have hv:=oV.ok s0 iA hn;unfold vo b;rw[hv.1,hv.2,aw];rcases Lib.n_ (oV.p s0 iA) s0.length 0 with ⟨h,lK⟩|⟨k,_,wP,hk,J4,JW⟩
 ·rw[h];have:s0.filter (keep iA)=s0:=by rw[ew];intro y hy;obtain⟨i,hi,rfl⟩:=cu hy;have:=lK i (bT _) (by omega);unfold oV.p at this;rw[Lib.dc hi]at this;unfold keep;rw[this];rfl
  rw[this];rfl
 ·rw[hk];have DT:k<s0.length:=by omega
  have fP:decide ((k:ax)=GA 1)=false:=aK (by show¬(k:ax)= -1;omega);rw[fP,aC,Lib.dQ DT (by omega)];have JX:∀y∈s0,cn y=true:=aZ.1 hc;refine run _ s0 iA hc (by omega) _ ab (λj x hx hj=> ?_) _ k (k+1) s0 ⟨by omega,by omega,rfl,λy hy=>mj (JX y hy), ?_,rfl⟩ (du (by omega))
  ·have b1:iV (j:ax) (s0.length:ax) (s0.length:ax)=true:=by simp[iV];omega
   have e:gE j x++aM [Ck.s,Ck.i aj,Ck.i aj,Ck.s] (s0.length-j)++mL s0.length x=gE j x++aM [Ck.s,Ck.i aj,Ck.i aj,Ck.s] (s0.length-j):=by rw[fT (by omega),da]
   have hl:(gE j x).length=j:=by simp;omega
   simp only[hx,Lib.gg,b1,aw,e];rw[Lib.Ju (by simp[iV];omega)];unfold dM;rw[show aX 0=0 from rfl,iK,tp,lG (by omega),km (by omega)]
  ·rw[g6 iA DT];have e1:keep iA s0[k]=false:=by unfold oV.p at J4;rw[Lib.dc DT]at J4;unfold keep;rw[J4];rfl
   have e2:(s0.take k).filter (keep iA)=s0.take k:=by
    rw[ew];intro y hy;obtain⟨i,hi,rfl⟩:=cu hy;have P5:i<k:=by simp at hi;omega
    have:=JW i (bT _) P5;unfold oV.p at this;rw[Lib.dc (by omega)]at this;rw[j_];unfold keep;rw[this];rfl
   rw[e1,e2,aC,da]
end l_

namespace fK
open Lib (re En)
def eB(x y:ai):aL:=bZ (aA x) (aA y)
def So(en:ak En):Prop:=en.Pairwise λx y=>eB x.k y.k=ae
def fc(en:ak En)(k:ai):ak En:=en.filter λx=> !decide (x.k=k)
def kF(en:ak En)(e:En):ak En:=en.filter (λx=>eB x.k e.k)++[e]++en.filter (λx=> !(eB x.k e.k||decide (x.k=e.k)))
theorem So.drop{en:ak En}(h:So en)(k:ai):So (fc en k):=ve _ h
theorem wz(en:ak En)(k:ai):(fc en k).length<=en.length:=kI ..
theorem drop_nil{en:ak En}(h:∀e∈en,1<=e.k.size):fc en ⟨#[]⟩=en:=by unfold fc;rw[ew];intro e he;have:=h e he;simp only[dt,ik];intro e2;rw[e2]at this;exact bS this (by decide)
theorem Cu{en:ak En}(h:So en):k9.Or (re en):=by
 constructor
 ·unfold Lib.re;rw[ka];exact h
 ·intro y hy;unfold Lib.re at hy;obtain⟨z,_,rfl⟩:=b7.1 hy;rfl
theorem xA(en:ak En)(e:En):k9.val (re en) e.k e.st e.li e.bo=re (kF en e):=by
 unfold k9.val kF Lib.re;rw[lF,lF,jC,jC,fw,fw];have e1:(k9.pl e.k∘En.row)=λx:En=>eB x.k e.k:=rfl;have e2:(k9.pg e.k∘En.row)=λx:En=> !(eB x.k e.k||decide (x.k=e.k)):=by funext x;show(!(bZ (aA x.k) (aA e.k)||List.beq (aA x.k) (aA e.k)))=_;rw[Lib.h_];rfl
 rw[e1,e2];rfl
theorem Ah(en:ak En)(k:ai):(re en).filter (l_.keep k)=re (fc en k):=by unfold Lib.re fc;rw[lF];congr 1;apply gC;intro x _;show(!List.beq (aA x.k) (aA k))=_;rw[Lib.h_]
theorem JE(en:ak En):(re en).all l_.cn=true:=by rw[aZ];intro y hy;unfold Lib.re at hy;obtain⟨z,_,rfl⟩:=b7.1 hy;rfl
theorem vG(en:ak En)(e:En)(h:So en):(kF en e).length<=en.length+1:=by have:=(k9.Az (Cu h) e.k e.st e.li e.bo).2;rw[xA,fZ,fZ]at this;exact this
end fK

namespace qG
open Lib (Px Cl Fe En el)
open fC (has eU)
open jW (d_ rn)
open mH (rW Fm JF)
open nV (oI oN apart)
open sW (H8 iF)
open fK (So eB)
def Du(now:ax)(nf:au)(c:Cl):aL:=
 decide (1<=c.id/\c.id<=9)&&(d_ c.k&&(decide (1<=c.sta/\c.sta<=3)&&(decide (0<=c.fe/\c.fe<=(nf:ax))&&(decide ((c.got.size:ax)<=400)&&(decide (0<=c.fr/\c.fr<=now)&&decide (0<=c.age))))))
structure fM (p:Px):Prop where
 now:1<=p.now/\p.now<=1000000000
 en:∀e∈p.en,rW e=ae
 so:So p.en
 ek:∀e∈p.en,e.k∈p.w\/e.k∈p.m
 pol:rn p.w p.m p.s p.a=ae
 len:p.w.length+p.m.length=p.en.length
 fl:p.fe.length<=20
 fe:∀f∈p.fe,oI p.now f=ae
 ap:p.fe.Pairwise λf g=>oN g f=ah
 cll:p.cl.length<=6
 cl:∀c∈p.cl,Du p.now p.fe.length c=ae
 cs:p.cl.Pairwise λc d=>c.id<d.id
 hits:0<=p.hits/\p.hits<=1000000000
theorem K4{α:Type}(R:α->α->Prop)(tr:∀x y z,R x y->R y z->R x z)(l:ak α)(h:∀i (hi:i+1<l.length),R (l[i]) (l[i+1])):l.Pairwise R:=by
 rw[cQ];have VC:∀d i (hi:i+d+1<l.length),R (l[i]) (l[i+d+1]):=by
  intro d;induction d with
  |zero=>intro i hi;exact h i hi
  |succ d ih=>intro i hi;exact tr _ _ _ (ih i (by omega)) (h (i+d+1) (by omega))
 intro i j hi hj J0;have:=VC (j-i-1) i (by omega);simp only[show i+(j-i-1)+1=j by omega]at this;exact this
theorem D3(x y z:ai)(a:eB x y=ae)(b:eB y z=ae):eB x z=true:=k9.mb _ _ _ a b
theorem XE{p:Px}(h:iF p=ae):fM p:=by
 obtain⟨h1,h2,h3,h4,h5,h6,h7⟩:_/\_/\_/\_/\_/\_/\_:=by unfold iF at h;simpa only[az,a9,aZ,mF]using h
 obtain⟨g1,g2,g3⟩:_/\_/\_:=by unfold JF at h2;simpa only[az,a9,aZ,mF]using h2
 have e1:∀i (hi:i<p.en.length),rW p.en[i]=ae/\(0<i->eB (el p.en (i-1)).k p.en[i].k=ae)/\(p.en[i].k∈p.w\/p.en[i].k∈p.m):=λi hi=>by have:=g1 i hi;unfold Fm at this;simp only[az,dg,a9,fg hi,eU]at this;exact⟨this.1,λh0=>this.2.1.resolve_left (by omega),this.2.2⟩
 have c1:∀i (hi:i<p.cl.length),Du p.now p.fe.length p.cl[i]=ae/\(0<i->(el p.cl (i-1)).id<p.cl[i].id):=λi hi=>by have:=h7 i hi;unfold H8 at this;unfold Du;simp only[az,dg,a9,fg hi]at this⊢;exact⟨⟨this.1,this.2.2⟩,λh0=>this.2.1.resolve_left (by omega)⟩
 have f1:∀i (hi:i<p.fe.length),oI p.now p.fe[i]=ae/\∀j (hj:j<i),oN p.fe[i] (p.fe[j]'(by omega))=false:=λi hi=>by
  have:=h6 i hi;unfold apart at this;simp only[aZ,mF,fg hi]at this;refine⟨this.1,λj hj=> ?_⟩
  have h:=this.2 j hj;rw[fg (show j<p.fe.length by omega)]at h;simpa using h
 refine⟨h1,λe he=> ?_, ?_,λe he=> ?_,g2,g3,h3,λf hf=> ?_, ?_,h4,λc hc=> ?_, ?_,h5⟩
 ·obtain⟨i,hi,rfl⟩:=cu he;exact(e1 i hi).1
 ·refine K4 (λx y:En=>eB x.k y.k=ae) (λx y z a b=>D3 _ _ _ a b) p.en λi hi=> ?_;have:=(e1 (i+1) hi).2.1 (by omega);rw[HW,fg (show i<p.en.length by omega)]at this;exact this
 ·obtain⟨i,hi,rfl⟩:=cu he;exact(e1 i hi).2.2
 ·obtain⟨i,hi,rfl⟩:=cu hf;exact(f1 i hi).1
 ·rw[cQ];intro i j hi hj J0;exact(f1 j hj).2 i J0
 ·obtain⟨i,hi,rfl⟩:=cu hc;exact(c1 i hi).1
 ·refine K4 (λc d:Cl=>c.id<d.id) (λx y z a b=>Int.lt_trans a b) p.cl λi hi=> ?_;have:=(c1 (i+1) hi).2 (by omega);rw[HW,fg (show i<p.cl.length by omega)]at this;exact this
theorem Xa{p:Px}(h:fM p):iF p=true:=by
 unfold iF JF;simp only[az,a9,aZ,mF];refine⟨h.now,⟨λi hi=> ?_,h.pol,h.len⟩,h.fl,h.cll,h.hits,λi hi=>⟨?_, ?_⟩,λi hi=> ?_⟩
 ·unfold Fm;simp only[az,dg,a9,fg hi,eU];refine⟨h.en _ (bk hi), ?_,h.ek _ (bk hi)⟩
  by_cases h0:i=0
  ·exact .inl h0
  ·right;rw[fg (show i-1<p.en.length by omega)];exact cQ.1 h.so (i-1) i (by omega) hi (by omega)
 ·rw[fg hi];exact h.fe _ (bk hi)
 ·unfold apart;simp only[aZ,mF];intro j hj;rw[fg hi,fg (show j<p.fe.length by omega),cQ.1 h.ap j i (by omega) hi hj];rfl
 ·have hc:=h.cl _ (bk hi);unfold Du at hc;unfold H8;simp only[az,dg,a9,fg hi]at hc⊢;refine⟨hc.1, ?_,hc.2⟩
  by_cases h0:i=0
  ·exact .inl h0
  ·right;rw[fg (show i-1<p.cl.length by omega)];exact cQ.1 h.cs (i-1) i (by omega) hi (by omega)
theorem ml{p:Px}:iF p=ae↔fM p:=⟨XE,Xa⟩
end qG

namespace cK
def I(q:aY)(a:ax):Prop:=0<=a/\a<=(q.length:ax)/\q.length<=1048576
theorem Mt(x:BitVec 64):0<=bE ((db (gA x (bG 64 255)):au):ax)/\bE ((db (gA x (bG 64 255)):au):ax)<=255:=by
 have h:db (gA x (bG 64 255))<=255:=by have e:db (gA x (bG 64 255))=x.toNat&&&255:=BitVec.toNat_and x (bG 64 255);rw[e];exact Nat.and_le_right
 rw[cY (by omega) (by omega)];omega
theorem ok(q:aY)(a s:ax)(hI:I q a):∃n a' s',c q a s=ae/\v q a s=(n,q,a',s')/\I q a'/\0<=n/\n<=255:=by
 obtain⟨h0,h1,h2⟩:=hI;by_cases h:a<(q.length:ax)
 ·have hw:bE (a+1)=a+1:=cY (by omega) (by omega);have hvo:∃n s',vo q a s=ab (n,q,a+1,s')/\0<=n/\n<=255:=by unfold vo b;rw[aE h,aE h0,aw,aN,aw,hw];exact⟨_,_,rfl,Mt _⟩
  obtain⟨n,s',hv,hr⟩:=hvo;obtain⟨e1,e2⟩:=out q a s hv;exact⟨n,a+1,s',e1,e2,⟨by omega,by omega,h2⟩,hr⟩
 ·have hvo:∃n s',vo q a s=ab (n,q,a,s')/\0<=n/\n<=255:=by unfold vo b;rw[aK h,aC];exact⟨_,_,rfl,Mt _⟩
  obtain⟨n,s',hv,hr⟩:=hvo;obtain⟨e1,e2⟩:=out q a s hv;exact⟨n,a,s',e1,e2,⟨h0,h1,h2⟩,hr⟩
end cK

namespace rQ
def el(r:aY)(i:au):aL:=decide (1<=((bW (ao r i 0)).size:ax)/\((bW (ao r i 0)).size:ax)<=8)&&(!decide (((bW (ao r i 1)).size:ax)>20000)&&(decide (0<=cw (ao r i 2)/\cw (ao r i 2)<=((bW (ao r i 1)).size:ax))&&(i==0||Go.Op.bytesLess (aA (bW (ao r (i-1) 0))) (aA (bW (ao r i 0))))))
def val(r:aY):aL:=decide (r.length<=30)&&(cy r.length).all (el r)
theorem zc(n a b:ax):fX.v n a b=decide (a<=n/\n<=b):=by unfold fX.v;by_cases h:a<=n<;>by_cases h2:n<=b<;>simp[h,h2]
theorem Rk{i:au}(h:0<i)(hn:i<=9223372036854775807):bE ((i:ax)-1)=((i-1:au):ax):=by rw[cY (by omega) (by omega)];omega
end rQ

namespace ma
def p(s:aY)(k:ai)(i:au):aL:=cC (aA (bW (ao s i 0))) (aA k)
theorem ok(d:aY)(n:ai)(hl:d.length<=4294967296):c d n=ae/\v d n=Lib.fi (p d n) d.length 0:=by
 refine out d n ?_;unfold vo b;refine n9 (p d n) d.length (λm (i:au)=>l2 Lib.dE (λ(_:aY) (_:ai) (y7 _ _:ax)=>ab y7) (λ(_:aY) (_:ai) (_ _ _:ax)=>ab (-1)) m d n 0 (d.length:ax) (i:ax)) ab (λm i hi hp=> ?_) (λm i hi hp=> ?_) (λm=> ?_) Lib.dE (du (by omega))
 ·unfold p at hp;simp only[l2,r2,Lib.eO,Lib.dC,Lib.gg,hi,aW,aN,aw,yb.v,hp]
 ·unfold p at hp;simp only[l2,r2,Lib.eO,Lib.dC,Lib.gg,hi,aW,aN,aw,yb.v,hp,aC,Lib.dQ hi (by omega:d.length<=9223372036854775807)]
 ·simp only[l2,r2,Lib.eO,ca,bK,aC]
end ma

namespace v_
def cn(y:ak CV):aL:=match y with|[.s _, .s _, .i .i64 _]=>ae|_=>ah
def cr(y:ak CV):ak CV:=[CV.s (bW (y.getD 0 (.b ah))),CV.s (bW (y.getD 1 (.b ah))),CV.i aj (cw (y.getD 2 (.b ah)))]
theorem uv{y:ak CV}(h:cn y=ae):cr y=y:=by
 unfold cn at h;split at h
 ·rfl
 ·cases h
theorem mj{y:ak CV}(h:cn y=ae):y.length=3:=by rw[<-uv h];rfl
def keep(d:ai)(y:ak CV):aL:= !List.beq (aA (bW (y.getD 0 (.b ah)))) (aA d)
theorem g6(d:ai){s:aY}{i:au}(h:i<s.length):(s.take (i+1)).filter (keep d)=(s.take i).filter (keep d)++(bif keep d s[i]then [s[i]]else []):=by rw[dB h,mD];cases hk:keep d s[i]<;>simp[hk]
theorem run(N:au)(s0:aY)(d:ai)(hc:s0.all cn=ae)(hn:s0.length<=9223372036854775807)(K:ai->ax->ax->aY->ar R)(kr:aY->ar R)
  (hK:∀(j:au) x,x.length=s0.length->j<=s0.length->K d j s0.length x=kr (x.take j)) (m j i:au) (x:aY)
  (hi:j<i/\i<=s0.length/\x.length=s0.length/\(∀y∈x,y.length=3)/\x.take j=(s0.take i).filter (keep d)/\x.drop i=s0.drop i) (hm:s0.length-i<m):
  l5 N K m d j i x=kr (s0.filter (keep d)):=by
 have JX:∀y∈s0,cn y=true:=aZ.1 hc
 refine Lib.j5 (λm (s:au×au×aY)=>l5 N K m d s.1 s.2.1 s.2.2) (λs=>s0.length-s.2.1)
  (λs=>s.1<s.2.1/\s.2.1<=s0.length/\s.2.2.length=s0.length/\(∀y∈s.2.2,y.length=3)/\s.2.2.take s.1=(s0.take s.2.1).filter (keep d)/\s.2.2.drop s.2.1=s0.drop s.2.1)
  (λ_=>kr (s0.filter (keep d))) (λm s hs=> ?_) m (j,i,x) hi hm
 obtain⟨j,i,x⟩:=s;obtain⟨h1,h2,h3,h4,h5,h6⟩:=hs;simp only at h1 h2 h3 h4 h5 h6⊢;by_cases fO:i<s0.length
 ·right;have p9:i<x.length:=by omega
  have FJ:j<x.length:=by omega
  have hx:x[i]=s0[i]:=by have e1:=Lib.eF p9;have e2:=Lib.eF fO;rw[h6,e2]at e1;exact(jP e1).1.symm
  have hd:x.drop (i+1)=s0.drop (i+1):=by have e1:=Lib.eF p9;have e2:=Lib.eF fO;rw[h6,e2]at e1;exact(jP e1).2.symm
  have JY:=JX _ (bk fO);have hf:=g6 d fO;cases hk:keep d s0[i]with
  |true=>
   refine⟨(j+1,i+1,x.set j s0[i]), ?_,by simp only;omega,trivial, ?_⟩
   ·rw[hk,aw,<-h5]at hf;refine⟨by simp only;omega,by simp only;omega,by simpa using h3, ?_, ?_, ?_⟩
    ·intro y hy;rcases gG hy with h|h
     ·exact h4 y h
     ·rw[h];exact mj JY
    ·rw[hf];rw[dB (by simpa using FJ)];simp[qP]
    ·simp only;rw[qM (by omega)];exact hd
   ·have e:yb.v (bW (ao x i 0)) (bW (ao x i 1)) (cw (ao x i (1+1))) d=false:=by
     have:(!yb.v (bW (ao x i 0)) (bW (ao x i 1)) (cw (ao x i (1+1))) d)=true:=by rw[Lib.dc p9,hx];exact hk
     simpa using this
    have es:dP x j 0 [CV.s (bW (ao x i 0)),CV.s (bW (ao x i 1)),CV.i aj (cw (ao x i (1+1)))]=x.set j s0[i]:=by
     have hl:=h4 _ (bk FJ);rw[Lib.AX FJ,Lib.dc p9,Lib.dc p9,Lib.dc p9,hx];have:gb x[j] 0 (cr s0[i])=s0[i]:=by rw[uv JY];unfold gb;have:=mj JY;simp[hl,this,fT]
     unfold cr at this;rw[this]
    have b1:(j:ax)<(x.length:ax):=by omega
    simp only[l5,r5,Lib.eO,Lib.dC,Lib.gg,p9,FJ,aW,bA,aw,e,bX,es,Lib.dQ fO hn,Lib.dQ (show j<s0.length by omega) hn]
  |false=>
   refine⟨(j,i+1,x), ?_,by simp only;omega,trivial, ?_⟩
   ·rw[hk,aC,da,<-h5]at hf;exact⟨by simp only;omega,by simp only;omega,h3,h4,hf.symm,hd⟩
   ·have e:yb.v (bW (ao x i 0)) (bW (ao x i 1)) (cw (ao x i (1+1))) d=true:=by
     have:(!yb.v (bW (ao x i 0)) (bW (ao x i 1)) (cw (ao x i (1+1))) d)=false:=by rw[Lib.dc p9,hx];exact hk
     simpa using this
    simp only[l5,r5,Lib.eO,Lib.dC,Lib.gg,p9,aW,bA,aw,e,bz,aC,Lib.dQ fO hn]
 ·left;have:i=s0.length:=by omega
  subst this;rw[la]at h5;have e:=hK j x h3 (by omega);rw[h5]at e;have p9:¬s0.length<x.length:=by omega
  simp only[l5,r5,Lib.eO,p9,bK,aC,e]
theorem ok(s0:aY)(iA:ai)(hc:s0.all cn=ae)(hn:s0.length<=4294967296):c s0 iA=ae/\v s0 iA=s0.filter (keep iA):=by
 refine out s0 iA ?_;have hv:=ma.ok s0 iA hn;unfold vo b;rw[hv.1,hv.2,aw];rcases Lib.n_ (ma.p s0 iA) s0.length 0 with ⟨h,lK⟩|⟨k,_,wP,hk,J4,JW⟩
 ·rw[h];have:s0.filter (keep iA)=s0:=by rw[ew];intro y hy;obtain⟨i,hi,rfl⟩:=cu hy;have:=lK i (bT _) (by omega);unfold ma.p at this;rw[Lib.dc hi]at this;unfold keep;rw[this];rfl
  rw[this];rfl
 ·rw[hk];have DT:k<s0.length:=by omega
  have fP:decide ((k:ax)=GA 1)=false:=aK (by show¬(k:ax)= -1;omega);rw[fP,aC,Lib.dQ DT (by omega)];have JX:∀y∈s0,cn y=true:=aZ.1 hc;refine run _ s0 iA hc (by omega) _ ab (λj x hx hj=> ?_) _ k (k+1) s0 ⟨by omega,by omega,rfl,λy hy=>mj (JX y hy), ?_,rfl⟩ (du (by omega))
  ·have b1:iV (j:ax) (s0.length:ax) (s0.length:ax)=true:=by simp[iV];omega
   have e:gE j x++aM [Ck.s,Ck.s,Ck.i aj] (s0.length-j)++mL s0.length x=gE j x++aM [Ck.s,Ck.s,Ck.i aj] (s0.length-j):=by rw[fT (by omega),da]
   have hl:(gE j x).length=j:=by simp;omega
   simp only[hx,Lib.gg,b1,aw,e];rw[Lib.Ju (by simp[iV];omega)];unfold dM;rw[show aX 0=0 from rfl,iK,tp,lG (by omega),km (by omega)]
  ·rw[g6 iA DT];have e1:keep iA s0[k]=false:=by unfold ma.p at J4;rw[Lib.dc DT]at J4;unfold keep;rw[J4];rfl
   have e2:(s0.take k).filter (keep iA)=s0.take k:=by
    rw[ew];intro y hy;obtain⟨i,hi,rfl⟩:=cu hy;have P5:i<k:=by simp at hi;omega
    have:=JW i (bT _) P5;unfold ma.p at this;rw[Lib.dc (by omega)]at this;rw[j_];unfold keep;rw[this];rfl
   rw[e1,e2,aC,da]
end v_

namespace gz
open Lib (rd el Fi)
def PB(l:ak Fi):Prop:=l.Pairwise λx y=>fK.eB x.n y.n=ae
def without(l:ak Fi)(n:ai):ak Fi:=l.filter λx=> !decide (x.n=n)
def put(l:ak Fi)(f:Fi):ak Fi:=l.filter (λx=>fK.eB x.n f.n)++[f]++l.filter (λx=> !(fK.eB x.n f.n||decide (x.n=f.n)))
def oI(f:Fi):aL:=decide (1<=(f.n.size:ax)/\(f.n.size:ax)<=8)&&(!decide ((f.t.size:ax)>20000)&&decide (0<=f.kp/\f.kp<=(f.t.size:ax)))
def D_(l:ak Fi):aL:=rQ.val (rd l)
theorem irrefl(x:ai):fK.eB x x=false:=k9.lS _
theorem vD{l:ak Fi}:D_ l=ae↔l.length<=30/\(∀f∈l,oI f=ae)/\PB l:=by
 unfold D_ rQ.val;rw[az,a9,aZ,kG];have e:∀i (h:i<l.length),rQ.el (rd l) i=(oI l[i]&&(i==0||fK.eB (l.getD (i-1) default).n l[i].n)):=λi h=>by
  unfold rQ.el oI fK.eB;rw[Zv h,rd1 h,show ao (rd l) i 2=CV.i aj l[i].kp from rd2 h,Zv (show i-1<l.length by omega)];have h5:l.getD (i-1) default=l[i-1]:=by simp[gW,show i-1<l.length by omega]
  rw[h5];simp only[bW,cw,mY];rfl
 constructor
 ·rintro ⟨h1,h2⟩;have h3:∀i (h:i<l.length),oI l[i]=ae/\(i=0\/fK.eB (l.getD (i-1) default).n l[i].n=ae):=λi h=>by have:=h2 i (by simpa using h);rw[e i h,az,dg]at this;exact⟨this.1,this.2.imp (λq=>by simpa using q) id⟩
  refine⟨h1,λf hf=> ?_, ?_⟩
  ·obtain⟨i,hi,rfl⟩:=cu hf;exact(h3 i hi).1
  ·have VC:∀d i (hi:i+d+1<l.length),fK.eB l[i].n l[i+d+1].n=true:=by
    intro d;induction d with
    |zero=>
     intro i hi;rcases(h3 (i+1) (by omega)).2 with q|q
     ·omega
     ·simpa [gW,show i<l.length by omega]using q
    |succ d ih=>
     intro i hi;have a:=ih i (by omega);rcases(h3 (i+d+1+1) (by omega)).2 with q|q
     ·omega
     ·have q:fK.eB l[i+d+1].n l[i+d+1+1].n=true:=by simpa [gW,show i+d+1<l.length by omega]using q
      exact k9.mb _ _ _ a q
   unfold PB;rw[cQ];intro i j hi hj J0;have:=VC (j-i-1) i (by omega);simpa only[show i+(j-i-1)+1=j by omega]using this
 ·rintro ⟨h1,h2,h3⟩;refine⟨h1,λi hi=> ?_⟩
  have hi:i<l.length:=by simpa using hi
  rw[e i hi,h2 _ (bk hi),bA,dg];by_cases hz:i=0
  ·left;simpa using hz
  ·right;have:=cQ.1 h3 (i-1) i (by omega) hi (by omega);simpa [gW,show i-1<l.length by omega]using this
theorem VG(l:ak Fi):(rd l).all v_.cn=true:=by rw[aZ];intro y hy;unfold Lib.rd at hy;obtain⟨z,_,rfl⟩:=b7.1 hy;rfl
theorem YM(l:ak Fi)(n:ai):(rd l).filter (v_.keep n)=rd (without l n):=by unfold Lib.rd without;rw[lF];congr 1;apply gC;intro x _;show(!List.beq (aA x.n) (aA n))=_;rw[Lib.h_]
theorem LV(l:ak Fi)(n:ai):(without l n).length<=l.length:=kI ..
theorem Rl{l:ak Fi}(h:PB l)(n:ai):PB (without l n):=ve _ h
theorem vG{l:ak Fi}(f:Fi):(put l f).length<=l.length+1:=by
 unfold put;have:∀r:ak Fi,(r.filter λx=>fK.eB x.n f.n).length+(r.filter λx=> !(fK.eB x.n f.n||decide (x.n=f.n))).length<=r.length:=by
  intro r;induction r with
  |nil=>exact cD _
  |cons y r ih=>
   cases h1:fK.eB y.n f.n with
   |true=>rw[eQ (by simpa using h1),dI (by simp[h1])];simp only[cE];omega
   |false=>
    rw[dI (by simp[h1])];by_cases h2:y.n=f.n
    ·rw[dI (by simp[h2])];simp only[cE];omega
    ·rw[eQ (by simp[h1,h2])];simp only[cE];omega
 have:=this l;simp only[b8,bM];omega
def W9(l:ak Fi)(k:ax)(n t o:ai):ar (ak Fi):=
 match l.find? λx=>decide (x.n=n)with
 |some f=>
  if k=1 then ab (put l ⟨f.n,f.t++t,f.kp⟩)
  else if k=2 then ab (put l ⟨f.n,f.t,f.t.size⟩)
  else if k=3 then(if f.kp≠f.t.size\/o=n then af else ab (put (without l n) ⟨o,f.t,f.kp⟩))
  else ab (without l n)
 |none=>if k=1 then ab (put l ⟨n,t,0⟩)else af
def Bw(k:ax)(t o:ai):aL:=decide (1<=k/\k<=4)&&((decide (t=⟨#[]⟩)||decide (k=1))&&(decide (o=⟨#[]⟩)||decide (k=3)))
def act(l:ak Fi)(k:ax)(n t o:ai):ar (ak Fi):=
 bif D_ l&&Bw k t o then(match W9 l k n t o with|some d=>bif D_ d then ab d else af|none=>af)else af
structure Ac where
 k:ax
 n:ai
 t:ai
 o:ai
 deriving DecidableEq
instance:Inhabited Ac:=⟨⟨0,⟨#[]⟩,⟨#[]⟩,⟨#[]⟩⟩⟩
def Ac.row(e:Ac):ak CV:=[CV.i aj e.k,CV.s e.n,CV.s e.t,CV.s e.o]
def ra(l:ak Ac):aY:=l.map Ac.row
def Bx:ak Fi->au->ak Ac->ak Fi×au
 |l,i,[]=>(l,i)
 |l,i,a::r=>match act l a.k a.n a.t a.o with|some d=>Bx d (i+1) r|none=>(l,i)
end gz

namespace nW
theorem size(x:ax):(v x).size=4:=by unfold v;rw[Lib.fQ];simp only[cF,Lib.sk]
end nW

namespace iw
def rd(x:ax):ax:=bif decide (bL x 2=1)then(bj dx (↑(db (jA (bG 32 (bj dx (cj x 2))) (bG 32 3558460437))):ax))else(bj dx (cj x 2))
def kL:au->ax->ax|0,x=>x|n+1,x=>kL n (rd x)
theorem in6(N:au)(K:ax->ai->ax->ax->ar R)(a:ai)(b:ax):∀(d n i:au) (x:ax),d+i=8->d<n->l6 N K n x a b (i:ax)=K (kL d x) a b 8:=by
 intro d;induction d with
 |zero=>
  intro n i x h1 h2;obtain⟨n,rfl⟩:∃m,n=m+1:=⟨n-1,by omega⟩
  have:i=8:=by omega
  subst this;rfl
 |succ d ih=>
  intro n i x h1 h2;obtain⟨n,rfl⟩:∃m,n=m+1:=⟨n-1,by omega⟩
  have nc:bE ((i:ax)+1)=((i+1:au):ax):=cY (by omega) (by omega);rw[kL,<-ih n (i+1) (rd x) (by omega) (by omega)];simp only[l6,r6,aE (show(i:ax)<8 by omega),aw,nc,rd];cases decide (bL x 2=1)<;>rfl
def su(t:ai):au->au->ax->ax
 |0,_,s=>s
 |d+1,i,s=>su t d (i+1) (kL 8 (bj dx (↑(db (jA (bG 32 s) (bG 32 (bj dx (↑(iI t i):ax))))):ax)))
theorem run(s:ax)(t:ai)(ht:t.size<=4611686018427387904):vo s t=ab (su t t.size 0 s):=by
 unfold vo b;have key:∀(d n i:au) (s:ax),d+i=t.size->d<n->l2 Lib.dE (λ(HN:ax) (_:ai) (_:ax)=>ab HN) n s t (i:ax)=ab (su t d i s):=by
  intro d;induction d with
  |zero=>
   intro n i s h1 h2;obtain⟨n,rfl⟩:∃m,n=m+1:=⟨n-1,by omega⟩
   simp only[l2,r2,Lib.eO,aK (show¬i<t.size by omega),aC];rfl
  |succ d ih=>
   intro n i s h1 h2;obtain⟨n,rfl⟩:∃m,n=m+1:=⟨n-1,by omega⟩
   have nc:bE ((i:ax)+1)=((i+1:au):ax):=cY (by omega) (by omega);simp only[l2,r2,Lib.eO,aE (show i<t.size by omega),Lib.dC,aN,aw,Lib.gg];have e:=in6 (R:=ax) Lib.dE (λy7 y8 y9 _=>l2 Lib.dE (λHN _ _=>ab HN) n y7 y8 (bE (y9+1))) t (i:ax) 8 Lib.dE 0 (bj dx (↑(db (jA (bG 32 s) (bG 32 (bj dx (↑(iI t i):ax))))):ax)) rfl (by unfold Lib.dE;omega);refine e.trans ?_;rw[nc,ih n (i+1) _ (by omega) (by omega)];rfl
 exact key t.size Lib.dE 0 s (by omega) (du (by omega))
theorem ok(s:ax)(t:ai)(ht:t.size<=4611686018427387904):c s t=ae/\v s t=su t t.size 0 s:=out s t (run s t ht)
end iw

namespace tH
theorem ok(t:ai)(ht:t.size<=4611686018427387904):c t=ae/\v t=iw.su t t.size 0 4294967295:=by have h:=iw.ok 4294967295 t ht;refine out t ?_;unfold vo b;rw[h.1,h.2];rfl
end tH

namespace nX
def fr(t:ai):ai:=bytesOf (Lib.vb t.size)++nW.v (iw.su t t.size 0 4294967295)++t
def val(t:ai):ai×aL:=if 1<=t.size/\t.size<=9000 then(fr t,ae)else(⟨#[]⟩,ah)
theorem eg(n a b:ax):fX.v n a b=decide (a<=n/\n<=b):=by unfold fX.v;by_cases h:a<=n<;>by_cases h2:n<=b<;>simp[h,h2]
theorem ok(t:ai):c t=ae/\v t=val t:=by
 refine out t ?_;unfold vo b val;rw[eg];by_cases h:1<=t.size/\t.size<=9000
 ·have hs:=tH.ok t (by omega);have hc:ko.c (t.size:ax)=true:=aE (show(t.size:ax)<=9223372036854775807 by omega);have z1:(ko.v (t.size:ax)).size<=64:=Lib.LS (x:=(t.size:ax)) (by omega);rw[aE (show(1:ax)<=(t.size:ax)/\(t.size:ax)<=9000 by omega),br h,hs.1,hs.2];simp(disch:=omega) only[bz,aC,aw,hc,Lib.sJ,nW.size,Lib.abe];rfl
 ·rw[aK (show¬((1:ax)<=(t.size:ax)/\(t.size:ax)<=9000)by omega),bF h];rfl
end nX

namespace z6
theorem head{t:ai}{p:au}{b:Bd}{r:ak Bd}(h:t.data.toList.drop p=b::r):p<t.size/\iI t p=b.toNat/\t.data.toList.drop (p+1)=r:=by
 have hl:=o6 cq h;rw[im,cE]at hl;have hs:t.data.toList.length=t.size:=rfl;have hp:p<t.data.toList.length:=by omega
 have hd:=nR hp;rw[hd]at h;injection h with h1 h2;refine⟨by omega, ?_,h2⟩
 unfold iI;have se:p<t.data.size:=hp;rw[show t.data.getD p 0=t.data[p]by unfold Array.getD;rw[dif_pos se];rfl];rw[<-h1];rfl
theorem wq(x:ax)(r:aY):(bytesOf ([CV.i aU x]::r)).data.toList=ay x.toNat::(bytesOf r).data.toList:=rfl
theorem Le(t:ai)(a:au)(rest:ak Bd):∀(f j:au) (n y:ax),0<=y->0<=n->n+y*128^j<=1000000000->y<=1000000000->(j>0->0<y)->t.data.toList.drop (a+j)=(bytesOf (Lib.vb y)).data.toList++rest->(Lib.vb y).length<=f->
  Lib.rv t a f j n=(n+y*128^j,((a+j+(Lib.vb y).length:au):ax),ae)/\t.data.toList.drop (a+j+(Lib.vb y).length)=rest
 |0,j,n,y,h0,hn,hb,hy,hj,hd,hf=>by
  by_cases hc:y>127
  ·rw[Lib.ui hc]at hf;simp at hf
  ·rw[Lib.kZ hc]at hf;simp at hf
 |f+1,j,n,y,h0,hn,hb,hy,hj,hd,hf=>by
  by_cases hc:y>127
  ·have e1:bL y 128=y%128:=ed (by omega);have e2:cj y 128=y/128:=gn (by omega);have e3:bE (y%128+128)=y%128+128:=cY (by omega) (by omega);have e4:bj aU (y%128+128)=y%128+128:=by show(y%128+128)%256=_;omega
   have e5:bE (y/128)=y/128:=cY (by omega) (by omega);have ev:Lib.vb y=[CV.i aU (y%128+128)]::Lib.vb (y/128):=by rw[Lib.ui hc,e1,e2,e3,e4,e5]
   rw[ev,wq,MO]at hd;obtain⟨q1,q2,q3⟩:=head hd;have q4:(iI t (a+j):ax)=y%128+128:=by rw[q2,Fa];omega
   rw[ev,cE]at hf;have hP:y*128^j=y%128*128^j+y/128*128^(j+1):=by
    have hyd:y=y%128+128*(y/128):=by omega
    rw[vZ];generalize (128:ax)^j=P;conv=>lhs;rw[hyd]
    rw[Int.add_mul,Int.mul_comm P 128,<-Int.mul_assoc,Int.mul_comm (y/128) 128]
   have hpp:(0:ax)<=y%128*128^j:=Int.mul_nonneg (by omega) (Int.le_of_lt (Int.pow_pos (by omega)));obtain⟨i1,i2⟩:=Le t a rest f (j+1) (n+y%128*128^j) (y/128) (by omega) (by omega) (by omega) (by omega) (by omega) (by rw[show a+(j+1)=a+j+1 by omega];exact q3) (by omega);refine⟨?_, ?_⟩
   ·unfold Lib.rv;rw[br q1,q4,br (by omega),show(y%128+128)%128=y%128 by omega,i1,hP,ev,cE];refine Prod.ext ?_ (Prod.ext ?_ rfl)
    ·dsimp only;omega
    ·dsimp only;omega
   ·rw[ev,cE,show a+j+((Lib.vb (y/128)).length+1)=a+(j+1)+(Lib.vb (y/128)).length by omega];exact i2
  ·have e4:bj aU y=y:=by show y%256=_;omega
   have ev:Lib.vb y=[[CV.i aU y]]:=by rw[Lib.kZ hc,e4]
   rw[ev,wq,MO]at hd;obtain⟨q1,q2,q3⟩:=head hd;have q4:(iI t (a+j):ax)=y:=by rw[q2,Fa];omega
   refine⟨?_,by rw[ev];exact q3⟩
   unfold Lib.rv;rw[br q1,q4,bF hc,show y%128=y by omega,bF (by omega),ev];rfl
theorem UP{y:ax}(h:y<=1000000000):(Lib.vb y).length<=5:=by
 have e:(128:ax)^(4+1)=34359738368:=by decide
 exact Lib.vM 4 y (by rw[e];omega)
theorem pH(t:ai)(p:au)(y:ax)(rest:ak Bd)(h0:0<=y)(h1:y<=1000000000)(hd:t.data.toList.drop p=(bytesOf (Lib.vb y)).data.toList++rest):Lib.gL t p=(y,((p+(Lib.vb y).length:au):ax),ae)/\t.data.toList.drop (p+(Lib.vb y).length)=rest:=by
 have hl:=o6 cq hd;have fP:0<(Lib.vb y).length:=by
  by_cases hc:y>127
  ·rw[Lib.ui hc];simp
  ·rw[Lib.kZ hc];simp
 have hb:(bytesOf (Lib.vb y)).data.toList.length=(Lib.vb y).length:=Lib.fQ _;rw[im,b8,hb]at hl;have hs:t.data.toList.length=t.size:=rfl;obtain⟨i1,i2⟩:=Le t p rest 5 0 0 y h0 (by omega) (by simp;omega) h1 (by omega) (by simpa using hd) (UP h1);refine⟨?_,by simpa using i2⟩
 unfold Lib.gL;rw[br (by omega),show((p:au):ax).toNat=p from rfl,i1];simp
theorem JJ(t k:ai)(p:au)(rest:ak Bd)(hd:t.data.toList.drop p=k.data.toList++rest):t.extract p (p+k.size)=k:=by apply Lib.Ab;simp only[mC,ql,Bc];rw[hd,show p+k.size-p=k.data.toList.length by show p+k.size-p=k.size;omega,List.take_left]
end z6

namespace rP
theorem in6(N:au)(K:ax->ai->ax->ax->ar R)(a:ai)(b:ax):∀(d n i:au) (x:ax),d+i=8->d<n->l6 N K n x a b (i:ax)=K (iw.kL d x) a b 8:=by
 intro d;induction d with
 |zero=>
  intro n i x h1 h2;obtain⟨n,rfl⟩:∃m,n=m+1:=⟨n-1,by omega⟩
  have:i=8:=by omega
  subst this;rfl
 |succ d ih=>
  intro n i x h1 h2;obtain⟨n,rfl⟩:∃m,n=m+1:=⟨n-1,by omega⟩
  have nc:bE ((i:ax)+1)=((i+1:au):ax):=cY (by omega) (by omega);rw[iw.kL,<-ih n (i+1) (iw.rd x) (by omega) (by omega)];simp only[l6,r6,aE (show(i:ax)<8 by omega),aw,nc,iw.rd];cases decide (bL x 2=1)<;>rfl
theorem run(s:ax)(t:ai)(ht:t.size<=4611686018427387904):vo s t=ab (iw.su t t.size 0 s):=by
 unfold vo b;have key:∀(d n i:au) (s:ax),d+i=t.size->d<n->l2 Lib.dE (λ(HN:ax) (_:ai) (_:ax)=>ab HN) n s t (i:ax)=ab (iw.su t d i s):=by
  intro d;induction d with
  |zero=>
   intro n i s h1 h2;obtain⟨n,rfl⟩:∃m,n=m+1:=⟨n-1,by omega⟩
   simp only[l2,r2,Lib.eO,aK (show¬i<t.size by omega),aC];rfl
  |succ d ih=>
   intro n i s h1 h2;obtain⟨n,rfl⟩:∃m,n=m+1:=⟨n-1,by omega⟩
   have nc:bE ((i:ax)+1)=((i+1:au):ax):=cY (by omega) (by omega);simp only[l2,r2,Lib.eO,aE (show i<t.size by omega),Lib.dC,aN,aw,Lib.gg];have e:=in6 (R:=ax) Lib.dE (λy7 y8 y9 _=>l2 Lib.dE (λHN _ _=>ab HN) n y7 y8 (bE (y9+1))) t (i:ax) 8 Lib.dE 0 (bj dx (↑(db (jA (bG 32 s) (bG 32 (bj dx (↑(iI t i):ax))))):ax)) rfl (by unfold Lib.dE;omega);refine e.trans ?_;rw[nc,ih n (i+1) _ (by omega) (by omega)];rfl
 exact key t.size Lib.dE 0 s (by omega) (du (by omega))
theorem ok(s:ax)(t:ai)(ht:t.size<=4611686018427387904):c s t=ae/\v s t=iw.su t t.size 0 s:=out s t (run s t ht)
end rP

namespace qu
theorem ok(t:ai)(ht:t.size<=4611686018427387904):c t=ae/\v t=iw.su t t.size 0 4294967295:=by have h:=rP.ok 4294967295 t ht;refine out t ?_;unfold vo b;rw[h.1,h.2];rfl
end qu

namespace tI
theorem ok(t:ai)(ht:t.size<=4611686018427387904):c t=ae/\v t=nW.v (iw.su t t.size 0 4294967295):=by have h:=qu.ok t ht;refine out t ?_;unfold vo b;rw[h.1,h.2];rfl
end tI

namespace E8
theorem cut(a s s' b:ai):cC (aA (a++s++b)) (aA (a++s'++b))=cC (aA s) (aA s'):=by
 rw[Lib.h_,Lib.h_,cO];constructor
 ·intro h;have h2:=o6 (λx:ai=>x.data.toList) h;simp only[u_,Array.toList_append,bR]at h2;have h3:=List.append_cancel_right (List.append_cancel_left h2);exact Lib.Ab h3
 ·intro h;rw[h]
theorem jN(n a b:ax):kR.v n a b=decide (a<=n/\n<=b):=nX.eg n a b
theorem both(t:ai)(ht:t.size<=20000):∀(d:au) (kB:au) (acc:aY) (n m:au) (z:ax),t.size-kB<=d->kB<=t.size->acc.length<=kB->d<n->d<m->
  ∃R:aY×ax,U67.l3 Lib.dE (λ(_:ai) (y4:ax) (y5:aY)=>ab (y5,y4)) n t (kB:ax) acc=ab R/\l5 Lib.dE (λ(_:ai) (y5 _:ax) (y7:aY)=>ab (y7,y5)) (λ(_:ai) (_ ZA:ax) (HN:aY)=>ab (HN,ZA)) m t z (kB:ax) acc=ab R/\R.1.length<=20000:=by
 intro d;induction d with
 |zero=>
  intro kB acc n m z h1 h2 h3 h4 h5;obtain⟨n,rfl⟩:∃n',n=n'+1:=⟨n-1,by omega⟩
  obtain⟨m,rfl⟩:∃m',m=m'+1:=⟨m-1,by omega⟩
  have ix:decide ((kB:ax)<(t.size:ax))=false:=aK (by omega);have hr:(Lib.gL t (kB:ax)).2.2=false:=by
   cases h:Lib.gL t (kB:ax)with
   |mk a r=>
    obtain⟨x,o⟩:=r;cases o with
    |false=>rfl
    |true=>have:=Lib.ox h;omega
  have e1:∀a b,eW.v a b=Lib.gL a b:=λ_ _=>rfl;refine⟨(acc,(kB:ax)), ?_, ?_,by dsimp only;omega⟩
  ·simp only[U67.l3,U67.r3,e1,hr,aE (show(t.size:ax)<=20000 by omega),aw,bX]
  ·simp only[l5,r5,ix,aC]
 |succ d ih=>
  intro kB acc n m z h1 h2 h3 h4 h5;obtain⟨n,rfl⟩:∃n',n=n'+1:=⟨n-1,by omega⟩
  obtain⟨m,rfl⟩:∃m',m=m'+1:=⟨m-1,by omega⟩
  have e1:∀a b,eW.v a b=Lib.gL a b:=λ_ _=>rfl;have e2:∀a b,eG.v a b=Lib.gL a b:=λ_ _=>rfl;have eM:decide ((t.size:ax)<=20000)=true:=aE (by omega);cases hr:Lib.gL t (kB:ax)with
  |mk N r=>
   obtain⟨nx,o⟩:=r;cases o with
   |false=>
    refine⟨(acc,(kB:ax)), ?_, ?_,by dsimp only;omega⟩
    ·simp only[U67.l3,U67.r3,e1,hr,eM,aw,bX]
    ·by_cases ix:(kB:ax)<(t.size:ax)
     ·simp only[l5,r5,e2,hr,aE ix,aw,bX]
     ·simp only[l5,r5,aK ix,aC]
   |true=>
    obtain⟨q1,q2,q3,q4,q5,q6⟩:=Lib.ox hr;have ix:decide ((kB:ax)<(t.size:ax))=true:=aE (by omega);have w1:bE (N+4)=N+4:=cY (by omega) (by omega);have w2:bE ((t.size:ax)-nx)=(t.size:ax)-nx:=cY (by omega) (by omega);have w3:bE ((t.size:ax)-nx-4)=(t.size:ax)-nx-4:=cY (by omega) (by omega);have w4:bE (nx+4)=nx+4:=cY (by omega) (by omega);have w5:bE (nx+4+N)=nx+4+N:=cY (by omega) (by omega);by_cases Nw:N+4>(t.size:ax)-nx
    ·have y_:N>(t.size:ax)-nx-4:=by omega
     refine⟨(acc,(kB:ax)), ?_, ?_,by dsimp only;omega⟩
     ·cases NL:decide (1<=N/\N<=9000)with
      |false=>simp only[U67.l3,U67.r3,e1,hr,eM,jN,NL,aw,aC,bz,bX]
      |true=>simp only[U67.l3,U67.r3,e1,hr,eM,jN,NL,w1,w2,aE Nw,aw,aC,bz]
     ·simp only[l5,r5,e2,hr,ix,w2,w3,aE y_,aw,aC,bz]
    ·have y_:¬N>(t.size:ax)-nx-4:=by omega
     have i1:iV (nx+4) (nx+4+N) (t.size:ax)=true:=by simp[iV];omega
     have i2:iV nx (nx+4) (t.size:ax)=true:=by simp[iV];omega
     have i3:iV (kB:ax) (nx+4+N) (t.size:ax)=true:=by simp[iV];omega
     have hts:(t.extract (nx+4).toNat (nx+4+N).toNat).size=N.toNat:=by rw[O8];omega
     generalize UH:t.extract (nx+4).toNat (nx+4+N).toNat=tx at hts;have f1:=nX.ok tx;have f2:=tI.ok tx (by omega);by_cases NL:1<=N/\N<=9000
     ·have Mp:nX.val tx=(nX.fr tx,ae):=by unfold nX.val;rw[br (by omega)]
      have abS:((tx.size:au):ax)=N:=by omega
      have wN:nX.fr tx=t.extract kB nx.toNat++nW.v (iw.su tx tx.size 0 4294967295)++tx:=by unfold nX.fr;rw[abS,q6];rfl
      have hwh:t.extract kB (nx+4+N).toNat=t.extract kB nx.toNat++t.extract nx.toNat (nx+4).toNat++tx:=by rw[<-UH,Lib.Fp t (by omega) (by omega),Lib.Fp t (by omega) (by omega)]
      have Ny:cC (aA (nX.fr tx)) (aA (t.extract kB (nx+4+N).toNat))=cC (aA (nW.v (iw.su tx tx.size 0 4294967295))) (aA (t.extract nx.toNat (nx+4).toNat)):=by rw[wN,hwh];exact cut _ _ _ _
      have FM:cX (acc.length+1) 16=true:=Lib.dH (by omega) (by omega);cases hs:cC (aA (nW.v (iw.su tx tx.size 0 4294967295))) (aA (t.extract nx.toNat (nx+4).toNat))with
      |false=>
       rw[hs]at Ny;refine⟨(acc,(kB:ax)), ?_, ?_,by dsimp only;omega⟩
       ·simp only[U67.l3,U67.r3,e1,hr,eM,jN,aE NL,w1,w2,w4,w5,aK Nw,i1,i2,UH,f2.1,f2.2,hs,aw,aC,bz,bX]
       ·simp only[l5,r5,e2,hr,ix,w2,w3,w4,w5,aK y_,i1,i3,UH,f1.1,f1.2,Mp,gY,Ny,aw,aC,bz,bX]
      |true=>
       rw[hs]at Ny;obtain⟨a2,UA⟩:∃a2:au,nx+4+N=(a2:ax):=⟨(nx+4+N).toNat,by omega⟩
       obtain⟨R,g1,g2,g3⟩:=ih a2 (acc++[[CV.s tx]]) n m z (by omega) (by omega) (by rw[b8,bM];omega) (by omega) (by omega);refine⟨R, ?_, ?_,g3⟩
       ·simp only[U67.l3,U67.r3,e1,hr,eM,jN,aE NL,w1,w2,w4,w5,aK Nw,i1,i2,UH,f2.1,f2.2,hs,Lib.jk,bM,FM,aw,aC,bz];rw[UA];exact g1
       ·simp only[l5,r5,e2,hr,ix,w2,w3,w4,w5,aK y_,i1,i3,UH,f1.1,f1.2,Mp,gY,Ny,Lib.jk,bM,FM,aw,aC,bz];rw[UA];exact g2
     ·have Mp:nX.val tx=(⟨#[]⟩,ah):=by unfold nX.val;rw[bF (by omega)]
      refine⟨(acc,(kB:ax)), ?_, ?_,by dsimp only;omega⟩
      ·simp only[U67.l3,U67.r3,e1,hr,eM,jN,aK NL,aw,aC,bz,bX]
      ·simp only[l5,r5,e2,hr,ix,w2,w3,w4,w5,aK y_,i1,UH,f1.1,f1.2,Mp,aw,aC,bz,bX]
theorem same(t:ai):∃R:aY×ax,(c t=ae/\v t=R)/\(U67.c t=ae/\U67.v t=R)/\R.1.length<=20000:=by
 by_cases ht:t.size<=20000
 ·obtain⟨R,g1,g2,g3⟩:=both t ht t.size 0 [] Lib.dE Lib.dE 0 (by omega) (bT _) (cD _) (du (by omega)) (du (by omega));refine⟨R,out t ?_,U67.out t ?_,g3⟩
  ·unfold vo b;rw[aK (show¬(t.size:ax)>20000 by omega),aC];exact g2
  ·unfold U67.vo U67.b;exact g1
 ·refine⟨([],0),out t ?_,U67.out t ?_,bT _⟩
  ·unfold vo b;rw[aE (show(t.size:ax)>20000 by omega)];rfl
  ·unfold U67.vo U67.b;have hb:Lib.dE=18446744073709551615+1:=rfl;have:∀n,U67.l3 Lib.dE (λ(_:ai) (y4:ax) (y5:aY)=>ab (y5,y4)) (n+1) t 0 (aM [Ck.s] 0)=ab ([],0):=by intro n;simp only[U67.l3,U67.r3,aK (show¬(t.size:ax)<=20000 by omega),aC];rfl
   exact this 18446744073709551615
end E8

namespace U1
def fs:ak ai->ai
 |[]=>⟨#[]⟩|x::r=>nX.fr x++fs r
theorem UO(a b:ai):(a++b).data.toList=a.data.toList++b.data.toList:=by simp[u_]
theorem Ao(x:ai):(nX.fr x).data.toList=(bytesOf (Lib.vb x.size)).data.toList++((nW.v (iw.su x x.size 0 4294967295)).data.toList++x.data.toList):=by unfold nX.fr;rw[UO,UO,bR]
theorem C2(x:ai):x.data.toList.length=x.size:=c8
def Stop(z:ai):Prop:=z=⟨#[]⟩\/∃(x:ai) (w:ak Bd),x.size<=9000/\(nX.fr x).data.toList=z.data.toList++w/\w≠[]
theorem nz(n:ax):(nW.v n).size=4:=rfl
theorem vbl(n:ax):(bytesOf (Lib.vb n)).data.toList.length=(Lib.vb n).length:=by rw[C2,Lib.fQ]
theorem stop{t z:ai}{p:au}(hz:Stop z)(hp:p<=t.size)(hd:t.data.toList.drop p=z.data.toList){N nx:ax}(h:Lib.gL t p=(N,nx,ae)):N+4>(t.size:ax)-nx:=by
 obtain⟨q1,q2,q3,q4,q5,q6⟩:=Lib.ox h;have hl:t.size-p=z.size:=by have:=o6 cq hd;rw[im,C2,C2]at this;exact this
 rcases hz with rfl|⟨x,w,hx,hF,hw⟩
 ·have:(⟨#[]⟩:ai).size=0:=rfl;omega
 ·-- the file's next bytes are the number's
  have e1:(t.extract p nx.toNat).data.toList=z.data.toList.take (nx.toNat-p):=by rw[<-hd];simp[mC,ql,List.extract]
  rw[gY]at q6;have DZ:nx.toNat-p<=z.data.toList.length:=by rw[C2];omega
  have e2:(nX.fr x).data.toList.drop 0=(bytesOf (Lib.vb N)).data.toList++(z.data.toList.drop (nx.toNat-p)++w):=by rw[iK,hF,q6,e1,<-bR,List.take_append_drop]
  have e3:(nX.fr x).data.toList.drop 0=(bytesOf (Lib.vb x.size)).data.toList++((nW.v (iw.su x x.size 0 4294967295)).data.toList++x.data.toList):=by rw[iK,Ao]
  have r1:=(z6.pH _ 0 N _ q4 q5 e2).1;have r2:=(z6.pH _ 0 (x.size:ax) _ (by omega) (by omega) e3).1;rw[r1]at r2;obtain⟨hN,hq⟩:=bn r2;have hlen:(Lib.vb N).length=nx.toNat-p:=by have:=o6 cq (o6 (λy:ai=>y.data.toList) q6);simp only[vbl,e1,eA]at this;omega
  have hFl:=o6 cq hF;rw[Ao,b8,b8,b8,vbl,C2,C2,C2,nz]at hFl;have hw1:1<=w.length:=by cases w with|nil=>exact bS rfl hw|cons=>simp
  subst hN;omega
theorem go(t:ai)(ht:t.size<=20000)(z:ai)(hz:Stop z):∀(es:ak ai),(∀x∈es,1<=x.size/\x.size<=9000)->∀(p n:au) (acc:aY),p<=t.size->acc.length<=p->t.data.toList.drop p=(fs es++z).data.toList->t.size-p<n->
  U67.l3 Lib.dE (λ(_:ai) (y4:ax) (y5:aY)=>ab (y5,y4)) n t (p:ax) acc=ab (acc++Lib.rs es,((p+(fs es).size:au):ax)):=by
 have e0:∀a b,eW.v a b=Lib.gL a b:=λ_ _=>rfl;have eM:decide ((t.size:ax)<=20000)=true:=aE (by omega);intro es;induction es with
 |nil=>
  intro V_ p n acc hp ha hd hn;obtain⟨n,rfl⟩:∃n',n=n'+1:=⟨n-1,by omega⟩
  have hd:t.data.toList.drop p=z.data.toList:=by rw[hd];unfold fs;rw[UO];rfl
  have e1:acc++Lib.rs []=acc:=da _;have e2:((p+(fs []).size:au):ax)=(p:ax):=rfl;rw[e1,e2];cases hr:Lib.gL t (p:ax)with
  |mk N r=>
   obtain⟨nx,o⟩:=r;cases o with
   |false=>simp only[U67.l3,U67.r3,e0,hr,eM,aw,bX]
   |true=>
    have hs:=stop hz hp hd hr;obtain⟨q1,q2,q3,q4,q5,q6⟩:=Lib.ox hr;have w1:bE (N+4)=N+4:=cY (by omega) (by omega);have w2:bE ((t.size:ax)-nx)=(t.size:ax)-nx:=cY (by omega) (by omega);cases NL:decide (1<=N/\N<=9000)with
    |false=>simp only[U67.l3,U67.r3,e0,hr,eM,E8.jN,NL,aw,aC,bz,bX]
    |true=>simp only[U67.l3,U67.r3,e0,hr,eM,E8.jN,NL,w1,w2,aE hs,aw,aC,bz]
 |cons x es ih=>
  intro V_ p n acc hp ha hd hn;obtain⟨n,rfl⟩:∃n',n=n'+1:=⟨n-1,by omega⟩
  have hx:=V_ x (by simp);have hd1:t.data.toList.drop p=(bytesOf (Lib.vb x.size)).data.toList++((nW.v (iw.su x x.size 0 4294967295)).data.toList++(x.data.toList++(fs es++z).data.toList)):=by rw[hd,show fs (x::es)=nX.fr x++fs es from rfl,UO,UO,Ao,UO];simp only[bR]
  obtain⟨hr,hd2⟩:=z6.pH t p (x.size:ax) _ (by omega) (by omega) hd1;have Mn:(nX.fr x).size=(Lib.vb x.size).length+4+x.size:=by rw[<-C2,Ao,b8,b8,vbl,C2,C2,nz];omega
  have hlen:=o6 cq hd;rw[im,C2,C2]at hlen;have lK:(fs (x::es)++z).size=(nX.fr x).size+(fs es).size+z.size:=by rw[show fs (x::es)=nX.fr x++fs es from rfl,fE,fE]
  rw[lK,Mn]at hlen;generalize hm:(Lib.vb (x.size:ax)).length=m at*
  have x4:t.extract (p+m) (p+m+4)=nW.v (iw.su x x.size 0 4294967295):=by have:=z6.JJ t _ (p+m) _ hd2;rwa[nz]at this
  have hd3:t.data.toList.drop (p+m+4)=x.data.toList++(fs es++z).data.toList:=by rw[<-RY,hd2,vf (by rw[C2,nz];omega),Bp (by rw[C2,nz];omega),fU]
  have x5:t.extract (p+m+4) (p+m+4+x.size)=x:=z6.JJ t x (p+m+4) _ hd3;have hd4:t.data.toList.drop (p+m+4+x.size)=(fs es++z).data.toList:=by rw[<-RY,hd3,vf (by rw[C2];omega),Bp (by rw[C2];omega),fU]
  have i:=ih (λy hy=>V_ y (by simp[hy])) (p+m+4+x.size) n (acc++[[CV.s x]]) (by omega) (by simp;omega) hd4 (by omega);have w1:bE ((x.size:ax)+4)=(x.size:ax)+4:=cY (by omega) (by omega);have w2:bE ((t.size:ax)-((p+m:au):ax))=(t.size:ax)-((p+m:au):ax):=cY (by omega) (by omega);have w4:bE (((p+m:au):ax)+4)=((p+m+4:au):ax):=by rw[cY (by omega) (by omega)];omega
  have w5:bE (((p+m+4:au):ax)+(x.size:ax))=((p+m+4+x.size:au):ax):=by rw[cY (by omega) (by omega)];omega
  have b1:¬(x.size:ax)+4>(t.size:ax)-((p+m:au):ax):=by omega
  have i1:iV ((p+m+4:au):ax) ((p+m+4+x.size:au):ax) (t.size:ax)=true:=by simp[iV];omega
  have i2:iV ((p+m:au):ax) ((p+m+4:au):ax) (t.size:ax)=true:=by simp[iV];omega
  have f2:=tI.ok x (by omega);have FM:cX (acc.length+1) 16=true:=Lib.dH (by omega) (by omega);simp only[U67.l3,U67.r3,e0,hr,eM,E8.jN,aE (show 1<=(x.size:ax)/\(x.size:ax)<=9000 by omega),w1,w2,w4,w5,aK b1,i1,i2,gY,x4,x5,f2.1,f2.2,Lib.pb,Lib.jk,bM,FM,aw,aC,bz];rw[i];have e3:acc++[[CV.s x]]++Lib.rs es=acc++Lib.rs (x::es):=by unfold Lib.rs;simp
  have e4:p+m+4+x.size+(fs es).size=p+(fs (x::es)).size:=by
   have:(fs (x::es)).size=(nX.fr x).size+(fs es).size:=by rw[show fs (x::es)=nX.fr x++fs es from rfl,fE]
   omega
  rw[e3,e4]
theorem ok(es:ak ai)(V_:∀x∈es,1<=x.size/\x.size<=9000)(z:ai)(hz:Stop z)(ht:(fs es++z).size<=20000):
  (U67.c (fs es++z)=ae/\U67.v (fs es++z)=(Lib.rs es,((fs es).size:ax)))/\(E8.c (fs es++z)=ae/\E8.v (fs es++z)=(Lib.rs es,((fs es).size:ax))):=by
 have h1:=U67.out (fs es++z) (x:=(Lib.rs es,((fs es).size:ax))) (by unfold U67.vo U67.b;have:=go (fs es++z) ht z hz es V_ 0 Lib.dE [] (bT _) (bT _) (by rw[iK]) (du (by omega));rw[bu,fU]at this;exact this);obtain⟨R,s1,s2,_⟩:=E8.same (fs es++z);refine⟨h1,s1.1, ?_⟩
 rw[s1.2,<-s2.2,h1.2]
end U1

namespace Bt
end Bt

namespace PM
def val(k:ai)(s l:ax)(b:ai):ai×aL:=if jD.v k s l b=ae then(nX.fr (Dq.Gi k s l b),ae)else(⟨#[]⟩,ah)
end PM

namespace l8
def p(d:aY)(n:ai)(i:au):aL:=cC (aA (bW (ao d i 0))) (aA n)
end l8

namespace Ji
def val(d:aY)(n:ai):ai×aL:=if Lib.fi (l8.p d n) d.length 0<0 then(⟨#[]⟩,ah)else(bW (ao d (Lib.fi (l8.p d n) d.length 0).toNat 1),ae)
end Ji

namespace qV
theorem ok(r:aY)(hl:r.length<=4294967296):c r=ae/\v r=rQ.val r:=by
 refine out r ?_;unfold vo b rQ.val;have fO:∀a b c,kR.v a b c=fX.v a b c:=λ_ _ _=>rfl
 have key:=nY (rQ.el r) r.length (λm (i:au)=>l2 Lib.dE (λ(y5:aL) (_:aY) (_ _:ax) (_:aY)=>ab y5) (λ(_:aL) (_:aY) (_ _:ax) (y14:aY)=>ab (decide ((y14.length:ax)<=30))) m ah r (r.length:ax) (i:ax) r) (ab ah) (ab (decide ((r.length:ax)<=30)))
  (λm i hi hp=>by
   unfold rQ.el at hp;simp only[az]at hp;obtain⟨h1,h2,h3,h4⟩:=hp;have h3:decide (0<=cw (ao r i (1+1))/\cw (ao r i (1+1))<=((bW (ao r i 1)).size:ax))=true:=h3;have h2:decide (((bW (ao r i 1)).size:ax)>20000)=false:=by simpa using h2
   by_cases hz:0<i
   ·have e0:decide ((i:ax)>0)=true:=aE (by omega);have se:i-1<r.length:=by omega
    have h5:bZ (aA (bW (ao r (i-1) 0))) (aA (bW (ao r i 0)))=true:=by
     rcases dg _ _▸h4 with q|q
     ·have:i=0:=by simpa using q
      omega
     ·exact q
    simp only[l2,r2,Lib.eO,hi,se,aW,Lib.dC,aN,aw,aC,Lib.gg,fO,rQ.zc,h1,h2,h3,h5,e0,rQ.Rk hz (by omega),bz,Lib.dQ hi (by omega:r.length<=9223372036854775807)]
   ·have e0:decide ((i:ax)>0)=false:=aK (by omega);simp only[l2,r2,Lib.eO,hi,aW,Lib.dC,aN,aw,aC,Lib.gg,fO,rQ.zc,h1,h2,h3,e0,bz,Lib.dQ hi (by omega:r.length<=9223372036854775807)])
  (λm i hi hp=>by
   unfold rQ.el at hp;cases h1:decide (1<=((bW (ao r i 0)).size:ax)/\((bW (ao r i 0)).size:ax)<=8)with
   |false=>simp only[l2,r2,Lib.eO,hi,aW,Lib.dC,aN,aw,aC,Lib.gg,fO,rQ.zc,h1,bX]
   |true=>
   cases h2:decide (((bW (ao r i 1)).size:ax)>20000)with
   |true=>simp only[l2,r2,Lib.eO,hi,aW,Lib.dC,aN,aw,aC,Lib.gg,fO,rQ.zc,h1,h2,bz]
   |false=>
   cases h3:decide (0<=cw (ao r i (1+1))/\cw (ao r i (1+1))<=((bW (ao r i 1)).size:ax))with
   |false=>simp only[l2,r2,Lib.eO,hi,aW,Lib.dC,aN,aw,aC,Lib.gg,fO,rQ.zc,h1,h2,h3,bz,bX]
   |true=>
   rw[h1,h2,show decide (0<=cw (ao r i 2)/\cw (ao r i 2)<=((bW (ao r i 1)).size:ax))=ae from h3,bX,bA,bA,bA]at hp;rw[je]at hp;obtain⟨h4,h5⟩:=hp;have hz:0<i:=by
    have:¬i=0:=by simpa using h4
    omega
   have e0:decide ((i:ax)>0)=true:=aE (by omega);have se:i-1<r.length:=by omega
   simp only[l2,r2,Lib.eO,hi,se,aW,Lib.dC,aN,aw,aC,Lib.gg,fO,rQ.zc,h1,h2,h3,h5,e0,rQ.Rk hz (by omega),bz,bX])
  (λm=>by simp only[l2,r2,Lib.eO,ca,bK,aC]) Lib.dE (du (by omega))
 refine key.trans ?_;rw[show decide ((r.length:ax)<=30)=decide (r.length<=30)from by rw[cO];omega];cases (cy r.length).all (rQ.el r)<;>cases decide (r.length<=30)<;>rfl
end qV

namespace rN
theorem ok(d:aY)(n:ai)(hl:d.length<=4294967296):c d n=ae/\v d n=Lib.fi (l8.p d n) d.length 0:=by
 refine out d n ?_;unfold vo b;refine n9 (l8.p d n) d.length (λm (i:au)=>l2 Lib.dE (λ(_:aY) (_:ai) (y7 _ _:ax)=>ab y7) (λ(_:aY) (_:ai) (_ _ _:ax)=>ab (-1)) m d n 0 (d.length:ax) (i:ax)) ab (λm i hi hp=> ?_) (λm i hi hp=> ?_) (λm=> ?_) Lib.dE (du (by omega))
 ·unfold l8.p at hp;simp only[l2,r2,Lib.eO,Lib.dC,Lib.gg,hi,aW,aN,aw,Jf.v,hp]
 ·unfold l8.p at hp;simp only[l2,r2,Lib.eO,Lib.dC,Lib.gg,hi,aW,aN,aw,Jf.v,hp,aC,Lib.dQ hi (by omega:d.length<=9223372036854775807)]
 ·simp only[l2,r2,Lib.eO,ca,bK,aC]
end rN

namespace fG
theorem ok(d:aY)(n:ai)(hl:d.length<=4294967296):c d n=ae/\v d n=Lib.fi (l8.p d n) d.length 0:=by have h:=rN.ok d n hl;exact out d n (by unfold vo b;rw[h.1,h.2,aw])
end fG

namespace Jj
theorem ok(d:aY)(h:d.length<=1000000000):c d=ae/\v d=d:=by refine out d ?_;unfold vo b;rw[Lib.sk,Lib.dH (by omega) (by omega)];rfl
end Jj

namespace kq
open Lib (rd Fi)
open gz (without)
theorem ok(l:ak Fi)(n:ai)(hl:l.length<=1000000):c (rd l) n=ae/\v (rd l) n=rd (without l n):=by have h1:=Jj.ok (rd l) (by rw[kG];omega);have h2:=v_.ok (rd l) n (gz.VG l) (by rw[kG];omega);exact out _ _ (by unfold vo b;rw[h1.1,h1.2,h2.1,h2.2,gz.YM];rfl)
end kq

namespace jE
open Lib (rd Fi)
open gz (without put PB)
def nw(n t:ai)(k:ax):ak CV:=[CV.s n,CV.s t,CV.i aj k]
def pn(n:ai)(y:ak CV):aL:=bZ (aA (bW (y.getD 0 (.b ah)))) (aA n)
theorem ok(l:ak Fi)(n t:ai)(k:ax)(hs:PB l)(hl:l.length<=1000000):c (rd l) n t k=ae/\v (rd l) n t k=rd (put l ⟨n,t,k⟩):=by
 refine out _ _ _ _ ?_;have hd:=kq.ok l n hl;unfold vo b;rw[hd.1,hd.2,aw];have za:=gz.LV l n;have e1:(without l n).filter (λx=>fK.eB x.n n)=l.filter λx=>fK.eB x.n n:=by
  unfold without;rw[mE];apply gC;intro y _;by_cases h:y.n=n
  ·rw[h,gz.irrefl];rfl
  ·rw[aK h];simp
 have e2:(without l n).filter (λx=> !fK.eB x.n n)=l.filter λx=> !(fK.eB x.n n||decide (x.n=n)):=by unfold without;rw[mE];apply gC;intro y _;cases fK.eB y.n n<;>cases decide (y.n=n)<;>rfl
 have Qa:=Lib.uf (λx:Fi=>fK.eB x.n n) (λx=> !fK.eB x.n n) (without l n) (λ_ _=>rfl) ((gz.Rl hs n).imp λ{y z} hyz hz=>k9.mb _ _ _ hyz hz);rw[e1,e2]at Qa;generalize without l n=o at za Qa
 have:=sM (pn n) (rd o) (λm (i:au)=>l3 Lib.dE (λ(y5:ax) (y6 y7:ai) (y8:ax) (y9:aY)=>bif(decide (0<=y5)&&decide (y5<=(↑(cq y9):ax))&&cX (cq y9+cq (aF (aM [Ck.s,Ck.s,Ck.i aj] 1) 0 [CV.s y6,CV.s y7,CV.i aj y8])) 40)then(ab (Pu.pr y9 (aX y5) (aF (aM [Ck.s,Ck.s,Ck.i aj] 1) 0 [CV.s y6,CV.s y7,CV.i aj y8])))else(af)) m (i:ax) n t k (rd o))
  (λa=>bif decide ((a:ax)<=((rd o).length:ax))then ab (Pu.pr (rd o) a [nw n t k])else af)
  (λm i h hp=>by
   have se:bZ (aA (bW (ao (rd o) i 0))) (aA n)=true:=by rw[Lib.dc h];exact hp
   simp only[l3,r3,Lib.eO,h,aW,Lib.dC,aN,aw,Lib.gg,se,Lib.dQ h (by rw[kG];omega:(rd o).length<=9223372036854775807)])
  (λm i h hp=>by
   have se:bZ (aA (bW (ao (rd o) i 0))) (aA n)=false:=by rw[Lib.dc h];exact hp
   simp only[l3,r3,Lib.eO,h,aW,Lib.dC,aN,bA,j9,aw,aC,Lib.gg,se,Lib.jk,bM,Lib.dH (n:=(rd o).length+1) (b:=40) (by rw[kG];omega) (by rw[kG];omega)];rfl)
  (λm=>by simp only[l3,r3,Lib.eO,ca,bK,aW,Lib.dC,aN,bA,j9,aw,aC,Lib.gg,Lib.jk,bM,Lib.dH (n:=(rd o).length+1) (b:=40) (by rw[kG];omega) (by rw[kG];omega)];rfl) Lib.dE (du (by rw[kG];omega))
 refine this.trans ?_;have hle:=CR (pn n) (rd o);rw[aE (by omega),aw];unfold Pu.pr;rw[vI,vp];have e3:pn n∘Fi.row=λx:Fi=>fK.eB x.n n:=rfl;unfold Lib.rd;rw[GD,GC,e3,Qa.1,Qa.2];unfold put;rw[fw,fw];rfl
end jE

namespace VB
open Lib (rd el Fi)
open gz (without put PB D_ act W9 vD)
def res(o:ar (ak Fi)):aY×aL:=match o with|some d=>(rd d,ae)|none=>([],ah)
theorem find(l:ak Fi)(n:ai):(Lib.fi (l8.p (rd l) n) l.length 0= -1/\l.find? (λx=>decide (x.n=n))=af)\/∃i,i<l.length/\Lib.fi (l8.p (rd l) n) l.length 0=(i:ax)/\l.find? (λx=>decide (x.n=n))=ab (el l i):=by
 have hq:∀i (hi:i<l.length),l8.p (rd l) n i=decide (l[i].n=n):=λi hi=>by unfold l8.p;rw[Zv hi];exact Lib.h_
 rcases Lib.n_ (l8.p (rd l) n) l.length 0 with ⟨e,ha⟩|⟨k,_,hk,e,hp,hb⟩
 ·refine .inl ⟨e,tf.2 λx hx=> ?_⟩;obtain⟨i,hi,rfl⟩:=cu hx;rw[<-hq i hi,ha i (by omega) (by omega)];simp
 ·have qB:k<l.length:=by omega
  refine .inr ⟨k,qB,e, ?_⟩;rw[kQ];exact⟨by rw[fg qB,<-hq k qB];exact hp,k,qB,(fg qB).symm,λj hj=>by rw[<-hq j (by omega),hb j (by omega) hj];rfl⟩
theorem okc(d:ak Fi)(h:d.length<=1000000):qV.c (rd d)=ae/\qV.v (rd d)=D_ d:=qV.ok (rd d) (by rw[kG];omega)
theorem Jm(k:ax)(n t o:ai):Jc.v k n t o=gz.Bw k t o:=by
 unfold Jc.v gz.Bw kR.v;rw[Lib.h_,Lib.h_];by_cases h1:1<=k
 ·by_cases h2:k<=4
  ·rw[aE h1,aE h2,aE (⟨h1,h2⟩:1<=k/\k<=4)];cases decide (t=⟨#[]⟩)<;>cases decide (o=⟨#[]⟩)<;>cases decide (k=1)<;>cases decide (k=3)<;>rfl
  ·rw[aE h1,aK h2,aK (show¬(1<=k/\k<=4)by omega)];rfl
 ·rw[aK h1,aK (show¬(1<=k/\k<=4)by omega)];rfl
theorem ok(l:ak Fi)(k:ax)(n t o:ai)(hl:l.length<=1000)(ht:t.size<=2305843009213693952):c (rd l) k n t o=ae/\v (rd l) k n t o=res (act l k n t o):=by
 refine out _ _ _ _ _ ?_;unfold vo b h0;have h1:=fG.ok (rd l) n (by rw[kG];omega);have h2:=okc l (by omega);rw[h1.1,h1.2,h2.1,h2.2,Jm,aw,aw,kG];unfold act;cases hk:D_ l with
 |false=>rfl
 |true=>
 rw[bz,aC,bA];obtain⟨q1,q2,q3⟩:=vD.1 hk;cases ha:gz.Bw k t o with
 |false=>rfl
 |true=>
 rw[bz,aC,aw];have hk4:1<=k/\k<=4:=by unfold gz.Bw at ha;rw[az]at ha;exact bU ha.1
 have wp:=λ(m:ak Fi) (hm:PB m) (Wp:m.length<=1000) (n t:ai) (k:ax)=>jE.ok m n t k hm (by omega);have wo:=kq.ok l n (by omega);have wol:=gz.LV l n;have pl:=λ(m:ak Fi) (f:Fi) (hm:m.length<=1000)=>okc (put m f) (c5 (gz.vG f) (by omega));have fin:∀d:ak Fi,(bif !D_ d then ab (([]:aY),ah)else ab (rd d,ae))=ab (res (bif D_ d then ab d else af)):=λd=>by cases D_ d<;>rfl
 unfold W9;rcases find l n with ⟨e1,e2⟩|⟨i,hi,e1,e2⟩
 ·rw[e1,e2];by_cases k1:k=1
  ·subst k1;have p:=wp l q3 hl n (⟨#[]⟩++t) 0;have d:=pl l ⟨n,⟨#[]⟩++t,0⟩ hl;have et:(⟨#[]⟩:ai)++t=t:=ByteArray.empty_append;rw[show decide ((-1:ax)<0)=ae from rfl,show decide ((-1:ax)≥0)=ah from rfl,show((1:ax) !=1)=ah from rfl,aw,aC,aC,aE (show(1:ax)=1 from rfl),aw,aE (show(⟨#[]⟩:ai).size+t.size<=4611686018427387904 from by rw[show(⟨#[]⟩:ai).size=0 from rfl];omega),aw,p.1,p.2,aw,d.1,d.2,aw,fin,et];rfl
  ·rw[show decide ((-1:ax)<0)=ae from rfl,aw,show(k !=1)=ae from bne_iff_ne.2 k1,aw,bF k1];rfl
 ·have hf:(el l i).n=n:=by have:=x9 e2;exact bU this
  have Bf:((el l i).t.size:ax)<=20000:=by have:=q2 _ (wA hi);unfold gz.oI at this;simp only[az,a9,dt,ik]at this;omega
  rw[e1,e2,aK (show¬((i:au):ax)<0 by omega),aE (show((i:au):ax)≥0 by omega),aC,aw];simp only[Lib.eO,hi,aW,Lib.gg,wd0 hi,wd1 hi,wd2 hi,bW,cw,aN,bA,aw];by_cases k1:k=1
  ·subst k1;have p:=wp l q3 hl (el l i).n ((el l i).t++t) (el l i).kp;have d:=pl l ⟨(el l i).n,(el l i).t++t,(el l i).kp⟩ hl;rw[aE (show(1:ax)=1 from rfl),aw,aE (show(el l i).t.size+t.size<=4611686018427387904 by omega),aw,p.1,p.2,aw,d.1,d.2,aw,fin];rfl
  rw[aK k1,aC,bF k1];by_cases k2:k=2
  ·subst k2;have p:=wp l q3 hl (el l i).n (el l i).t ((el l i).t.size:ax);have d:=pl l ⟨(el l i).n,(el l i).t,((el l i).t.size:ax)⟩ hl;rw[aE (show(2:ax)=2 from rfl),aw,p.1,p.2,aw,d.1,d.2,aw,fin];rfl
  rw[aK k2,aC,bF k2];by_cases k3:k=3
  ·subst k3;rw[aE (show(3:ax)=3 from rfl),aw,br rfl];by_cases b1:(el l i).kp=((el l i).t.size:ax)
   ·rw[show((el l i).kp !=((el l i).t.size:ax))=ah from by simp[b1],aC,Lib.h_];by_cases b2:o=n
    ·rw[aE b2,aw,br (.inr b2)];rfl
    ·have p:=wp (without l n) (gz.Rl q3 n) (by omega) o (el l i).t (el l i).kp;have d:=pl (without l n) ⟨o,(el l i).t,(el l i).kp⟩ (by omega);rw[aK b2,aC,wo.1,wo.2,aw,p.1,p.2,aw,d.1,d.2,aw,fin,bF (by rintro (h|h);exact h b1;exact b2 h)]
   ·rw[show((el l i).kp !=((el l i).t.size:ax))=ae from bne_iff_ne.2 b1,aw,br (.inl b1)];rfl
  rw[aK k3,aC,bF k3];have d:=okc (without l n) (by omega);rw[wo.1,wo.2,aw,d.1,d.2,aw,fin]
end VB

namespace rK
theorem ok(l:aY)(hl:l.length<=4294967296):c l=ae/\v l=l:=by refine out l ?_;unfold vo b;rw[show cq (aM [Ck.s,Ck.i aj,Ck.i aj,Ck.s] 0)+l.length=l.length by simp[aM],Lib.dH (by omega) (by omega)];rfl
end rK

namespace xT
theorem ok(l:aY)(k:ai)(hc:l.all l_.cn=ae)(hl:l.length<=4294967296):c l k=ae/\v l k=l.filter (l_.keep k):=by have h1:=rK.ok l hl;have h2:=l_.ok l k hc hl;exact out l k (by unfold vo b;rw[h1.1,h1.2,h2.1,h2.2,aw,aw])
end xT

namespace E9
theorem uf(p q:ak CV->aL):∀r:aY,(∀y∈r,q y= !p y)->r.Pairwise (λy z=>p z=ae->p y=ae)->r.takeWhile p=r.filter p/\r.dropWhile p=r.filter q
 |[],_,_=>⟨rfl,rfl⟩
 |y::r,hq,h=>by
  rw[tl]at h;have hy:=hq y (by simp);cases hp:p y with
  |true=>rw[hp]at hy;obtain⟨i1,i2⟩:=uf p q r (λz hz=>hq z (by simp[hz])) h.2;rw[m8 hp,eQ hp,List.dropWhile_cons_of_pos hp,dI (by rw[hy];simp),i1,i2];exact⟨rfl,rfl⟩
  |false=>
   rw[hp]at hy;have hn:¬p y=true:=by rw[hp];simp
   have ha:∀z∈r,p z=false:=λz hz=>by
    cases yo:p z with
    |false=>rfl
    |true=>exact bS (h.1 z hz yo) hn
   rw[m7 hn,dI hn,List.dropWhile_cons_of_neg hn,eQ (by rw[hy];rfl)];refine⟨?_, ?_⟩
   ·symm;rw[List.filter_eq_nil_iff];intro z hz;rw[ha z hz];simp
   ·congr 1;symm;rw[ew];intro z hz;rw[hq z (by simp[hz]),ha z hz];rfl
theorem Sm{r:aY}(h:∀y∈r,k9.cr y=y):r.all l_.cn=true:=by rw[aZ];intro y hy;rw[<-h y hy];rfl
theorem ok(r:aY)(k:ai)(s l:ax)(b0:ai)(hO:k9.Or r)(hl:r.length<=1048576):c r k s l b0=ae/\v r k s l b0=k9.val r k s l b0:=by
 refine out r k s l b0 ?_;have hd:=xT.ok r k (Sm hO.2) (by omega);unfold vo b;rw[hd.1,aw,hd.2];have Mn:(r.filter (l_.keep k)).length<=r.length:=kI _ _;have Wl:∀y,l_.keep k y= !List.beq (k9.key y) (aA k):=λ_=>rfl;have Qa:=uf (k9.pl k) (k9.pg k) (r.filter (l_.keep k)) (λy hy=>by
  have h2:=(dh.1 hy).2;rw[Wl]at h2;have h3:cC (k9.key y) (aA k)=false:=by simpa using h2
  unfold k9.pg k9.pl;rw[h3,Bool.or_false]) ((hO.1.sublist jg).imp (λ{y z} hyz hz=>k9.mb _ _ _ hyz hz))
 have e1:(r.filter (l_.keep k)).filter (k9.pl k)=r.filter (k9.pl k):=by
  rw[mE];apply gC;intro y _;cases h:k9.pl k y with
  |false=>rfl
  |true=>
   rw[Wl,bA];cases h2:cC (k9.key y) (aA k)with
   |false=>rfl
   |true=>exfalso;have h3:=Lib.beq_iff.1 h2;unfold k9.pl at h;rw[h3,k9.lS]at h;cases h
 have e2:(r.filter (l_.keep k)).filter (k9.pg k)=r.filter (k9.pg k):=by rw[mE];apply gC;intro y _;rw[Wl];unfold k9.pg;cases cC (k9.key y) (aA k)<;>cases bZ (k9.key y) (aA k)<;>rfl
 generalize r.filter (l_.keep k)=o at Mn Qa e1 e2
 have:=sM (k9.pl k) o (λm (i:au)=>l3 Lib.dE (λ(y6:ax) (y7:ai) (y8 y9:ax) (ZA:ai) (HN:aY)=>bif(decide (0<=y6)&&decide (y6<=(↑(cq HN):ax))&&cX (cq HN+cq (aF (aM [Ck.s,Ck.i aj,Ck.i aj,Ck.s] 1) 0 [CV.s y7,CV.i aj y8,CV.i aj y9,CV.s ZA])) 48)then(ab (Pu.pr HN (aX y6) (aF (aM [Ck.s,Ck.i aj,Ck.i aj,Ck.s] 1) 0 [CV.s y7,CV.i aj y8,CV.i aj y9,CV.s ZA])))else(af)) m (i:ax) k s l b0 o)
  (λa=>bif decide ((a:ax)<=(o.length:ax))then ab (Pu.pr o a [k9.nw k s l b0])else af)
  (λm i h hp=>by
   have se:bZ (aA (bW (ao o i 0))) (aA k)=true:=by rw[Lib.dc h];exact hp
   simp only[l3,r3,Lib.eO,h,aW,Lib.dC,aN,aw,Lib.gg,se,Lib.dQ h (by omega:o.length<=9223372036854775807)])
  (λm i h hp=>by
   have se:bZ (aA (bW (ao o i 0))) (aA k)=false:=by rw[Lib.dc h];exact hp
   simp only[l3,r3,Lib.eO,h,aW,Lib.dC,aN,bA,j9,aw,aC,Lib.gg,se,Lib.jk,bM,Lib.dH (n:=o.length+1) (b:=48) (by omega) (by omega)];rfl)
  (λm=>by simp only[l3,r3,Lib.eO,ca,bK,aW,Lib.dC,aN,bA,j9,aw,aC,Lib.gg,Lib.jk,bM,Lib.dH (n:=o.length+1) (b:=48) (by omega) (by omega)];rfl) Lib.dE (du (by omega))
 refine this.trans ?_;have hle:=CR (k9.pl k) o;rw[aE (by omega),aw];unfold Pu.pr k9.val;rw[vI,vp,Qa.1,Qa.2,e1,e2,k9.AE hO.2,k9.AE hO.2]
end E9

namespace MS
end MS

namespace Ut
def nm:ai:={data:= #[ay 107,ay 101,ay 112,ay 116]}
end Ut

namespace VA
def kept:ai:={data:= #[ay 107,ay 101,ay 112,ay 116]}
def Bx(f:ai):aY:=[[CV.i aj 1,CV.s kept,CV.s f,CV.s {data:= #[]}],[CV.i aj 2,CV.s kept,CV.s {data:= #[]},CV.s {data:= #[]}]]
def val(k:ai)(s l:ax)(b:ai):aY×aL:=if jD.v k s l b=ae then(Bx (nX.fr (Dq.Gi k s l b)),ae)else([],ah)
end VA

namespace Gs
open Lib (rd re rs el Fi En)
open gz (D_ vD act Bx W9 put without ra Ac oI)
open fK (So kF eB)
open U1 (fs Stop)
abbrev W8:ai:={data:= #[ay 107,ay 101,ay 112,ay 116]}
def Gi(e:En):ai:=Dq.Gi e.k e.st e.li e.bo
def JH(e:En):aL:=jD.v e.k e.st e.li e.bo
def Ux(e:En):ai:=nX.fr (Gi e)
def tx(es:ak En):ai:=fs (es.map Gi)
def kp(es:ak En):ak En:=es.foldl kF []
theorem N1(es:ak En)(e:En):kp (es++[e])=kF (kp es) e:=by unfold kp;rw[List.foldl_append];rfl
theorem ov{en:ak En}{x e:En}:x∈kF en e↔x=e\/(x∈en/\x.k≠e.k):=by
 unfold kF;simp only[aQ,dh,aP,dt,je,ik];constructor
 ·rintro ((⟨h1,h2⟩|rfl)|⟨h1,h2⟩)
  ·refine .inr ⟨h1,λe2=> ?_⟩;rw[e2]at h2;unfold eB at h2;rw[k9.lS]at h2;cases h2
  ·exact .inl rfl
  ·exact .inr ⟨h1,h2.2⟩
 ·rintro (rfl|⟨h1,h2⟩)
  ·exact .inl (.inr rfl)
  ·cases hl:eB x.k e.k with
   |true=>exact .inl (.inl ⟨h1,rfl⟩)
   |false=>exact .inr ⟨h1,rfl,h2⟩
theorem Tp{es:ak En}{x:En}(h:x∈kp es):x∈es:=by
 have:∀(es o:ak En),x∈es.foldl kF o->x∈o\/x∈es:=by
  intro es;induction es with
  |nil=>intro o h;exact .inl h
  |cons e es ih=>
   intro o h;rcases ih _ h with h|h
   ·rcases ov.1 h with rfl|h
    ·exact .inr (by simp)
    ·exact .inl h.1
   ·exact .inr (by simp[h])
 rcases this es [] h with h|h
 ·cases h
 ·exact h
def base:ar ai->ak Fi
 |none=>[]|some t=>[⟨W8,t,t.size⟩]
def bt:ar ai->ai|none=>⟨#[]⟩|some t=>t
def WX(f:ai):ak Ac:=[⟨1,W8,f,⟨#[]⟩⟩,⟨2,W8,⟨#[]⟩,⟨#[]⟩⟩]
def kd(es:ak En):ak Fi:=base (match es with|[]=>af|_=>ab (tx es))
theorem adz(es:ak En):∃o,kd es=base o/\bt o=tx es:=by
 cases es with
 |nil=>exact⟨af,rfl,rfl⟩
 |cons e es=>exact⟨ab (tx (e::es)),rfl,rfl⟩
end Gs

namespace qk
open Lib (Px Cl Fe En el)
def ec(f:au)(st:ax)(t:ai)(c:Cl):Cl:=bif decide (c.fe=(f:ax)+1)&&decide (c.sta=1)then{c with sta:=st,got:=t}else c
def kg(cl:ak Cl)(f:au)(st:ax)(t:ai):ak Cl:=cl.map (ec f st t)
theorem lM{α:Type}(l:ak α)(g:α->α):l.mapIdx (λ_ c=>g c)=l.map g:=by apply ja<;>simp
end qk

namespace k_
open Lib (Px Cl Fe En el)
open sW (iF)
open qk (kg)
def xW(p:Px)(f:ax):aL:=iF p&&(decide (0<=f/\f<=(p.fe.length:ax)-1)&&decide ((el p.fe f.toNat).sta=1))
def told(p:Px)(f:au)(g:Fe)(st:ax):Px:={p with fe:=p.fe.set f g,cl:=kg p.cl f st g.t}
theorem ot{p:Px}{f:ax}(h:xW p f=ae):∃n:au,f=(n:ax)/\n<p.fe.length/\iF p=ae/\(el p.fe n).sta=1:=by unfold xW at h;simp only[az,a9]at h;obtain⟨h1,h2,h3⟩:=h;exact⟨f.toNat,by omega,by omega,h1,h3⟩
theorem xL{p:Px}{n f:au}{g:Fe}{st:ax}(h:p.Fit n):(told p f g st).Fit n:=by
 refine⟨h.en,h.w,h.m,h.s, ?_, ?_⟩
 ·show(p.fe.set f g).length<=n;rw[cF];exact h.fe
 ·show(kg p.cl f st g.t).length<=n;unfold qk.kg;rw[bC];exact h.cl
def PS(p:Px)(f:ax):Px×aL:=bif xW p f then(told p f.toNat {el p.fe f.toNat with sta:=3} 3,ae)else(p,ah)
def vF(p:Px)(f:ax)(t:ai):Px×aL:=
 bif xW p f&&(decide (1<=t.size/\t.size<=40)&&decide ((el p.fe f.toNat).t.size+t.size<=400))then(told p f.toNat {el p.fe f.toNat with t:=(el p.fe f.toNat).t++t} 1,ae)else(p,ah)
theorem lj{l:ak Fe}{n:au}{g:Fe}(h:n<l.length):el (l.set n g) n=g:=by rw[fg (by rw[cF];exact h),iv]
theorem HI(l:ak Fe)(n j:au)(ys:ak CV)(g:Fe)(h:n<l.length)(hs:gb (Fe.row (el l n)) j ys=Fe.row g):dP (Lib.rf l) n j ys=Lib.rf (l.set n g):=by rw[fg h]at hs;exact mo Fe.row l n j ys g h hs
theorem VP{p:Px}(h:iF p=ae)(i:au)(hi:i<p.fe.length):nV.oI p.now (el p.fe i)=true:=by unfold sW.iF at h;simp only[az,a9]at h;obtain⟨_,_,_,_,_,h6,_⟩:=h;rw[aZ]at h6;have:=h6 i (by simpa using hi);rw[az]at this;exact this.1
end k_

namespace fu
theorem YN(x:ax):0<=bj dx x/\bj dx x<4294967296:=by have e:bj dx x=x%4294967296:=rfl;rw[e];omega
theorem TX(x:ax):0<=iw.rd x/\iw.rd x<4294967296:=by unfold iw.rd;cases decide (bL x 2=1)<;>exact YN _
theorem F9:∀(n:au) (x:ax),0<=x/\x<4294967296->0<=iw.kL n x/\iw.kL n x<4294967296
 |0,_,h=>h
 |n+1,x,_=>F9 n _ (TX x)
theorem LN(t:ai):∀(d i:au) (s:ax),0<=s/\s<4294967296->0<=iw.su t d i s/\iw.su t d i s<4294967296
 |0,_,_,h=>h
 |d+1,i,s,h=>LN t d (i+1) _ (F9 8 _ (YN _))
def keyed(i:au)(key:ai):ai:=key++bytesOf [[CV.i aU (i:ax)]]
def sm(i:au)(key:ai):ax:=iw.su (keyed i key) (keyed i key).size 0 4294967295
def pl(i:au)(key:ai):au:=(bL (sm i key) 16).toNat
theorem Es(i:au)(key:ai):0<=sm i key/\sm i key<4294967296:=LN _ _ _ _ (by omega)
theorem pl_int(i:au)(key:ai):bL (sm i key) 16=(pl i key:ax):=by have:=Es i key;have h:0<=bL (sm i key) 16:=MI _ this.1;unfold pl;omega
theorem zn(i:au)(key:ai):pl i key<16:=by have:=Es i key;have h:=Int.tmod_lt_of_pos (sm i key) (show(0:ax)<16 by omega);have h2:0<=bL (sm i key) 16:=MI _ this.1;unfold pl;omega
theorem xI(i:au)(key:ai):(keyed i key).size=key.size+1:=by unfold keyed;rw[fE,AY]
theorem ok(i:au)(key:ai)(hi:i<3)(hk:key.size<=140737488355328):c (i:ax) key=ae/\v (i:ax) key=(pl i key:ax):=by
 refine out _ _ ?_;unfold vo b;have e:(key++bytesOf (aF (aM [Ck.i aU] 1) 0 [CV.i aU (bj aU (i:ax))]))=keyed i key:=by
  unfold keyed;match i,hi with
  |0,_=>rfl
  |1,_=>rfl
  |2,_=>rfl
 have hs:=xI i key;have h:=tH.ok (keyed i key) (by omega);have e2:fW key+fW (bytesOf (aF (aM [Ck.i aU] 1) 0 [CV.i aU (bj aU (i:ax))]))=key.size+1:=by rw[CL,AY]
 rw[e2,e,aE (by omega),aw,h.1,h.2,aw];have hp:=pl_int i key;have hl:=zn i key;unfold sm at hp;rw[hp,cY (by omega) (by omega)]
end fu

namespace qt
open Lib (rr)
theorem run(N:au)(K0:ax->aY->ax->ax->ax->ar R)(K1:ax->aY->ax->ax->ax->aY->ar R)(s:ak (ak ax))(z y a:ax)(hf:iq.pj s)(m:au)(hm:s.length+1<m)(kr:aY->ar R)
  (h0:s=[]->K0 0 (rr s) z y a=kr []) (h1:K1 s.length (rr s) z y a (rr s)=kr (rr s)):l3 N K0 K1 m 0 (rr s) z y a=kr (rr s):=by
 obtain⟨m,rfl⟩:∃m',m=m'+1:=⟨m-1,by omega⟩
 have hz:∀q:aY,aM [Ck.i aj] 0++q=q:=λq=>rfl;have SQ:∀i (h:i<s.length),cX (cq (aM [Ck.i aj] 0)+cq (Lib.ri s[i])) 8=true:=λi h=>by have:=hf.2 _ (bk h);exact Lib.dH (by rw[f_];simp[aM];omega) (by rw[f_];simp[aM];omega)
 by_cases hs:s=[]
 ·subst hs;simp only[l3,r3,fJ,gX,Ma,Bb,bK,aC];exact h0 rfl
 ·have hp:0<s.length:=EU.2 hs;have key:=pZ (R:=R) s.length (λm i (x:aY)=>Ce N K0 K1 m (i:ax) (rr s) z y a x) (λi=>rr (s.take i)) (kr (rr s)) (λm i h=>by
   have hl:=hf.1;simp only[Ce,K5,fJ,Lib.eO,h,aW,aw,Lib.dC,bA,Lib.gg,Ga h,ia,SQ i h,hz,CL,bM];rw[Lib.dH (by rw[eA];omega) (by rw[eA];omega),aw,Lib.dQ h (by omega)];have:=nH (λq=>[CV.l 3 (Lib.ri q)]) s i h;unfold rr;rw[<-this]) (λm=>by
   simp only[Ce,K5,fJ,Lib.eO,ca,bK,aC,la];exact h1) m 1 hp (by omega)
  have e:=SQ 0 hp;have e0:=Ga (l:=s) hp;simp only[l3,r3,aE (show(0:ax)<(s.length:ax)by omega),aw,aN,fJ,show decide ((0:ax)<=0)=ae from rfl,show aX 0=0 from rfl,e0,ia,e,hz,aw,CL,fU];rw[show bE (0+1)=((1:au):ax)from rfl];refine Rv ?_ key;have:=nH (λq=>[CV.l 3 (Lib.ri q)]) s 0 hp;unfold rr;rw[show(0+1)=1 from rfl]at this;rw[<-this];rfl
theorem ok(s:ak (ak ax))(a:ax)(hf:iq.pj s):c (rr s) a=ae/\v (rr s) a=(rr s,a):=by refine out _ _ ?_;unfold vo b;exact run Lib.dE (λ_ _ _ _ y=>ab ([],y)) (λ_ _ _ _ EG EH=>ab (EH,EG)) s a 0 a hf Lib.dE (du (by have:=hf.1;omega)) (λx=>ab (x,a)) (λ_=>rfl) rfl
end qt

namespace dm
open Lib (rr ri)
def bq(p:au)(q:ak ax):ak ax:=q.set p (bif decide (q.getD p 0<15)then q.getD p 0+1 else q.getD p 0)
def yd(s:ak (ak ax))(key:ai):ak (ak ax):=s.mapIdx λi q=>bq (fu.pl i key) q
def half(s:ak (ak ax)):ak (ak ax):=s.map λq=>q.map λn=>cj n 2
def val(s:ak (ak ax))(a:ax)(key:ai):ak (ak ax)×ax:=
 bif e_.mq s a then(bif decide (a+1=64)then(half (yd s key),0)else(yd s key,a+1))else(s,a)
def fR(q:ak ax):ak CV:=[CV.l 3 (ri q)]
theorem HJ(q:ak ax)(p:au)(x:ax)(h:p<q.length):dP (ri q) p 0 [CV.i aj x]=ri (q.set p x):=mo (λn=>[CV.i aj n]) q p 0 _ x h rfl
theorem HK(L:ak (ak ax))(i:au)(q:ak ax)(h:i<L.length):dP (L.map fR) i 0 [CV.l 3 (ri q)]=(L.set i q).map fR:=mo fR L i 0 _ q h rfl
theorem wv(L:ak (ak ax))(i:au)(h:i<L.length):ao (L.map fR) i 0=CV.l 3 (ri L[i]):=gT fR L i 0 h
theorem sr{s:ak (ak ax)}{a:ax}(h:e_.mq s a=ae):s.length=3/\(0<=a/\a<=63)/\∀q∈s,q.length=16/\∀n∈q,0<=n/\n<=15:=by
 unfold e_.mq at h;rw[az,az]at h;refine⟨bU h.1,bU h.2.1,λq hq=> ?_⟩
 have:=aZ.1 h.2.2 q hq;unfold e_.oM at this;rw[az]at this;refine⟨bU this.1,λn hn=> ?_⟩
 have:=aZ.1 this.2 n hn;unfold e_.FT at this;exact bU this
theorem mP{q:ak ax}{p:au}(h:p<q.length):q.getD p 0=q[p]:=by simp[gW,h]
theorem T1(K:ai->ax->ax->ax->aY->ar R)(s:ak (ak ax))(key:ai)(y a:ax)(hs:s.length=3)(hq:∀q∈s,q.length=16/\∀n∈q,0<=n/\n<=15)(hk:key.size<=140737488355328):
  l5 Lib.dE K Lib.dE key 0 y a (rr s)=K key 3 y a (rr (yd s key)):=by
 refine(oD fR s (λi q=>bq (fu.pl i key) q) (λm (i:au) x=>l5 Lib.dE K m key (i:ax) y a x) (λx=>K key 3 y a x) (λm i L h h2 hL uW=> ?_) (λm L hL=> ?_) Lib.dE (du (by omega)))
 ·have hp:=fu.ok i key (by omega) hk;have oW:=fu.zn i key;obtain⟨FE,hn⟩:=hq _ (bk h);have e0:ao (L.map fR) i 0=CV.l 3 (ri s[i]):=by rw[wv L i h2,uW]
  have hb:fu.pl i key<s[i].length:=by omega
  have hx:=hn _ (bk hb);simp only[l5,r5,bC,Lib.eO,h2,aW,aw,hp.1,hp.2,Lib.dC,aN,Lib.gg,e0,ia,f_,FE,oW,Ms hb,cw];unfold bq;rw[mP hb];cases hd:decide (s[i][fu.pl i key]<15)with
  |true=>have:=bU hd;rw[aw,aw,cY (x:=s[i][fu.pl i key]+1) (by omega) (by omega),HJ _ _ _ hb,HK _ _ _ h2,Lib.dQ h2 (by omega)]
  |false=>rw[aC,aC,Lib.dQ h2 (by omega),eD,<-uW,eD]
 ·simp only[l5,r5,bC,Lib.eO,hL,ca,bK,aC,hs];rfl
theorem pc{s:ak (ak ax)}{key:ai}(hs:s.length=3)(hq:∀q∈s,q.length=16/\∀n∈q,0<=n/\n<=15):(yd s key).length=3/\∀q∈yd s key,q.length=16/\∀n∈q,0<=n/\n<=15:=by
 unfold yd;refine⟨by simp[hs],λq hm=> ?_⟩
 obtain⟨i,hi,rfl⟩:=List.mem_mapIdx.1 hm;obtain⟨FE,hn⟩:=hq _ (bk hi);unfold bq;have hb:fu.pl i key<s[i].length:=by have:=fu.zn i key;omega
 refine⟨by rw[cF];exact FE,λn h=> ?_⟩
 rcases gG h with h|h
 ·exact hn n h
 ·rw[mP hb]at h;have hx:=hn _ (bk hb);rw[h];cases hd:decide (s[i][fu.pl i key]<15)with
  |true=>have:=bU hd;rw[aw];omega
  |false=>rw[aC];exact hx
theorem XP(K:ax->ax->ax->ax->aY->ar R)(L:ak (ak ax))(i:au)(h:i<L.length)(y a:ax)(hl:L.length<=1048576)(hq:L[i].length=16)(hn:∀n∈L[i],0<=n/\n<=15):
  Tt Lib.dE K Lib.dE (i:ax) 0 y a (L.map fR)=K i 16 y a ((L.set i (L[i].map λn=>cj n 2)).map fR):=by
 have P7:L[i].mapIdx (λ_ n=>cj n 2)=L[i].map λn=>cj n 2:=by apply ja<;>simp
 have key:=pZ (L[i].length) (λm (k:au) x=>Tt Lib.dE K m (i:ax) (k:ax) y a x) (λk=>(L.set i (lN L[i] (λ_ n=>cj n 2) k)).map fR) (K i 16 y a ((L.set i (L[i].map λn=>cj n 2)).map fR)) (λm k hk=> ?_) (λm=> ?_) Lib.dE 0 (bT _) (du (by omega))
 ·rw[A5,eD]at key;exact key
 ·have hu:=pM L[i] (λ_ n=>cj n 2) k (by omega);generalize hU:lN L[i] (λ_ n=>cj n 2) k=U at hu;have SY:k<U.length:=by omega
  have eI:U[k]=L[i][k]:=by subst hU;exact vK _ _ _ hk _
  have Te:U.set k (cj L[i][k] 2)=lN L[i] (λ_ n=>cj n 2) (k+1):=by subst hU;exact sO L[i] (λ_ n=>cj n 2) k hk
  have h2:i<(L.set i U).length:=by simpa using h
  have e0:ao ((L.set i U).map fR) i 0=CV.l 3 (ri U):=by rw[wv _ _ h2,iv]
  have hx:=hn _ (bk hk);have ht:0<=cj L[i][k] 2:=MH hx.1 (by omega);have C0:cj L[i][k] 2<=15:=uo (Mb _ hx.1) hx.2;simp only[Tt,r17,bC,cF,Lib.eO,h,SY,aW,aw,Lib.dC,aN,Lib.gg,e0,ia,f_,Ms SY,cw,eI];rw[cY (x:=cj L[i][k] 2) (by omega) (by omega),HJ _ _ _ SY,HK _ _ _ h2,Te,lW,Lib.dQ hk (by omega)]
 ·have e0:ao ((L.set i (lN L[i] (λ_ n=>cj n 2) L[i].length)).map fR) i 0=CV.l 3 (ri (L[i].map λn=>cj n 2)):=by rw[wv _ _ (by simpa using h),iv,pL,P7]
  simp only[Tt,r17,bC,cF,Lib.eO,h,aW,aw,Lib.dC,aN,Lib.gg,e0,ia,f_,ca,bK,aC];rw[pL,P7,hq];rfl
theorem XN(K:ax->ax->ax->aY->ar R)(s:ak (ak ax))(y a:ax)(hs:s.length=3)(hq:∀q∈s,q.length=16/\∀n∈q,0<=n/\n<=15):
  Tq Lib.dE K Lib.dE 0 y a (rr s)=K 3 y a (rr (half s)):=by
 have P7:s.mapIdx (λ_ q=>q.map λn=>cj n 2)=half s:=by unfold half;apply ja<;>simp
 rw[<-P7];refine(oD fR s (λ_ q=>q.map λn=>cj n 2) (λm (i:au) x=>Tq Lib.dE K m (i:ax) y a x) (λx=>K 3 y a x) (λm i L h h2 hL uW=> ?_) (λm L hL=> ?_) Lib.dE (du (by omega)))
 ·obtain⟨FE,hn⟩:=hq _ (bk h);simp only[Tq,r14,bC,Lib.eO,h2,aW,aw];rw[XP _ L i h2 y a (by omega) (by rw[uW];exact FE) (by rw[uW];exact hn),Lib.dQ h2 (by omega),uW]
 ·simp only[Tq,r14,bC,Lib.eO,hL,ca,bK,aC,hs];rfl
theorem ok(s:ak (ak ax))(a:ax)(key:ai)(hf:iq.pj s)(hk:key.size<=140737488355328):c (rr s) a key=ae/\v (rr s) a key=(rr (val s a key).1,(val s a key).2):=by
 refine out _ _ _ ?_;have h1:=qt.ok s a hf;have h2:=e_.ok s a hf;unfold vo b val;rw[h1.1,h1.2,h2.1,h2.2,aw,aw];cases bI:e_.mq s a with
 |false=>rfl
 |true=>
  obtain⟨hs,ha,hq⟩:=sr bI;obtain⟨b1,b2⟩:=pc (key:=key) hs hq;rw[bz,aC,aw,T1 _ s key _ _ hs hq hk,cY (x:=a+1) (by omega) (by omega)];cases hd:decide (a+1=64)with
  |false=>rfl
  |true=>rw[aw,aw,XN _ _ _ _ b1 b2]
end dm

namespace lY
open Lib (rr ri)
def gs(key:ai):au->ak (ak ax)->ax->ax
 |_,[],x=>x
 |i,q::r,x=>gs key (i+1) r (bif decide (q.getD (fu.pl i key) 0<x)then q.getD (fu.pl i key) 0 else x)
def val(s:ak (ak ax))(a:ax)(key:ai):ax:=bif e_.mq s a then gs key 0 s 15 else 0
theorem FD(key:ai)(s:ak (ak ax))(i:au)(h:i<s.length)(x:ax):gs key i (s.drop i) x=gs key (i+1) (s.drop (i+1)) (bif decide (s[i].getD (fu.pl i key) 0<x)then s[i].getD (fu.pl i key) 0 else x):=by rw[nR h];rfl
end lY

namespace jQ
open Lib (rr rs)
end jQ

namespace uP
end uP

namespace iy
open Lib (rr rs)
open fC (has without eU jb ry g8 mv)
open jW (d_ Kq ll rn jx)
def val(w m:ak ai)(s:ak (ak ax))(a:ax)(key:ai):ak ai×ak ai×ak (ak ax)×ax×ai:=
 bif rn w m s a&&d_ key then
  bif has w key then(without w key++[key],m,(dm.val s a key).1,(dm.val s a key).2,⟨#[]⟩)
  else bif has m key then(w,without m key++[key],(dm.val s a key).1,(dm.val s a key).2,⟨#[]⟩)
  else bif decide ((w++[key]).length<=2)then(w++[key],m,(dm.val s a key).1,(dm.val s a key).2,⟨#[]⟩)
  else bif decide (m.length<4)then((w++[key]).tail,m++[(w++[key]).getD 0 ⟨#[]⟩],(dm.val s a key).1,(dm.val s a key).2,⟨#[]⟩)
  else bif decide (lY.val (dm.val s a key).1 (dm.val s a key).2 ((w++[key]).getD 0 ⟨#[]⟩)>lY.val (dm.val s a key).1 (dm.val s a key).2 (m.getD 0 ⟨#[]⟩))then
   ((w++[key]).tail,m.tail++[(w++[key]).getD 0 ⟨#[]⟩],(dm.val s a key).1,(dm.val s a key).2,m.getD 0 ⟨#[]⟩)
  else((w++[key]).tail,m,(dm.val s a key).1,(dm.val s a key).2,(w++[key]).getD 0 ⟨#[]⟩)
 else(w,m,s,a,⟨#[]⟩)
theorem Gc(l:ak ai)(k:ai):rs l++[[CV.s k]]=rs (l++[k]):=by unfold Lib.rs;rw[fw];rfl
theorem zer(l:ak ai):aM [Ck.s] 0++rs l=rs l:=rfl
theorem P3(l:ak ai):bW (ao (rs l) (aX 0) 0)=l.getD 0 ⟨#[]⟩:=by cases l<;>rfl
theorem Re(l:ak ai):dM (rs l) (aX 1) (aX (l.length:ax))=rs l.tail:=by unfold dM Lib.rs;rw[show aX 1=1 from rfl,Lib.gg,List.drop_one,<-List.map_tail,km (by simp)]
theorem oc{l:ak ai}(h:ll l=ae){k:ai}(hk:k∈l):d_ k=true:=by
 unfold ll at h;rw[aZ]at h;obtain⟨i,hi,rfl⟩:=cu hk;have:=h i (by simpa using hi);unfold Kq at this;rw[az]at this;have e:l.getD i ⟨#[]⟩=l[i]:=by simp[gW,hi]
 rw[e]at this;exact this.1
theorem rh{l:ak ai}:ll l=ae↔(∀k∈l,d_ k=ae)/\l.Nodup:=by
 constructor
 ·intro h;refine⟨λk hk=>oc h hk, ?_⟩
  rw[mG,cQ];intro i j hi hj J0 he;unfold ll at h;rw[aZ]at h;have h2:=h j (by simpa using hj);unfold Kq at h2;have e:l.getD j ⟨#[]⟩=l[j]:=by simp[gW,hj]
  rw[e,az,dt,jb]at h2;refine h2.2 ?_;rw[<-he];have:(l.take j)[i]'(by rw[eA];omega)=l[i]:=j_ ..;rw[<-this];exact bk _
 ·intro h;unfold ll;rw[aZ];intro j hj;have hj:j<l.length:=by simpa using hj
  unfold Kq;have e:l.getD j ⟨#[]⟩=l[j]:=by simp[gW,hj]
  rw[e,az,dt,jb];refine⟨h.1 _ (bk hj),λhm=> ?_⟩
  obtain⟨i,hi,he⟩:=cu hm;rw[eA]at hi;rw[j_]at he;have h2:=h.2;rw[mG,cQ]at h2;exact h2 i j (by omega) hj (by omega) he
theorem nB{k:ai}(h:d_ k=ae):1<=k.size/\k.size<=30:=by unfold d_ at h;have:=bU h;omega
theorem Li{s:ak (ak ax)}{a:ax}{key:ai}(h:iq.pj s):iq.pj (dm.val s a key).1:=by
 unfold dm.val;cases bI:e_.mq s a with
 |false=>exact h
 |true=>
  obtain⟨hs,_,hq⟩:=dm.sr bI;obtain⟨b1,b2⟩:=dm.pc (key:=key) hs hq;rw[aw];cases decide (a+1=64)with
  |false=>exact⟨by rw[aC];dsimp only;omega,λq h=>by have:=(b2 q h).1;omega⟩
  |true=>
   rw[aw];dsimp only;unfold dm.half;refine⟨by rw[bC];omega,λq h=> ?_⟩
   obtain⟨q',hq',rfl⟩:=b7.1 h;rw[bC];have:=(b2 q' hq').1;omega
theorem wK{l:ak ai}(h:0<l.length):l.getD 0 ⟨#[]⟩∈l:=by
 cases l with
 |nil=>simp at h
 |cons x r=>exact cR ..
theorem AO{w m:ak ai}{s:ak (ak ax)}{a:ax}(h:rn w m s a=ae):ll (w++m)=ae/\w.length<=2/\m.length<=4/\e_.mq s a=true:=by unfold rn at h;simp only[az,a9]at h;exact⟨h.1,h.2.1,h.2.2.1,h.2.2.2⟩
def lens(s:ak (ak ax)):ak au:=s.map cq
theorem zi(s:ak (ak ax))(key:ai):lens (dm.yd s key)=lens s:=by
 unfold lens dm.yd;apply ja
 ·simp
 ·intro i h1 h2;simp[dm.bq]
theorem Hf(s:ak (ak ax)):lens (dm.half s)=lens s:=by unfold lens dm.half;rw[jC];apply HV;intro q _;simp
theorem N2(s:ak (ak ax))(a:ax)(key:ai):lens (dm.val s a key).1=lens s:=by
 unfold dm.val;cases e_.mq s a with
 |false=>rfl
 |true=>
  cases decide (a+1=64)with
  |false=>exact zi s key
  |true=>exact(Hf _).trans (zi s key)
theorem LQ(w m:ak ai)(s:ak (ak ax))(a:ax)(key:ai):(val w m s a key).1.length<=w.length+1/\(val w m s a key).2.1.length<=m.length+1/\lens (val w m s a key).2.2.1=lens s:=by
 have hw:=g8 (l:=w) (k:=key);have hm:=g8 (l:=m) (k:=key);have hs:=N2 s a key;unfold val;cases rn w m s a&&d_ key with
 |false=>exact⟨by rw[aC];exact Vz _,by rw[aC];exact Vz _,rfl⟩
 |true=>
  rw[aw];cases has w key with
  |true=>refine⟨?_, ?_,hs⟩<;>(simp only[aw];simp;try omega)
  |false=>
   cases has m key with
   |true=>refine⟨?_, ?_,hs⟩<;>(simp only[aw,aC];simp;try omega)
   |false=>
    cases decide ((w++[key]).length<=2)with
    |true=>refine⟨?_, ?_,hs⟩<;>(simp only[aw,aC];simp;try omega)
    |false=>
     cases decide (m.length<4)with
     |true=>refine⟨?_, ?_,hs⟩<;>(simp only[aw,aC];simp;try omega)
     |false=>
      cases decide (lY.val (dm.val s a key).1 (dm.val s a key).2 ((w++[key]).getD 0 ⟨#[]⟩)>lY.val (dm.val s a key).1 (dm.val s a key).2 (m.getD 0 ⟨#[]⟩))with
      |true=>refine⟨?_, ?_,hs⟩<;>(simp only[aw,aC];simp;try omega)
      |false=>refine⟨?_, ?_,hs⟩<;>(simp only[aw,aC];simp;try omega)
end iy

namespace jr
open Lib (rr rs re rf rc Px En el)
open fC (has)
open fK (eB So fc kF wz drop_nil Cu xA Ah JE vG)
def Bg(p:Px)(e:En):Px:=
 {p with
  w:=(iy.val p.w p.m p.s p.a e.k).1
  m:=(iy.val p.w p.m p.s p.a e.k).2.1
  s:=(iy.val p.w p.m p.s p.a e.k).2.2.1
  a:=(iy.val p.w p.m p.s p.a e.k).2.2.2.1
  en:=bif has (iy.val p.w p.m p.s p.a e.k).1 e.k||has (iy.val p.w p.m p.s p.a e.k).2.1 e.k then kF (fc p.en (iy.val p.w p.m p.s p.a e.k).2.2.2.2) e else fc p.en (iy.val p.w p.m p.s p.a e.k).2.2.2.2}
theorem XS{en:ak En}{w m:ak ai}(h:(cy en.length).all (mH.Fm en w m)=ae):So en/\∀e∈en,1<=e.k.size:=by
 rw[aZ]at h;have h1:∀i (hi:i<en.length),mH.Fm en w m i=true:=λi hi=>h i (by simpa using hi);constructor
 ·have VC:∀d i (hi:i+d+1<en.length),eB (el en i).k (el en (i+d+1)).k=true:=by
   intro d;induction d with
   |zero=>
    intro i hi;have:=h1 (i+1) (by omega);unfold mH.Fm at this;rw[az,az,dg]at this;rcases this.2.1 with h|h
    ·have:=bU h;omega
    ·exact h
   |succ d ih=>
    intro i hi;have a:=ih i (by omega);have:=h1 (i+d+1+1) (by omega);unfold mH.Fm at this;rw[az,az,dg]at this;rcases this.2.1 with h|h
    ·have:=bU h;omega
    ·exact k9.mb _ _ _ a h
  unfold So;rw[cQ];intro i j hi hj J0;have:=VC (j-i-1) i (by omega);rw[show i+(j-i-1)+1=j by omega,fg hi,fg hj]at this;exact this
 ·intro e he;obtain⟨i,hi,rfl⟩:=cu he;have:=h1 i hi;unfold mH.Fm mH.rW at this;rw[az,fg hi]at this;exact(jD.Mt this.1).1.1
theorem F8{p:Px}(h:sW.iF p=ae):So p.en/\(∀e∈p.en,1<=e.k.size)/\p.en.length<=6/\p.w.length<=2/\p.m.length<=4/\p.fe.length<=20/\p.cl.length<=6/\(1<=p.now/\p.now<=1000000000)/\(0<=p.hits/\p.hits<=1000000000)/\jW.rn p.w p.m p.s p.a=ae/\(∀i,i<p.fe.length->nV.oI p.now (el p.fe i)=ae):=by
 unfold sW.iF at h;simp only[az,a9]at h;obtain⟨h1,h2,h3,h4,h5,h6,h7⟩:=h;unfold mH.JF at h2;simp only[az,a9]at h2;obtain⟨g1,g2,g3⟩:=h2;obtain⟨s1,s2⟩:=XS g1;obtain⟨_,q2,q3,_⟩:=iy.AO g2;refine⟨s1,s2,by omega,q2,q3,h3,h4,h1,h5,g2,λi hi=> ?_⟩
 rw[aZ]at h6;have:=h6 i (by simpa using hi);rw[az]at this;exact this.1
theorem pG{p:Px}(h:sW.iF p=ae):p.Fit 48:=by
 obtain⟨_,_,a1,a2,a3,a4,a5,_,_,hp,_⟩:=F8 h;obtain⟨_,_,_,hs⟩:=iy.AO hp;unfold e_.mq at hs;simp only[az,a9,aZ]at hs;obtain⟨s1,_,s3⟩:=hs;have s4:∀q∈p.s,q.length=16:=λq hq=>by have:=s3 q hq;unfold e_.oM at this;rw[az,a9]at this;exact this.1
 refine⟨by omega,by omega,by omega,⟨by omega,λq hq=>by rw[s4 q hq];omega, ?_⟩,by omega,by omega⟩
 have:p.s.map cq=List.replicate 3 16:=by
  rw[List.eq_replicate_iff];refine⟨by rw[bC,s1],λx hx=> ?_⟩
  obtain⟨q,hq,rfl⟩:=b7.1 hx;exact s4 q hq
 rw[this];decide
end jr

namespace rB
open Lib (Px Cl Fe En el)
open k_ (xW told)
def qw(f:Fe):En:=⟨f.k,f.st,f.li,f.t⟩
def cls(p:Px)(f:ax)(life:ax):Px×aL:=
 bif xW p f&&decide (0<=life/\life<=999999)then
  (bif decide (life>0)then jr.Bg (told p f.toNat {el p.fe f.toNat with sta:=2,li:=life,st:=p.now} 2) (qw {el p.fe f.toNat with sta:=2,li:=life,st:=p.now})
   else told p f.toNat {el p.fe f.toNat with sta:=2,li:=life,st:=p.now} 2,ae)
 else(p,ah)
theorem JD{p:Px}{f life:ax}:(cls p f life).1.now=p.now/\(cls p f life).1.hits=p.hits:=by
 unfold cls;cases xW p f&&decide (0<=life/\life<=999999)with
 |false=>exact⟨rfl,rfl⟩
 |true=>cases decide (life>0)<;>exact⟨rfl,rfl⟩
end rB

namespace eR
open Lib (Px Cl Fe En el rc rf re)
open fC (has without)
open jW (d_)
open sW (iF)
open fK (So fc)
def wJ(e:En)(now:ax):aL:=E_.v e.k e.st e.li e.bo now
def jn(l:ak Cl)(c:Cl):ak Cl:=l.filter (λx=>decide (x.id<c.id))++[c]++l.filter (λx=>decide (x.id>c.id))
def kV(l:ak Cl)(id:ax):aL:=l.any λx=>decide (x.id=id)
def H9(l:ak En)(key:ai):ar En:=l.find? λe=>decide (e.k=key)
def Mr(key:ai)(f:Fe):aL:=decide (f.k=key)&&decide (f.sta=1)
def QE(l:ak Fe)(key:ai):ar au:=l.findIdx? (Mr key)
def oh(key:ai):Fe:=⟨key,⟨#[]⟩,1,0,0⟩
def put(p:Px)(id:ax)(key:ai)(h:aL)(fe:ak Fe)(i:au):Px:=
 {p with en:=bif h then fc p.en key else p.en,w:=bif h then without p.w key else p.w,m:=bif h then without p.m key else p.m,s:=(dm.val p.s p.a key).1,a:=(dm.val p.s p.a key).2,fe:=fe,cl:=jn p.cl ⟨id,key,(i:ax)+1,0,1,(el fe i).t,0⟩}
def rj(p:Px)(id:ax)(key:ai)(h:aL):Px×ax:=
 match QE p.fe key with
 |some i=>(put p id key h p.fe i,0)
 |none=>bif decide (p.fe.length<20)then(put p id key h (p.fe++[oh key]) p.fe.length,0)else(p,2)
def NA(p:Px)(id:ax)(key:ai)(e:En):Px:=
 {p with w:=(iy.val p.w p.m p.s p.a key).1,m:=(iy.val p.w p.m p.s p.a key).2.1,s:=(iy.val p.w p.m p.s p.a key).2.2.1,a:=(iy.val p.w p.m p.s p.a key).2.2.2.1,cl:=jn p.cl ⟨id,key,0,e.st,2,e.bo,p.now-e.st⟩,hits:=bif decide (p.hits<1000000000)then p.hits+1 else p.hits}
def ask(p:Px)(id:ax)(key:ai):Px×ax:=
 bif iF p&&(decide (1<=id/\id<=9)&&(d_ key&&(!kV p.cl id&&decide (p.cl.length<6))))then
  match H9 p.en key with
  |some e=>bif wJ e p.now then(NA p id key e,0)else rj p id key ae
  |none=>rj p id key ah
 else(p,1)
theorem DH{α:Type}(l:ak α)(q:α->aL)(p:au->aL)(h:∀i (hi:i<l.length),p i=q l[i]):decide (Lib.fi p l.length 0≥0)=l.any q:=by
 rcases Lib.n_ p l.length 0 with ⟨e,ha⟩|⟨k,_,hk,e,hp,_⟩
 ·rw[e,aK (by omega)];symm;rw[Mc];intro x hx;obtain⟨i,hi,rfl⟩:=cu hx;rw[<-h i hi,ha i (by omega) (by omega)];simp
 ·rw[e,aE (by omega)];symm;rw[List.any_eq_true];exact⟨_,bk (by omega:k<l.length),by rw[<-h k (by omega)];exact hp⟩
theorem vu{α:Type}[Inhabited α](l:ak α)(q:α->aL)(p:au->aL)(h:∀i (hi:i<l.length),p i=q l[i]):
  (Lib.fi p l.length 0= -1/\l.find? q=af/\l.findIdx? q=af)\/∃i,i<l.length/\Lib.fi p l.length 0=(i:ax)/\l.find? q=ab (el l i)/\l.findIdx? q=ab i:=by
 rcases Lib.n_ p l.length 0 with ⟨e,ha⟩|⟨k,_,hk,e,hp,hb⟩
 ·have hn:∀x∈l,q x=false:=λx hx=>by obtain⟨i,hi,rfl⟩:=cu hx;rw[<-h i hi,ha i (by omega) (by omega)]
  refine .inl ⟨e,tf.2 λx hx=>by rw[hn x hx];simp,yG.2 hn⟩
 ·have qB:k<l.length:=by omega
  have f:l.findIdx? q=ab k:=sU.2 ⟨qB,by rw[<-h k qB];exact hp,λj hj=>by rw[<-h j (by omega),hb j (by omega) hj];simp⟩;refine .inr ⟨k,qB,e, ?_,f⟩;rw[kQ];exact⟨by rw[fg qB,<-h k qB];exact hp,k,qB,(fg qB).symm,λj hj=>by rw[<-h j (by omega),hb j (by omega) hj];rfl⟩
def UN(id:ax)(y:ak CV):aL:=decide (cw (y.getD 0 (.b ah))<id)
theorem Ko{l:ak Cl}{c:Cl}(cs:l.Pairwise λa b=>a.id<b.id)(hn:kV l c.id=ah):
  (rc l).take ((rc l).takeWhile (UN c.id)).length++[Cl.row c]++(rc l).drop ((rc l).takeWhile (UN c.id)).length=rc (jn l c):=by
 rw[vI,vp];have fP:∀y∈l,y.id≠c.id:=λy hy e=>by unfold kV at hn;rw[Mc]at hn;exact hn y hy (aE e)
 obtain⟨t1,t2⟩:=Lib.uf (λx:Cl=>decide (x.id<c.id)) (λx=>decide (x.id>c.id)) l (λy hy=>by
  have:=fP y hy;by_cases h:y.id<c.id
  ·rw[aE h,aK (by omega)];rfl
  ·rw[aK h,aE (by omega)];rfl) (cs.imp λ{a b} SI h=>aE (by have:=bU h;omega))
 unfold Lib.rc;rw[GD,GC];have e:UN c.id∘Cl.row=λx:Cl=>decide (x.id<c.id):=rfl;rw[e,t1,t2];unfold jn;rw[fw,fw];rfl
end eR

namespace PN
open Lib (rd el Fi)
open gz (D_ vD)
def kN(left:aY)(i:au)(f:Fi):ax:=bif decide (i<left.length)then gj ae f.kp (gj ah (cw (ao left i 0)) (f.t.size:ax))else f.kp
def VL(left:aY)(i:au)(f:Fi):Fi:=⟨f.n,f.t.extract 0 (kN left i f).toNat,kN left i f⟩
def W2(d:ak Fi)(left:aY):ar (ak Fi):=bif D_ d then ab (d.mapIdx (VL left))else af
theorem Tm(left:aY)(i:au){f:Fi}(h:0<=f.kp/\f.kp<=(f.t.size:ax)):f.kp<=kN left i f/\kN left i f<=(f.t.size:ax):=by
 unfold kN gj;cases decide (i<left.length)with
 |false=>rw[aC];omega
 |true=>simp only[aw,aC];split<;>split<;>omega
end PN

namespace Uu
def eo(l:aY)(i:au):aL:=jD.v (bW (ao l i 0)) (cw (ao l i 1)) (cw (ao l i 2)) (bW (ao l i 3))
def tx(l:aY)(i:au):ai:=Dq.Gi (bW (ao l i 0)) (cw (ao l i 1)) (cw (ao l i 2)) (bW (ao l i 3))
def fs(l:aY):au->au->ai->ar ai
 |0,_,acc=>ab acc
 |d+1,i,acc=>if eo l i=ae then fs l d (i+1) (acc++nX.fr (tx l i))else af
def fin(o:ar ai)(kf:ar R)(kt:ai->ar R):ar R:=match o with|some x=>kt x|none=>kf
def nm:ai:={data:= #[ay 110,ay 101,ay 119]}
def Bx(has:aL)(x:ai):aY:=(if has=ae then [[CV.i aj 4,CV.s nm,CV.s {data:= #[]},CV.s {data:= #[]}]]else [])++[[CV.i aj 1,CV.s nm,CV.s x,CV.s {data:= #[]}],[CV.i aj 2,CV.s nm,CV.s {data:= #[]},CV.s {data:= #[]}],[CV.i aj 3,CV.s nm,CV.s {data:= #[]},CV.s {data:= #[ay 107,ay 101,ay 112,ay 116]}]]
def val(d l:aY):aY×aL:=bif rQ.val d then(match fs l l.length 0 ⟨#[]⟩with|some x=>(Bx (Ji.val d nm).2 x,ae)|none=>([],ah))else([],ah)
end Uu

namespace O4
open Lib (re rd el En Fi)
open Gs (kd kp JH tx Ux base bt W8 adz)
open gz (Bx act D_ oI put without W9 ra Ac)
open fK (So kF eB)
open PN (W2 VL kN Tm)
abbrev nmN:ai:={data:= #[ay 110,ay 101,ay 119]}
def VD(x:ai):ak Ac:=[⟨1,nmN,x,⟨#[]⟩⟩,⟨2,nmN,⟨#[]⟩,⟨#[]⟩⟩,⟨3,nmN,⟨#[]⟩,W8⟩]
end O4

namespace Gt
open Lib (En Fi Px Cl Fe el re rd rf rc rs rr)
open fK (So kF)
open gz (D_ Bx Ac ra)
open Gs (Gi JH Ux tx kp base bt WX)
open O4 (VD)
open PN (W2)
def dk(o:ar (ak En)):ak Fi:=base (o.map tx)
def es(o:ar (ak En)):ak En:=o.getD []
end Gt

namespace g9
open Lib (rr rs re rf rc Px En el)
open fK (So fc kF eB)
open jr (Bg)
def Mx:ak ax:=[0,0,0,0,0,0,0,0,0,0,0,0,0,0,0,0]
def p0(now:ax):Px:=⟨now,[],[],[],[Mx,Mx,Mx],0,[],[],0⟩
def wJ(e:En)(now:ax):aL:=E_.v e.k e.st e.li e.bo now
def one(now:ax)(p:Px)(e:En):Px:=bif wJ e now then Bg p e else p
def rst(now:ax)(l:ak En):Px:=l.foldl (one now) (p0 now)
structure Inv (now:ax) (i:au) (p:Px):Prop where
 so:So p.en
 ks:∀e∈p.en,1<=e.k.size
 en:p.en.length<=i
 w:p.w.length<=i
 m:p.m.length<=i
 s:iy.lens p.s=[16,16,16]
 fe:p.fe=[]
 cl:p.cl=[]
 now:p.now=now
 hits:p.hits=0
theorem Kv{s:ak (ak ax)}(h:iy.lens s=[16,16,16]):s.length=3/\(∀q∈s,q.length=16)/\(s.map cq).sum=48:=by
 refine⟨?_,λq hq=> ?_, ?_⟩
 ·have:=o6 cq h;unfold iy.lens at this;simpa using this
 ·have:q.length∈iy.lens s:=b7.2 ⟨q,hq,rfl⟩;rw[h]at this;simpa using this
 ·rw[show s.map cq=[16,16,16]from h];rfl
theorem Inv.fit{now:ax}{i:au}{p:Px}(h:Inv now i p){n:au}(hn:i<=n)(h48:48<=n):p.Fit n:=by
 obtain⟨a,b,c⟩:=Kv h.s;have hq:∀q∈p.s,q.length<=n:=λq hq=>by have:=b q hq;omega
 exact⟨c5 h.en hn,c5 h.w hn,c5 h.m hn,⟨by omega,hq,by omega⟩,by rw[h.fe];exact bT _,by rw[h.cl];exact bT _⟩
theorem YS{now:ax}{i:au}{p:Px}(h:Inv now i p):Inv now (i+1) p:=⟨h.so,h.ks,uq h.en,uq h.w,uq h.m,h.s,h.fe,h.cl,h.now,h.hits⟩
theorem Et{en:ak En}(h:So en)(e:En):So (kF en e):=by have:=(k9.Az (fK.Cu h) e.k e.st e.li e.bo).1.1;rw[fK.xA]at this;unfold Lib.re at this;rw[ka]at this;exact this
theorem Inv.store{now:ax}{i:au}{p:Px}(h:Inv now i p)(e:En)(he:1<=e.k.size):Inv now (i+1) (Bg p e):=by
 obtain⟨b1,b2,b3⟩:=iy.LQ p.w p.m p.s p.a e.k;have hw:=h.w;have hm:=h.m;have hn:=h.en;refine⟨?_, ?_, ?_,c5 b1 (by omega),c5 b2 (by omega),b3.trans h.s,h.fe,h.cl,h.now,h.hits⟩
 ·show So (bif _ then kF (fc p.en _) e else fc p.en _);cases fC.has (iy.val p.w p.m p.s p.a e.k).1 e.k||fC.has (iy.val p.w p.m p.s p.a e.k).2.1 e.k with
  |true=>exact Et (h.so.drop _) e
  |false=>exact h.so.drop _
 ·show∀x∈(bif _ then kF (fc p.en _) e else fc p.en _),1<=x.k.size;have hd:∀x∈fc p.en (iy.val p.w p.m p.s p.a e.k).2.2.2.2,1<=x.k.size:=λx hx=>h.ks x (dh.1 hx).1;cases fC.has (iy.val p.w p.m p.s p.a e.k).1 e.k||fC.has (iy.val p.w p.m p.s p.a e.k).2.1 e.k with
  |true=>
   intro x hx;rw[aw]at hx;unfold kF at hx;rcases aQ.1 hx with hx|hx
   ·rcases aQ.1 hx with hx|hx
    ·exact hd x (dh.1 hx).1
    ·rw[aP]at hx;rw[hx];exact he
   ·exact hd x (dh.1 hx).1
  |false=>exact hd
 ·show(bif _ then kF (fc p.en _) e else fc p.en _).length<=i+1;have d:=fK.wz p.en (iy.val p.w p.m p.s p.a e.k).2.2.2.2;have q:=fK.vG (fc p.en (iy.val p.w p.m p.s p.a e.k).2.2.2.2) e (h.so.drop _);cases fC.has (iy.val p.w p.m p.s p.a e.k).1 e.k||fC.has (iy.val p.w p.m p.s p.a e.k).2.1 e.k with
  |true=>rw[aw];omega
  |false=>rw[aC];omega
theorem SD{e:En}{now:ax}(h:wJ e now=ae):jD.v e.k e.st e.li e.bo=true:=by
 unfold wJ E_.v at h;cases hq:jD.v e.k e.st e.li e.bo with
 |true=>rfl
 |false=>rw[show uQ.v e.k e.st e.li e.bo=ah from hq]at h;cases h
end g9

namespace fF
open Lib (rr rs re rf rc Px)
end fF

namespace z5
open Lib (rr rs re rf rc Px)
def later(now n:ax):ax:=bif decide (now>1000000000-n%1000)then 1000000000 else bE (now+n%1000)
def val(p:Px)(n:ax):Px:={p with now:=later p.now n}
theorem tm(n:ax):(0<=bL n 1000->bL n 1000=n%1000)/\(bL n 1000<0->bL n 1000+1000=n%1000):=by
 rw[Int.tmod_eq_emod];by_cases h:0<=n\/(1000:ax)∣n
 ·rw[br h];constructor<;>omega
 ·rw[bF h];have hd:¬(1000:ax)∣n:=λx=>h (.inr x);have:n%1000≠0:=λe=>hd (Int.dvd_of_emod_eq_zero e);constructor<;>simp<;>omega
end z5

namespace R2
open Lib (rr rs re rf rc Px Cl el Mu Ue Uf Ug Uh Ui Uj)
def val(p:Px)(id:ax):Px:={p with cl:=p.cl.filter λc=> !decide (c.id=id)}
end R2

namespace Gu
open Lib (En Fi Px Cl Fe el)
open Gs (kp JH)
open rB (cls qw)
open k_ (PS vF)
open eR (kV)
open Gt (dk es)
structure Wo where
 p:Px
 o:ar (ak En)
 cd:ak ax
 bd:ak En
structure Ev where
 k:ax
 id:ax
 t:ai
 n:ax
 l:aY
def flag(b:aL):ax:=bif b then 0 else 1
def Nr(w:Wo):ak En:=(kp (es w.o)).filter λe=>g9.wJ e w.p.now
def closed(w:Wo)(id life:ax):Wo×ax:=
 let q:=cls w.p id life
 (bif q.2&&decide (life>0)then{w with p:=q.1,o:=ab (es w.o++[qw (el q.1.fe id.toNat)]),bd:=w.bd++[qw (el q.1.fe id.toNat)]}else{w with p:=q.1},flag q.2)
def Sz(w:Wo):Wo:={w with p:=g9.rst w.p.now (Nr w),o:=ab (Nr w)}
def act(w:Wo)(e:Ev):Wo×ax:=
 bif decide (e.k=1)then({w with p:=(eR.ask w.p e.id e.t).1},(eR.ask w.p e.id e.t).2)
 else bif decide (e.k=2)then({w with p:=(vF w.p e.id e.t).1},flag (vF w.p e.id e.t).2)
 else bif decide (e.k=3)then closed w e.id (e.n%1000000)
 else bif decide (e.k=4)then({w with p:=(PS w.p e.id).1},flag (PS w.p e.id).2)
 else bif decide (e.k=5)then({w with p:=z5.val w.p e.n},0)
 else bif decide (e.k=6)then({w with p:=R2.val w.p e.id},flag (kV w.p.cl e.id))
 else(Sz w,0)
def step(w:Wo)(e:Ev):Wo:={(act w e).1 with cd:=w.cd++[(act w e).2]}
def Ni(e:Ev):aL:=decide (1<=e.k/\e.k<=7)&&(decide (0<=e.id/\e.id<=30)&&(decide (e.t.size<=60)&&(decide (0<=e.n)&&decide (e.l.length<=4))))
end Gu

namespace Bk
open Lib (rr rs re rf rc rd Px En el Bh Gl Gm Gn)
open Gu (Wo Ev)
open Gt (dk es)
def ri(l:ak ax):aY:=l.map λn=>[CV.i aj n]
def W12(w:Wo):ax×aY×aY×aY×aY×ax×aY×aY×ax×aY×aY×aY:=(w.p.now,re w.p.en,rs w.p.w,rs w.p.m,rr w.p.s,w.p.a,rf w.p.fe,rc w.p.cl,w.p.hits,rd (dk w.o),ri w.cd,re w.bd)
theorem pG{p:Px}(h:qG.fM p):p.Fit 1048576:=(jr.pG (qG.ml.2 h)).le (by omega)
theorem lt_eq{α β:Type}(x:α)(f:α->β):Lib.lt x f=f x:=by have h:∀y,y=Lib.lt x f->y=f x:=λy hy=>hy.trans (Eq.refl _);exact h _ (Eq.refl _)
end Bk

namespace vh
theorem ok(q:aY)(a s k:ax)(hI:cK.I q a):∃n a' s',c q a s k=ae/\v q a s k=(n,q,a',s')/\cK.I q a'/\0<=n/\(0<k->n<k):=by
 by_cases hk:k<=0
 ·obtain⟨e1,e2⟩:=out q a s k (x:=(0,q,a,s)) (by unfold vo b;rw[aE hk,aw]);exact⟨0,a,s,e1,e2,hI,by omega,λh=>by omega⟩
 ·have hm:∀x:ax,0<=x->0<=bL x k/\bL x k<k:=λx hx=>by rw[ed hx];exact⟨MF _ (by omega),HS _ (by omega)⟩
  have hk0:¬k=0:=by omega
  obtain⟨n1,a1,s1,c1,v1,I1,g1,u1⟩:=cK.ok q a s hI;by_cases h2:k<=256
  ·obtain⟨e1,e2⟩:=out q a s k (x:=(bL n1 k,q,a1,s1)) (by unfold vo b;simp only[hk,h2,hk0,c1,v1,aW,bK,aw,aC,bX]);exact⟨_,a1,s1,e1,e2,I1,(hm n1 g1).1,λ_=>(hm n1 g1).2⟩
  ·obtain⟨n2,a2,s2,c2,v2,I2,g2,u2⟩:=cK.ok q a1 s1 I1;obtain⟨n3,a3,s3,c3,v3,I3,g3,u3⟩:=cK.ok q a2 s2 I2;obtain⟨n4,a4,s4,c4,v4,I4,g4,u4⟩:=cK.ok q a3 s3 I3;have w1:bE (n1*16777216)=n1*16777216:=cY (by omega) (by omega);have w2:bE (n2*65536)=n2*65536:=cY (by omega) (by omega);have w3:bE (n3*256)=n3*256:=cY (by omega) (by omega);have w4:bE (n1*16777216+n2*65536)=n1*16777216+n2*65536:=cY (by omega) (by omega);have w5:bE (n1*16777216+n2*65536+n3*256)=n1*16777216+n2*65536+n3*256:=cY (by omega) (by omega);have w6:bE (n1*16777216+n2*65536+n3*256+n4)=n1*16777216+n2*65536+n3*256+n4:=cY (by omega) (by omega);obtain⟨e1,e2⟩:=out q a s k (x:=(bL (n1*16777216+n2*65536+n3*256+n4) k,q,a4,s4)) (by unfold vo b;simp only[hk,h2,hk0,c1,v1,c2,v2,c3,v3,c4,v4,w1,w2,w3,w4,w5,w6,aW,bK,aw,aC,bX]);have:=hm (n1*16777216+n2*65536+n3*256+n4) (by omega);exact⟨_,a4,s4,e1,e2,I4,this.1,λ_=>this.2⟩
end vh

namespace Je
end Je

namespace ya
end ya

namespace Jd
end Jd

namespace eu
open cK (I)
def zM{α:Type}(o:ar α)(P:α->Prop):Prop:=∃x,o=ab x/\P x
theorem ret{α:Type}{x:α}{P:α->Prop}(h:P x):zM (ab x) P:=⟨x,rfl,h⟩
theorem ck{α:Type}{b:aL}{A B:ar α}{P:α->Prop}(h:b=ae)(h1:zM A P):zM (bif b then A else B) P:=by subst h;exact h1
theorem cn{α:Type}{b:aL}{A B:ar α}{P:α->Prop}(h:b=ah)(h1:zM B P):zM (bif b then A else B) P:=by subst h;exact h1
theorem call{α β:Type}{b:aL}{w u:β}{X:β->ar α}{P:α->Prop}(h:b=ae)(e:w=u)(hx:zM (X u) P):zM (bif b then Lib.lt w X else af) P:=by subst h;rw[aw,Bk.lt_eq,e];exact hx
end eu

namespace Bj
open fC (has without eU jb)
open jW (d_ ll rn)
open e_ (mq FT oM)
theorem gK{w m:ak ai}{s:ak (ak ax)}{a:ax}:rn w m s a=ae↔((∀k∈w++m,d_ k=ae)/\(w++m).Nodup)/\w.length<=2/\m.length<=4/\mq s a=true:=by unfold rn;rw[az,az,az,a9,a9,iy.rh]
theorem AZ{s:ak (ak ax)}{a:ax}:mq s a=ae↔s.length=3/\(0<=a/\a<=63)/\∀q∈s,q.length=16/\∀n∈q,0<=n/\n<=15:=by unfold mq oM FT;simp only[az,a9,aZ]
theorem Ep{s:ak (ak ax)}{a:ax}(key:ai)(h:mq s a=ae):mq (dm.val s a key).1 (dm.val s a key).2=true:=by
 unfold dm.val;rw[h,aw];obtain⟨h1,h2,h3⟩:=AZ.1 h;obtain⟨b1,b2⟩:=dm.pc (key:=key) h1 h3;by_cases ha:a+1=64
 ·rw[aE ha,aw,AZ];unfold dm.half;refine⟨by rw[bC];exact b1,by omega,λq hq=> ?_⟩
  obtain⟨r,hr,rfl⟩:=b7.1 hq;refine⟨by rw[bC];exact(b2 r hr).1,λn hn=> ?_⟩
  obtain⟨k,hk,rfl⟩:=b7.1 hn;have:=(b2 r hr).2 k hk;rw[gn this.1];omega
 ·rw[aK ha,aC,AZ];exact⟨b1,by omega,b2⟩
theorem AG{k:ai}(h:d_ k=ae):k≠⟨#[]⟩:=by intro e;rw[e]at h;exact bS h (by decide)
theorem pK{w m:ak ai}{s:ak (ak ax)}{a:ax}{key:ai}(h:rn w m s a=ae)(hk:d_ key=ae):
  rn (iy.val w m s a key).1 (iy.val w m s a key).2.1 (iy.val w m s a key).2.2.1 (iy.val w m s a key).2.2.2.1=ae
  /\∀x,x∈(iy.val w m s a key).1\/x∈(iy.val w m s a key).2.1↔(x∈w\/x∈m\/x=key)/\x≠(iy.val w m s a key).2.2.2.2:=by
 obtain⟨⟨k1,nd⟩,l1,l2,hs⟩:=gK.1 h;have Ic:=Ep key hs;have kn:=AG hk;have wn:∀x,x∈w\/x∈m->x≠⟨#[]⟩:=λx hx=>AG (k1 x (aQ.2 hx));unfold iy.val;rw[h,hk,aN,aw];generalize dm.val s a key=V at Ic;obtain⟨S,A⟩:=V;dsimp only at Ic⊢;rw[dr]at nd;obtain⟨n1,n2,n3⟩:=nd;have hwo:∀l:ak ai,l.Nodup->(without l key).Nodup/\(∀x,x∈without l key↔x∈l/\x≠key):=λl hl=>by unfold without;exact⟨hl.sublist jg,λx=>by simp⟩
 cases h1:has w key with
 |true=>
  have hm:=eU.1 h1;obtain⟨o1,o2⟩:=hwo w n1;have o3:=fC.mv h1;dsimp only[aw];refine⟨gK.2 ⟨⟨λk hx=> ?_, ?_⟩,by simp;omega,l2,Ic⟩,λx=> ?_⟩
  ·simp only[aQ,aP,o2]at hx;rcases hx with (hx|rfl)|hx
   ·exact k1 _ (aQ.2 (.inl hx.1))
   ·exact hk
   ·exact k1 _ (aQ.2 (.inr hx))
  ·simp only[dr,aQ,aP,o2];grind
  ·simp only[aQ,aP,o2];grind
 |false=>
  rw[aC];have hw:=jb.1 h1;cases h2:has m key with
  |true=>
   have hm:=eU.1 h2;obtain⟨o1,o2⟩:=hwo m n2;have o3:=fC.mv h2;dsimp only[aw];refine⟨gK.2 ⟨⟨λk hx=> ?_, ?_⟩,l1,by simp;omega,Ic⟩,λx=> ?_⟩
   ·simp only[aQ,aP,o2]at hx;rcases hx with hx|hx|rfl
    ·exact k1 _ (aQ.2 (.inl hx))
    ·exact k1 _ (aQ.2 (.inr hx.1))
    ·exact hk
   ·simp only[dr,aQ,aP,o2];grind
   ·simp only[aQ,aP,o2];grind
  |false=>
   rw[aC];have S7:=jb.1 h2;have lK:∀x,x∈w++[key]\/x∈m↔x∈w\/x∈m\/x=key:=λx=>by simp only[aQ,aP];grind
   have J3:∀x,x∈w++[key]\/x∈m->d_ x=true:=λx hx=>by
    rcases(lK x).1 hx with hx|hx|rfl
    ·exact k1 _ (aQ.2 (.inl hx))
    ·exact k1 _ (aQ.2 (.inr hx))
    ·exact hk
   have hnd:(w++[key]).Nodup/\∀x∈w++[key],x∉m:=by simp only[dr,aQ,aP];grind
   have hlen:(w++[key]).length=w.length+1:=by simp
   generalize w++[key]=W at lK J3 hnd hlen;obtain⟨d1,d2⟩:=hnd;by_cases h3:W.length<=2
   ·rw[aE h3,aw];refine⟨gK.2 ⟨⟨λk hx=>J3 k (aQ.1 hx), ?_⟩,h3,l2,Ic⟩,λx=> ?_⟩
    ·simp only[dr];grind
    ·dsimp only;rw[lK];grind
   ·rw[aK h3,aC];cases W with
    |nil=>simp at hlen
    |cons x0 t=>
     rw[iz]at d1;rw[cE]at hlen;have hg:(x0::t).getD 0 ⟨#[]⟩=x0:=rfl;have ht:(x0::t).tail=t:=rfl;rw[hg,ht];by_cases h4:m.length<4
     ·rw[aE h4,aw];refine⟨gK.2 ⟨⟨λk hx=>J3 k ?_, ?_⟩,by dsimp only;omega,by simp;omega,Ic⟩,λx=> ?_⟩
      ·simp only[aQ,aP,bP]at hx⊢;grind
      ·simp only[dr,aQ,aP,bP]at d2⊢;grind
      ·dsimp only;rw[<-lK];simp only[aQ,aP,bP];grind
     ·rw[aK h4,aC];cases m with
      |nil=>simp at h4
      |cons y0 u=>
       rw[iz]at n2;rw[cE]at l2 h4;have P4:(y0::u).getD 0 ⟨#[]⟩=y0:=rfl;have C0:(y0::u).tail=u:=rfl;rw[P4,C0];cases decide (lY.val S A x0>lY.val S A y0)with
       |true=>
        rw[aw];refine⟨gK.2 ⟨⟨λk hx=>J3 k ?_, ?_⟩,by dsimp only;omega,by simp;omega,Ic⟩,λx=> ?_⟩
        ·simp only[aQ,aP,bP]at hx⊢;grind
        ·simp only[dr,aQ,aP,bP]at d2⊢;grind
        ·dsimp only;rw[<-lK];simp only[aQ,aP,bP]at d2⊢;grind
       |false=>
        rw[aC];refine⟨gK.2 ⟨⟨λk hx=>J3 k ?_, ?_⟩,by dsimp only;omega,by simp;omega,Ic⟩,λx=> ?_⟩
        ·simp only[aQ,bP]at hx⊢;grind
        ·simp only[dr,iz,bP]at d2⊢;grind
        ·dsimp only;rw[<-lK];simp only[bP]at d2⊢;grind
end Bj

namespace yx
open Lib (Px Cl Fe En el)
open fC (has without eU jb)
open jW (d_ rn)
open mH (rW)
open nV (oI oN)
open sW (iF)
open fK (So eB fc kF)
open jr (Bg)
open qG (fM Du ml)
open Bj (gK pK)
open k_ (xW told PS vF ot)
theorem PQ{p:Px}(h:fM p){n:ax}(h1:p.now<=n)(h2:n<=1000000000):fM {p with now:=n}:=by
 have:=h.now;refine⟨⟨by dsimp only;omega,h2⟩,h.en,h.so,h.ek,h.pol,h.len,h.fl,λf hf=> ?_,h.ap,h.cll,λc hc=> ?_,h.cs,h.hits⟩
 ·have:=h.fe f hf;unfold oI at this⊢;simp only[az,a9]at this⊢;exact⟨this.1,this.2.1,this.2.2.1,this.2.2.2.1,this.2.2.2.2.1,uo this.2.2.2.2.2 h1⟩
 ·have:=h.cl c hc;unfold Du at this⊢;simp only[az,a9]at this⊢;exact⟨this.1,this.2.1,this.2.2.1,this.2.2.2.1,this.2.2.2.2.1,⟨this.2.2.2.2.2.1.1,uo this.2.2.2.2.2.1.2 h1⟩,this.2.2.2.2.2.2⟩
theorem vJ{p:Px}{n:au}{g:Fe}{st:ax}(h:fM p)(hn:n<p.fe.length)(hk:g.k=(el p.fe n).k)(hg:oI p.now g=ae)(hs:g.sta=1->(el p.fe n).sta=1)(h1:1<=st/\st<=3):fM (told p n g st):=by
 rw[fg hn]at hk hs;refine⟨h.now,h.en,h.so,h.ek,h.pol,h.len, ?_,λf hf=> ?_, ?_, ?_,λc hc=> ?_, ?_,h.hits⟩
 ·show(p.fe.set n g).length<=20;rw[cF];exact h.fl
 ·rcases gG hf with q|rfl
  ·exact h.fe f q
  ·exact hg
 ·show(p.fe.set n g).Pairwise _;rw[cQ];intro i j hi hj J0;rw[cF]at hi hj;have:=cQ.1 h.ap i j hi hj J0;rw[IL,IL];unfold oN at this⊢;by_cases e1:n=i
  ·by_cases e2:n=j
   ·omega
   ·subst e1;simp only[if_true,e2,if_false];rw[hk];by_cases e3:g.sta=1
    ·rw[hs e3]at this;rw[e3];exact this
    ·rw[aK e3];simp
  ·by_cases e2:n=j
   ·subst e2;simp only[e1,if_true,if_false];rw[hk];by_cases e3:g.sta=1
    ·rw[hs e3]at this;rw[e3];exact this
    ·rw[aK e3];simp
   ·simp only[e1,e2,if_false];exact this
 ·show(qk.kg p.cl n st g.t).length<=6;unfold qk.kg;rw[bC];exact h.cll
 ·have BX:c∈qk.kg p.cl n st g.t:=hc;unfold qk.kg at BX;obtain⟨d,hd,rfl⟩:=b7.1 BX;have h2:=h.cl d hd;show Du p.now (p.fe.set n g).length _=ae;rw[cF];unfold qk.ec;cases decide (d.fe=(n:ax)+1)&&decide (d.sta=1)with
  |false=>exact h2
  |true=>rw[aw];unfold Du at h2⊢;unfold oI at hg;simp only[az,a9]at h2 hg⊢;exact⟨h2.1,h2.2.1,h1,h2.2.2.2.1,hg.2.1,h2.2.2.2.2.2⟩
 ·show(qk.kg p.cl n st g.t).Pairwise _;unfold qk.kg;rw[ka];refine h.cs.imp λ{a b} SI=> ?_;have e:∀d:Cl,(qk.ec n st g.t d).id=d.id:=λd=>by unfold qk.ec;cases decide (d.fe=(n:ax)+1)&&decide (d.sta=1)<;>rfl
  rw[e,e];exact SI
theorem Fs{p:Px}(h:fM p){n:au}(hn:n<p.fe.length):d_ (el p.fe n).k=ae/\((el p.fe n).t.size:ax)<=400/\(1<=(el p.fe n).sta/\(el p.fe n).sta<=3)/\(0<=(el p.fe n).li/\(el p.fe n).li<=999999)/\0<=(el p.fe n).st/\(el p.fe n).st<=p.now:=by have:=h.fe _ (wA hn);unfold oI at this;simpa only[az,a9]using this
theorem Sh{p:Px}(f:ax)(h:fM p):fM (PS p f).1:=by
 unfold PS;cases ho:xW p f with
 |false=>exact h
 |true=>obtain⟨n,rfl,hn,_,h1⟩:=ot ho;obtain⟨g1,g2,g3,g4,g5⟩:=Fs h hn;refine vJ h hn rfl ?_ (λe=>bS e (by dsimp only;omega)) (by omega);unfold oI;simp only[az,a9];exact⟨g1,g2,by omega,g4,g5⟩
theorem K3{p:Px}(f:ax)(t:ai)(h:fM p):fM (vF p f t).1:=by
 unfold vF;cases ho:xW p f&&(decide (1<=t.size/\t.size<=40)&&decide ((el p.fe f.toNat).t.size+t.size<=400))with
 |false=>exact h
 |true=>
  simp only[az,a9]at ho;obtain⟨n,rfl,hn,_,h1⟩:=ot ho.1;obtain⟨g1,g2,g3,g4,g5⟩:=Fs h hn;rw[gY]at ho;refine vJ h hn rfl ?_ (λ_=>h1) (by omega);unfold oI;simp only[az,a9];refine⟨g1, ?_,g3,g4,g5⟩
  show((((el p.fe n).t++t).size:au):ax)<=400;rw[fE];omega
def GF(en:ak En)(w m:ak ai):Prop:=∀k,k∈w\/k∈m↔∃e∈en,e.k=k
theorem CM{en:ak En}(h:So en):(en.map λe=>e.k).Nodup:=by rw[mG,ka];refine h.imp λ{a b} SI e=> ?_;rw[e]at SI;unfold eB at SI;rw[k9.lS]at SI;cases SI
theorem vH{p:Px}(h:fM p):GF p.en p.w p.m:=by
 obtain⟨⟨_,nd⟩,_⟩:=gK.1 h.pol;have ne:=CM h.so;have sub:(p.en.map λe=>e.k)⊆p.w++p.m:=λx hx=>by obtain⟨e,he,rfl⟩:=b7.1 hx;exact aQ.2 (h.ek e he)
 intro k;constructor
 ·intro hk;have hk:k∈p.w++p.m:=aQ.2 hk;refine uL λhn=> ?_;have nn:(k::p.en.map λe=>e.k).Nodup:=iz.2 ⟨λhx=>hn (by obtain⟨e,he,q⟩:=b7.1 hx;exact⟨e,he,q⟩),ne⟩;have:=nn.length_le_of_subset (l₂:=p.w++p.m) (λx hx=>by
   rcases bP.1 hx with rfl|hx
   ·exact hk
   ·exact sub hx)
  have hl:=h.len;simp only[cE,bC,b8]at this;omega
 ·rintro ⟨e,he,rfl⟩;exact h.ek e he
theorem of_same{en:ak En}{w m:ak ai}{s:ak (ak ax)}{a:ax}(h:GF en w m)(so:So en)(hp:rn w m s a=ae):(∀e∈en,e.k∈w\/e.k∈m)/\w.length+m.length=en.length:=by
 obtain⟨⟨_,nd⟩,_⟩:=gK.1 hp;refine⟨λe he=>(h _).2 ⟨e,he,rfl⟩, ?_⟩
 have:=((List.perm_ext_iff_of_nodup nd (CM so)).2 λx=>by rw[aQ,h x,b7]).length_eq;rw[b8,bC]at this;exact this
theorem ji{en:ak En}{k:ai}{e:En}:e∈fc en k↔e∈en/\e.k≠k:=by unfold fc;simp
theorem ov{en:ak En}{x e:En}:x∈kF en e↔x=e\/(x∈en/\x.k≠e.k):=by
 unfold kF;simp only[aQ,dh,aP,dt,je,ik];constructor
 ·rintro ((⟨h1,h2⟩|rfl)|⟨h1,h2⟩)
  ·refine .inr ⟨h1,λe2=> ?_⟩;rw[e2]at h2;unfold eB at h2;rw[k9.lS]at h2;cases h2
  ·exact .inl rfl
  ·exact .inr ⟨h1,h2.2⟩
 ·rintro (rfl|⟨h1,h2⟩)
  ·exact .inl (.inr rfl)
  ·cases hl:eB x.k e.k with
   |true=>exact .inl (.inl ⟨h1,rfl⟩)
   |false=>exact .inr ⟨h1,rfl,h2⟩
theorem Et{en:ak En}(h:So en)(e:En):So (kF en e):=by have:=(k9.Az (fK.Cu h) e.k e.st e.li e.bo).1.1;rw[fK.xA]at this;unfold Lib.re at this;rw[ka]at this;exact this
theorem Ey{p:Px}{e:En}(h:fM p)(he:rW e=ae):fM (Bg p e):=by
 have hk:d_ e.k=true:=by have:=(jD.Mt he).1;unfold d_;exact aE (by omega)
 obtain⟨t1,t2⟩:=pK h.pol hk;have sm:=vH h;unfold Bg;generalize iy.val p.w p.m p.s p.a e.k=V at t1 t2;obtain⟨W,M,S,A,G⟩:=V;dsimp only at t1 t2⊢;have key:∀VM,So VM->(∀x∈VM,rW x=ae)->GF VM W M->fM ⟨p.now,VM,W,M,S,A,p.fe,p.cl,p.hits⟩:=λVM o1 o2 o3=>by obtain⟨q1,q2⟩:=of_same o3 o1 t1;exact⟨h.now,o2,o1,q1,t1,q2,h.fl,h.fe,h.ap,h.cll,h.cl,h.cs,h.hits⟩
 have d1:So (fc p.en G):=h.so.drop G;have d2:∀x∈fc p.en G,rW x=true:=λx hx=>h.en x (ji.1 hx).1;cases hh:has W e.k||has M e.k with
 |true=>
  rw[aw];have fO:e.k∈W\/e.k∈M:=by rwa[dg,eU,eU]at hh
  refine key _ (Et d1 e) (λx hx=> ?_) λk=> ?_
  ·rcases ov.1 hx with rfl|q
   ·exact he
   ·exact d2 x q.1
  ·rw[t2 k];have hg:=((t2 e.k).1 fO).2;constructor
   ·rintro ⟨q,hn⟩;by_cases e1:k=e.k
    ·exact⟨e,ov.2 (.inl rfl),e1.symm⟩
    ·have q2:k∈p.w\/k∈p.m:=q.elim .inl λq=>q.elim .inr λq=>bS q e1;obtain⟨x,hx,rfl⟩:=(sm k).1 q2;exact⟨x,ov.2 (.inr ⟨ji.2 ⟨hx,hn⟩,e1⟩),rfl⟩
   ·rintro ⟨x,hx,rfl⟩;rcases ov.1 hx with rfl|q
    ·exact⟨.inr (.inr rfl),hg⟩
    ·obtain⟨q1,q2⟩:=ji.1 q.1;exact⟨((sm x.k).2 ⟨x,q1,rfl⟩).elim .inl λz=> .inr (.inl z),q2⟩
 |false=>
  rw[aC];have fO:¬(e.k∈W\/e.k∈M):=by rw[<-eU,<-eU,<-dg,hh];simp
  have hg:e.k=G:=uL λhn=>fO ((t2 e.k).2 ⟨.inr (.inr rfl),hn⟩);refine key _ d1 d2 λk=> ?_;rw[t2 k];constructor
  ·rintro ⟨q,hn⟩;have q2:k∈p.w\/k∈p.m:=q.elim .inl λq=>q.elim .inr λq=>bS (q.trans hg) hn;obtain⟨x,hx,rfl⟩:=(sm k).1 q2;exact⟨x,ji.2 ⟨hx,hn⟩,rfl⟩
  ·rintro ⟨x,hx,rfl⟩;obtain⟨q1,q2⟩:=ji.1 hx;exact⟨((sm x.k).2 ⟨x,q1,rfl⟩).elim .inl λz=> .inr (.inl z),q2⟩
end yx

namespace Bi
def fv(k:ai)(s l:ax)(b:ai)(n:ax):aL:=bif jD.v k s l b then bif fX.v n s 1000000000 then decide (bE (n-s)<l)else ah else ah
theorem eq(k:ai)(s l:ax)(b:ai)(n:ax):E_.v k s l b n=fv k s l b n:=by
 have e:uQ.v k s l b=jD.v k s l b:=rfl;unfold E_.v fv;rw[e];cases h:jD.v k s l b with
 |false=>rfl
 |true=>
  have hs:(0<=s/\s<=1000000000)/\1<=l/\l<=999999:=by unfold jD.v at h;cases h1:tG.v k<;>rw[h1]at h<;>simp only[aw,aC,cJ]at h;cases h2:fX.v s 0 1000000000<;>rw[h2]at h<;>simp only[aw,aC,cJ]at h;cases h3:fX.v l 1 999999<;>rw[h3]at h<;>simp only[aw,aC,cJ]at h;simp[fX.v]at h2 h3;omega
  simp only[aw,Jl.v,kR.v,fX.v,dA,a9];by_cases h1:0<=n/\n<=1000000000
  ·rw[pP (x:=n-s) (by omega) (by omega),pP (x:=s+l) (by omega) (by omega),pP (x:=s+l-1) (by omega) (by omega)];by_cases h2:s<=n<;>by_cases h3:n-s<l<;>simp[h1,h2,h3]<;>omega
  ·by_cases h2:s<=n<;>by_cases h3:0<=n<;>by_cases h4:n<=1000000000<;>simp[h2,h3,h4]<;>omega
end Bi

namespace vN
open Lib (Px Cl Fe En el)
open fC (has without eU jb)
open jW (d_ rn)
open mH (rW)
open nV (oI oN)
open sW (iF)
open fK (So eB fc kF)
open qG (fM Du ml)
open Bj (gK pK Ep AG)
open yx (GF vH of_same ji)
open eR (NA rj put H9 QE Mr kV jn oh wJ)
theorem OU(l:ak Cl)(n:ax):(l.filter λx=>decide (x.id<n)).length+(l.filter λx=>decide (x.id>n)).length<=l.length:=by
 induction l with
 |nil=>exact cD _
 |cons y l ih=>
  simp only[List.filter_cons];by_cases h1:y.id<n
  ·rw[aE h1,aK (show¬y.id>n by omega)];simp only[if_true,cJ,if_false,cE];omega
  ·rw[aK h1];by_cases h2:y.id>n
   ·rw[aE h2];simp only[if_true,cJ,if_false,cE];omega
   ·rw[aK h2];simp only[cJ,if_false,cE];omega
theorem Qo{l:ak Cl}{c:Cl}(cs:l.Pairwise λa b=>a.id<b.id):(jn l c).length<=l.length+1/\((jn l c).Pairwise λa b=>a.id<b.id)/\∀x∈jn l c,x=c\/x∈l:=by
 unfold jn;refine⟨?_, ?_,λx hx=> ?_⟩
 ·have:=OU l c.id;simp only[b8,cE,gX];omega
 ·rw[bR,qp];refine⟨cs.filter _, ?_,λa ha b hb=> ?_⟩
  ·rw[qq,tl];exact⟨λb hb=>bU (dh.1 hb).2,cs.filter _⟩
  ·have ha:=bU (dh.1 ha).2;rcases aQ.1 hb with hb|hb
   ·rw[aP]at hb;rw[hb];exact ha
   ·have hb:=bU (dh.1 hb).2;omega
 ·rcases aQ.1 hx with hx|hx
  ·rcases aQ.1 hx with hx|hx
   ·exact .inr (dh.1 hx).1
   ·exact .inl (aP.1 hx)
  ·exact .inr (dh.1 hx).1
theorem OT{w m:ak ai}{s:ak (ak ax)}{a:ax}{key:ai}(h:key∈w\/key∈m):(iy.val w m s a key).2.2.2.2=⟨#[]⟩:=by
 unfold iy.val;cases rn w m s a&&d_ key with
 |false=>rfl
 |true=>
  rw[aw];cases h1:has w key with
  |true=>rfl
  |false=>have h2:has m key=true:=eU.2 (h.resolve_left (jb.1 h1));rw[h2];rfl
theorem CQ{w m:ak ai}{s:ak (ak ax)}{a:ax}{key:ai}(h:rn w m s a=ae)(hk:d_ key=ae):(has (iy.val w m s a key).1 key||has (iy.val w m s a key).2.1 key)=true:=by
 obtain⟨⟨k1,nd⟩,l1,l2,hs⟩:=gK.1 h;rw[dg,eU,eU];refine((pK h hk).2 key).2 ⟨.inr (.inr rfl), ?_⟩;have kn:=AG hk;unfold iy.val;rw[h,hk,aN,aw];cases h1:has w key with
 |true=>exact kn
 |false=>
  rw[aC];have hw:=jb.1 h1;cases h2:has m key with
  |true=>exact kn
  |false=>
   rw[aC];have hm:=jb.1 h2;by_cases h3:(w++[key]).length<=2
   ·rw[aE h3];exact kn
   ·rw[aK h3,aC];have fP:(w++[key]).getD 0 ⟨#[]⟩≠key:=by
     cases w with
     |nil=>simp at h3
     |cons x w=>intro e;exact hw (by rw[<-e];simp)
    by_cases h4:m.length<4
    ·rw[aE h4];exact kn
    ·rw[aK h4,aC];cases decide (lY.val (dm.val s a key).1 (dm.val s a key).2 ((w++[key]).getD 0 ⟨#[]⟩)>lY.val (dm.val s a key).1 (dm.val s a key).2 (m.getD 0 ⟨#[]⟩))with
     |true=>
      intro e;cases m with
      |nil=>simp at h4
      |cons x m=>exact hm (by rw[e];simp)
     |false=>exact λe=>fP e.symm
theorem SW{p:Px}{id:ax}{key:ai}{e:En}(h:fM p)(G5:1<=id/\id<=9)(hk:d_ key=ae)(hl:p.cl.length<6)(he:e∈p.en)(hek:e.k=key)(DW:e.st<=p.now):fM (NA p id key e):=by
 have fO:key∈p.w\/key∈p.m:=by rw[<-hek];exact h.ek e he
 obtain⟨t1,t2⟩:=pK h.pol hk;have tg:=OT (s:=p.s) (a:=p.a) fO;have sm:=vH h;have hr:=jD.Mt (h.en e he);obtain⟨j1,j2,j3⟩:=Qo (c:=⟨id,key,0,e.st,2,e.bo,p.now-e.st⟩) h.cs;unfold NA;generalize iy.val p.w p.m p.s p.a key=V at t1 t2 tg;obtain⟨W,M,S,A,G⟩:=V;dsimp only at t1 t2 tg⊢;subst tg;have sm2:GF p.en W M:=λk=>by
  rw[t2 k];refine Iff.trans ?_ (sm k);constructor
  ·rintro ⟨q|q|rfl,_⟩
   ·exact .inl q
   ·exact .inr q
   ·exact fO
  ·intro q;refine⟨q.elim .inl λq=> .inr (.inl q), ?_⟩
   obtain⟨x,hx,rfl⟩:=(sm k).1 q;have:=(jD.Mt (h.en x hx)).1;intro e;rw[e]at this;exact bS this.1 (by decide)
 obtain⟨q1,q2⟩:=of_same sm2 h.so t1;refine⟨h.now,h.en,h.so,q1,t1,q2,h.fl,h.fe,h.ap,by dsimp only;omega,λc hc=> ?_,j2, ?_⟩
 ·rcases j3 c hc with rfl|hc
  ·unfold Du;simp only[az,a9];exact⟨G5,hk,by omega,⟨by omega,by omega⟩,by omega,⟨by omega,DW⟩,by omega⟩
  ·exact h.cl c hc
 ·have:=h.hits;dsimp only;by_cases hh:p.hits<1000000000
  ·rw[aE hh,aw];omega
  ·rw[aK hh,aC];exact this
theorem A7{l:ak ai}{k x:ai}:x∈without l k↔x∈l/\x≠k:=by unfold without;simp
theorem AR{p:Px}{id:ax}{key:ai}{h:aL}{fe:ak Fe}{i:au}(ho:fM p)(G5:1<=id/\id<=9)(hk:d_ key=ae)(hl:p.cl.length<6)(hn:p.fe.length<=fe.length)(SF:fe.length<=20)(hf:∀f∈fe,oI p.now f=ae)(hap:fe.Pairwise λf g=>oN g f=ah)(hi:i<fe.length)(hp:h=ah->True):fM (put p id key h fe i):=by
 obtain⟨⟨k1,nd⟩,l1,l2,hs⟩:=gK.1 ho.pol;have Ic:=Ep key hs;have sm:=vH ho;obtain⟨j1,j2,j3⟩:=Qo (c:=⟨id,key,(i:ax)+1,0,1,(el fe i).t,0⟩) ho.cs;have hfi:=hf _ (wA hi);have mI:∀c∈jn p.cl ⟨id,key,(i:ax)+1,0,1,(el fe i).t,0⟩,Du p.now fe.length c=true:=λc hc=>by
  rcases j3 c hc with rfl|hc
  ·unfold oI at hfi;unfold Du;simp only[az,a9]at hfi⊢;have:=ho.now;exact⟨G5,hk,by omega,⟨by omega,by omega⟩,hfi.2.1,⟨by omega,by omega⟩,by omega⟩
  ·have:=ho.cl c hc;unfold Du at this⊢;simp only[az,a9]at this⊢;exact⟨this.1,this.2.1,this.2.2.1,⟨this.2.2.2.1.1,by omega⟩,this.2.2.2.2⟩
 unfold put;cases h with
 |false=>have NH:rn p.w p.m (dm.val p.s p.a key).1 (dm.val p.s p.a key).2=true:=gK.2 ⟨⟨k1,nd⟩,l1,l2,Ic⟩;exact⟨ho.now,ho.en,ho.so,ho.ek,NH,ho.len,SF,hf,hap,by dsimp only;omega,mI,j2,ho.hits⟩
 |true=>
  have NH:rn (without p.w key) (without p.m key) (dm.val p.s p.a key).1 (dm.val p.s p.a key).2=true:=by
   refine gK.2 ⟨⟨λk hx=> ?_, ?_⟩,c5 fC.g8 l1,c5 fC.g8 l2,Ic⟩
   ·rcases aQ.1 hx with q|q
    ·exact k1 k (aQ.2 (.inl (A7.1 q).1))
    ·exact k1 k (aQ.2 (.inr (A7.1 q).1))
   ·have:without p.w key++without p.m key=(p.w++p.m).filter λx=> !decide (x=key):=by unfold without;rw[mD]
    rw[this];exact nd.sublist jg
  have sm2:GF (fc p.en key) (without p.w key) (without p.m key):=λk=>by
   rw[A7,A7];constructor
   ·intro q;have fP:k≠key:=q.elim (·.2) (·.2);obtain⟨x,hx,rfl⟩:=(sm k).1 (q.elim (λq=> .inl q.1) (λq=> .inr q.1));exact⟨x,ji.2 ⟨hx,fP⟩,rfl⟩
   ·rintro ⟨x,hx,rfl⟩;obtain⟨hx,fP⟩:=ji.1 hx;exact((sm x.k).2 ⟨x,hx,rfl⟩).elim (λq=> .inl ⟨q,fP⟩) (λq=> .inr ⟨q,fP⟩)
  have so:=ho.so.drop key;obtain⟨q1,q2⟩:=of_same sm2 so NH;exact⟨ho.now,λe he=>ho.en e (ji.1 he).1,so,q1,NH,q2,SF,hf,hap,by dsimp only;omega,mI,j2,ho.hits⟩
theorem FR{p:Px}{id:ax}{key:ai}{h:aL}(ho:fM p)(G5:1<=id/\id<=9)(hk:d_ key=ae)(hl:p.cl.length<6):fM (rj p id key h).1:=by
 unfold rj;cases Zi:QE p.fe key with
 |some i=>have hi:i<p.fe.length:=(sU.1 Zi).1;exact AR ho G5 hk hl (cD _) ho.fl ho.fe ho.ap hi (λ_=>trivial)
 |none=>
  dsimp only;by_cases SF:p.fe.length<20
  ·rw[aE SF,aw];have wS:∀f∈p.fe,Mr key f=false:=λf hf=>by have:=yG.1 Zi f hf;simpa using this
   have S8:=ho.now;refine AR ho G5 hk hl (by simp) (by simp;omega) (λf hf=> ?_) ?_ (by simp) (λ_=>trivial)
   ·rcases aQ.1 hf with q|q
    ·exact ho.fe f q
    ·rw[aP]at q;subst q;unfold oI oh;simp only[az,a9];exact⟨hk,by show((0:au):ax)<=400;omega,by omega,by omega,by omega,by omega⟩
   ·rw[qp];refine⟨ho.ap,by simp,λa ha b hb=> ?_⟩
    rw[aP]at hb;subst hb;have:=wS a ha;unfold Mr at this;unfold oN oh;dsimp only;revert this;rw[show decide (key=a.k)=decide (a.k=key)from by rw[cO];exact Ss];cases decide (a.k=key)<;>cases decide (a.sta=1)<;>simp
  ·rw[aK SF];exact ho
theorem Js{p:Px}(id:ax)(key:ai)(h:fM p):fM (eR.ask p id key).1:=by
 unfold eR.ask;cases hg:iF p&&(decide (1<=id/\id<=9)&&(d_ key&&(!kV p.cl id&&decide (p.cl.length<6))))with
 |false=>exact h
 |true=>
  simp only[az,a9]at hg;obtain⟨_,G5,hk,_,hl⟩:=hg;rw[aw];cases he:H9 p.en key with
  |none=>exact FR h G5 hk hl
  |some e=>
   dsimp only;cases hf:wJ e p.now with
   |false=>exact FR h G5 hk hl
   |true=>
    unfold H9 at he;have h1:=List.mem_of_find?_eq_some he;have h2:=x9 he;refine SW h G5 hk hl h1 (bU h2) ?_;unfold wJ at hf;rw[Bi.eq]at hf;unfold Bi.fv at hf;rw[show jD.v e.k e.st e.li e.bo=ae from h.en e h1,aw,show fX.v p.now e.st 1000000000=decide (e.st<=p.now/\p.now<=1000000000)from e_.eg _ _ _]at hf;cases hd:decide (e.st<=p.now/\p.now<=1000000000)with
    |true=>exact(bU hd).1
    |false=>rw[hd]at hf;cases hf
end vN

namespace Ik
open Lib (Px Cl Fe En el)
open qG (fM Du ml)
open yx (PQ)
theorem zh{now n:ax}(h:1<=now/\now<=1000000000):now<=z5.later now n/\z5.later now n<=1000000000:=by
 unfold z5.later;have:=MF n (show(1000:ax)≠0 by omega);have:=HS n (show(0:ax)<1000 by omega);by_cases hc:now>1000000000-n%1000
 ·rw[aE hc,aw];omega
 ·rw[aK hc,aC,cY (by omega) (by omega)];omega
theorem OD{p:Px}(n:ax)(h:fM p):fM (z5.val p n):=PQ h (zh h.now).1 (zh h.now).2
end Ik

namespace vO
open Lib (Px Cl Fe En el)
open fC (has eU)
open jW (d_ rn)
open mH (rW)
open nV (oI oN)
open sW (iF)
open qG (fM Du ml)
open k_ (xW told PS vF ot)
open rB (cls qw)
open jr (Bg)
open Gs (JH Ux tx kp Gi)
open Gt (dk es)
open Gu (Wo Ev closed Sz Nr Ni flag)
open yx (vJ Fs Sh K3 Ey)
def on(l:ak Fe):au:=l.countP λf=>decide (f.sta=1)
theorem UP{x:ax}(h:x<=1000000000):(bytesOf (Lib.vb x)).size<=5:=by
 rw[Lib.fQ]
 exact Lib.vM 4 x (by have:(128:ax)^5=34359738368:=by decide
                      omega)
theorem SC{e:En}(h:JH e=ae):(Ux e).size<=460:=by
 have hr:=jD.Mt h;have z1:=UP (x:=(e.k.size:ax)) (by omega);have z2:=UP (x:=e.st) (by omega);have z3:=UP (x:=e.li) (by omega);have ht:(Gi e).size<=445:=by unfold Gi Dq.Gi;simp only[Lib.sJ];omega
 have z4:=UP (x:=((Gi e).size:ax)) (by omega);unfold Ux nX.fr;rw[Lib.sJ,Lib.sJ,nW.size];omega
theorem YJ(l:ak En)(h:∀e∈l,JH e=ae):(tx l).size<=460*l.length:=by
 induction l with
 |nil=>exact cD _
 |cons e l ih=>have h1:=SC (h e (by simp));have h2:=ih λx hx=>h x (by simp[hx]);have:(tx (e::l)).size=(Ux e).size+(tx l).size:=fE;rw[this,cE];omega
structure Uv (i:au) (w:Wo):Prop where
 px:fM w.p
 eo:∀e∈es w.o,JH e=ae
 ct:2*(es w.o).length+on w.p.fe<=i
 cd:w.cd.length=i
 bd:w.bd.length<=i
 bo:∀e∈w.bd,JH e=ae
theorem Uv.len{i:au}{w:Wo}(h:Uv i w)(hi:i<=71):(es w.o).length<=35:=by have:=h.ct;omega
theorem Uv.tx{i:au}{w:Wo}(h:Uv i w)(hi:i<=71):(tx (es w.o)).size<=16100:=by have:=YJ _ h.eo;have:=h.len hi;omega
theorem T0{now:ax}(hn:1<=now/\now<=1000000000)(l:ak En):fM (g9.rst now l):=by
 have key:∀(l:ak En) (p:Px),fM p->fM (l.foldl (g9.one now) p):=by
  intro l;induction l with
  |nil=>intro p h;exact h
  |cons e l ih=>
   intro p h;rw[List.foldl_cons];refine ih _ ?_;unfold g9.one;cases hf:g9.wJ e now with
   |true=>exact Ey h (g9.SD hf)
   |false=>exact h
 refine key l _ ⟨hn,λe h=>(by cases h),o0,λe h=>(by cases h), ?_,rfl,bT _,λf h=>(by cases h),o0,bT _,λc h=>(by cases h),o0,by show(0:ax)<=0/\(0:ax)<=1000000000;omega⟩;refine Bj.gK.2 ⟨⟨λk h=>(by cases h),List.nodup_nil⟩,bT _,bT _,Bj.AZ.2 ⟨rfl,by show(0:ax)<=0/\(0:ax)<=63;omega,λq hq=> ?_⟩⟩;have:q=g9.Mx:=by change q∈[g9.Mx,g9.Mx,g9.Mx]at hq;simp at hq;exact hq
 subst this;refine⟨rfl,λn hn=> ?_⟩
 unfold g9.Mx at hn;simp at hn;omega
theorem Sl{p:Px}{f life:ax}(h:fM p)(hl:0<=life/\life<=999999):
  fM (cls p f life).1/\(((cls p f life).2=ah/\(cls p f life).1=p)\/((cls p f life).2=ae/\∃n:au,f=(n:ax)/\n<p.fe.length/\(cls p f life).1.fe=p.fe.set n {el p.fe n with sta:=2,li:=life,st:=p.now}/\(el p.fe n).sta=1/\
   (life>0->JH (qw {el p.fe n with sta:=2,li:=life,st:=p.now})=ae/\(has (cls p f life).1.w (el p.fe n).k||has (cls p f life).1.m (el p.fe n).k)=ae))):=by
 unfold cls;cases ho:xW p f&&decide (0<=life/\life<=999999)with
 |false=>exact⟨h, .inl ⟨rfl,rfl⟩⟩
 |true=>
  rw[az]at ho;obtain⟨n,rfl,hn,_,h1⟩:=ot ho.1;obtain⟨g1,g2,g3,g4,g5⟩:=Fs h hn;have S8:=h.now;rw[aw,gY];have ht:fM (told p n {el p.fe n with sta:=2,li:=life,st:=p.now} 2):=by refine vJ h hn rfl ?_ (λe=>bS e (by dsimp only;omega)) (by omega);unfold oI;simp only[az,a9];exact⟨g1,g2,by omega,hl,by omega,by omega⟩
  have he:life>0->JH (qw {el p.fe n with sta:=2,li:=life,st:=p.now})=true:=λUC=>by unfold JH qw jD.v;dsimp only;rw[jW.jx,g1,aw,show fX.v p.now 0 1000000000=decide (0<=p.now/\p.now<=1000000000)from e_.eg _ _ _,aE (show 0<=p.now/\p.now<=1000000000 by omega),aw,show fX.v life 1 999999=decide (1<=life/\life<=999999)from e_.eg _ _ _,aE (show 1<=life/\life<=999999 by omega),aw];exact aE g2
  by_cases UC:life>0
  ·rw[aE UC,aw];have fO:=vN.CQ (key:=(el p.fe n).k) ht.pol g1;exact⟨Ey ht (he UC), .inr ⟨rfl,n,rfl,hn,rfl,h1,λ_=>⟨he UC,fO⟩⟩⟩
  ·rw[aK UC,aC];exact⟨ht, .inr ⟨rfl,n,rfl,hn,rfl,h1,λh=>bS h UC⟩⟩
end vO

namespace aaQ
open Lib (rr rs re rf rc rd Px En el)
open Gu (Wo Ev Ni)
open Gt (dk es)
open vO (Uv)
open Bk (ri W12)
instance:Inhabited Ev:=⟨⟨0,0,⟨#[]⟩,0,[]⟩⟩
def Evr(e:Ev):ak CV:=[CV.i aj e.k,CV.i aj e.id,CV.s e.t,CV.i aj e.n,CV.l 3 e.l]
def rv(l:ak Ev):aY:=l.map Evr
def w0:Wo:=⟨g9.p0 1,af,[],[]⟩
def run(l:ak Ev):Wo:=l.foldl Gu.step w0
def W13(w:Wo)(b:aL):ax×aY×aY×aY×aY×ax×aY×aY×ax×aY×aY×aY×aL:=(w.p.now,re w.p.en,rs w.p.w,rs w.p.m,rr w.p.s,w.p.a,rf w.p.fe,rc w.p.cl,w.p.hits,rd (dk w.o),ri w.cd,re w.bd,b)
def abi(l:ak Ev):aL:=decide (l.length<=70)&&(cy l.length).all λi=>Ni (el l i)
def life(l:ak Ev):ax×aY×aY×aY×aY×ax×aY×aY×ax×aY×aY×aY×aL:=bif abi l then W13 (run l) ae else(0,[],[],[],[],0,[],[],0,[],[],[],ah)
end aaQ

namespace O6
open Lib (Px Cl Fe En el)
open Gs (kp N1 Tp)
open fK (kF fc)
open yx (ji ov)
open rB (cls qw)
open k_ (PS vF xW told lj)
open qk (kg ec)
open eR (NA rj put H9 QE Mr kV jn oh)
open g9 (wJ rst one p0)
open jr (Bg)
open Gu (Wo Ev closed Sz Nr Ni flag)
open Gt (es)
open qG (fM)
open vO (Uv)
theorem Nq{e:En}{now:ax}(hn:1<=now/\now<=1000000000):wJ e now=ae↔jD.v e.k e.st e.li e.bo=ae/\e.st<=now/\now-e.st<e.li:=by
 unfold wJ;rw[Bi.eq];unfold Bi.fv;rw[show fX.v now e.st 1000000000=decide (e.st<=now/\now<=1000000000)from e_.eg _ _ _];cases h:jD.v e.k e.st e.li e.bo with
 |false=>simp
 |true=>
  have hr:=jD.Mt h;rw[aw,cY (x:=now-e.st) (by omega) (by omega)];by_cases h2:e.st<=now
  ·rw[aE (⟨h2,hn.2⟩:e.st<=now/\now<=1000000000),aw];simp[h2]
  ·rw[aK (λq:e.st<=now/\now<=1000000000=>h2 q.1),aC];simp[h2]
def Gp(fe:ak Fe)(bd:ak En)(c:Cl):Prop:=
 (c.fe=0/\c.sta=2/\∃e∈bd,e.k=c.k/\e.st=c.fr/\e.bo=c.got/\e.li>c.age)\/
 ∃n:au,c.fe=(n:ax)+1/\n<fe.length/\(el fe n).k=c.k/\c.got=(el fe n).t/\(el fe n).sta=c.sta/\(1<=c.sta/\c.sta<=3)
structure Snd (w:Wo):Prop where
 st:∀e∈w.p.en,e.st<=w.p.now
 bd:∀e∈w.p.en,e∈w.bd
 ob:∀e∈es w.o,e∈w.bd
 fr:∀e∈w.p.en,wJ e w.p.now=ae->e∈kp (es w.o)
 cl:∀c∈w.p.cl,Gp w.p.fe w.bd c
theorem Gp.bd{fe:ak Fe}{b b':ak En}{c:Cl}(h:Gp fe b c)(hb:∀e∈b,e∈b'):Gp fe b' c:=by
 rcases h with ⟨h1,h2,e,he,h3⟩|h
 ·exact .inl ⟨h1,h2,e,hb e he,h3⟩
 ·exact .inr h
theorem YR{fe:ak Fe}{b:ak En}{c:Cl}(h:Gp fe b c)(g:Fe):Gp (fe++[g]) b c:=by
 rcases h with h|⟨n,h1,h2,h3,h4,h5,h6⟩
 ·exact .inl h
 ·have e:el (fe++[g]) n=el fe n:=by rw[fg (by rw[b8];omega),fg h2,List.getElem_append_left h2]
  exact .inr ⟨n,h1,by rw[b8];omega,by rw[e];exact h3,by rw[e];exact h4,by rw[e];exact h5,h6⟩
theorem UW{p:Px}{b:ak En}{n:au}{g:Fe}{st:ax}(hn:n<p.fe.length)(ho:(el p.fe n).sta=1)(hk:g.k=(el p.fe n).k)(hg:g.sta=st)(h1:1<=st/\st<=3)(h:∀c∈p.cl,Gp p.fe b c):∀c∈(told p n g st).cl,Gp (told p n g st).fe b c:=by
 intro c hc;obtain⟨x,hx,rfl⟩:=b7.1 (show c∈p.cl.map (ec n st g.t)from hc);have Ih:=h x hx;show Gp (p.fe.set n g) b (ec n st g.t x);rcases Ih with h0|⟨m,m1,m2,m3,m4,m5,m6⟩
 ·have e:ec n st g.t x=x:=by unfold ec;rw[aK (show¬x.fe=(n:ax)+1 by have:=h0.1;omega)];rfl
  rw[e];exact .inl h0
 ·by_cases hm:m=n
  ·subst hm;have e:ec m st g.t x={x with sta:=st,got:=g.t}:=by unfold ec;rw[aE m1,aE (show x.sta=1 by rw[<-m5];exact ho)];rfl
   rw[e];refine .inr ⟨m,m1,by rw[cF];exact m2, ?_, ?_, ?_,h1⟩
   ·rw[lj m2,hk];exact m3
   ·rw[lj m2]
   ·rw[lj m2];exact hg
  ·have e:ec n st g.t x=x:=by unfold ec;rw[aK (show¬x.fe=(n:ax)+1 by omega)];rfl
   have e2:el (p.fe.set n g) m=el p.fe m:=by rw[fg (by rw[cF];exact m2),fg m2,List.getElem_set_ne (by omega)]
   rw[e];exact .inr ⟨m,m1,by rw[cF];exact m2,by rw[e2];exact m3,by rw[e2];exact m4,by rw[e2];exact m5,m6⟩
end O6

namespace nL
open Lib (rr rs re rf rc Px En Fe Cl el)
open qG (fM)
open rB (cls qw)
open k_ (vF xW told)
open qk (kg ec)
open eR (rj put H9 QE Mr kV oh jn NA)
open g9 (wJ)
abbrev kk:ai:={data:= #[ay 47,ay 107]}
abbrev bd:ai:={data:= #[ay 98,ay 111,ay 100,ay 121]}
structure At (p:Px) (now:ax) (fe:ak Fe) (cl:ak Cl) (en:ak En):Prop where
 ok:fM p
 now:p.now=now
 fe:p.fe=fe
 cl:p.cl=cl
 en:p.en=en
 hits:p.hits=0
theorem guard{p:Px}{id:ax}(ho:fM p)(G5:1<=id/\id<=9)(h:kV p.cl id=ah)(hl:p.cl.length<6):(sW.iF p&&(decide (1<=id/\id<=9)&&(jW.d_ kk&&(!kV p.cl id&&decide (p.cl.length<6)))))=true:=by rw[qG.ml.2 ho,aE G5,h,aE hl];rfl
theorem a1{p:Px}{now:ax}(h:At p now [] [] []):(eR.ask p 1 kk).2=0/\At (eR.ask p 1 kk).1 now [oh kk] [⟨1,kk,1,0,1,⟨#[]⟩,0⟩] []:=by
 have bI:=vN.Js 1 kk h.ok;have e:eR.ask p 1 kk=(put p 1 kk ah [oh kk] 0,0):=by unfold eR.ask;rw[guard h.ok (by omega) (by rw[h.cl];rfl) (by rw[h.cl];decide),aw,h.en];show rj p 1 kk ah=_;unfold rj;rw[h.fe];rfl
 rw[e]at bI⊢;refine⟨rfl,bI,h.now,rfl, ?_,h.en,h.hits⟩
 show jn p.cl _=_;rw[h.cl];rfl
theorem a2{p:Px}{now:ax}(h:At p now [oh kk] [⟨1,kk,1,0,1,⟨#[]⟩,0⟩] []):(vF p 0 bd).2=ae/\At (vF p 0 bd).1 now [⟨kk,bd,1,0,0⟩] [⟨1,kk,1,0,1,bd,0⟩] []/\(vF p 0 bd).1.w=p.w/\(vF p 0 bd).1.m=p.m/\(vF p 0 bd).1.s=p.s/\(vF p 0 bd).1.a=p.a:=by
 have bI:=yx.K3 0 bd h.ok;have ho:xW p 0=true:=by unfold xW;rw[qG.ml.2 h.ok,h.fe];rfl
 have e:vF p 0 bd=(told p 0 {el p.fe 0 with t:=(el p.fe 0).t++bd} 1,ae):=by unfold vF;rw[ho,h.fe];rfl
 rw[e]at bI⊢;refine⟨rfl,⟨bI,h.now, ?_, ?_,h.en,h.hits⟩,rfl,rfl,rfl,rfl⟩
 ·show p.fe.set 0 _=_;rw[h.fe];rfl
 ·show kg p.cl 0 1 ((el p.fe 0).t++bd)=_;rw[h.cl,h.fe];rfl
theorem a3{p:Px}{now life:ax}(h:At p now [⟨kk,bd,1,0,0⟩] [⟨1,kk,1,0,1,bd,0⟩] [])(hl:1<=life/\life<=500):(cls p 0 life).2=ae/\At (cls p 0 life).1 now [⟨kk,bd,2,life,now⟩] [⟨1,kk,1,0,2,bd,0⟩] [⟨kk,now,life,bd⟩]:=by
 obtain⟨bI,_⟩:=vO.Sl (f:=0) h.ok (life:=life) (by omega);have ho:xW p 0=true:=by unfold xW;rw[qG.ml.2 h.ok,h.fe];rfl
 have e:cls p 0 life=(jr.Bg (told p 0 {el p.fe 0 with sta:=2,li:=life,st:=p.now} 2) (qw {el p.fe 0 with sta:=2,li:=life,st:=p.now}),ae):=by unfold cls;rw[ho,aE (show 0<=life/\life<=999999 by omega),aN,aw,aE (show life>0 by omega)];rfl
 have fO:=vN.CQ (key:=kk) h.ok.pol rfl;rw[e]at bI⊢;refine⟨rfl,bI,h.now, ?_, ?_, ?_,h.hits⟩
 ·show p.fe.set 0 _=_;rw[h.fe,h.now];rfl
 ·show kg p.cl 0 2 (el p.fe 0).t=_;rw[h.cl,h.fe];rfl
 ·have hE:qw {el p.fe 0 with sta:=2,li:=life,st:=p.now}=⟨kk,now,life,bd⟩:=by rw[h.fe,h.now];rfl
  rw[hE];unfold jr.Bg;show(bif fC.has (iy.val p.w p.m p.s p.a kk).1 kk||fC.has (iy.val p.w p.m p.s p.a kk).2.1 kk then fK.kF (fK.fc p.en (iy.val p.w p.m p.s p.a kk).2.2.2.2) ⟨kk,now,life,bd⟩else fK.fc p.en (iy.val p.w p.m p.s p.a kk).2.2.2.2)=_;rw[fO,aw,h.en];rfl
theorem a4{p:Px}{now n:ax}{fe:ak Fe}{cl:ak Cl}{en:ak En}(h:At p now fe cl en)(h0:1<=now/\now<=1000)(hn:0<=n/\n<=999):At (z5.val p n) (now+n) fe cl en:=by
 refine⟨Ik.OD n h.ok, ?_,h.fe,h.cl,h.en,h.hits⟩
 show z5.later p.now n=_;unfold z5.later;rw[h.now,show n%1000=n by omega,aK (show¬now>1000000000-n by omega),aC];exact cY (by omega) (by omega)
theorem a5{p:Px}{now life n:ax}(h:At p (now+n) [⟨kk,bd,2,life,now⟩] [⟨1,kk,1,0,2,bd,0⟩] [⟨kk,now,life,bd⟩])(h0:1<=now/\now<=1000)(hn:0<=n/\n<=699)(hl:1<=life/\life<=500):
  (eR.ask p 2 kk).2=0/\fM (eR.ask p 2 kk).1/\(eR.ask p 2 kk).1.cl.length<=2/\∃c:Cl,(eR.ask p 2 kk).1.cl.find? (λc=>decide (c.id=2))=ab c/\
   ((n<life/\c.sta=2/\c.got=bd/\c.age=n/\(eR.ask p 2 kk).1.fe.length=1/\(eR.ask p 2 kk).1.hits=1)\/(¬n<life/\c.sta=1/\c.got=⟨#[]⟩/\(eR.ask p 2 kk).1.fe.length=2/\(eR.ask p 2 kk).1.hits=0/\(eR.ask p 2 kk).1.en.length=0)):=by
 have bI:=vN.Js 2 kk h.ok;have V9:H9 p.en kk=ab ⟨kk,now,life,bd⟩:=by rw[h.en];rfl
 have abl:jD.v kk now life bd=true:=h.ok.en ⟨kk,now,life,bd⟩ (by rw[h.en];exact cR);have S8:=h.ok.now;have hf:=O6.Nq (e:=⟨kk,now,life,bd⟩) (now:=p.now) S8;rw[h.now]at hf;by_cases ix:n<life
 ·have wN:eR.wJ ⟨kk,now,life,bd⟩ p.now=true:=by rw[h.now];exact hf.2 ⟨abl,by dsimp only;omega,by dsimp only;omega⟩
  have e:eR.ask p 2 kk=(NA p 2 kk ⟨kk,now,life,bd⟩,0):=by unfold eR.ask;rw[guard h.ok (by omega) (by rw[h.cl];rfl) (by rw[h.cl];decide),aw,V9];dsimp only;rw[wN];rfl
  rw[e]at bI⊢;have mI:(NA p 2 kk ⟨kk,now,life,bd⟩).cl=[⟨1,kk,1,0,2,bd,0⟩,⟨2,kk,0,now,2,bd,n⟩]:=by show jn p.cl ⟨2,kk,0,now,2,bd,p.now-now⟩=_;rw[h.cl,h.now,show now+n-now=n by omega];rfl
  refine⟨rfl,bI,by rw[mI];exact cD 2,⟨2,kk,0,now,2,bd,n⟩,by rw[mI];rfl, .inl ⟨ix,rfl,rfl,rfl, ?_, ?_⟩⟩
  ·show p.fe.length=1;rw[h.fe];rfl
  ·show(bif decide (p.hits<1000000000)then p.hits+1 else p.hits)=1;rw[h.hits];rfl
 ·have wN:eR.wJ ⟨kk,now,life,bd⟩ p.now=false:=by
   cases hq:eR.wJ ⟨kk,now,life,bd⟩ p.now with
   |false=>rfl
   |true=>rw[h.now]at hq;have:=(hf.1 hq).2.2;dsimp only at this;omega
  have e:eR.ask p 2 kk=(put p 2 kk ae ([⟨kk,bd,2,life,now⟩]++[oh kk]) 1,0):=by unfold eR.ask;rw[guard h.ok (by omega) (by rw[h.cl];rfl) (by rw[h.cl];decide),aw,V9];dsimp only;rw[wN,aC];unfold rj;rw[h.fe];rfl
  rw[e]at bI⊢;have mI:(put p 2 kk ae ([⟨kk,bd,2,life,now⟩]++[oh kk]) 1).cl=[⟨1,kk,1,0,2,bd,0⟩,⟨2,kk,2,0,1,⟨#[]⟩,0⟩]:=by show jn p.cl _=_;rw[h.cl];rfl
  refine⟨rfl,bI,by rw[mI];exact cD 2,⟨2,kk,2,0,1,⟨#[]⟩,0⟩,by rw[mI];rfl, .inr ⟨ix,rfl,rfl,rfl,h.hits, ?_⟩⟩
  show(fK.fc p.en kk).length=0;rw[h.en];rfl
theorem a0:At (g9.p0 1) 1 [] [] []:=⟨vO.T0 (now:=1) (by omega) [],rfl,rfl,rfl,rfl,rfl⟩
end nL

namespace o8
theorem ok(l:aY)(hl:l.length<=4294967296):c l=ae/\v l=l:=by refine out l ?_;unfold vo b;rw[show cq (aM [Ck.s] 0)+l.length=l.length by simp[aM],Lib.dH (by omega) (by omega)];rfl
end o8

namespace gD
open Lib (rr rs)
theorem ok(w m:ak ai)(s:ak (ak ax))(a:ax)(hw:w.length<=1048576)(hm:m.length<=1048576)(hf:iq.pj s):c (rs w) (rs m) (rr s) a=ae/\v (rs w) (rs m) (rr s) a=(rs w,rs m,rr s,a):=by have h1:=o8.ok (rs w) (by rw[iu];omega);have h2:=o8.ok (rs m) (by rw[iu];omega);have h3:=iq.ok s a hf;exact out _ _ _ _ (by unfold vo b;rw[h1.1,h1.2,h2.1,h2.2,h3.1,h3.2,aw,aw,aw])
end gD

namespace pV
open Lib (rr rs re rf rc Px)
theorem ok(p:Px)(hp:p.Fit 1048576):c p.now (re p.en) (rs p.w) (rs p.m) (rr p.s) p.a (rf p.fe) (rc p.cl) p.hits=ae/\v p.now (re p.en) (rs p.w) (rs p.m) (rr p.s) p.a (rf p.fe) (rc p.cl) p.hits=(p.now,re p.en,rs p.w,rs p.m,rr p.s,p.a,rf p.fe,rc p.cl,p.hits):=by have he:=hp.en;have hf:=hp.fe;have hc:=hp.cl;have h1:=rK.ok (re p.en) (by rw[fZ];omega);have h2:=gD.ok p.w p.m p.s p.a hp.w hp.m ⟨hp.s.1,hp.s.2.1⟩;exact out _ _ _ _ _ _ _ _ _ (by unfold vo b;rw[h1.1,h1.2,h2.1,h2.2,aw,aw,Lib.dH (by simp[aM,fa];omega) (by simp[aM,fa];omega),Lib.dH (by simp[aM,jd];omega) (by simp[aM,jd];omega)];rfl)
end pV

namespace lJ
open Lib (rr)
theorem eg(n a b:ax):kR.v n a b=decide (a<=n/\n<=b):=e_.eg n a b
theorem ok(s:ak (ak ax))(a:ax)(hf:iq.pj s):c (rr s) a=ae/\v (rr s) a=e_.mq s a:=by
 refine out _ _ ?_;unfold vo b;have hl:=hf.1;rw[fJ]
 have inner:∀i (h:i<s.length) (K0 K1:aL->aY->aY->ax->ax->aY->ax->ax->aY->ax->ar aL) (kf kt:ar aL) (x:ax)
   (h0:∀j:ax,K0 ah (Lib.ri s[i]) (rr s) s.length i (Lib.ri s[i]) x j (rr s) a=kf) (h1:∀j:ax,K1 ah (Lib.ri s[i]) (rr s) s.length i (Lib.ri s[i]) x j (rr s) a=kt),x=(s[i].length:ax)->l5 Lib.dE K0 K1 Lib.dE ah (Lib.ri s[i]) (rr s) s.length (i:ax) (Lib.ri s[i]) x 0 (rr s) a=bif(s[i]).all e_.FT then kt else kf:=λi h K0 K1 kf kt x h0 h1 hx=>by
  subst hx
  exact o9 (s[i]) e_.FT (λm (j:au)=>l5 Lib.dE K0 K1 m ah (Lib.ri s[i]) (rr s) s.length (i:ax) (Lib.ri s[i]) s[i].length (j:ax) (rr s) a) kf kt
   (λm j hj hp=>by have hl:=hf.2 _ (bk h);unfold e_.FT at hp;simp only[l5,r5,Lib.eO,hj,aW,Lib.dC,aN,aw,Lib.gg,f_,Ms hj,cw,eg,hp,bz,aC,Lib.dQ hj (by omega:s[i].length<=9223372036854775807)])
   (λm j hj hp=>by unfold e_.FT at hp;simp only[l5,r5,Lib.eO,hj,aW,Lib.dC,aN,aw,Lib.gg,f_,Ms hj,cw,eg,hp,bX,h0])
   (λm=>by simp only[l5,r5,Lib.eO,ca,bK,aC,h1]) Lib.dE (du (by have:=hf.2 _ (bk h);omega))
 have ro:∀q:ak ax,e_.oM q=(q.all e_.FT&&decide (q.length=16)):=λq=>Bool.and_comm ..
 have key:=o9 s e_.oM (λm (i:au)=>l2 Lib.dE (λ(O0:aL) (_:aY) (_ _:ax) (_:aY) (_:ax)=>ab O0) (λ(_:aL) (_:aY) (_ _:ax) (y46:aY) (y47:ax)=>bif(decide ((↑(cq y46):ax)=3))then(ab (kR.v y47 0 63))else(ab ah)) m ah (rr s) s.length (i:ax) (rr s) a) (ab ah) (ab (decide (s.length=3)&&decide (0<=a/\a<=63)))
  (λm i h hp=>by rw[ro,az]at hp;have FE:=bU hp.2;simp only[l2,r2,fJ,Lib.eO,h,aW,Lib.dC,aN,aw,Lib.gg,Ga h,ia,f_];rw[inner i h _ _ (ab ah) _ _ (λ_=>rfl) (λ_=>rfl) rfl,hp.1,aw,f_,FE,show(((16:au):ax) !=16)=ah from rfl,aC,Lib.dQ h (by omega)])
  (λm i h hp=>by
   rw[ro]at hp;simp only[l2,r2,fJ,Lib.eO,h,aW,Lib.dC,aN,aw,Lib.gg,Ga h,ia,f_];rw[inner i h _ _ (ab ah) _ _ (λ_=>rfl) (λ_=>rfl) rfl];cases ha:(s[i]).all e_.FT with
   |false=>rfl
   |true=>rw[ha,bA]at hp;have:=nK hp;rw[aw,f_,show((s[i].length:ax) !=16)=ae by simp;omega,aw])
  (λm=>by simp only[l2,r2,fJ,Lib.eO,ca,bK,aC,eg];rw[show decide ((s.length:ax)=3)=decide (s.length=3)by rw[cO];omega];cases decide (s.length=3)<;>rfl) Lib.dE (du (by omega))
 refine key.trans ?_;unfold e_.mq;cases s.all e_.oM<;>cases decide (s.length=3)<;>cases decide (0<=a/\a<=63)<;>rfl
end lJ

namespace yc
theorem ok(n:ax)(h0:0<=n)(h1:n<=4294967296):c n=ae/\v n=[]:=by
 refine out n ?_;unfold vo b;have e:bE (n-bE (0-0))=n:=by rw[show bE (0-0)=0 from rfl,Int.sub_zero,cY (by omega) (by omega)]
 rw[e,aK (show¬n<0 by omega),aC];by_cases hn:n>0
 ·rw[aE hn,aw,aE h0,aE (show n<=9223372036854775807 by omega),Lib.dH (by simp;omega) (by simp;omega)];simp[dM]
 ·rw[aK hn,aC]
end yc

namespace rO
theorem ok(p q:aY)(hp:p.length<=1048576)(hq:q.length<=1048576):c [[CV.l 9 p],[CV.l 9 q]]=ae/\v [[CV.l 9 p],[CV.l 9 q]]=p++q:=by
 refine out _ ?_;have w1:bE (0+(p.length:ax))=(p.length:ax):=by rw[Int.zero_add];exact cY (by omega) (by omega)
 have w2:bE ((p.length:ax)+(q.length:ax))=(p.length:ax)+(q.length:ax):=cY (by omega) (by omega);have hg:=yc.ok ((p.length:ax)+(q.length:ax)) (by omega) (by omega);have d1:decide ((p.length:ax)<0)=false:=aK (by omega);have d2:decide ((p.length:ax)+(q.length:ax)<0)=false:=aK (by omega);have g1:cX (0+p.length) 16=true:=Lib.dH (by omega) (by omega);have g2:cX (p.length+q.length) 16=true:=Lib.dH (by omega) (by omega);have c0:ia (ao [[CV.l 9 p],[CV.l 9 q]] 0 0)=p:=rfl;have c1:ia (ao [[CV.l 9 p],[CV.l 9 q]] 1 0)=q:=rfl;unfold vo b;obtain⟨n,hn⟩:∃n,Lib.dE=n+3:=⟨18446744073709551613,rfl⟩
 generalize Lib.dE=B at hn⊢;subst hn;have k3:∀(R:Type) (K:aY->ax->aY->ax->ax->ar R) (S:aY),S=[[CV.l 9 p],[CV.l 9 q]]->l3 (n+3) K (n+3) S 0 S 2 0=K S ((p.length:ax)+(q.length:ax)) S 2 2:=by intro R K S hS;subst hS;simp only[l3,r3,cE,gX,show aX 0=0 from rfl,c0,w1,d1,show bE (0+1)=1 from rfl,show aX 1=1 from rfl,c1,w2,d2,show bE (1+1)=2 from rfl,aC,show decide ((0:ax)<2)=ae from rfl,show decide ((1:ax)<2)=ae from rfl,show decide ((2:ax)<2)=ah from rfl,show decide ((0:ax)<=0)=ae from rfl,show decide ((0:ax)<=1)=ae from rfl,show((0+1+1:au):ax)=2 from rfl,aN,aw]
 have k11:∀(R:Type) (K:aY->ax->ax->aY->ar R) (S:aY),S=[[CV.l 9 p],[CV.l 9 q]]->W1 (n+3) K (n+3) S 2 0 []=K S 2 2 (p++q):=by intro R K S hS;subst hS;simp only[W1,r11,cE,gX,show aX 0=0 from rfl,c0,g1,show bE (0+1)=1 from rfl,show aX 1=1 from rfl,c1,fU,g2,show bE (1+1)=2 from rfl,aC,show decide ((0:ax)<2)=ae from rfl,show decide ((1:ax)<2)=ae from rfl,show decide ((2:ax)<2)=ah from rfl,show decide ((0:ax)<=0)=ae from rfl,show decide ((0:ax)<=1)=ae from rfl,show((0+1+1:au):ax)=2 from rfl,aN,aw]
 show l3 (n+3) _ (n+3) _ 0 _ 2 0=_;rw[k3 _ _ _ rfl,hg.1,hg.2,aw];exact k11 _ _ _ rfl
end rO

namespace nt
theorem ok(w m:ak ai)(s:aY)(a:ax)(hw:w.length<=1048576)(hm:m.length<=1048576):c (Lib.rs w) (Lib.rs m) s a=ae/\v (Lib.rs w) (Lib.rs m) s a=Lib.rs (w++m):=by
 have h:=rO.ok (Lib.rs w) (Lib.rs m) (by rw[iu];exact hw) (by rw[iu];exact hm);have e:aF (aF (aM [Ck.l 9] 2) 0 [CV.l 9 (Lib.rs w)]) 1 [CV.l 9 (Lib.rs m)]=[[CV.l 9 (Lib.rs w)],[CV.l 9 (Lib.rs m)]]:=rfl;have e2:Lib.rs w++Lib.rs m=Lib.rs (w++m):=by unfold Lib.rs;rw[fw]
 exact out _ _ _ _ (by unfold vo b;rw[e,h.1,h.2,aw,e2])
end nt

namespace uS
theorem ok(l:ak ai)(k:ai)(hl:l.length<=4294967296):c (Lib.rs l) k=ae/\decide (v (Lib.rs l) k≥0)=fC.has l k:=by
 have h:=out (Lib.rs l) k (x:=Lib.fi (λi=>decide ((l.getD i ⟨#[]⟩)=k)) l.length 0) (by
  unfold vo b;rw[iu];refine n9 (λi=>decide ((l.getD i ⟨#[]⟩)=k)) l.length (λm (i:au)=>l2 Lib.dE (λ(_:aY) (_:ai) (y7 _ _:ax)=>ab y7) (λ(_:aY) (_:ai) (_ _ _:ax)=>ab (-1)) m (Lib.rs l) k 0 (l.length:ax) (i:ax)) ab (λm i hi hp=> ?_) (λm i hi hp=> ?_) (λm=> ?_) Lib.dE (du (by omega))
  ·have hg:l.getD i ⟨#[]⟩=l[i]:=by simp[gW,hi]
   rw[hg]at hp;have se:decide (k=l[i])=true:=by rw[<-hp,cO];exact Ss
   simp only[l2,r2,iu,Lib.eO,hi,aW,Lib.dC,aN,aw,Lib.gg,Zw hi,bW,Lib.h_,se]
  ·have hg:l.getD i ⟨#[]⟩=l[i]:=by simp[gW,hi]
   rw[hg]at hp;have se:decide (k=l[i])=false:=by rw[<-hp,cO];exact Ss
   simp only[l2,r2,iu,Lib.eO,hi,aW,Lib.dC,aN,aw,Lib.gg,Zw hi,bW,Lib.h_,se,aC,Lib.dQ hi (by omega:l.length<=9223372036854775807)]
  ·simp only[l2,r2,Lib.eO,ca,bK,aC])
 refine⟨h.1, ?_⟩
 rw[h.2];exact Lib.DH l (λx=>decide (x=k)) _ (λi hi=>by simp[gW,hi])
end uS

namespace oS
theorem ok(l:ak ai)(k:ai)(hl:l.length<=4294967296):c (Lib.rs l) k=ae/\v (Lib.rs l) k=fC.has l k:=by have h:=uS.ok l k hl;exact out _ _ (by unfold vo b;rw[h.1,h.2,aw])
end oS

namespace lZ
open Lib (rr rs)
open fC (has without eU jb)
open jW (d_ Kq ll rn A6)
theorem jx(k:ai):GJ.v k=d_ k:=e_.eg _ _ _
theorem ok(w m:ak ai)(s:ak (ak ax))(a:ax)(hw:w.length<=1048576)(hm:m.length<=1048576)(hf:iq.pj s):c (rs w) (rs m) (rr s) a=ae/\v (rs w) (rs m) (rr s) a=rn w m s a:=by
 refine out _ _ _ _ ?_;have h2:=lJ.ok s a hf;have h3:=nt.ok w m (rr s) a hw hm;unfold vo b;rw[h3.1,h3.2,aw,iu];have hl:(w++m).length<=2097152:=by rw[b8];omega
 have fO:∀i,i<(w++m).length->oS.c (rs ((w++m).take i)) ((w++m).getD i ⟨#[]⟩)=ae/\oS.v (rs ((w++m).take i)) ((w++m).getD i ⟨#[]⟩)=has ((w++m).take i) ((w++m).getD i ⟨#[]⟩):=λi hi=>oS.ok _ _ (by rw[eA];omega);have hk:∀i (hi:i<(w++m).length),bW (ao (rs (w++m)) i 0)=(w++m).getD i ⟨#[]⟩:=λi hi=>by rw[Zw hi,show(w++m).getD i ⟨#[]⟩=(w++m)[i]by rw[cT,dV hi];rfl];rfl
 generalize hL:w++m=L at hl fO hk
 have key:=nY (Kq L) L.length (λn (i:au)=>l3 Lib.dE (λ(y8:aL) (_ _:ax) (_ _ _:aY) (_:ax) (_:aY)=>ab y8) (λ(_:aL) (_ _:ax) (LZ EG EH:aY) (L0:ax) (_:aY)=>bif(decide ((↑(cq LZ):ax)<=2))then(bif(decide ((↑(cq EG):ax)<=4))then(bif(lJ.c EH L0)then(ab (lJ.v EH L0))else(af))else(ab ah))else(ab ah)) n ah (L.length:ax) (i:ax) (rs w) (rs m) (rr s) a (rs L)) (ab ah) (ab (decide (w.length<=2)&&(decide (m.length<=4)&&e_.mq s a)))
  (λn i hi hp=>by
   unfold Kq at hp;rw[az,dt]at hp;have b1:iV 0 (i:ax) (L.length:ax)=true:=by simp[iV];omega
   simp only[l3,r3,iu,Lib.eO,hi,aW,Lib.dC,aN,aw,Lib.gg,hk i hi,jx,hp.1,bz,aC,b1,A6,(fO i hi).1,(fO i hi).2,hp.2,Lib.dQ hi (by omega:L.length<=9223372036854775807)])
  (λn i hi hp=>by
   have b1:iV 0 (i:ax) (L.length:ax)=true:=by simp[iV];omega
   unfold Kq at hp;cases h1:d_ (L.getD i ⟨#[]⟩)with
   |false=>simp only[l3,r3,iu,Lib.eO,hi,aW,Lib.dC,aN,aw,Lib.gg,hk i hi,jx,h1,bX]
   |true=>rw[h1,bA,s6]at hp;simp only[l3,r3,iu,Lib.eO,hi,aW,Lib.dC,aN,aw,Lib.gg,hk i hi,jx,h1,bz,aC,b1,A6,(fO i hi).1,(fO i hi).2,hp])
  (λn=>by simp only[l3,r3,iu,Lib.eO,ca,bK,aC,h2.1,h2.2,aw];rw[show decide ((w.length:ax)<=2)=decide (w.length<=2)by rw[cO];omega,show decide ((m.length:ax)<=4)=decide (m.length<=4)by rw[cO];omega];cases decide (w.length<=2)<;>cases decide (m.length<=4)<;>rfl) Lib.dE (du (by omega))
 refine key.trans ?_;unfold rn ll;rw[hL];cases (cy L.length).all (Kq L)<;>rfl
end lZ

namespace qS
open Lib (rr rs)
open fC (has)
theorem Nv(w m:ak ai)(k:ai):has (w++m) k=(has w k||has m k):=by unfold has;rw[List.any_append]
theorem ok(w m:ak ai)(s:aY)(a:ax)(k:ai)(hw:w.length<=1048576)(hm:m.length<=1048576):c (rs w) (rs m) s a k=ae/\v (rs w) (rs m) s a k=(has w k||has m k):=by have h1:=nt.ok w m s a hw hm;have h2:=oS.ok (w++m) k (by rw[b8];omega);exact out _ _ _ _ _ (by unfold vo b;rw[h1.1,h1.2,h2.1,h2.2,aw,aw,Nv])
end qS

namespace H6
open Lib (rr rs re el Bh Gl Gm Gn En)
open fC (has)
open jW (rn)
open mH (Fm JF rW)
theorem yR(k:ai)(s l:ax)(b:ai):uQ.v k s l b=jD.v k s l b:=rfl
theorem ok(i0:ax)(en:ak En)(w m:ak ai)(s:ak (ak ax))(a:ax)(r6 r7:aY)(i8:ax)(he:en.length<=1048576)(hw:w.length<=1048576)(hm:m.length<=1048576)(hf:iq.pj s):
  c i0 (re en) (rs w) (rs m) (rr s) a r6 r7 i8=ae/\v i0 (re en) (rs w) (rs m) (rr s) a r6 r7 i8=JF en w m s a:=by
 refine out _ _ _ _ _ _ _ _ _ ?_;have h1:=lZ.ok w m s a hw hm hf;have h2:=λk=>qS.ok w m (rr s) a k hw hm;have h3:=nt.ok w m (rr s) a hw hm;unfold vo b;rw[fZ]
 have key:=nY (Fm en w m) en.length (λn (i:au)=>l2 Lib.dE (λ(Un:aL) (_:aY) (_ _ _:ax) (_ _ _ _:aY) (_:ax) (_ _:aY) (_:ax)=>ab Un) (λ(_:aL) (_:aY) (_ _ _:ax) (Mw HO EI L3:aY) (L4:ax) (_ _:aY) (_:ax)=>bif(lZ.c HO EI L3 L4)then(bif(lZ.v HO EI L3 L4)then(bif(nt.c HO EI L3 L4)then(ab (decide ((↑(cq (nt.v HO EI L3 L4)):ax)=(↑(cq Mw):ax))))else(af))else(ab ah))else(af)) n ah (re en) (en.length:ax) (i:ax) i0 (re en) (rs w) (rs m) (rr s) a r6 r7 i8) (ab ah) (ab (rn w m s a&&decide (w.length+m.length=en.length)))
  (λn i hi hp=>by
   unfold Fm rW at hp;rw[az,az]at hp;obtain⟨p1,p2,p3⟩:=hp;by_cases hz:i=0
   ·subst hz;simp only[l2,r2,fZ,Lib.eO,hi,aW,Lib.dC,aN,aw,Lib.gg,Bh hi,Gl hi,Gm hi,Gn hi,bW,cw,yR,p1,bz,aC,aK (show¬(((0:au):ax)>0)by omega),(h2 _).1,(h2 _).2,p3,Lib.dQ hi (by omega:en.length<=9223372036854775807)]
   ·rw[aK hz,zy]at p2;have nc:i-1<en.length:=by omega
    simp only[l2,r2,fZ,Lib.eO,hi,aW,Lib.dC,aN,aw,Lib.gg,Bh hi,Gl hi,Gm hi,Gn hi,bW,cw,yR,p1,bz,aC,aE (show(i:ax)>0 by omega),pF (show 0<i by omega) (by omega),nc,Bh nc,p2,(h2 _).1,(h2 _).2,p3,Lib.dQ hi (by omega:en.length<=9223372036854775807)])
  (λn i hi hp=>by
   unfold Fm rW at hp;cases p1:jD.v (el en i).k (el en i).st (el en i).li (el en i).bo with
   |false=>simp only[l2,r2,fZ,Lib.eO,hi,aW,Lib.dC,aN,aw,Lib.gg,Bh hi,Gl hi,Gm hi,Gn hi,bW,cw,yR,p1,bX]
   |true=>
    rw[p1,bA]at hp;by_cases hz:i=0
    ·subst hz;rw[aE rfl,U2,bA]at hp;simp only[l2,r2,fZ,Lib.eO,hi,aW,Lib.dC,aN,aw,Lib.gg,Bh hi,Gl hi,Gm hi,Gn hi,bW,cw,yR,p1,bz,bX,aC,aK (show¬(((0:au):ax)>0)by omega),(h2 _).1,(h2 _).2,hp]
    ·rw[aK hz,zy]at hp;have nc:i-1<en.length:=by omega
     cases p2:bZ (aA (el en (i-1)).k) (aA (el en i).k)with
     |false=>simp only[l2,r2,fZ,Lib.eO,hi,aW,Lib.dC,aN,aw,Lib.gg,Bh hi,Gl hi,Gm hi,Gn hi,bW,cw,yR,p1,bz,bX,aC,aE (show(i:ax)>0 by omega),pF (show 0<i by omega) (by omega),nc,Bh nc,p2]
     |true=>rw[p2,bA]at hp;simp only[l2,r2,fZ,Lib.eO,hi,aW,Lib.dC,aN,aw,Lib.gg,Bh hi,Gl hi,Gm hi,Gn hi,bW,cw,yR,p1,bz,bX,aC,aE (show(i:ax)>0 by omega),pF (show 0<i by omega) (by omega),nc,Bh nc,p2,(h2 _).1,(h2 _).2,hp])
  (λn=>by simp only[l2,r2,Lib.eO,ca,bK,aC,h1.1,h1.2,h3.1,h3.2,aw,iu,fZ,b8];rw[show decide (((w.length+m.length:au):ax)=(en.length:ax))=decide (w.length+m.length=en.length)by rw[cO];omega];cases rn w m s a<;>rfl) Lib.dE (du (by omega))
 refine key.trans ?_;unfold JF;cases (cy en.length).all (Fm en w m)<;>rfl
end H6

namespace er
def op(r:aY)(i:au):aL:=decide (cw (ao r i 2)=1)
def g(r:aY)(i j:au):aL:= !(op r i&&(op r j&&cC (aA (bW (ao r i 0))) (aA (bW (ao r j 0)))))
def val(r:aY):aL:=(cy r.length).all λi=>(cy i).all (g r i)
end er

namespace nq
def p(s0:aY)(e9:ai)(i:au):aL:=Bu.v (bW (ao s0 i 0)) (bW (ao s0 i 1)) (cw (ao s0 i (1+1))) (cw (ao s0 i (1+1+1))) (cw (ao s0 i (1+1+1+1))) e9
theorem ok(s0:aY)(e9:ai)(hl:s0.length<=4294967296):c s0 e9=ae/\v s0 e9=Lib.fi (p s0 e9) s0.length 0:=by
 refine out s0 e9 ?_;unfold vo b;refine n9 (p s0 e9) s0.length (λm (i:au)=>l2 Lib.dE (λ(_:aY) (_:ai) (y7 _ _:ax)=>ab y7) (λ(_:aY) (_:ai) (_ _ _:ax)=>ab (-1)) m s0 e9 0 (s0.length:ax) (i:ax)) ab (λm i hi hp=> ?_) (λm i hi hp=> ?_) (λm=> ?_) Lib.dE (du (by omega))
 ·unfold p at hp;simp only[l2,r2,Lib.eO,Lib.dC,Lib.gg,hi,aW,aN,aw,hp]
 ·unfold p at hp;simp only[l2,r2,Lib.eO,Lib.dC,Lib.gg,hi,aW,aN,aw,hp,aC,Lib.dQ hi (by omega:s0.length<=9223372036854775807)]
 ·simp only[l2,r2,Lib.eO,ca,bK,aC]
end nq

namespace Dr
theorem ok(i0:ax)(r1 r2 r3 r4:aY)(i5:ax)(r6 r7:aY)(i8:ax)(key:ai)(hl:r6.length<=4294967296):c i0 r1 r2 r3 r4 i5 r6 r7 i8 key=ae/\v i0 r1 r2 r3 r4 i5 r6 r7 i8 key=Lib.fi (nq.p r6 key) r6.length 0:=by have h:=nq.ok r6 key hl;exact out _ _ _ _ _ _ _ _ _ _ (by unfold vo b;rw[h.1,h.2,aw])
end Dr

namespace rL
def q(r:aY)(i:au):aL:= !(er.op r i&&(Lib.fi (nq.p r (bW (ao r i 0))) r.length 0 !=(i:ax)))
theorem same(r:aY)(i:au)(hi:i<r.length):q r i=(cy i).all (er.g r i):=by
 unfold q;cases ho:er.op r i with
 |false=>symm;rw[x6,bX,aZ];intro j _;unfold er.g;rw[ho];rfl
 |true=>
  rw[bA];have hp:∀j,nq.p r (bW (ao r i 0)) j= !er.g r i j:=by intro j;unfold nq.p Bu.v er.g;rw[ho,bA,Bool.not_not,Lib.h_,Lib.h_];unfold er.op;rw[show decide (bW (ao r j 0)=bW (ao r i 0))=decide (bW (ao r i 0)=bW (ao r j 0))from by rw[cO];exact Ss];cases decide (bW (ao r i 0)=bW (ao r j 0))<;>simp
  have Zj:nq.p r (bW (ao r i 0)) i=true:=by rw[hp];unfold er.g;rw[ho,Lib.h_];simp
  rcases Lib.n_ (nq.p r (bW (ao r i 0))) r.length 0 with ⟨_,h2⟩|⟨k,h1,h2,h3,h4,h5⟩
  ·have:=h2 i (bT _) (by omega);rw[Zj]at this;cases this
  ·rw[h3];by_cases hk:k=i
   ·subst hk;rw[bne_self_eq_false,bX];symm;rw[aZ];intro j hj;have:=h5 j (bT _) (by simpa using hj);rw[hp]at this;simpa using this
   ·have ix:k<i:=by
     rcases rA k i with h|h
     ·exact h
     ·have:=h5 i (bT _) (by omega);rw[Zj]at this;cases this
    rw[show((k:ax) !=(i:ax))=ae from by simp;omega,bz];symm;rw[List.all_eq_false];refine⟨k,by simpa using ix, ?_⟩
    rw[hp]at h4;simpa using h4
theorem ok(i0:ax)(p1 p2 p3 p4:aY)(i5:ax)(p6 p7:aY)(i8:ax)(hl:p6.length<=4294967296):c i0 p1 p2 p3 p4 i5 p6 p7 i8=ae/\v i0 p1 p2 p3 p4 i5 p6 p7 i8=er.val p6:=by
 refine out _ _ _ _ _ _ _ _ _ ?_;unfold vo b;have hw:∀i,i<p6.length->bE ((i:ax)+1)=((i+1:au):ax):=λi h=>Lib.dQ h (by omega);have ho:=λkey=>Dr.ok i0 p1 p2 p3 p4 i5 p6 p7 i8 key hl
 have key:=nY (q p6) p6.length (λm (i:au)=>l2 Lib.dE (λ(Un:aL) (_:aY) (_ _ _:ax) (_ _ _ _:aY) (_:ax) (_ _:aY) (_:ax)=>ab Un) (λ(_:aL) (_:aY) (_ _ _:ax) (_ _ _ _:aY) (_:ax) (_ _:aY) (_:ax)=>ab ae) m ah p6 (p6.length:ax) (i:ax) i0 p1 p2 p3 p4 i5 p6 p7 i8) (ab ah) (ab ae)
  (λm i hi hp=>by
   unfold q er.op at hp;cases e1:decide (cw (ao p6 i (1+1))=1)with
   |false=>simp only[l2,r2,Lib.eO,hi,aW,Lib.dC,aN,aw,Lib.gg,e1,aC,hw i hi]
   |true=>rw[show decide (cw (ao p6 i 2)=1)=ae from e1,bA,dt]at hp;simp only[l2,r2,Lib.eO,hi,aW,Lib.dC,aN,aw,Lib.gg,e1,(ho _).1,(ho _).2,hp,aC,hw i hi])
  (λm i hi hp=>by unfold q er.op at hp;rw[s6,az]at hp;obtain⟨e1,e2⟩:=hp;have e1:decide (cw (ao p6 i (1+1))=1)=true:=e1;simp only[l2,r2,Lib.eO,hi,aW,Lib.dC,aN,aw,Lib.gg,e1,(ho _).1,(ho _).2,e2])
  (λm=>by simp only[l2,r2,Lib.eO,ca,bK,aC]) Lib.dE (du (by omega))
 refine key.trans ?_;rw[all_congr (λi hi=>same p6 i hi)];unfold er.val;cases (cy p6.length).all λi=>(cy i).all (er.g p6 i)<;>rfl
end rL

namespace GL
open Lib (rf el Fe OV Mv UQ EE Zy Zz)
open nV (oI apart oN)
theorem eg(n a b:ax):kR.v n a b=decide (a<=n/\n<=b):=e_.eg n a b
theorem one(fe:ak Fe):er.val (rf fe)=(cy fe.length).all (apart fe):=by
 unfold er.val;rw[fa];refine all_congr (λi hi=> ?_);unfold apart;refine all_congr (λj hj=> ?_);have jc:j<fe.length:=by omega
 unfold er.g er.op oN;rw[OV hi,OV jc,EE hi,EE jc];simp only[bW,cw,Lib.h_];rfl
theorem ok(i0:ax)(u1 u2 u3 u4:aY)(i5:ax)(fe:ak Fe)(u7:aY)(i8:ax)(hf:fe.length<=1048576):
  c i0 u1 u2 u3 u4 i5 (rf fe) u7 i8=ae/\v i0 u1 u2 u3 u4 i5 (rf fe) u7 i8=((cy fe.length).all (λi=>oI i0 (el fe i))&&(decide (fe.length<=20)&&(cy fe.length).all (apart fe))):=by
 refine out _ _ _ _ _ _ _ _ _ ?_;have h1:=rL.ok i0 u1 u2 u3 u4 i5 (rf fe) u7 i8 (by rw[fa];omega);rw[one]at h1;unfold vo b;rw[fa]
 have key:=nY (λi=>oI i0 (el fe i)) fe.length (λn (i:au)=>l2 Lib.dE (λ(Un:aL) (_:aY) (_ _ _:ax) (_ _ _ _:aY) (_:ax) (_ _:aY) (_:ax)=>ab Un) (λ(_:aL) (_:aY) (_ _ UU:ax) (Mw HO EI L3:aY) (L4:ax) (O0 Rn:aY) (ZD:ax)=>bif(decide ((↑(cq O0):ax)<=20))then(bif(rL.c UU Mw HO EI L3 L4 O0 Rn ZD)then(ab (rL.v UU Mw HO EI L3 L4 O0 Rn ZD))else(af))else(ab ah)) n ah (rf fe) (fe.length:ax) (i:ax) i0 u1 u2 u3 u4 i5 (rf fe) u7 i8) (ab ah) (ab (decide (fe.length<=20)&&(cy fe.length).all (apart fe)))
  (λn i hi hq=>by
   unfold oI at hq;simp only[az]at hq;obtain⟨q1,q2,q3,q4,q5⟩:=hq;have e1:decide (((el fe i).t.size:ax)>400)= !decide (((el fe i).t.size:ax)<=400):=by rw[<-decide_not,cO];omega
   simp only[l2,r2,fa,Lib.eO,hi,aW,Lib.dC,aN,aw,Lib.gg,OV hi,Mv hi,UQ hi,Zy hi,Zz hi,bW,cw,eg,lZ.jx,e1,q1,q2,q3,q4,q5,bz,aC,Lib.dQ hi (by omega:fe.length<=9223372036854775807)])
  (λn i hi hq=>by
   unfold oI at hq;have e1:decide (((el fe i).t.size:ax)>400)= !decide (((el fe i).t.size:ax)<=400):=by rw[<-decide_not,cO];omega
   simp only[l2,r2,fa,Lib.eO,hi,aW,Lib.dC,aN,aw,Lib.gg,OV hi,Mv hi,UQ hi,Zy hi,Zz hi,bW,cw,eg,lZ.jx,e1];revert hq;cases jW.d_ (el fe i).k<;>cases decide (((el fe i).t.size:ax)<=400)<;>cases decide (1<=(el fe i).sta/\(el fe i).sta<=3)<;>cases decide (0<=(el fe i).li/\(el fe i).li<=999999)<;>cases decide (0<=(el fe i).st/\(el fe i).st<=i0)<;>intro hq<;>first|rfl|cases hq)
  (λn=>by simp only[l2,r2,Lib.eO,ca,bK,aC,fa,h1.1,h1.2,aw];rw[show decide ((fe.length:ax)<=20)=decide (fe.length<=20)by rw[cO];omega];cases decide (fe.length<=20)<;>rfl) Lib.dE (du (by omega))
 refine key.trans ?_;cases (cy fe.length).all (λi=>oI i0 (el fe i))<;>rfl
end GL

namespace H7
open Lib (rf rc el Fe Cl Mu Ue Uf Ug Uh Ui Uj)
open jW (d_)
open sW (H8)
open GL (eg)
theorem step(N:au)(g k0 k1:aL->aY->ax->ax->ax->aY->aY->aY->aY->ax->aY->aY->ax->ar R)(i0:ax)(q1 q2 q3 q4:aY)(i5:ax)(fe:ak Fe)(cl:ak Cl)(i8:ax)(i:au)(hi:i<cl.length)(hl:cl.length<=1048576):
  r2 N g k0 k1 ah (rc cl) cl.length (i:ax) i0 q1 q2 q3 q4 i5 (rf fe) (rc cl) i8=bif H8 i0 fe.length cl i then g ah (rc cl) cl.length ((i+1:au):ax) i0 q1 q2 q3 q4 i5 (rf fe) (rc cl) i8 else k0 ah (rc cl) cl.length (i:ax) i0 q1 q2 q3 q4 i5 (rf fe) (rc cl) i8:=by
 unfold H8;have e1:decide (((el cl i).got.size:ax)>400)= !decide (((el cl i).got.size:ax)<=400):=by rw[<-decide_not,cO];omega
 have e2:decide ((el cl i).age<0)= !decide (0<=(el cl i).age):=by rw[<-decide_not,cO];omega
 by_cases hz:i=0
 ·subst hz;simp only[r2,jd,fa,Lib.eO,hi,aW,Lib.dC,aN,aw,Lib.gg,Mu hi,Ue hi,Uf hi,Ug hi,Uh hi,Ui hi,Uj hi,bW,cw,eg,lZ.jx,aK (show¬(((0:au):ax)>0)by omega),aC,e1,e2,Lib.dQ hi (by omega:cl.length<=9223372036854775807),U2,bA];cases decide (1<=(el cl 0).id/\(el cl 0).id<=9)<;>cases d_ (el cl 0).k<;>cases decide (1<=(el cl 0).sta/\(el cl 0).sta<=3)<;>cases decide (0<=(el cl 0).fe/\(el cl 0).fe<=(fe.length:ax))<;>cases decide (((el cl 0).got.size:ax)<=400)<;>cases decide (0<=(el cl 0).fr/\(el cl 0).fr<=i0)<;>cases decide (0<=(el cl 0).age)<;>rfl
 ·have nc:i-1<cl.length:=by omega
  have e3:decide ((el cl (i-1)).id≥(el cl i).id)= !decide ((el cl (i-1)).id<(el cl i).id):=by rw[<-decide_not,cO];omega
  simp only[r2,jd,fa,Lib.eO,hi,aW,Lib.dC,aN,aw,Lib.gg,Mu hi,Ue hi,Uf hi,Ug hi,Uh hi,Ui hi,Uj hi,bW,cw,eg,lZ.jx,aE (show(i:ax)>0 by omega),pF (show 0<i by omega) (by omega),nc,Mu nc,aC,e1,e2,e3,Lib.dQ hi (by omega:cl.length<=9223372036854775807),aK hz,zy];cases decide (1<=(el cl i).id/\(el cl i).id<=9)<;>cases decide ((el cl (i-1)).id<(el cl i).id)<;>cases d_ (el cl i).k<;>cases decide (1<=(el cl i).sta/\(el cl i).sta<=3)<;>cases decide (0<=(el cl i).fe/\(el cl i).fe<=(fe.length:ax))<;>cases decide (((el cl i).got.size:ax)<=400)<;>cases decide (0<=(el cl i).fr/\(el cl i).fr<=i0)<;>cases decide (0<=(el cl i).age)<;>rfl
theorem ok(i0:ax)(q1 q2 q3 q4:aY)(i5:ax)(fe:ak Fe)(cl:ak Cl)(i8:ax)(hl:cl.length<=1048576):
  c i0 q1 q2 q3 q4 i5 (rf fe) (rc cl) i8=ae/\v i0 q1 q2 q3 q4 i5 (rf fe) (rc cl) i8=((cy cl.length).all (H8 i0 fe.length cl)&&decide (cl.length<=6)):=by
 refine out _ _ _ _ _ _ _ _ _ ?_;unfold vo b;rw[jd]
 have key:=nY (H8 i0 fe.length cl) cl.length (λn (i:au)=>l2 Lib.dE (λ(Un:aL) (_:aY) (_ _ _:ax) (_ _ _ _:aY) (_:ax) (_ _:aY) (_:ax)=>ab Un) (λ(_:aL) (_:aY) (_ _ _:ax) (_ _ _ _:aY) (_:ax) (_ Rn:aY) (_:ax)=>ab (decide ((↑(cq Rn):ax)<=6))) n ah (rc cl) (cl.length:ax) (i:ax) i0 q1 q2 q3 q4 i5 (rf fe) (rc cl) i8) (ab ah) (ab (decide (cl.length<=6)))
  (λn i hi hq=>by simp only[l2];rw[step _ _ _ _ _ _ _ _ _ _ _ _ _ i hi hl,hq];rfl)
  (λn i hi hq=>by simp only[l2];rw[step _ _ _ _ _ _ _ _ _ _ _ _ _ i hi hl,hq];rfl)
  (λn=>by simp only[l2,r2,Lib.eO,ca,bK,aC,jd];rw[show decide ((cl.length:ax)<=6)=decide (cl.length<=6)by rw[cO];omega]) Lib.dE (du (by omega))
 refine key.trans ?_;cases (cy cl.length).all (H8 i0 fe.length cl)<;>rfl
end H7

namespace CY
open Lib (rr rs re rf rc el En Fe Cl Px)
open mH (JF)
open nV (oI apart)
open sW (H8 iF)
theorem ok(p:Px)(hp:p.Fit 1048576):c p.now (re p.en) (rs p.w) (rs p.m) (rr p.s) p.a (rf p.fe) (rc p.cl) p.hits=ae/\v p.now (re p.en) (rs p.w) (rs p.m) (rr p.s) p.a (rf p.fe) (rc p.cl) p.hits=iF p:=by refine out _ _ _ _ _ _ _ _ _ ?_;have h1:=H6.ok p.now p.en p.w p.m p.s p.a (rf p.fe) (rc p.cl) p.hits hp.en hp.w hp.m ⟨hp.s.1,hp.s.2.1⟩;have h2:=GL.ok p.now (re p.en) (rs p.w) (rs p.m) (rr p.s) p.a p.fe (rc p.cl) p.hits hp.fe;have h3:=H7.ok p.now (re p.en) (rs p.w) (rs p.m) (rr p.s) p.a p.fe p.cl p.hits hp.cl;unfold vo b iF;have e1:∀n a b,kR.v n a b=decide (a<=n/\n<=b):=λn a b=>e_.eg n a b;have e2:Jl.v p.hits=decide (0<=p.hits/\p.hits<=1000000000):=e1 p.hits 0 1000000000;rw[e1,e2,h1.1,h1.2,h2.1,h2.2,h3.1,h3.2,Fb];cases decide (1<=p.now/\p.now<=1000000000)<;>cases JF p.en p.w p.m p.s p.a<;>cases decide (p.fe.length<=20)<;>cases decide (p.cl.length<=6)<;>cases decide (0<=p.hits/\p.hits<=1000000000)<;>cases (cy p.fe.length).all (λi=>oI p.now (el p.fe i))<;>cases (cy p.fe.length).all (apart p.fe)<;>cases (cy p.cl.length).all (H8 p.now p.fe.length p.cl)<;>rfl
end CY

namespace np
def p(s:aY)(k:ax)(i:au):aL:=decide (cw (ao s i 0)=k)
theorem ok(d:aY)(n:ax)(hl:d.length<=4294967296):c d n=ae/\v d n=Lib.fi (p d n) d.length 0:=by
 refine out d n ?_;unfold vo b;refine n9 (p d n) d.length (λm (i:au)=>l2 Lib.dE (λ(_:aY) (_:ax) (y7 _ _:ax)=>ab y7) (λ(_:aY) (_:ax) (_ _ _:ax)=>ab (-1)) m d n 0 (d.length:ax) (i:ax)) ab (λm i hi hp=> ?_) (λm i hi hp=> ?_) (λm=> ?_) Lib.dE (du (by omega))
 ·unfold p at hp;simp only[l2,r2,Lib.eO,Lib.dC,Lib.gg,hi,aW,aN,aw,Dm.v,hp]
 ·unfold p at hp;simp only[l2,r2,Lib.eO,Lib.dC,Lib.gg,hi,aW,aN,aw,Dm.v,hp,aC,Lib.dQ hi (by omega:d.length<=9223372036854775807)]
 ·simp only[l2,r2,Lib.eO,ca,bK,aC]
end np

namespace Mh
open Lib (rc el Cl)
open eR (kV)
theorem ok(i0:ax)(r1 r2 r3 r4:aY)(i5:ax)(r6:aY)(cl:ak Cl)(i8 id:ax)(hl:cl.length<=1048576):c i0 r1 r2 r3 r4 i5 r6 (rc cl) i8 id=ae/\decide (v i0 r1 r2 r3 r4 i5 r6 (rc cl) i8 id≥0)=kV cl id:=by
 have h:=np.ok (rc cl) id (by rw[jd];omega);have o:=out i0 r1 r2 r3 r4 i5 r6 (rc cl) i8 id (by unfold vo b;rw[h.1,h.2,aw]);refine⟨o.1, ?_⟩
 rw[o.2,jd];exact eR.DH cl (λx=>decide (x.id=id)) _ λi hi=>by unfold np.p;rw[Mu hi,fg hi];rfl
end Mh

namespace rR
def p(s:aY)(k:ai)(i:au):aL:=cC (aA (bW (ao s i 0))) (aA k)
theorem ok(d:aY)(n:ai)(hl:d.length<=4294967296):c d n=ae/\v d n=Lib.fi (p d n) d.length 0:=by
 refine out d n ?_;unfold vo b;refine n9 (p d n) d.length (λm (i:au)=>l2 Lib.dE (λ(_:aY) (_:ai) (y7 _ _:ax)=>ab y7) (λ(_:aY) (_:ai) (_ _ _:ax)=>ab (-1)) m d n 0 (d.length:ax) (i:ax)) ab (λm i hi hp=> ?_) (λm i hi hp=> ?_) (λm=> ?_) Lib.dE (du (by omega))
 ·unfold p at hp;simp only[l2,r2,Lib.eO,Lib.dC,Lib.gg,hi,aW,aN,aw,R3.v,hp]
 ·unfold p at hp;simp only[l2,r2,Lib.eO,Lib.dC,Lib.gg,hi,aW,aN,aw,R3.v,hp,aC,Lib.dQ hi (by omega:d.length<=9223372036854775807)]
 ·simp only[l2,r2,Lib.eO,ca,bK,aC]
end rR

namespace nr
theorem ok(i:au)(key:ai)(hi:i<3)(hk:key.size<=140737488355328):c (i:ax) key=ae/\v (i:ax) key=(fu.pl i key:ax):=by
 refine out _ _ ?_;unfold vo b;have e:(key++bytesOf (aF (aM [Ck.i aU] 1) 0 [CV.i aU (bj aU (bE (↑(db (gA (bG 64 (i:ax)) (bG 64 255))):ax)))]))=fu.keyed i key:=by
  unfold fu.keyed;match i,hi with
  |0,_=>rfl
  |1,_=>rfl
  |2,_=>rfl
 have hs:=fu.xI i key;have h:=qu.ok (fu.keyed i key) (by omega);have e2:fW key+fW (bytesOf (aF (aM [Ck.i aU] 1) 0 [CV.i aU (bj aU (bE (↑(db (gA (bG 64 (i:ax)) (bG 64 255))):ax)))]))=key.size+1:=by rw[CL,AY]
 rw[e2,e,aE (by omega),aw,h.1,h.2,aw];have hp:=fu.pl_int i key;have hl:=fu.zn i key;have hr:=fu.Es i key;unfold fu.sm at hp hr;rw[cY (by omega) (by omega),hp]
end nr

namespace lA
open Lib (rr ri)
open dm (fR bq yd half wv HJ HK mP sr pc)
theorem T1(K:ai->ax->ax->ax->ax->aY->ar R)(s:ak (ak ax))(key:ai)(y a:ax)(hs:s.length=3)(hq:∀q∈s,q.length=16/\∀n∈q,0<=n/\n<=15)(hk:key.size<=140737488355328):
  l5 Lib.dE K Lib.dE key 3 0 y a (rr s)=K key 3 3 y a (rr (yd s key)):=by
 refine(oD fR s (λi q=>bq (fu.pl i key) q) (λm (i:au) x=>l5 Lib.dE K m key 3 (i:ax) y a x) (λx=>K key 3 3 y a x) (λm i L h h2 hL uW=> ?_) (λm L hL=> ?_) Lib.dE (du (by omega)))
 ·have hp:=nr.ok i key (by omega) hk;have oW:=fu.zn i key;obtain⟨FE,hn⟩:=hq _ (bk h);have e0:ao (L.map fR) i 0=CV.l 3 (ri s[i]):=by rw[wv L i h2,uW]
  have hb:fu.pl i key<s[i].length:=by omega
  have hx:=hn _ (bk hb);have e3:decide ((i:ax)<3)=true:=aE (by omega);simp only[l5,r5,bC,Lib.eO,h2,e3,aW,aw,hp.1,hp.2,Lib.dC,aN,Lib.gg,e0,ia,f_,FE,oW,Ms hb,cw];unfold bq gj;rw[mP hb,aC,cY (x:=s[i][fu.pl i key]+1) (by omega) (by omega)];by_cases hd:s[i][fu.pl i key]<15
  ·rw[bF (by omega),aE hd,aw,HJ _ _ _ hb,HK _ _ _ h2,Lib.dQ h2 (by omega)]
  ·have e15:s[i][fu.pl i key]=15:=by omega
   rw[br (by omega),aK hd,aC,e15,HJ _ _ _ hb,HK _ _ _ h2,Lib.dQ h2 (by omega)]
 ·have e3:decide ((s.length:ax)<3)=false:=aK (by omega);simp only[l5,r5,e3,aC,hs];rfl
theorem XQ(K:au->ax->ax->ax->ax->ax->ax->aY->ar R)(L:ak (ak ax))(i:au)(h:i<L.length)(u w y a:ax)(hl:L.length<=1048576)(hq:L[i].length=16)(hn:∀n∈L[i],0<=n/\n<=15):
  Tv Lib.dE K Lib.dE i u w 16 0 y a (L.map fR)=K i u w 16 16 y a ((L.set i (L[i].map λn=>cj n 2)).map fR):=by
 have P7:L[i].mapIdx (λ_ n=>cj n 2)=L[i].map λn=>cj n 2:=by apply ja<;>simp
 have key:=pZ (L[i].length) (λm (k:au) x=>Tv Lib.dE K m i u w 16 (k:ax) y a x) (λk=>(L.set i (lN L[i] (λ_ n=>cj n 2) k)).map fR) (K i u w 16 16 y a ((L.set i (L[i].map λn=>cj n 2)).map fR)) (λm k hk=> ?_) (λm=> ?_) Lib.dE 0 (bT _) (du (by omega))
 ·rw[A5,eD]at key;exact key
 ·have hu:=pM L[i] (λ_ n=>cj n 2) k (by omega);generalize hU:lN L[i] (λ_ n=>cj n 2) k=U at hu;have SY:k<U.length:=by omega
  have eI:U[k]=L[i][k]:=by subst hU;exact vK _ _ _ hk _
  have Te:U.set k (cj L[i][k] 2)=lN L[i] (λ_ n=>cj n 2) (k+1):=by subst hU;exact sO L[i] (λ_ n=>cj n 2) k hk
  have h2:i<(L.set i U).length:=by simpa using h
  have e0:ao ((L.set i U).map fR) i 0=CV.l 3 (ri U):=by rw[wv _ _ h2,iv]
  have hx:=hn _ (bk hk);have ht:0<=cj L[i][k] 2:=MH hx.1 (by omega);have C0:cj L[i][k] 2<=15:=uo (Mb _ hx.1) hx.2;have e3:decide ((k:ax)<16)=true:=aE (by omega);simp only[Tv,Zu,bC,cF,Lib.eO,h,SY,e3,aW,aw,Lib.dC,aN,Lib.gg,e0,ia,f_,Ms SY,cw,eI];rw[cY (x:=cj L[i][k] 2) (by omega) (by omega),HJ _ _ _ SY,HK _ _ _ h2,Te,lW,Lib.dQ hk (by omega)]
 ·have e3:decide ((L[i].length:ax)<16)=false:=aK (by omega);simp only[Tv,Zu,e3,aC];rw[pL,P7,hq];rfl
theorem XO(K:ax->ax->ax->ax->aY->ar R)(s:ak (ak ax))(y a:ax)(hs:s.length=3)(hq:∀q∈s,q.length=16/\∀n∈q,0<=n/\n<=15):
  Ts Lib.dE K Lib.dE 3 0 y a (rr s)=K 3 3 y a (rr (half s)):=by
 have P7:s.mapIdx (λ_ q=>q.map λn=>cj n 2)=half s:=by unfold half;apply ja<;>simp
 rw[<-P7];refine(oD fR s (λ_ q=>q.map λn=>cj n 2) (λm (i:au) x=>Ts Lib.dE K m 3 (i:ax) y a x) (λx=>K 3 3 y a x) (λm i L h h2 hL uW=> ?_) (λm L hL=> ?_) Lib.dE (du (by omega)))
 ·obtain⟨FE,hn⟩:=hq _ (bk h);have e3:decide ((i:ax)<3)=true:=aE (by omega);have e0:ao (L.map fR) i 0=CV.l 3 (ri s[i]):=by rw[wv L i h2,uW]
  simp only[Ts,Zt,bC,Lib.eO,h2,e3,aW,aw,Lib.dC,aN,Lib.gg,e0,ia,f_,FE];rw[show((16:au):ax)=16 from rfl,XQ _ L i h2 3 i y a (by omega) (by rw[uW];exact FE) (by rw[uW];exact hn),Lib.dQ h2 (by omega),uW]
 ·have e3:decide ((s.length:ax)<3)=false:=aK (by omega);simp only[Ts,Zt,e3,aC,hs];rfl
theorem ok(s:ak (ak ax))(a:ax)(key:ai)(hf:iq.pj s)(hk:key.size<=140737488355328):c (rr s) a key=ae/\v (rr s) a key=(rr (dm.val s a key).1,(dm.val s a key).2):=by
 refine out _ _ _ ?_;have h1:=iq.ok s a hf;have h2:=lJ.ok s a hf;unfold vo b dm.val;rw[h1.1,h1.2,h2.1,h2.2,aw,aw];cases bI:e_.mq s a with
 |false=>rfl
 |true=>
  obtain⟨hs,ha,hq⟩:=sr bI;obtain⟨b1,b2⟩:=pc (key:=key) hs hq;rw[bz,aC,aw,fJ,hs,show((3:au):ax)=3 from rfl,T1 _ s key _ _ hs hq hk,cY (x:=a+1) (by omega) (by omega)];by_cases hd:a+1=64
  ·rw[aK (show¬a+1<64 by omega),aE hd,aw,aC,fJ,b1,show((3:au):ax)=3 from rfl,XO _ _ _ _ b1 b2]
  ·rw[aE (show a+1<64 by omega),aK hd];rfl
end lA

namespace oU
def p(s:aY)(k:ai)(i:au):aL:=cC (aA (bW (ao s i 0))) (aA k)
theorem ok(d:aY)(n:ai)(hl:d.length<=4294967296):c d n=ae/\v d n=Lib.fi (p d n) d.length 0:=by
 refine out d n ?_;unfold vo b;refine n9 (p d n) d.length (λm (i:au)=>l2 Lib.dE (λ(_:aY) (_:ai) (y7 _ _:ax)=>ab y7) (λ(_:aY) (_:ai) (_ _ _:ax)=>ab (-1)) m d n 0 (d.length:ax) (i:ax)) ab (λm i hi hp=> ?_) (λm i hi hp=> ?_) (λm=> ?_) Lib.dE (du (by omega))
 ·unfold p at hp;simp only[l2,r2,Lib.eO,Lib.dC,Lib.gg,hi,aW,aN,aw,uT.v,hp]
 ·unfold p at hp;simp only[l2,r2,Lib.eO,Lib.dC,Lib.gg,hi,aW,aN,aw,uT.v,hp,aC,Lib.dQ hi (by omega:d.length<=9223372036854775807)]
 ·simp only[l2,r2,Lib.eO,ca,bK,aC]
end oU

namespace rM
def cn(y:ak CV):aL:=match y with|[.s _]=>ae|_=>ah
def cr(y:ak CV):ak CV:=[CV.s (bW (y.getD 0 (.b ah)))]
theorem uv{y:ak CV}(h:cn y=ae):cr y=y:=by
 unfold cn at h;split at h
 ·rfl
 ·cases h
theorem mj{y:ak CV}(h:cn y=ae):y.length=1:=by rw[<-uv h];rfl
def keep(d:ai)(y:ak CV):aL:= !List.beq (aA (bW (y.getD 0 (.b ah)))) (aA d)
theorem g6(d:ai){s:aY}{i:au}(h:i<s.length):(s.take (i+1)).filter (keep d)=(s.take i).filter (keep d)++(bif keep d s[i]then [s[i]]else []):=by rw[dB h,mD];cases hk:keep d s[i]<;>simp[hk]
theorem run(N:au)(s0:aY)(d:ai)(hc:s0.all cn=ae)(hn:s0.length<=9223372036854775807)(K:ai->ax->ax->aY->ar R)(kr:aY->ar R)
  (hK:∀(j:au) x,x.length=s0.length->j<=s0.length->K d j s0.length x=kr (x.take j)) (m j i:au) (x:aY)
  (hi:j<i/\i<=s0.length/\x.length=s0.length/\(∀y∈x,y.length=1)/\x.take j=(s0.take i).filter (keep d)/\x.drop i=s0.drop i) (hm:s0.length-i<m):
  l5 N K m d j i x=kr (s0.filter (keep d)):=by
 have JX:∀y∈s0,cn y=true:=aZ.1 hc
 refine Lib.j5 (λm (s:au×au×aY)=>l5 N K m d s.1 s.2.1 s.2.2) (λs=>s0.length-s.2.1)
  (λs=>s.1<s.2.1/\s.2.1<=s0.length/\s.2.2.length=s0.length/\(∀y∈s.2.2,y.length=1)/\s.2.2.take s.1=(s0.take s.2.1).filter (keep d)/\s.2.2.drop s.2.1=s0.drop s.2.1)
  (λ_=>kr (s0.filter (keep d))) (λm s hs=> ?_) m (j,i,x) hi hm
 obtain⟨j,i,x⟩:=s;obtain⟨h1,h2,h3,h4,h5,h6⟩:=hs;simp only at h1 h2 h3 h4 h5 h6⊢;by_cases fO:i<s0.length
 ·right;have p9:i<x.length:=by omega
  have FJ:j<x.length:=by omega
  have hx:x[i]=s0[i]:=by have e1:=Lib.eF p9;have e2:=Lib.eF fO;rw[h6,e2]at e1;exact(jP e1).1.symm
  have hd:x.drop (i+1)=s0.drop (i+1):=by have e1:=Lib.eF p9;have e2:=Lib.eF fO;rw[h6,e2]at e1;exact(jP e1).2.symm
  have JY:=JX _ (bk fO);have hf:=g6 d fO;cases hk:keep d s0[i]with
  |true=>
   refine⟨(j+1,i+1,x.set j s0[i]), ?_,by simp only;omega,trivial, ?_⟩
   ·rw[hk,aw,<-h5]at hf;refine⟨by simp only;omega,by simp only;omega,by simpa using h3, ?_, ?_, ?_⟩
    ·intro y hy;rcases gG hy with h|h
     ·exact h4 y h
     ·rw[h];exact mj JY
    ·rw[hf];rw[dB (by simpa using FJ)];simp[qP]
    ·simp only;rw[qM (by omega)];exact hd
   ·have e:uT.v (bW (ao x i 0)) d=false:=by
     have:(!uT.v (bW (ao x i 0)) d)=true:=by rw[Lib.dc p9,hx];exact hk
     simpa using this
    have es:dP x j 0 [CV.s (bW (ao x i 0))]=x.set j s0[i]:=by
     have hl:=h4 _ (bk FJ);rw[Lib.AX FJ,Lib.dc p9,hx];have:gb x[j] 0 (cr s0[i])=s0[i]:=by rw[uv JY];unfold gb;have:=mj JY;simp[hl,this,fT]
     unfold cr at this;rw[this]
    have b1:(j:ax)<(x.length:ax):=by omega
    simp only[l5,r5,Lib.eO,Lib.dC,Lib.gg,p9,FJ,aW,bA,aw,e,bX,es,Lib.dQ fO hn,Lib.dQ (show j<s0.length by omega) hn]
  |false=>
   refine⟨(j,i+1,x), ?_,by simp only;omega,trivial, ?_⟩
   ·rw[hk,aC,da,<-h5]at hf;exact⟨by simp only;omega,by simp only;omega,h3,h4,hf.symm,hd⟩
   ·have e:uT.v (bW (ao x i 0)) d=true:=by
     have:(!uT.v (bW (ao x i 0)) d)=false:=by rw[Lib.dc p9,hx];exact hk
     simpa using this
    simp only[l5,r5,Lib.eO,Lib.dC,Lib.gg,p9,aW,bA,aw,e,bz,aC,Lib.dQ fO hn]
 ·left;have:i=s0.length:=by omega
  subst this;rw[la]at h5;have e:=hK j x h3 (by omega);rw[h5]at e;have p9:¬s0.length<x.length:=by omega
  simp only[l5,r5,Lib.eO,p9,bK,aC,e]
theorem ok(s0:aY)(iA:ai)(hc:s0.all cn=ae)(hn:s0.length<=4294967296):c s0 iA=ae/\v s0 iA=s0.filter (keep iA):=by
 refine out s0 iA ?_;have hv:=oU.ok s0 iA hn;unfold vo b;rw[hv.1,hv.2,aw];rcases Lib.n_ (oU.p s0 iA) s0.length 0 with ⟨h,lK⟩|⟨k,_,wP,hk,J4,JW⟩
 ·rw[h];have:s0.filter (keep iA)=s0:=by rw[ew];intro y hy;obtain⟨i,hi,rfl⟩:=cu hy;have:=lK i (bT _) (by omega);unfold oU.p at this;rw[Lib.dc hi]at this;unfold keep;rw[this];rfl
  rw[this];rfl
 ·rw[hk];have DT:k<s0.length:=by omega
  have fP:decide ((k:ax)=GA 1)=false:=aK (by show¬(k:ax)= -1;omega);rw[fP,aC,Lib.dQ DT (by omega)];have JX:∀y∈s0,cn y=true:=aZ.1 hc;refine run _ s0 iA hc (by omega) _ ab (λj x hx hj=> ?_) _ k (k+1) s0 ⟨by omega,by omega,rfl,λy hy=>mj (JX y hy), ?_,rfl⟩ (du (by omega))
  ·have b1:iV (j:ax) (s0.length:ax) (s0.length:ax)=true:=by simp[iV];omega
   have e:gE j x++aM [Ck.s] (s0.length-j)++mL s0.length x=gE j x++aM [Ck.s] (s0.length-j):=by rw[fT (by omega),da]
   have hl:(gE j x).length=j:=by simp;omega
   simp only[hx,Lib.gg,b1,aw,e];rw[Lib.Ju (by simp[iV];omega)];unfold dM;rw[show aX 0=0 from rfl,iK,tp,lG (by omega),km (by omega)]
  ·rw[g6 iA DT];have e1:keep iA s0[k]=false:=by unfold oU.p at J4;rw[Lib.dc DT]at J4;unfold keep;rw[J4];rfl
   have e2:(s0.take k).filter (keep iA)=s0.take k:=by
    rw[ew];intro y hy;obtain⟨i,hi,rfl⟩:=cu hy;have P5:i<k:=by simp at hi;omega
    have:=JW i (bT _) P5;unfold oU.p at this;rw[Lib.dc (by omega)]at this;rw[j_];unfold keep;rw[this];rfl
   rw[e1,e2,aC,da]
end rM

namespace ij
theorem VH(l:ak ai):(Lib.rs l).all rM.cn=true:=by rw[aZ];intro y hy;unfold Lib.rs at hy;obtain⟨z,_,rfl⟩:=b7.1 hy;rfl
theorem abf(l:ak ai)(k:ai):(Lib.rs l).filter (rM.keep k)=Lib.rs (fC.without l k):=by unfold Lib.rs fC.without;rw[lF];congr 1;apply gC;intro x _;show(!List.beq (aA x) (aA k))=_;rw[Lib.h_]
theorem ok(l:ak ai)(k:ai)(hl:l.length<=1048576):c (Lib.rs l) k=ae/\v (Lib.rs l) k=Lib.rs (fC.without l k):=by have h1:=o8.ok (Lib.rs l) (by rw[iu];omega);have h2:=rM.ok (Lib.rs l) k (VH l) (by rw[iu];omega);rw[abf]at h2;exact out _ _ (by unfold vo b;rw[h1.1,h1.2,h2.1,h2.2,aw,aw])
end ij

namespace qR
open Lib (rr ri)
open lY (gs FD)
theorem ok(s:ak (ak ax))(a:ax)(key:ai)(hf:iq.pj s)(hk:key.size<=140737488355328):c (rr s) a key=ae/\v (rr s) a key=lY.val s a key:=by
 refine out _ _ _ ?_;have h2:=lJ.ok s a hf;unfold vo b lY.val;rw[h2.1,h2.2,aw];cases bI:e_.mq s a with
 |false=>rfl
 |true=>
  obtain⟨hs,ha,hq⟩:=dm.sr bI;rw[bz,aC,aw,fJ];have:=Lib.j5 (λm (t:au×ax)=>l5 Lib.dE (λ(_:ai) (y6:ax) (_:aY) (_ _:ax)=>ab y6) m key t.2 (rr s) s.length (t.1:ax)) (λt=>s.length-t.1) (λt=>t.1<=s.length) (λt=>ab (gs key t.1 (s.drop t.1) t.2)) (λm t ht=>by
   obtain⟨i,x⟩:=t;dsimp only at ht⊢;by_cases h:i<s.length
   ·right;have hp:=nr.ok i key (by omega) hk;have oW:=fu.zn i key;obtain⟨FE,hn⟩:=hq _ (bk h);have hb:fu.pl i key<s[i].length:=by omega
    refine⟨(i+1,bif decide (s[i].getD (fu.pl i key) 0<x)then s[i].getD (fu.pl i key) 0 else x),by dsimp only;omega,by dsimp only;omega,by rw[<-FD key s i h x], ?_⟩
    simp only[l5,r5,fJ,Lib.eO,h,aW,aw,hp.1,hp.2,Lib.dC,aN,Lib.gg,Ga h,ia,f_,FE,oW,Ms hb,cw,Lib.dQ h (by omega:s.length<=9223372036854775807)];rw[dm.mP hb];unfold gj;rw[aC];by_cases hd:s[i][fu.pl i key]<x
    ·rw[br hd,aE hd,aw]
    ·rw[bF hd,aK hd,aC]
   ·left;have:i=s.length:=by omega
    subst this;simp only[l5,r5,fJ,Lib.eO,ca,bK,aC,MP,gs]) Lib.dE (0,15) (bT _) (du (by dsimp only;omega))
  simpa using this
end qR

namespace GI
open Lib (rr rs)
open fC (has without eU jb ry g8 mv)
open jW (d_ Kq ll rn)
open iy (Gc zer P3 Re oc rh nB Li wK AO)
theorem ok(w m:ak ai)(s:ak (ak ax))(a:ax)(key:ai)(hw:w.length<=1048576)(hm:m.length<=1048576)(hf:iq.pj s)(hk:key.size<=140737488355328):
  c (rs w) (rs m) (rr s) a key=ae/\v (rs w) (rs m) (rr s) a key=(rs (iy.val w m s a key).1,rs (iy.val w m s a key).2.1,rr (iy.val w m s a key).2.2.1,(iy.val w m s a key).2.2.2.1,(iy.val w m s a key).2.2.2.2):=by
 refine out _ _ _ _ _ ?_;have h1:=gD.ok w m s a hw hm hf;have h2:=lZ.ok w m s a hw hm hf;have h3:=lA.ok s a key hf hk;have h5:=oS.ok m key (by omega);have h6:=ij.ok w key hw;have h7:=ij.ok m key hm;have sf:=Li (a:=a) (key:=key) hf;unfold vo b;simp only[Lib.lt,h1.1,h1.2,h2.1,h2.2,aw];unfold iy.val;cases hp:rn w m s a with
 |false=>rfl
 |true=>
  obtain⟨p1,p2,p3,p4⟩:=AO hp;rw[lZ.jx,bA];cases wP:d_ key with
  |false=>rfl
  |true=>
   have yj:=nB wP;have l6:=g8 (l:=w) (k:=key);have l7:=g8 (l:=m) (k:=key);simp only[bz,aC,aw,h3.1,h3.2,h5.1,h5.2,h6.1,h6.2,h7.1,h7.2,Gc,zer,iu,CL,bM];rw[Lib.dH (n:=(without w key).length+1) (by omega) (by omega),Lib.dH (n:=(without m key).length+1) (by omega) (by omega)];simp only[aw];cases hA:has w key with
   |true=>
    have hB:has m key=false:=by rw[jb];intro NC;have:=(rh.1 p1).2;rw[dr]at this;exact this.2.2 key (eU.1 hA) key NC rfl
    have ix:=mv hA;rw[hB,aC,aw,aE (show((without w key++[key]).length:ax)<=2 by rw[b8,bM];omega)];rfl
   |false=>
    rw[ry hA];cases hB:has m key with
    |true=>rfl
    |false=>
     simp only[aC];rw[show decide (((w++[key]).length:ax)<=2)=decide ((w++[key]).length<=2)by rw[cO];omega];cases hC:decide ((w++[key]).length<=2)with
     |true=>rfl
     |false=>
      have hlw:(w++[key]).length=3:=by have:=nK hC;rw[b8,bM]at this⊢;omega
      have hfm:(w++[key]).getD 0 ⟨#[]⟩∈w++[key]:=wK (by omega);have Mo:((w++[key]).getD 0 ⟨#[]⟩).size<=30:=by
       rcases aQ.1 hfm with h|h
       ·exact(nB (oc p1 (bw _ h))).2
       ·rw[aP]at h;rw[h];exact yj.2
      have g1:=qR.ok (dm.val s a key).1 (dm.val s a key).2 ((w++[key]).getD 0 ⟨#[]⟩) sf (by omega);have i1:iV 1 ((w++[key]).length:ax) ((w++[key]).length:ax)=true:=by rw[hlw];rfl
      simp only[aC,aE (show(0:ax)<((w++[key]).length:ax)by omega),i1,aw,P3,Re,zer,Gc,iu,Lib.dH (n:=m.length+1) (b:=16) (by omega) (by omega),g1.1,g1.2];rw[show decide ((m.length:ax)<4)=decide (m.length<4)by rw[cO];omega];cases hD:decide (m.length<4)with
      |true=>rfl
      |false=>
       have hm4:m.length=4:=by have:=nK hD;omega
       have UD:m.getD 0 ⟨#[]⟩∈m:=wK (by omega);have hms:=(nB (oc p1 (bm _ UD))).2;have g2:=qR.ok (dm.val s a key).1 (dm.val s a key).2 (m.getD 0 ⟨#[]⟩) sf (by omega);have i2:iV 1 (m.length:ax) (m.length:ax)=true:=by simp[iV];omega
       have C0:m.tail.length=3:=by rw[List.length_tail];omega
       simp only[aC,aE (show(0:ax)<(m.length:ax)by omega),i2,aw,Gc,Lib.dH (n:=m.tail.length+1) (b:=16) (by omega) (by omega),g2.1,g2.2];cases decide (lY.val (dm.val s a key).1 (dm.val s a key).2 ((w++[key]).getD 0 ⟨#[]⟩)>lY.val (dm.val s a key).1 (dm.val s a key).2 (m.getD 0 ⟨#[]⟩))<;>rfl
end GI

namespace CZ
open Lib (rr rs)
open fC (without)
theorem ok(w m:ak ai)(s:ak (ak ax))(a:ax)(key:ai)(hw:w.length<=1048576)(hm:m.length<=1048576)(hf:iq.pj s):c (rs w) (rs m) (rr s) a key=ae/\v (rs w) (rs m) (rr s) a key=(rs (without w key),rs (without m key),rr s,a):=by have h1:=gD.ok w m s a hw hm hf;have h2:=ij.ok w key hw;have h3:=ij.ok m key hm;exact out _ _ _ _ _ (by unfold vo b;rw[h1.1,h1.2,h2.1,h2.2,h3.1,h3.2];rfl)
end CZ

namespace mO
open Lib (rc Cl)
open eR (kV jn UN Ko)
theorem ok(i0:ax)(q1 q2 q3 q4:aY)(i5:ax)(q6:aY)(cl:ak Cl)(i8:ax)(x:Cl)(cs:cl.Pairwise λa b=>a.id<b.id)(hn:kV cl x.id=ah)(hl:cl.length<=1048576):
  c i0 q1 q2 q3 q4 i5 q6 (rc cl) i8 x.id x.k x.fe x.fr x.sta x.got x.age=ae/\v i0 q1 q2 q3 q4 i5 q6 (rc cl) i8 x.id x.k x.fe x.fr x.sta x.got x.age=(i0,q1,q2,q3,q4,i5,q6,rc (jn cl x),i8):=by
 refine out _ _ _ _ _ _ _ _ _ _ _ _ _ _ _ _ ?_;unfold vo b;have hrl:=jd cl
 have:=sM (UN x.id) (rc cl) (λm (i:au)=>l2 Lib.dE (λUo YO LZ EG EH L0 Rm US UT ZB ZC y28 y29 UU Mw HO EI=>bif(decide (0<=Uo)&&decide (Uo<=(↑(cq EI):ax))&&cX (cq EI+cq (aF (aM [Ck.i aj,Ck.s,Ck.i aj,Ck.i aj,Ck.i aj,Ck.s,Ck.i aj] 1) 0 [CV.i aj EH,CV.s L0,CV.i aj Rm,CV.i aj US,CV.i aj UT,CV.s ZB,CV.i aj ZC])) 72)then(ab (YO,y28,y29,UU,Mw,LZ,HO,(Pu.pr EI (aX Uo) (aF (aM [Ck.i aj,Ck.s,Ck.i aj,Ck.i aj,Ck.i aj,Ck.s,Ck.i aj] 1) 0 [CV.i aj EH,CV.s L0,CV.i aj Rm,CV.i aj US,CV.i aj UT,CV.s ZB,CV.i aj ZC])),EG))else(af)) m (i:ax) i0 i5 i8 x.id x.k x.fe x.fr x.sta x.got x.age q1 q2 q3 q4 q6 (rc cl))
  (λa=>bif decide ((a:ax)<=((rc cl).length:ax))then ab (i0,q1,q2,q3,q4,i5,q6,Pu.pr (rc cl) a [Cl.row x],i8)else af)
  (λm i h hp=>by
   have se:decide (cw (ao (rc cl) i 0)<x.id)=true:=by rw[Lib.dc h];exact hp
   simp only[l2,r2,Lib.eO,h,aW,Lib.dC,aN,aw,Lib.gg,se,Lib.dQ h (by omega:(rc cl).length<=9223372036854775807)])
  (λm i h hp=>by
   have se:decide (cw (ao (rc cl) i 0)<x.id)=false:=by rw[Lib.dc h];exact hp
   simp only[l2,r2,Lib.eO,h,aW,Lib.dC,aN,bA,j9,aw,aC,Lib.gg,se,Lib.jk,bM,Lib.dH (n:=(rc cl).length+1) (b:=72) (by omega) (by omega)];rfl)
  (λm=>by simp only[l2,r2,Lib.eO,ca,bK,aW,Lib.dC,aN,bA,j9,aw,aC,Lib.gg,Lib.jk,bM,Lib.dH (n:=(rc cl).length+1) (b:=72) (by omega) (by omega)];rfl) Lib.dE (du (by omega))
 refine this.trans ?_;have hle:=CR (UN x.id) (rc cl);rw[aE (by omega),aw];unfold Pu.pr;rw[Ko cs hn]
end mO

namespace Dp
open Lib (rr rs re rf rc Px Cl Fe En el)
open fC (without)
open jW (d_)
open sW (iF)
open eR (NA rj put H9 QE Mr kV jn oh wJ vu)
open fK (fc)
open qG (fM ml)
def res(q:Px×ax):ax×aY×aY×aY×aY×ax×aY×aY×ax×ax:=(q.1.now,re q.1.en,rs q.1.w,rs q.1.m,rr q.1.s,q.1.a,rf q.1.fe,rc q.1.cl,q.1.hits,q.2)
theorem QK(fe:ak Fe)(key:ai):rf fe++aF (aM [Ck.s,Ck.s,Ck.i aj,Ck.i aj,Ck.i aj] 1) 0 [CV.s key,CV.s {data:= #[]},CV.i aj 1,CV.i aj 0,CV.i aj 0]=rf (fe++[oh key]):=by unfold Lib.rf;rw[fw];rfl
theorem FA{p:Px}{i:au}(hi:i<p.en.length)(ho:fM p):bE (p.now-(el p.en i).st)=p.now-(el p.en i).st:=by have h1:=ho.now;have h2:=(jD.Mt (ho.en _ (wA hi))).2.1;exact cY (by omega) (by omega)
theorem ok(p:Px)(id:ax)(key:ai)(hp:p.Fit 1048576)(hkz:key.size<=140737488355328):c p.now (re p.en) (rs p.w) (rs p.m) (rr p.s) p.a (rf p.fe) (rc p.cl) p.hits id key=ae/\v p.now (re p.en) (rs p.w) (rs p.m) (rr p.s) p.a (rf p.fe) (rc p.cl) p.hits id key=res (eR.ask p id key):=by
 have h1:=pV.ok p hp;have h2:=CY.ok p hp;have mI:=hp.cl;have Zc:=hp.fe;have hen:=hp.en;have Mo:iq.pj p.s:=⟨hp.s.1,hp.s.2.1⟩
 have h3:=Mh.ok p.now (re p.en) (rs p.w) (rs p.m) (rr p.s) p.a (rf p.fe) p.cl p.hits id mI;refine out _ _ _ _ _ _ _ _ _ _ _ ?_;unfold vo b eR.ask;simp only[Lib.lt,h1.1,h1.2,h2.1,h2.2,aw];cases bI:iF p with
 |false=>rfl
 |true=>
 have ho:fM p:=ml.1 bI;rw[bz,aC,bA,show kR.v id 1 9=decide (1<=id/\id<=9)from e_.eg _ _ _];cases G5:decide (1<=id/\id<=9)with
 |false=>rfl
 |true=>
 rw[bz,aC,bA,lZ.jx];cases Zf:d_ key with
 |false=>rfl
 |true=>
 have yj:=iy.nB Zf;rw[bz,aC,bA,h3.1,aw,h3.2];cases hhi:kV p.cl id with
 |true=>rfl
 |false=>
 rw[aC,bX,bA,jd];by_cases h6:p.cl.length=6
 ·rw[aE (show(p.cl.length:ax)=6 by omega),aw,aK (show¬p.cl.length<6 by omega)];rfl
 have hc6:=ho.cll;rw[aK (show¬(p.cl.length:ax)=6 by omega),aC,aE (show p.cl.length<6 by omega),aw];have h4:=rR.ok (re p.en) key (by rw[fZ];omega);have h5:=Dr.ok p.now (re p.en) (rs p.w) (rs p.m) (rr p.s) p.a (rf p.fe) (rc p.cl) p.hits key (by rw[fa];omega);have h7:=GI.ok p.w p.m p.s p.a key hp.w hp.m Mo (by omega);have h8:=lA.ok p.s p.a key Mo (by omega);have h9:=CZ.ok p.w p.m p.s p.a key hp.w hp.m Mo;have SE:=xT.ok (re p.en) key (fK.JE _) (by rw[fZ];omega);rw[fK.Ah]at SE;have Hv:=λ(i0:ax) (q1 q2 q3 q4:aY) (i5:ax) (q6:aY) (i8:ax) (x:Cl) (hx:x.id=id)=>mO.ok i0 q1 q2 q3 q4 i5 q6 p.cl i8 x ho.cs (by rw[hx];exact hhi) mI;rw[h4.1,aw,h4.2,fZ];have aiT:p.hits<=1000000000:=ho.hits.2;have aiS:0<=p.hits:=ho.hits.1;have oW:=ho.fl;have Wn:gj ah (bE (p.hits+1)) 1000000000=bif decide (p.hits<1000000000)then p.hits+1 else p.hits:=by
  rw[cY (by omega) (by omega)];unfold gj;rw[aC];by_cases h:p.hits<1000000000
  ·rw[aE h,aw,bF (by omega)]
  ·rw[aK h,aC,br (by omega)];omega
 have hfp:∀i (hi:i<p.fe.length),nq.p (rf p.fe) key i=Mr key p.fe[i]:=λi hi=>by unfold nq.p Mr Bu.v;rw[OV hi,UQ hi,fg hi];simp only[bW,cw,Lib.h_];cases decide (p.fe[i].k=key)<;>rfl
 have hep:∀i (hi:i<p.en.length),rR.p (re p.en) key i=decide (p.en[i].k=key):=λi hi=>by unfold rR.p;rw[Bh hi,fg hi];exact Lib.h_
 have wn:∀n:au,n<=1048576->bE ((n:ax)+1)=(n:ax)+1:=λn hn=>cY (by omega) (by omega);have cN:∀(n:au) (fe:ak Fe),n<fe.length->bW (ao (rf fe) n 1)=(el fe n).t:=λn fe hn=>by rw[Mv hn];rfl
 have FM:cX (p.fe.length+1) 56=true:=Lib.dH (by omega) (by omega);have cU:∀key:ai,cq (aF (aM [Ck.s,Ck.s,Ck.i aj,Ck.i aj,Ck.i aj] 1) 0 [CV.s key,CV.s {data:= #[]},CV.i aj 1,CV.i aj 0,CV.i aj 0])=1:=λ_=>rfl;rcases vu p.fe (Mr key) _ hfp with ⟨f1,_,f2⟩|⟨j,hj,f1,_,f2⟩
 ·have f2:QE p.fe key=none:=f2;rw[fa,f1]at h5;rcases vu p.en (λe=>decide (e.k=key)) _ hep with ⟨e1,e2,_⟩|⟨i,hi,e1,e2,_⟩
  ·have e2:H9 p.en key=none:=e2;rw[e1,e2];unfold rj;rw[f2];dsimp only;by_cases SF:p.fe.length=20
   ·rw[aK (show¬p.fe.length<20 by omega)];simp only[show decide ((-1:ax)≥0)=ah from rfl,aC,h5.1,h5.2,aw,show decide ((-1:ax)<0)=ae from rfl,fa,aE (show(p.fe.length:ax)=20 by omega)];rfl
   ·have kW:=Hv p.now (re p.en) (rs p.w) (rs p.m) (rr (dm.val p.s p.a key).1) (dm.val p.s p.a key).2 (rf (p.fe++[oh key])) p.hits ⟨id,key,(p.fe.length:ax)+1,0,1,(el (p.fe++[oh key]) p.fe.length).t,0⟩ rfl;dsimp only at kW;rw[aE (show p.fe.length<20 by omega)];simp only[show decide ((-1:ax)≥0)=ah from rfl,aC,h5.1,h5.2,aw,show decide ((-1:ax)<0)=ae from rfl,fa,aK (show¬(p.fe.length:ax)=20 by omega),h8.1,h8.2,cU,FM,QK,b8,bM,Lib.gg,Lib.eO,aE (show p.fe.length<p.fe.length+1 by omega),cN p.fe.length (p.fe++[oh key]) (by simp),wn _ Zc,kW.1,kW.2];rfl
  ·have e2:H9 p.en key=ab (el p.en i):=e2;rw[e1,e2];have wN:E_.v (bW (ao (re p.en) i 0)) (cw (ao (re p.en) i 1)) (cw (ao (re p.en) i (1+1))) (bW (ao (re p.en) i (1+1+1))) p.now=wJ (el p.en i) p.now:=by rw[Bh hi,Gl hi,Gm hi,Gn hi];rfl
   have g1:cw (ao (re p.en) i 1)=(el p.en i).st:=by rw[Gl hi];rfl
   have g3:bW (ao (re p.en) i (1+1+1))=(el p.en i).bo:=by rw[Gn hi];rfl
   dsimp only;cases Mp:wJ (el p.en i) p.now with
   |true=>
    have g0:bW (ao (re p.en) i 0)=(el p.en i).k:=by rw[Bh hi];rfl
    have g2:cw (ao (re p.en) i (1+1))=(el p.en i).li:=by rw[Gm hi];rfl
    have wN:E_.v (el p.en i).k (el p.en i).st (el p.en i).li (el p.en i).bo p.now=true:=Mp;have hw:=FA (p:=p) hi ho;have kW:=Hv p.now (re p.en) (rs (iy.val p.w p.m p.s p.a key).1) (rs (iy.val p.w p.m p.s p.a key).2.1) (rr (iy.val p.w p.m p.s p.a key).2.2.1) (iy.val p.w p.m p.s p.a key).2.2.2.1 (rf p.fe) p.hits ⟨id,key,0,(el p.en i).st,2,(el p.en i).bo,p.now-(el p.en i).st⟩ rfl;dsimp only at kW;simp only[aE (show((i:au):ax)≥0 by omega),Lib.dC,Lib.eO,hi,aW,aN,aw,Lib.gg,g0,g1,g2,g3,wN,h7.1,h7.2,hw,kW.1,kW.2,Wn,fZ];rfl
   |false=>
    rw[Mp]at wN;unfold rj;rw[f2];dsimp only;by_cases SF:p.fe.length=20
    ·rw[aK (show¬p.fe.length<20 by omega)];simp only[aE (show((i:au):ax)≥0 by omega),Lib.dC,Lib.eO,hi,aW,aN,aw,aC,Lib.gg,fZ,wN,h5.1,h5.2,show decide ((-1:ax)<0)=ae from rfl,fa,aE (show(p.fe.length:ax)=20 by omega)];rfl
    ·have kW:=Hv p.now (re (fc p.en key)) (rs (without p.w key)) (rs (without p.m key)) (rr (dm.val p.s p.a key).1) (dm.val p.s p.a key).2 (rf (p.fe++[oh key])) p.hits ⟨id,key,(p.fe.length:ax)+1,0,1,(el (p.fe++[oh key]) p.fe.length).t,0⟩ rfl;dsimp only at kW;rw[aE (show p.fe.length<20 by omega)];simp only[aE (show((i:au):ax)≥0 by omega),Lib.dC,fZ,hi,aW,aN,wN,h9.1,h9.2,SE.1,SE.2,aC,h5.1,h5.2,aw,show decide ((-1:ax)<0)=ae from rfl,fa,aK (show¬(p.fe.length:ax)=20 by omega),h8.1,h8.2,cU,FM,QK,b8,bM,Lib.gg,Lib.eO,aE (show p.fe.length<p.fe.length+1 by omega),cN p.fe.length (p.fe++[oh key]) (by simp),wn _ Zc,kW.1,kW.2];rfl
 ·have f2:QE p.fe key=ab j:=f2;rw[fa,f1]at h5;have nj:decide (((j:au):ax)<0)=false:=aK (by omega);rcases vu p.en (λe=>decide (e.k=key)) _ hep with ⟨e1,e2,_⟩|⟨i,hi,e1,e2,_⟩
  ·have e2:H9 p.en key=none:=e2;rw[e1,e2];unfold rj;rw[f2];dsimp only;have kW:=Hv p.now (re p.en) (rs p.w) (rs p.m) (rr (dm.val p.s p.a key).1) (dm.val p.s p.a key).2 (rf p.fe) p.hits ⟨id,key,(j:ax)+1,0,1,(el p.fe j).t,0⟩ rfl;dsimp only at kW;simp only[show decide ((-1:ax)≥0)=ah from rfl,aC,h5.1,h5.2,aw,nj,fa,h8.1,h8.2,Lib.gg,Lib.dC,Lib.eO,hj,aW,aN,cN j p.fe hj,wn j (by omega),kW.1,kW.2];rfl
  ·have e2:H9 p.en key=ab (el p.en i):=e2;rw[e1,e2];have wN:E_.v (bW (ao (re p.en) i 0)) (cw (ao (re p.en) i 1)) (cw (ao (re p.en) i (1+1))) (bW (ao (re p.en) i (1+1+1))) p.now=wJ (el p.en i) p.now:=by rw[Bh hi,Gl hi,Gm hi,Gn hi];rfl
   have g1:cw (ao (re p.en) i 1)=(el p.en i).st:=by rw[Gl hi];rfl
   have g3:bW (ao (re p.en) i (1+1+1))=(el p.en i).bo:=by rw[Gn hi];rfl
   dsimp only;cases Mp:wJ (el p.en i) p.now with
   |true=>
    have g0:bW (ao (re p.en) i 0)=(el p.en i).k:=by rw[Bh hi];rfl
    have g2:cw (ao (re p.en) i (1+1))=(el p.en i).li:=by rw[Gm hi];rfl
    have wN:E_.v (el p.en i).k (el p.en i).st (el p.en i).li (el p.en i).bo p.now=true:=Mp;have hw:=FA (p:=p) hi ho;have kW:=Hv p.now (re p.en) (rs (iy.val p.w p.m p.s p.a key).1) (rs (iy.val p.w p.m p.s p.a key).2.1) (rr (iy.val p.w p.m p.s p.a key).2.2.1) (iy.val p.w p.m p.s p.a key).2.2.2.1 (rf p.fe) p.hits ⟨id,key,0,(el p.en i).st,2,(el p.en i).bo,p.now-(el p.en i).st⟩ rfl;dsimp only at kW;simp only[aE (show((i:au):ax)≥0 by omega),Lib.dC,Lib.eO,hi,aW,aN,aw,Lib.gg,g0,g1,g2,g3,wN,h7.1,h7.2,hw,kW.1,kW.2,Wn,fZ];rfl
   |false=>rw[Mp]at wN;unfold rj;rw[f2];dsimp only;have kW:=Hv p.now (re (fc p.en key)) (rs (without p.w key)) (rs (without p.m key)) (rr (dm.val p.s p.a key).1) (dm.val p.s p.a key).2 (rf p.fe) p.hits ⟨id,key,(j:ax)+1,0,1,(el p.fe j).t,0⟩ rfl;dsimp only at kW;simp only[aE (show((i:au):ax)≥0 by omega),Lib.dC,fZ,hi,aW,aN,wN,h9.1,h9.2,SE.1,SE.2,aC,h5.1,h5.2,aw,nj,fa,h8.1,h8.2,Lib.gg,Lib.eO,hj,cN j p.fe hj,wn j (by omega),kW.1,kW.2];rfl
end Dp

namespace E7
open Lib (rr rs re rf rc Px)
open z5 (tm later)
theorem md(n:ax):H2.c n 1000=ae/\H2.v n 1000=n%1000:=by
 refine H2.out _ _ ?_;unfold H2.vo H2.b;have t:=tm n;rw[show(!decide ((1000:ax)=0))=ae from rfl,aw,aw];congr 1;by_cases hn:bL n 1000<0
 ·have e:=t.2 hn;rw[e,cY (x:=n%1000) (by omega) (by omega),ed (by omega)];omega
 ·have e:=t.1 (by omega);rw[e,cY (x:=n%1000+1000) (by omega) (by omega),ed (by omega)];omega
theorem ok(p:Px)(n:ax)(hp:p.Fit 1048576):c p.now (re p.en) (rs p.w) (rs p.m) (rr p.s) p.a (rf p.fe) (rc p.cl) p.hits n=ae/\v p.now (re p.en) (rs p.w) (rs p.m) (rr p.s) p.a (rf p.fe) (rc p.cl) p.hits n=((z5.val p n).now,re p.en,rs p.w,rs p.m,rr p.s,p.a,rf p.fe,rc p.cl,p.hits):=by have h:=pV.ok p hp;have hm:=md n;refine out _ _ _ _ _ _ _ _ _ _ ?_;unfold vo b z5.val later;simp only[Lib.lt,h.1,h.2,hm.1,hm.2,aw];rw[cY (x:=1000000000-n%1000) (by omega) (by omega)];cases decide (p.now>1000000000-n%1000)<;>rfl
end E7

namespace H0
theorem ok(q:aY)(hl:q.length<=1048576):∃h,c q=ae/\v q=(q,0,h):=by
 have key:=tT (λn (s:au×ax)=>l3 Lib.dE (λ(y3:aY) (y4 _:ax)=>ab (y3,(0:ax),y4)) n q s.2 (s.1:ax)) (λs=>q.length-s.1) (λs=>s.1<=q.length) (λr=>∃h,r=(q,0,h)) (λn s hs=>by
  obtain⟨i,h⟩:=s;dsimp only at hs⊢;by_cases hi:i<q.length
  ·by_cases h4:(i:ax)<4000
   ·right;have nc:bE ((i:ax)+1)=((i+1:au):ax):=cY (by omega) (by omega)
    have e:∃h',l3 Lib.dE (λ(y3:aY) (y4 _:ax)=>ab (y3,(0:ax),y4)) (n+1) q h (i:ax)=l3 Lib.dE (λ(y3:aY) (y4 _:ax)=>ab (y3,(0:ax),y4)) n q h' ((i+1:au):ax):=
     ⟨_,by simp only[l3,r3,Lib.eO,hi,h4,aW,Lib.dC,aN,aw,Lib.gg,nc];rfl⟩
    obtain⟨h',e⟩:=e;exact⟨(i+1,h'),hi,by dsimp only;omega,e⟩
   ·left;exact⟨_,by simp only[l3,r3,Lib.eO,hi,h4,aW,bK,aw,aC];rfl,_,rfl⟩
  ·left;exact⟨_,by simp only[l3,r3,Lib.eO,hi,bK,aC];rfl,_,rfl⟩) Lib.dE (0,bE (34901+(q.length:ax))) (bT _) (du (by omega))
 obtain⟨b',hb,h,rfl⟩:=key;obtain⟨e1,e2⟩:=out q (x:=(q,0,h)) hb;exact⟨h,e1,e2⟩
end H0

namespace HY
theorem ok(q:aY)(hl:q.length<=1048576):∃p,c q=ae/\v q=p/\p.length=12/\∀i,i<12->0<=cw (ao p i 0)/\cw (ao p i 0)<10000:=by
 obtain⟨h,c1,v1⟩:=H0.ok q hl;obtain⟨n0,a0,s0,c0,v0,I0,g0,u0⟩:=cK.ok q 0 h ⟨by omega,by omega,hl⟩;have key:=tT (λn (z:au×ax×ax×aY)=>l5 Lib.dE (λ(_:ax) (_:aY) (_ _:ax) (y9:aY)=>ab y9) n (z.1:ax) q z.2.1 z.2.2.1 z.2.2.2) (λz=>12-z.1) (λz=>z.1<=12/\cK.I q z.2.1/\z.2.2.2.length=z.1/\∀i,i<z.1->0<=cw (ao z.2.2.2 i 0)/\cw (ao z.2.2.2 i 0)<10000) (λp=>p.length=12/\∀i,i<12->0<=cw (ao p i 0)/\cw (ao p i 0)<10000) (λn z hz=>by
  obtain⟨i,a,s,p⟩:=z;obtain⟨h1,h2,h3,h4⟩:=hz;dsimp only at h1 h2 h3 h4⊢;by_cases hi:(i:ax)<12
  ·right;have nc:bE ((i:ax)+1)=((i+1:au):ax):=cY (by omega) (by omega);obtain⟨n1,a1,s1,c1,v1,I1,g1,u1⟩:=vh.ok q a s 10000 h2;have u1':=u1 (by omega);refine⟨(i+1,a1,s1,p++[[CV.i aj n1]]),⟨by dsimp only;omega,I1,by simp[h3],λj hj=> ?_⟩,by dsimp only;omega, ?_⟩
   ·dsimp only at hj⊢;by_cases B4:j<i
    ·have:=h4 j B4;rw[show ao (p++[[CV.i aj n1]]) j 0=ao p j 0 from by unfold ao;congr 1;rw[cT,cT,cS (by omega)]];exact this
    ·have NB:j=p.length:=by omega
     rw[show ao (p++[[CV.i aj n1]]) j 0=CV.i aj n1 from by rw[wu p [CV.i aj n1] [] j 0 NB.symm];rfl];exact⟨g1,u1'⟩
   ·simp only[Lib.lt,l5,r5,c1,v1,nc,aE hi,aw,Lib.jk,bM,Lib.dH (n:=p.length+1) (b:=8) (by omega) (by omega)]
  ·left;have:i=12:=by omega
   subst this;exact⟨p,by simp only[l5,r5,aK hi,aC],h3,h4⟩) Lib.dE (0,a0,s0,[]) ⟨by omega,I0,rfl,λi hi=>bS hi (MR i)⟩ (du (by dsimp only;omega))
 obtain⟨p,hb,h1,h2⟩:=key;obtain⟨e1,e2⟩:=out q (x:=p) (by unfold vo b;simp only[Lib.lt,c1,v1,c0,v0,aw];exact hb);exact⟨p,e1,e2,h1,h2⟩
end HY

namespace GK
open Lib (rr rs re rf rc Px)
open sW (iF)
theorem ok(p:Px)(f:ax)(hp:p.Fit 1048576):c p.now (re p.en) (rs p.w) (rs p.m) (rr p.s) p.a (rf p.fe) (rc p.cl) p.hits f=ae/\v p.now (re p.en) (rs p.w) (rs p.m) (rr p.s) p.a (rf p.fe) (rc p.cl) p.hits f=(iF p&&decide (0<=f/\f<=(p.fe.length:ax)-1)):=by have h:=CY.ok p hp;have hf:=hp.fe;refine out _ _ _ _ _ _ _ _ _ _ ?_;unfold vo b;rw[h.1,h.2,aw,fa,cY (x:=(p.fe.length:ax)-1) (by omega) (by omega),show kR.v f 0 ((p.fe.length:ax)-1)=decide (0<=f/\f<=(p.fe.length:ax)-1)from e_.eg _ _ _];cases iF p<;>rfl
end GK

namespace O5
theorem sok(s:ax)(t:ai)(ht:(t.size:ax)<=400)(hs:1<=s/\s<=3):qs.c s t []=ae/\qs.v s t []=true:=by
 refine qs.out _ _ _ ?_;unfold qs.vo;generalize hN:Lib.dE=N
 obtain⟨n,rfl⟩:∃n,N=n+1:=⟨N-1,by have:2<N:=by rw[<-hN];exact du (by omega)
                                 omega⟩
 clear hN;unfold qs.b;simp only[qs.l2,qs.r2,gX,Int.ofNat_zero,Bb,bK,aC,show kR.v s 1 3=ae from by rw[lJ.eg];exact aE hs,aw,ht,aW];rfl
theorem put(s:ax)(t q:ai)(ht:(t.size:ax)<=400)(hs:1<=s/\s<=3):H3.c s t [] q=ae/\H3.v s t [] q=bif decide (s=1)&&(decide (1<=q.size/\q.size<=40)&&decide (t.size+q.size<=400))then(s,t++q,[],ae)else(s,t,[],ah):=by
 refine H3.out _ _ _ _ ?_;have h:=sok s t ht hs;have hw:kR.v (q.size:ax) 1 40=decide (1<=q.size/\q.size<=40):=by rw[lJ.eg,cO];omega
 unfold H3.vo H3.b;rw[show Dn.c s t []=ae from rfl,aw,h.1,aw,h.2,bz,aC,hw];by_cases h1:s=1
 ·rw[aE h1,show(s !=1)=ah from by rw[h1];rfl,aC,bA];by_cases h2:1<=q.size/\q.size<=40
  ·rw[aE h2,bz,aC,bA,pP (x:=(t.size:ax)+(q.size:ax)) (by omega) (by omega)];by_cases h3:t.size+q.size<=400
   ·rw[aE h3,aK (show¬(t.size:ax)+(q.size:ax)>400 by omega),aC,aE (show t.size+q.size<=4611686018427387904 by omega)];rfl
   ·rw[aK h3,aE (show(t.size:ax)+(q.size:ax)>400 by omega)];rfl
  ·rw[aK h2];rfl
 ·rw[aK h1,show(s !=1)=ae from bne_iff_ne.2 h1];rfl
end O5

namespace H4
open Lib (rr rs re rf rc Px Cl el)
open qk (ec kg lM)
theorem ok(p:Px)(f:au)(hf:f<p.fe.length)(hl:p.fe.length<=2097152)(hc:p.cl.length<=2097152):
  c p.now (re p.en) (rs p.w) (rs p.m) (rr p.s) p.a (rf p.fe) (rc p.cl) p.hits (f:ax)=ae/\v p.now (re p.en) (rs p.w) (rs p.m) (rr p.s) p.a (rf p.fe) (rc p.cl) p.hits (f:ax)=(p.now,re p.en,rs p.w,rs p.m,rr p.s,p.a,rf p.fe,rc (kg p.cl f 1 (el p.fe f).t),p.hits):=by
 refine out _ _ _ _ _ _ _ _ _ _ ?_;unfold vo b;rw[jd];have key:=oD Cl.row p.cl (λ_ c=>ec f 1 (el p.fe f).t c) (λn (i:au) x=>l1 Lib.dE (λ(_ _ _ y15 y16 Uo:ax) (YO LZ EG EH L0 Rm:aY)=>ab (y15,LZ,EG,EH,L0,y16,Rm,YO,Uo)) n (f:ax) (p.cl.length:ax) (i:ax) p.now p.a p.hits x (re p.en) (rs p.w) (rs p.m) (rr p.s) (rf p.fe)) (λx=>ab (p.now,re p.en,rs p.w,rs p.m,rr p.s,p.a,rf p.fe,x,p.hits)) (λn i L h h2 hL uW=> ?_) (λn L hL=> ?_) Lib.dE (du (by omega))
 ·rw[lM]at key;exact key
 ·have e2:ao (L.map Cl.row) i (1+1)=CV.i aj p.cl[i].fe:=by rw[gT _ L i _ h2,uW];rfl
  have e4:ao (L.map Cl.row) i (1+1+1+1)=CV.i aj p.cl[i].sta:=by rw[gT _ L i _ h2,uW];rfl
  have s1:dP (L.map Cl.row) i 5 [CV.s (el p.fe f).t]=(L.set i {p.cl[i]with got:=(el p.fe f).t}).map Cl.row:=mo Cl.row L i 5 _ _ h2 (by rw[uW];rfl);simp only[l1,r1,Lib.eO,h,h2,hf,bC,cF,aW,Lib.dC,aN,aw,Lib.gg,e2,e4,cw,s1,lW,fa,Mv hf,bW,Lib.dQ h (by omega:p.cl.length<=9223372036854775807),cY (x:=(f:ax)+1) (by omega) (by omega)];unfold ec;cases decide (p.cl[i].fe=(f:ax)+1)with
  |false=>rw[x6,aC,aC,<-uW,eD]
  |true=>
   cases hd:decide (p.cl[i].sta=1)with
   |false=>rw[bA,aw,aC,aC,<-uW,eD]
   |true=>have e:=bU hd;rw[bA,aw,aw,aw];rw[show({p.cl[i]with sta:=1,got:=(el p.fe f).t}:Cl)={p.cl[i]with got:=(el p.fe f).t}by rw[<-e]]
 ·simp only[l1,r1,Lib.eO,ca,bK,aC]
end H4

namespace Jg
open Lib (rr rs re rf rc Px el)
open k_ (xW vF told ot xL lj HI)
theorem ok(p:Px)(f:ax)(q:ai)(hp:p.Fit 1048576):c p.now (re p.en) (rs p.w) (rs p.m) (rr p.s) p.a (rf p.fe) (rc p.cl) p.hits f q=ae/\v p.now (re p.en) (rs p.w) (rs p.m) (rr p.s) p.a (rf p.fe) (rc p.cl) p.hits f q=(p.now,re p.en,rs p.w,rs p.m,rr p.s,p.a,rf (vF p f q).1.fe,rc (vF p f q).1.cl,p.hits,(vF p f q).2):=by
 have h1:=pV.ok p hp;have h2:=GK.ok p f hp;have hf:=hp.fe;have hc:=hp.cl;refine out _ _ _ _ _ _ _ _ _ _ _ ?_;unfold vo b vF;simp only[Lib.lt,h1.1,h1.2,h2.1,h2.2,aw];unfold xW;cases bI:sW.iF p&&decide (0<=f/\f<=(p.fe.length:ax)-1)with
 |false=>rw[<-mY (sW.iF p),bI];rfl
 |true=>
  rw[<-mY (sW.iF p),bI,bA];rw[az,a9]at bI;obtain⟨n,rfl⟩:∃n:au,f=(n:ax):=⟨f.toNat,by omega⟩
  have hn:n<p.fe.length:=by omega
  have Bf:=k_.VP bI.1 n hn;unfold nV.oI at Bf;simp only[az,a9]at Bf;have kW:=O5.put (el p.fe n).sta (el p.fe n).t q Bf.2.1 Bf.2.2.1;simp only[bz,aC,aw,Lib.dC,Lib.eO,fa,hn,aW,aN,Lib.gg,EE hn,Mv hn,cw,bW,kW.1,kW.2];cases hs:decide ((el p.fe n).sta=1)&&(decide (1<=q.size/\q.size<=40)&&decide ((el p.fe n).t.size+q.size<=400))with
  |false=>rfl
  |true=>
   have e1:=HI p.fe n 1 [CV.s ((el p.fe n).t++q)] {el p.fe n with t:=(el p.fe n).t++q} hn rfl;have hn2:n<(p.fe.set n {el p.fe n with t:=(el p.fe n).t++q}).length:=by rw[cF];exact hn
   have h3:=H4.ok {p with fe:=p.fe.set n {el p.fe n with t:=(el p.fe n).t++q}} n hn2 (by rw[cF];omega) (by dsimp only;omega);dsimp only at h3;rw[lj hn]at h3;simp only[bz,aC,aw,e1,h3.1,h3.2];rfl
end Jg

namespace H5
open Lib (rr rs re rf rc Px Cl el)
open qk (ec kg lM)
theorem ok(p:Px)(f:au)(st:ax)(hf:f<p.fe.length)(hl:p.fe.length<=2097152)(hc:p.cl.length<=2097152):
  c p.now (re p.en) (rs p.w) (rs p.m) (rr p.s) p.a (rf p.fe) (rc p.cl) p.hits (f:ax) st=ae/\v p.now (re p.en) (rs p.w) (rs p.m) (rr p.s) p.a (rf p.fe) (rc p.cl) p.hits (f:ax) st=(p.now,re p.en,rs p.w,rs p.m,rr p.s,p.a,rf p.fe,rc (kg p.cl f st (el p.fe f).t),p.hits):=by
 refine out _ _ _ _ _ _ _ _ _ _ _ ?_;unfold vo b;rw[jd];have key:=oD Cl.row p.cl (λ_ c=>ec f st (el p.fe f).t c) (λn (i:au) x=>l1 Lib.dE (λ(_ _ _ _ Uo YO LZ:ax) (EG EH L0 Rm US UT:aY)=>ab (Uo,EH,L0,Rm,US,YO,UT,EG,LZ)) n (f:ax) st (p.cl.length:ax) (i:ax) p.now p.a p.hits x (re p.en) (rs p.w) (rs p.m) (rr p.s) (rf p.fe)) (λx=>ab (p.now,re p.en,rs p.w,rs p.m,rr p.s,p.a,rf p.fe,x,p.hits)) (λn i L h h2 hL uW=> ?_) (λn L hL=> ?_) Lib.dE (du (by omega))
 ·rw[lM]at key;exact key
 ·have e2:ao (L.map Cl.row) i (1+1)=CV.i aj p.cl[i].fe:=by rw[gT _ L i _ h2,uW];rfl
  have e4:ao (L.map Cl.row) i (1+1+1+1)=CV.i aj p.cl[i].sta:=by rw[gT _ L i _ h2,uW];rfl
  have s1:dP (L.map Cl.row) i 4 [CV.i aj st]=(L.set i {p.cl[i]with sta:=st}).map Cl.row:=mo Cl.row L i 4 _ _ h2 (by rw[uW];rfl);have h3:i<(L.set i {p.cl[i]with sta:=st}).length:=by simpa using h2
  have s2:dP ((L.set i {p.cl[i]with sta:=st}).map Cl.row) i 5 [CV.s (el p.fe f).t]=((L.set i {p.cl[i]with sta:=st}).set i {p.cl[i]with sta:=st,got:=(el p.fe f).t}).map Cl.row:=mo Cl.row _ i 5 _ _ h3 (by rw[iv];rfl);simp only[l1,r1,Lib.eO,h,h2,hf,bC,cF,aW,Lib.dC,aN,aw,Lib.gg,e2,e4,cw,s1,s2,lW,fa,Mv hf,bW,Lib.dQ h (by omega:p.cl.length<=9223372036854775807),cY (x:=(f:ax)+1) (by omega) (by omega)];unfold ec;cases decide (p.cl[i].fe=(f:ax)+1)with
  |false=>rw[x6,aC,aC,<-uW,eD]
  |true=>
   cases decide (p.cl[i].sta=1)with
   |false=>rw[bA,aw,aC,aC,<-uW,eD]
   |true=>rw[bA,aw,aw,aw]
 ·simp only[l1,r1,Lib.eO,ca,bK,aC]
end H5

namespace Mi
open Lib (rr rs re rf rc Px En el)
open fK (So fc kF)
open jr (Bg)
theorem ok(p:Px)(e:En)(r6 r7:aY)(hp:p.Fit 1048575)(hso:So p.en)(hk:e.k.size<=140737488355328):
  c p.now (re p.en) (rs p.w) (rs p.m) (rr p.s) p.a r6 r7 p.hits e.k e.st e.li e.bo=ae/\v p.now (re p.en) (rs p.w) (rs p.m) (rr p.s) p.a r6 r7 p.hits e.k e.st e.li e.bo=(p.now,re (Bg p e).en,rs (Bg p e).w,rs (Bg p e).m,rr (Bg p e).s,(Bg p e).a,r6,r7,p.hits):=by have he:=hp.en;have hw:=hp.w;have hm:=hp.m;obtain⟨b1,b2,b3⟩:=iy.LQ p.w p.m p.s p.a e.k;have h1:=GI.ok p.w p.m p.s p.a e.k (by omega) (by omega) ⟨c5 hp.s.1 (by omega),λq hq=>c5 (hp.s.2.1 q hq) (by omega)⟩ hk;refine out _ _ _ _ _ _ _ _ _ _ _ _ _ ?_;unfold vo b Bg;generalize iy.val p.w p.m p.s p.a e.k=V at h1 b1 b2 b3;obtain⟨W,M,T,A,G⟩:=V;dsimp only at h1 b1 b2⊢;have h2:=xT.ok (re p.en) G (fK.JE _) (by rw[fZ];omega);rw[fK.Ah]at h2;have h3:=qS.ok W M (rr T) A e.k (by omega) (by omega);have hd:=fK.wz p.en G;have h4:=E9.ok (re (fc p.en G)) e.k e.st e.li e.bo (fK.Cu (hso.drop G)) (by rw[fZ];omega);rw[fK.xA]at h4;simp only[Lib.lt,h1.1,h1.2,h2.1,h2.2,h3.1,h3.2,h4.1,h4.2,aw];cases fC.has W e.k||fC.has M e.k<;>rfl
end Mi

namespace Jh
open Lib (rr rs re rf rc Px el)
open k_ (xW told ot xL lj HI)
open rB (cls qw)
theorem ok(p:Px)(f life:ax)(hp:p.Fit 1048576):c p.now (re p.en) (rs p.w) (rs p.m) (rr p.s) p.a (rf p.fe) (rc p.cl) p.hits f life=ae/\v p.now (re p.en) (rs p.w) (rs p.m) (rr p.s) p.a (rf p.fe) (rc p.cl) p.hits f life=(p.now,re (cls p f life).1.en,rs (cls p f life).1.w,rs (cls p f life).1.m,rr (cls p f life).1.s,(cls p f life).1.a,rf (cls p f life).1.fe,rc (cls p f life).1.cl,p.hits,(cls p f life).2):=by
 have h1:=pV.ok p hp;have h2:=GK.ok p f hp;have hf:=hp.fe;have hc:=hp.cl;refine out _ _ _ _ _ _ _ _ _ _ _ ?_;unfold vo b cls;simp only[Lib.lt,h1.1,h1.2,h2.1,h2.2,aw];unfold xW;cases bI:sW.iF p&&decide (0<=f/\f<=(p.fe.length:ax)-1)with
 |false=>rw[<-mY (sW.iF p),bI];rfl
 |true=>
  rw[<-mY (sW.iF p),bI,bA];rw[az,a9]at bI;obtain⟨n,rfl⟩:∃n:au,f=(n:ax):=⟨f.toNat,by omega⟩
  have hn:n<p.fe.length:=by omega
  obtain⟨so,_,_,_,_,_,_,_,_,_,Bf⟩:=jr.F8 bI.1;have Bf:=Bf n hn;unfold nV.oI at Bf;rw[az]at Bf;have yj:=iy.nB Bf.1;simp only[bz,aC,aw,Lib.dC,Lib.eO,fa,hn,aW,aN,Lib.gg,EE hn,cw];rw[show((el p.fe n).sta !=1)= !decide ((el p.fe n).sta=1)from rfl,show kR.v life 0 999999=decide (0<=life/\life<=999999)from e_.eg _ _ _];cases hs:decide ((el p.fe n).sta=1)with
  |false=>rfl
  |true=>
   cases hl:decide (0<=life/\life<=999999)with
   |false=>rfl
   |true=>
    have e1:=HI p.fe n 2 [CV.i aj 2] {el p.fe n with sta:=2} hn rfl;have n1:n<(p.fe.set n {el p.fe n with sta:=2}).length:=by rw[cF];exact hn
    have e2:=HI (p.fe.set n {el p.fe n with sta:=2}) n 3 [CV.i aj life] {el p.fe n with sta:=2,li:=life} n1 (by rw[lj hn];rfl);rw[lW]at e2;have n2:n<(p.fe.set n {el p.fe n with sta:=2,li:=life}).length:=by rw[cF];exact hn
    have e3:=HI (p.fe.set n {el p.fe n with sta:=2,li:=life}) n 4 [CV.i aj p.now] {el p.fe n with sta:=2,li:=life,st:=p.now} n2 (by rw[lj hn];rfl);rw[lW]at e3;generalize hg:({el p.fe n with sta:=2,li:=life,st:=p.now}:Lib.Fe)=g at e3;have n3:n<(p.fe.set n g).length:=by rw[cF];exact hn
    have h3:=H5.ok {p with fe:=p.fe.set n g} n 2 n3 (by rw[cF];omega) (by dsimp only;omega);dsimp only at h3;rw[lj hn]at h3;have hk:g.k=(el p.fe n).k:=by rw[<-hg]
    have h4:=Mi.ok (told p n g 2) (qw g) (rf (p.fe.set n g)) (rc (told p n g 2).cl) ((xL (jr.pG bI.1)).le (by omega)) so (by show g.k.size<=_;rw[hk];omega);have z0:bW (ao (rf (p.fe.set n g)) n 0)=g.k:=by rw[OV n3,lj hn];rfl
    have z1:bW (ao (rf (p.fe.set n g)) n 1)=g.t:=by rw[Mv n3,lj hn];rfl
    have gl:g.li=life:=by rw[<-hg]
    have gs:g.st=p.now:=by rw[<-hg]
    unfold qw at h4;dsimp only[told]at h4;rw[gl,gs]at h4;unfold qw told;simp only[bz,aC,aw,e1,e2,e3,h3.1,h3.2,z0,z1,gl,gs];cases decide (life>0)with
    |true=>simp only[aw,h4.1,h4.2];rfl
    |false=>rfl
end Jh

namespace HZ
open Lib (rr rs re rf rc Px Cl el)
def ans:ar Cl->ax×ai×ax×ax×ax×ai×ax×aL
 |some c=>(c.id,c.k,c.fe,c.fr,c.sta,c.got,c.age,ae)
 |none=>(0,⟨#[]⟩,0,0,0,⟨#[]⟩,0,ah)
theorem walk(N:au)(kr:ax->ai->ax->ax->ax->ai->ax->aL->ar R)(id now:ax)(q1 q2 q3 q4:aY)(a5:ax)(q6:aY)(cl:ak Cl)(a8:ax)(hl:cl.length<=1000):∀(d i n:au),cl.length-i<=d->i<=cl.length->d<n->(∀j,j<i->(el cl j).id≠id)->
  l2 N (λLZ EG EH L0 Rm US UT ZB ZC y28 y29 UU Mw HO EI L3 L4 O0 Rn=>kr Mw HO EI L3 L4 O0 Rn EG) (λZD y39 y40 y41 y42 y43 y44 y45 y46 y47 y48 y49 y50 y51 y52 y53 y54 y55 y56=>kr 0 ({data:= #[]}) 0 0 0 ({data:= #[]}) 0 ah) n id ah (i:ax) now q1 q2 q3 q4 a5 q6 (rc cl) a8 0 ({data:= #[]}) 0 0 0 ({data:= #[]}) 0=(match cl.find? (λc=>decide (c.id=id))with|some c=>kr c.id c.k c.fe c.fr c.sta c.got c.age ae|none=>kr 0 ⟨#[]⟩ 0 0 0 ⟨#[]⟩ 0 ah):=by
 have fin:∀n:au,(∀j,j<cl.length->(el cl j).id≠id)->l2 N (λLZ EG EH L0 Rm US UT ZB ZC y28 y29 UU Mw HO EI L3 L4 O0 Rn=>kr Mw HO EI L3 L4 O0 Rn EG) (λZD y39 y40 y41 y42 y43 y44 y45 y46 y47 y48 y49 y50 y51 y52 y53 y54 y55 y56=>kr 0 ({data:= #[]}) 0 0 0 ({data:= #[]}) 0 ah) (n+1) id ah (cl.length:ax) now q1 q2 q3 q4 a5 q6 (rc cl) a8 0 ({data:= #[]}) 0 0 0 ({data:= #[]}) 0=(match cl.find? (λc=>decide (c.id=id))with|some c=>kr c.id c.k c.fe c.fr c.sta c.got c.age ae|none=>kr 0 ⟨#[]⟩ 0 0 0 ⟨#[]⟩ 0 ah):=λn hn=>by
  have:cl.find? (λc=>decide (c.id=id))=none:=by rw[tf];intro x hx q;obtain⟨j,hj,rfl⟩:=cu hx;have:=hn j hj;rw[fg hj]at this;exact this (bU q)
  rw[this];simp only[l2,r2,jd,Lib.eO,ca,bK,aC]
 intro d;induction d with
 |zero=>
  intro i n h1 h2 h3 h4;obtain⟨n,rfl⟩:∃k,n=k+1:=⟨n-1,by omega⟩
  have:i=cl.length:=by omega
  subst this;exact fin n h4
 |succ d ih=>
  intro i n h1 h2 h3 h4;obtain⟨n,rfl⟩:∃k,n=k+1:=⟨n-1,by omega⟩
  by_cases hi:i<cl.length
  ·have nc:bE ((i:ax)+1)=((i+1:au):ax):=cY (by omega) (by omega);by_cases he:(el cl i).id=id
   ·have hf:cl.find? (λc=>decide (c.id=id))=ab (el cl i):=by
     rw[kQ];refine⟨aE he,i,hi,(fg hi).symm,λj hj=> ?_⟩
     have:=h4 j hj;rw[fg (by omega:j<cl.length)]at this;rw[aK this];rfl
    rw[hf];have e0:cw (ao (rc cl) i 0)=(el cl i).id:=by rw[Mu hi];rfl
    have e1:bW (ao (rc cl) i 1)=(el cl i).k:=by rw[Ue hi];rfl
    have e2:cw (ao (rc cl) i (1+1))=(el cl i).fe:=by rw[Uf hi];rfl
    have e3:cw (ao (rc cl) i (1+1+1))=(el cl i).fr:=by rw[Ug hi];rfl
    have e4:cw (ao (rc cl) i (1+1+1+1))=(el cl i).sta:=by rw[Uh hi];rfl
    have e5:bW (ao (rc cl) i (1+1+1+1+1))=(el cl i).got:=by rw[Ui hi];rfl
    have e6:cw (ao (rc cl) i (1+1+1+1+1+1))=(el cl i).age:=by rw[Uj hi];rfl
    simp only[l2,r2,jd,Lib.eO,hi,aW,Lib.dC,aN,aw,Lib.gg,e0,e1,e2,e3,e4,e5,e6,he]
   ·refine Rv ?_ (ih (i+1) n (by omega) hi (by omega) λj hj=> ?_)
    ·have e0:cw (ao (rc cl) i 0)=(el cl i).id:=by rw[Mu hi];rfl
     simp only[l2,r2,jd,Lib.eO,hi,aW,Lib.dC,aN,aw,aC,Lib.gg,e0,he,bK,nc]
    ·by_cases B4:j=i
     ·subst B4;exact he
     ·exact h4 j (by omega)
  ·have:i=cl.length:=by omega
   subst this;exact fin n h4
theorem ok(id now:ax)(q1 q2 q3 q4:aY)(a5:ax)(q6:aY)(cl:ak Cl)(a8:ax)(hl:cl.length<=1000):c now q1 q2 q3 q4 a5 q6 (rc cl) a8 id=ae/\v now q1 q2 q3 q4 a5 q6 (rc cl) a8 id=ans (cl.find? λc=>decide (c.id=id)):=by
 refine out _ _ _ _ _ _ _ _ _ _ ?_;unfold vo;generalize hN:Lib.dE=N;have hN1:cl.length<N:=by rw[<-hN];exact du (by omega)
 clear hN;unfold b;refine(walk N _ id now q1 q2 q3 q4 a5 q6 cl a8 hl cl.length 0 N (by omega) (bT _) hN1 (λj hj=>bS hj (MR j))).trans ?_;cases cl.find? λc=>decide (c.id=id)<;>rfl
end HZ

namespace U4
open Lib (rr rs re rf rc Px En Fe Cl el)
open qG (fM)
open eu (zM)
open nL (kk bd At)
def gM{α:Type}(p:Px)(x:α):ax×aY×aY×aY×aY×ax×aY×aY×ax×α:=(p.now,re p.en,rs p.w,rs p.m,rr p.s,p.a,rf p.fe,rc p.cl,p.hits,x)
def tu9(p:Px):ax×aY×aY×aY×aY×ax×aY×aY×ax:=(p.now,re p.en,rs p.w,rs p.m,rr p.s,p.a,rf p.fe,rc p.cl,p.hits)
theorem Mx:wc.v=tu9 (g9.p0 1):=rfl
theorem VE{p:Px}{id:ax}(ho:fM p)(h:(eR.ask p id kk).2=0):Dp.c p.now (re p.en) (rs p.w) (rs p.m) (rr p.s) p.a (rf p.fe) (rc p.cl) p.hits id kk=ae/\Dp.v p.now (re p.en) (rs p.w) (rs p.m) (rr p.s) p.a (rf p.fe) (rc p.cl) p.hits id kk=gM (eR.ask p id kk).1 (0:ax):=by
 have A:=Dp.ok p id kk (Bk.pG ho) (by decide);refine⟨A.1, ?_⟩
 rw[A.2];unfold gM Dp.res;rw[h]
theorem QF{p:Px}{n:ax}(ho:fM p):E7.c p.now (re p.en) (rs p.w) (rs p.m) (rr p.s) p.a (rf p.fe) (rc p.cl) p.hits n=ae/\E7.v p.now (re p.en) (rs p.w) (rs p.m) (rr p.s) p.a (rf p.fe) (rc p.cl) p.hits n=tu9 (z5.val p n):=by have A:=E7.ok p n (Bk.pG ho);exact⟨A.1,A.2⟩
theorem XM(a:aY)(ha:vW a):vo a=ab true:=by
 have hb:∀x:aL,RZ.v a=x->vo a=ab true:=λx hx=>by
  cases x with
  |true=>unfold vo b;rw[hx,aw]
  |false=>
   have hlen:a.length<=1048576:=by unfold RZ.v at hx;have:=nK hx;omega
   obtain⟨pl,c1,v1,oW,hpr⟩:=HY.ok a hlen;have q0:=hpr 0 (by omega);have q1:=hpr 1 (by omega);have q2:=hpr 2 (by omega);have w1:bL (cw (ao pl (aX 1) 0)) 1000=cw (ao pl 1 0)%1000:=ed q1.1;have w2:bL (cw (ao pl (aX 2) 0)) 700=cw (ao pl 2 0)%700:=ed q2.1;have w0:bE (1+bL (cw (ao pl (aX 0) 0)) 500)=1+cw (ao pl 0 0)%500:=by rw[show bL (cw (ao pl (aX 0) 0)) 500=cw (ao pl 0 0)%500 from ed q0.1];exact cY (by omega) (by omega)
   have r1:0<=cw (ao pl 1 0)%1000/\cw (ao pl 1 0)%1000<=999:=by omega
   have r2:0<=cw (ao pl 2 0)%700/\cw (ao pl 2 0)%700<=699:=by omega
   have r0:1<=1+cw (ao pl 0 0)%500/\1+cw (ao pl 0 0)%500<=500:=by omega
   have S0:=nL.a0;have S1:=nL.a4 (n:=cw (ao pl 1 0)%1000) S0 (by omega) r1;have V1:=QF (n:=cw (ao pl 1 0)%1000) S0.ok;obtain⟨n2,S2⟩:=nL.a1 S1;have V2:=VE (id:=1) S1.ok n2;obtain⟨n3,S3,g1,g2,g3,g4⟩:=nL.a2 S2;have V3:=Jg.ok _ 0 bd (Bk.pG S2.ok);obtain⟨n4,S4⟩:=nL.a3 S3 r0;have V4:=Jh.ok _ 0 (1+cw (ao pl 0 0)%500) (Bk.pG S3.ok);have S5:=nL.a4 (n:=cw (ao pl 2 0)%700) S4 (by omega) (by omega);have V5:=QF (n:=cw (ao pl 2 0)%700) S4.ok;obtain⟨n6,S6,hl6,cc,hf,VY⟩:=nL.a5 S5 (by omega) r2 r0;have V6:=VE (id:=2) S5.ok n6;generalize FL:z5.val (g9.p0 1) (cw (ao pl 1 0)%1000)=p1 at*
   generalize Ww:(eR.ask p1 1 kk).1=p2 at*
   have T3:Jg.v p2.now (re p2.en) (rs p2.w) (rs p2.m) (rr p2.s) p2.a (rf p2.fe) (rc p2.cl) p2.hits 0 bd=gM (k_.vF p2 0 bd).1 true:=by rw[V3.2,n3];unfold gM;rw[g1,g2,g3,g4,S3.now,<-S2.now,S3.en,<-S2.en,S3.hits,<-S2.hits]
   generalize hp3:(k_.vF p2 0 bd).1=p3 at*
   obtain⟨s1,s2⟩:=rB.JD (p:=p3) (f:=0) (life:=1+cw (ao pl 0 0)%500);have T4:Jh.v p3.now (re p3.en) (rs p3.w) (rs p3.m) (rr p3.s) p3.a (rf p3.fe) (rc p3.cl) p3.hits 0 (1+cw (ao pl 0 0)%500)=gM (rB.cls p3 0 (1+cw (ao pl 0 0)%500)).1 true:=by rw[V4.2,n4];unfold gM;rw[s1,s2]
   generalize hp4:(rB.cls p3 0 (1+cw (ao pl 0 0)%500)).1=p4 at*
   generalize hp5:z5.val p4 (cw (ao pl 2 0)%700)=p5 at*
   generalize hp6:(eR.ask p5 2 kk).1=p6 at*
   have V7:=HZ.ok 2 p6.now (re p6.en) (rs p6.w) (rs p6.m) (rr p6.s) p6.a (rf p6.fe) p6.cl p6.hits (by omega);rw[hf]at V7;have V8:=CY.ok p6 (Bk.pG S6);rw[qG.ml.2 S6]at V8;generalize cw (ao pl 0 0)%500=life at*
   generalize cw (ao pl 2 0)%700=n at*
   generalize cw (ao pl 1 0)%1000=m at*
   have main:zM (vo a) (λx=>x=ae):=by
    unfold vo b;refine eu.cn hx ?_;refine eu.call c1 v1 ?_;refine eu.ck (aE (by rw[oW];decide)) ?_;refine eu.ck (aE (by rw[oW];decide)) ?_;rw[Mx,w1,w2,w0];refine eu.call V1.1 V1.2 ?_;refine eu.call V2.1 V2.2 ?_;refine eu.call V3.1 T3 ?_;refine eu.call V4.1 T4 ?_;refine eu.ck (aE (by rw[oW];decide)) ?_;refine eu.call V5.1 V5.2 ?_;refine eu.call V6.1 V6.2 ?_;refine eu.call V7.1 V7.2 ?_;refine eu.cn rfl ?_;refine eu.cn rfl ?_;refine eu.cn rfl ?_;refine eu.cn rfl ?_;refine eu.call V8.1 V8.2 ?_;refine eu.cn rfl ?_;rcases VY with ⟨k1,k2,k3,k4,k5,k6⟩|⟨k1,k2,k3,k5,k6,k7⟩
    ·refine eu.ck (aE k1) ?_;refine eu.ck (aE k2) ?_;refine eu.ck ?_ ?_
     ·show cC (aA cc.got) (aA bd)=ae;rw[k3];exact o_ _
     refine eu.ck (aE k4) ?_;refine eu.ck (aE ?_) ?_
     ·show(((rf p6.fe).length:au):ax)=1;rw[fa,k5];rfl
     exact eu.ret (aE k6)
    ·refine eu.cn (aK k1) ?_;refine eu.ck (aE k2) ?_;refine eu.ck ?_ ?_
     ·show cC (aA cc.got) (aA ⟨#[]⟩)=ae;rw[k3];exact o_ _
     refine eu.ck (aE ?_) ?_
     ·show(((rf p6.fe).length:au):ax)=2;rw[fa,k5];rfl
     refine eu.ck (aE k6) ?_;refine eu.ret (aE ?_);show(((re p6.en).length:au):ax)=0;rw[fZ,k7];rfl
   obtain⟨x,h1,h2⟩:=main;rw[h1,h2]
 exact hb _ rfl
theorem law(a:aY)(ha:vW a):v a=true:=(out a (XM a ha)).2
theorem adA(a:aY)(ha:vW a):c a=true:=(out a (XM a ha)).1
end U4

end Go.FG
