/- What the functions come to, in plain numbers, texts and lists; last the law itself. No condition but those that each states. -/
import Derived.Test.YtpcfgiocpohbmaaGreatDoorPShown
set_option linter.unusedVariables false
set_option linter.unusedSimpArgs false
set_option maxRecDepth 100000
open Array renaming toList_extract->gk,toList_append->kC,length_toList->dm,ext'->qK,getD_eq_getD_getElem?->dc
open BitVec renaming toNat->ed,xor->kJ,ofInt->cq,and->nF
open Bool renaming true->aj,false->ao,or_eq_true->dq,and_eq_true->aJ,or_eq_false_iff->gD,and_eq_false_iff->Gs,and_self->aL,not_eq_true'->dA,true_and->bK,not_false->bO,not_true->a9,and_true->ig,not_eq_false'->vx,false_or->tS,false_eq_true->cN,cond_eq_ite->dI,false_and->A0,and_false->El
open ByteArray renaming ext->lh,append_assoc->dY,toList->aC,data_extract->fu,data_append->eH,size_extract->vn,size_append->dh,empty_append->ka,empty->Ee,append_empty->o6,size->bh
open Classical renaming byContradiction->xE
open Go.ByteArray renaming toList_eq->jq
open Go.IntKind renaming u8->a6,i64->ar,wrap->bj,u32->dO
open Go.Op renaming bytesLess->bP
open Int renaming tdiv->cO,le_total->Gt,tdiv_eq_ediv_of_nonneg->dB,tmod->bZ,tmod_nonneg->AH,tmod_eq_emod_of_nonneg->iJ,toNat->aY,pow_succ->sw,toNat_natCast->dD,natCast_zero->Q6,lt_irrefl->XV,le_trans->Gu,emod_nonneg->RK,emod_lt_of_pos->Mc
open List renaming set->aF,length_cons->bU,size_toArray->xI,mem_cons_self->cw,mem_cons_of_mem->cg,take_succ_eq_append_getElem->cj,length_singleton->bu,length->bI,length_map->bM,length_filter_le->dM,nil_append->eR,length_append->bW,map_congr_left->Me,mem_filter->cJ,append_assoc->bY,pairwise_append->sB,filter_sublist->iM,singleton_append->sC,pairwise_cons->lu,mem_append->aX,mem_singleton->aW,filter_cons_of_pos->db,filter_cons_of_neg->bX,beq->cu,filter_append->ik,all_eq_true->bf,getElem_mem->bH,mem_or_eq_of_mem_set->iD,take_set_of_le->IP,drop_set_of_lt->IL,drop_eq_nil_of_le->lJ,append_nil->dv,take_length->d_,filter_eq_self->fX,getElem_of_mem->di,take->mP,drop->za,drop_zero->eB,take_append_of_le_length->AJ,take_of_length_le->gb,getElem_take->o8,pairwise_map->jw,mem_map->cD,filter_map->qL,map_map->jr,map_append->c7,filter_congr->jv,range->ej,getD->e6,pairwise_iff_getElem->da,length_set->dt,length_drop->il,drop_eq_getElem_cons->cQ,cons_append->mO,extract_eq_take_drop->eS,drop_drop->s7,length_take->eg,drop_append_of_le_length->yt,drop_of_length_le->Es,filter_filter->oc,find?_eq_none->RQ,find?_eq_some_iff_getElem->xH,find?_some->CG,takeWhile_cons_of_pos->oL,takeWhile_cons_of_neg->oK,foldl_cons->nJ,length_nil->lP,drop_length->cU,foldl_nil->sA,mem_of_find?_eq_some->j9,length_pos_iff->IM,getD_eq_getElem?_getD->cM,getElem?_eq_getElem->qD,ext_getElem->pQ,getElem_set_self->mj,set_getElem_self->js,set_set->Yc,nodup_iff_pairwise_ne->oe,mem_append_left->bL,length_tail->Nh,mem_append_right->bE,findIdx?_eq_none_iff->BG,findIdx?_eq_some_iff_getElem->vp,pairwise_singleton->Eg,find?_cons_of_neg->qB,find?_cons_of_pos->Et,foldl_append->vI,mem_range->od,all_append->U_,all_cons->mv,mem_of_mem_take->kh,nodup_append->dQ,nodup_cons->jy,mem_cons->b7,getElem_set->Ng,getElem?_append_left->dx,getElem?_append_right->cT
open List.Pairwise renaming filter->yr,nil->fZ
open List.cons renaming inj->qt
open Nat renaming mod_lt->IQ,le_trans->cm,le_succ->gY,le_refl->bR,zero_le->bC,lt_irrefl->bB,sub_zero->Eh,zero_add->bG,sub_self->Ye,le_succ_of_le->lQ,add_sub_cancel->Mf,add_zero->rS
open Option renaming some->ah,none->ai,map_some->fM
open Option.some renaming inj->aD
open Prod.mk renaming inj->bF
open UInt8 renaming ofNat->ak,lt_iff_toNat_lt->qM,toNat_ofNat'->tU
open _root_ renaming Nat->aG,List->ax,UInt8->eE,ByteArray->aq,Int->ay,Bool->aU,Option->aA,cond_true->aw,decide_eq_true->aE,decide_eq_false->aK,cond_false->az,if_neg->a_,if_pos->ba,decide_eq_true_eq->aZ,absurd->b_,decide_eq_false_iff_not->eV,decide_true->aT,decide_false->bn,congrArg->je,decide_eq_decide->c_,of_decide_eq_true->ca,of_decide_eq_false->V7
namespace Go.FG
open _root_.Go.FG.Lib (nh qV zj fF yF fy fQ kO wh BU Jo uF jO wu c6 pz ZY rc1 rc2 rc3 rc4 rc5 rc6 fc H7 Ww Wx eh ff gf Z0 LX iW Z1 pD n5 D0 vd nD yR Gl oq Ea yT rI rJ vg vh dj Rt UD UE UF wd0 wd1 wd2 xX AQ AR AU Ru Rv wf2 Iq wf3 wf4)
variable {R:Type}
namespace Ei
end Ei

namespace mo
open Ei (l5 r5 c v vo b out)
abbrev dd:aG->ax eE:=_root_.Go.Lib.decDigits
def D(n:aG):aq:=⟨(dd n).toArray⟩
def it(n:ay):aq:=⟨(_root_.Go.Lib.itoa n).toArray⟩
theorem Vk{u:aG}(h:u<10):dd u=[ak (48+u)]:=_root_.Go.Lib.decDigits_one h
theorem dd2{u:aG}(h:¬u<10):dd u=dd (u/10)++[ak (48+u%10)]:=by show _root_.Go.Lib.decDigits u=_;rw[_root_.Go.Lib.decDigits,dif_neg h]
def fg(x:aG):aq:=⟨#[ak (48+x)]⟩
theorem fig{x:aG}(h:x<10):bytesOf (aF (aR [Ck.i a6] 1) 0 [CV.i a6 (Ra.v (x:ay))])=fg x:=by
 have key:∀y:Fin 10,bytesOf (aF (aR [Ck.i a6] 1) 0 [CV.i a6 (Ra.v ((y.val:aG):ay))])=fg y.val:=by decide+kernel
 exact key ⟨x,h⟩
theorem D1{u:aG}(h:u<10):D u=fg u:=by unfold D fg;rw[Vk h]
theorem D2{u:aG}(h:¬u<10):D u=D (u/10)++fg (u%10):=by unfold D fg;rw[dd2 h];apply lh;simp
theorem Dm(x:aG):(fg x).size=1:=rfl
theorem stp(K:ay->aU->aq->aA R)(bl:aU)(m:aG)(n:ay)(t:aq)(h0:n≠0)(h1: -9223372036854775808<=n)(h2:n<=9223372036854775807)(ht:t.size<=1000):
  l5 Lib.cR K (m+1) n bl t=l5 Lib.cR K m (cO n 10) bl (fg (n.natAbs%10)++t):=by
 have a1:(n !=0)=true:=by simp[h0]
 have hd: -9223372036854775808<=cO n 10/\cO n 10<=9223372036854775807:=by
  rcases Gt 0 n with hn|hn
  ·rw[dB hn];omega
  ·have:cO n 10= -((-n)/10):=by rw[<-dB (show 0<= -n by omega),Int.neg_tdiv];omega
   rw[this];omega
 rw[show l5 Lib.cR K (m+1) n bl t=r5 Lib.cR (l5 Lib.cR K m) K n bl t from rfl];unfold r5;rw[a1,aw,dj hd.1 hd.2];have hm:n.natAbs%10<10:=IQ _ (by omega);by_cases acG:bZ n 10<0
 ·have e:bN (0-bZ n 10)=((n.natAbs%10:aG):ay):=by
   have hn:n<0:=by
    rcases Int.lt_or_le n 0 with h|h
    ·exact h
    ·have:=AH (a:=n) 10 h;omega
   have:bZ n 10= -((-n)%10):=by rw[<-iJ (show 0<= -n by omega),Int.neg_tmod];omega
   rw[this,dj (by omega) (by omega)];omega
  rw[aE acG,aw,e,fig hm,Dm,aE (by omega),aw]
 ·have e:bZ n 10=((n.natAbs%10:aG):ay):=by
   rcases Gt 0 n with hn|hn
   ·rw[iJ hn];omega
   ·have:bZ n 10= -((-n)%10):=by rw[<-iJ (show 0<= -n by omega),Int.neg_tmod];omega
    omega
  rw[aK acG,az,e,fig hm,Dm,aE (by omega),aw]
theorem RW(n:ay):(cO n 10).natAbs=n.natAbs/10:=by
 rcases Gt 0 n with hn|hn
 ·rw[dB hn];omega
 ·have:cO n 10= -((-n)/10):=by rw[<-dB (show 0<= -n by omega),Int.neg_tdiv];omega
  rw[this];omega
theorem run(K:ay->aU->aq->aA R)(bl:aU):∀(d:aG) (n:ay) (t:aq) (m:aG),n.natAbs<10^d->n≠0-> -9223372036854775808<=n->n<=9223372036854775807->t.size+d<=1000->d<m->l5 Lib.cR K m n bl t=K 0 bl (D n.natAbs++t):=by
 intro d;induction d with
 |zero=>intro n t m h1 h2;omega
 |succ d ih=>
  intro n t m h1 h2 h3 h4 h5 h6;obtain⟨m,rfl⟩:∃k,m=k+1:=⟨m-1,by omega⟩
  rw[stp K bl m n t h2 h3 h4 (by omega)];have ha:=RW n;by_cases hs:n.natAbs<10
  ·have hz:cO n 10=0:=by omega
   obtain⟨m,rfl⟩:∃k,m=k+1:=⟨m-1,by omega⟩
   rw[hz,D1 hs,Nat.mod_eq_of_lt hs];rfl
  ·rw[ih (cO n 10) _ m (by rw[ha];rw[Nat.pow_succ]at h1;omega) (by omega) (by omega) (by omega) (by rw[Lib.dX,Dm];omega) (by omega),ha,D2 hs];rw[dY]
theorem eq(n:ay)(h0: -9223372036854775808<=n)(h1:n<=9223372036854775807):c n=aj/\v n=it n:=by
 refine out _ ?_;unfold vo b it;by_cases hz:n=0
 ·subst hz;rw[aE rfl,aw];unfold _root_.Go.Lib.itoa;rw[a_ (by omega),show aY 0=0 from rfl,_root_.Go.Lib.decDigits_one (show 0<10 by omega)]
 ·rw[aK hz,az,run _ _ 19 n _ _ (by omega) hz h0 h1 (by decide) (c6 (by omega))];have e0:∀x:aq,x++(⟨#[]⟩:aq)=x:=λx=>by apply lh;simp
  rw[e0];by_cases hn:n<0
  ·have hl:(D n.natAbs).size<=21:=by have:=_root_.Go.Lib.itoa_length_le n h0 h1;unfold _root_.Go.Lib.itoa at this;rw[ba hn,bU]at this;show(dd n.natAbs).toArray.size<=21;rw[xI];exact cm (gY _) this
   rw[aE hn,aw,show({data:= #[ak 45]}:aq).size=1 from rfl,aE (by omega),aw];unfold _root_.Go.Lib.itoa;rw[ba hn];unfold D;congr 1
  ·rw[aK hn,az];unfold _root_.Go.Lib.itoa D;rw[a_ hn,show n.natAbs=n.toNat by omega]
theorem qa(n:ay)(h0: -9223372036854775808<=n)(h1:n<=9223372036854775807):(it n).size<=21:=by have:=_root_.Go.Lib.itoa_length_le n h0 h1;show(_root_.Go.Lib.itoa n).toArray.size<=21;rw[xI];exact this
end mo

namespace du
open _root_.Go.FG.Lib (Cl rc el)
open mo (it)
def st(n:ay):aq:=EC.v n
def pos(n:ay):ay:=if n<0 then 0 else n
abbrev sp:aq:={data:= #[ak 32]}
abbrev LC:aq:={data:= #[ak 10]}
def ln(c:Cl):aq:=it (pos c.id)++sp++st c.sta++sp++it (pos c.age)++sp++c.got++LC
def shown:ax Cl->aq
 |[]=>⟨#[]⟩|c::r=>ln c++shown r
def Rq(n:ay):Prop:= -9223372036854775808<=n/\n<=9223372036854775807
def Bf(c:Cl):Prop:=Rq c.id/\Rq c.age
theorem lD{n:ay}(h:Rq n):Rq (pos n):=by unfold pos Rq at*;split<;>omega
theorem ms(n:ay):fS aj n 0=pos n:=by unfold fS pos;rw[aw]
theorem dec(n:ay)(h:Rq n):v7.c n=aj/\v7.v n=it n:=by refine v7.out _ ?_;unfold v7.vo v7.b;rw[show Yf.c n=aj from by unfold Yf.c;rw[aE h.1,aE h.2];rfl,aw];rfl
theorem num(n:ay)(h:Rq n):ji.c n=aj/\ji.v n=it (pos n):=by
 refine ji.out _ ?_;unfold ji.vo ji.b pos;have e:=mo.eq n h.1 h.2;by_cases hn:n<0
 ·rw[aE hn,aw,ba hn];have:it 0={data:= #[ak 48]}:=by unfold it _root_.Go.Lib.itoa;rw[a_ (by omega),show aY 0=0 from rfl,_root_.Go.Lib.decDigits_one (show 0<10 by omega)]
  rw[this]
 ·rw[aK hn,az,e.1,aw,e.2,a_ hn]
theorem Kj(n:ay):(st n).size<=6:=by unfold st EC.v;cases decide (n=1)<;>cases decide (n=2)<;>decide
theorem Ti(c:Cl)(h:Bf c):(ln c).size<=c.got.size+60:=by have a1:=mo.qa _ (lD h.1).1 (lD h.1).2;have a2:=mo.qa _ (lD h.2).1 (lD h.2).2;have a3:=Kj c.sta;unfold ln;simp only[Lib.dX,show sp.size=1 from rfl,show LC.size=1 from rfl];omega
def room:ax Cl->aG
 |[]=>0|c::r=>c.got.size+60+room r
theorem Al:∀(l:ax Cl) (i:aG),i<l.length->(el l i).got.size<=room l
 |c::r,0,_=>by show c.got.size<=_;unfold room;omega
 |c::r,i+1,h=>by
  have:=Al r i (by simpa using h);show(el r i).got.size<=_;unfold room;omega
theorem qk:∀(l:ax Cl),(∀c∈l,Bf c)->(shown l).size<=room l
 |[],_=>bR _
 |c::r,h=>by
  have a1:=Ti c (h c cw);have a2:=qk r (λx hx=>h x (cg _ hx));unfold shown room;rw[Lib.dX];omega
theorem R3(x:aq):x++(⟨#[]⟩:aq)=x:=by apply lh;simp
theorem JK(x:aq):(⟨#[]⟩:aq)++x=x:=by apply lh;simp
theorem Av:∀(l:ax Cl) (c:Cl),shown (l++[c])=shown l++ln c
 |[],c=>by show ln c++(⟨#[]⟩:aq)=⟨#[]⟩++ln c;rw[R3,JK]
 |d::r,c=>by
  show ln d++shown (r++[c])=ln d++shown r++ln c;rw[Av r c,dY]
theorem take_succ(l:ax Cl)(i:aG)(h:i<l.length):shown (l.take (i+1))=shown (l.take i)++ln (el l i):=by rw[fy h,cj h,Av]
theorem wB:∀(l:ax Cl) (i:aG),room (l.take i)<=room l
 |[],_=>by simp[room]
 |c::r,0=>bC _
 |c::r,i+1=>by
  have:=wB r i;show c.got.size+60+room (r.take i)<=c.got.size+60+room r;omega
end du

namespace eT
theorem nz:∀x:ax eE,bP x x=ao
 |[]=>rfl
 |a::x=>by
  have h:¬a<a:=by rw[qM];omega
  simp[bP,nz x,h]
theorem nO:∀x y z:ax eE,bP x y=aj->bP y z=aj->bP x z=aj
 |_,[],_,h,_=>by cases ‹ax eE›<;>simp[bP]at h
 |_,_::_,[],_,h=>by simp[bP]at h
 |[],_::_,_::_,_,_=>by simp[bP]
 |a::x,b::y,c::z,h1,h2=>by
  simp only[bP,dq,aJ,aZ,beq_iff_eq]at h1 h2⊢;simp only[qM]at h1 h2⊢;rcases h1 with h1|⟨rfl,h1⟩
  ·rcases h2 with h2|⟨rfl,h2⟩
   ·left;omega
   ·left;exact h1
  ·rcases h2 with h2|⟨rfl,h2⟩
   ·left;exact h2
   ·right;exact⟨rfl,nO x y z h1 h2⟩
theorem NJ:∀x y:ax eE,bP x y=ao->x≠y->bP y x=aj
 |[],[],_,h=>b_ rfl h
 |[],_::_,h,_=>by simp[bP]at h
 |_::_,[],_,_=>by simp[bP]
 |a::x,b::y,h,hn=>by
  simp only[bP,gD,Gs,eV,beq_eq_false_iff_ne]at h;simp only[bP,dq,aJ,aZ,beq_iff_eq];obtain⟨h1,h2⟩:=h;by_cases he:a=b
  ·subst he;right;refine⟨rfl,NJ x y ?_ (λe=>hn (by rw[e]))⟩
   rcases h2 with h2|h2
   ·exact b_ rfl h2
   ·exact h2
  ·left;rw[qM]at h1⊢;have:a.toNat≠b.toNat:=λe=>he (UInt8.toNat_inj.1 e);omega
def key(y:ax CV):ax eE:=aC (bJ (y.getD 0 (.b ao)))
def lt(y z:ax CV):Prop:=bP (key y) (key z)=aj
def cr(y:ax CV):ax CV:=[CV.s (bJ (y.getD 0 (.b ao))),CV.i ar (bS (y.getD 1 (.b ao))),CV.i ar (bS (y.getD 2 (.b ao))),CV.s (bJ (y.getD 3 (.b ao)))]
def nw(k:aq)(s l:ay)(b:aq):ax CV:=[CV.s k,CV.i ar s,CV.i ar l,CV.s b]
def pl(k:aq)(y:ax CV):aU:=bP (key y) (aC k)
def pg(k:aq)(y:ax CV):aU:= !(bP (key y) (aC k)||List.beq (key y) (aC k))
def val(r:Row)(k:aq)(s l:ay)(b:aq):Row:=(r.filter (pl k)).map cr++[nw k s l b]++(r.filter (pg k)).map cr
theorem ok(r:Row)(k:aq)(s l:ay)(b0:aq)(hl:r.length<=1048576):c r k s l b0=aj/\v r k s l b0=val r k s l b0:=by
 refine out r k s l b0 ?_;unfold vo;have hw:∀i,i<r.length->bN ((i:ay)+1)=((i+1:aG):ay):=λi h=>Lib.dn h (by omega)
 have amg:=λ(abW:Row) (ha:abW.length<=2000000)=>uF (pg k) cr r 2000000
  (λm (i:aG) (acc:Row)=>l9 Lib.cR (λ(_:Row) (_:ay) (_:aq) (_ _:ay) (_:aq) (KA:Row)=>ah KA) m r (i:ay) k s l b0 acc) (λacc=>ah acc)
  (λm i acc h h2 hp=>by
   have mE:(!(bP (aC (bJ (au r i 0))) (aC k)||List.beq (aC (bJ (au r i 0))) (aC k)))=true:=by rw[Lib.de h];exact hp
   simp only[l9,r9,Lib.dJ,h,aT,Lib.c9,aL,aw,Lib.eK,mE,hw i h,Lib.jE,bu,Lib.cE (n:=acc.length+1) (b:=48) (by omega) (by omega)];have e:[CV.s (bJ (au r i 0)),CV.i ar (bS (au r i 1)),CV.i ar (bS (au r i (1+1))),CV.s (bJ (au r i (1+1+1)))]=cr r[i]:=by rw[Lib.de h,Lib.de h,Lib.de h,Lib.de h];rfl
   rw[e])
  (λm i acc h h2 hp=>by
   have mE:(!(bP (aC (bJ (au r i 0))) (aC k)||List.beq (aC (bJ (au r i 0))) (aC k)))=false:=by rw[Lib.de h];exact hp
   simp only[l9,r9,Lib.dJ,h,aT,Lib.c9,aL,aw,Lib.eK,mE,az,hw i h])
  (λm acc=>by simp only[l9,r9,Lib.dJ,bB,bn,az]) Lib.cR abW ha (c6 (by omega))
 have qb:=uF (pl k) cr r 0
  (λm (i:aG) (acc:Row)=>l3 Lib.cR (λ(y7:Row) (_:ay) (y9:aq) (Kz rO:ay) (Mr:aq) (Ms:Row)=>bif(cF (bI Ms+bI (aF (aR [Ck.s,Ck.i ar,Ck.i ar,Ck.s] 1) 0 [CV.s y9,CV.i ar Kz,CV.i ar rO,CV.s Mr])) 48)then(l9 Lib.cR (λ(_:Row) (_:ay) (_:aq) (_ _:ay) (_:aq) (KA:Row)=>ah KA) Lib.cR y7 0 y9 Kz rO Mr (Ms++aF (aR [Ck.s,Ck.i ar,Ck.i ar,Ck.s] 1) 0 [CV.s y9,CV.i ar Kz,CV.i ar rO,CV.s Mr]))else(ai)) m r (i:ay) k s l b0 acc)
  (λacc=>bif(cF (bI acc+1) 48)then(l9 Lib.cR (λ(_:Row) (_:ay) (_:aq) (_ _:ay) (_:aq) (KA:Row)=>ah KA) Lib.cR r 0 k s l b0 (acc++[nw k s l b0]))else ai)
  (λm i acc h h2 hp=>by
   have mE:bP (aC (bJ (au r i 0))) (aC k)=true:=by rw[Lib.de h];exact hp
   simp only[l3,r3,Lib.dJ,h,aT,Lib.c9,aL,aw,Lib.eK,mE,hw i h,Lib.jE,bu,Lib.cE (n:=acc.length+1) (b:=48) (by omega) (by omega)];have e:[CV.s (bJ (au r i 0)),CV.i ar (bS (au r i 1)),CV.i ar (bS (au r i (1+1))),CV.s (bJ (au r i (1+1+1)))]=cr r[i]:=by rw[Lib.de h,Lib.de h,Lib.de h,Lib.de h];rfl
   rw[e])
  (λm i acc h h2 hp=>by
   have mE:bP (aC (bJ (au r i 0))) (aC k)=false:=by rw[Lib.de h];exact hp
   simp only[l3,r3,Lib.dJ,h,aT,Lib.c9,aL,aw,Lib.eK,mE,az,hw i h])
  (λm acc=>by simp only[l3,r3,Lib.dJ,bB,bn,az];rfl) Lib.cR [] (bR _) (c6 (by omega))
 unfold b;refine qb.trans ?_;have hf:((r.filter (pl k)).map cr).length<=r.length:=by rw[bM];exact dM _ _
 rw[eR,Lib.cE (by omega) (by omega),aw];exact amg _ (by rw[bW,bu];omega)
def Or(r:Row):Prop:=r.Pairwise lt/\∀y∈r,cr y=y
theorem DH{r:Row}(h:∀y∈r,cr y=y)(q:ax CV->aU):(r.filter q).map cr=r.filter q:=by have:=Me (l:=r.filter q) (f:=cr) (g:=λz=>z) (λy hy=>h y (cJ.1 hy).1);rw[this];exact List.map_id _
theorem uN{r:Row}(h:Or r)(k:aq)(s l:ay)(b:aq):Or (val r k s l b)/\(val r k s l b).length<=r.length+1:=by
 unfold val;rw[DH h.2,DH h.2];have hg:∀y,pg k y=aj->bP (aC k) (key y)=true:=by intro y hy;unfold pg at hy;simp only[dA,gD]at hy;refine NJ _ _ hy.1 (λe=> ?_);have:=hy.2;rw[e,Lib.nN]at this;cases this
 refine⟨⟨?_, ?_⟩, ?_⟩
 ·rw[bY,sB];refine⟨h.1.sublist iM, ?_, ?_⟩
  ·rw[sC,lu];exact⟨λy hy=>hg y (cJ.1 hy).2,h.1.sublist iM⟩
  ·intro y hy z hz;have h1:bP (key y) (aC k)=true:=(cJ.1 hy).2;rcases aX.1 hz with q|q
   ·rw[aW.1 q];exact h1
   ·exact nO _ _ _ h1 (hg z (cJ.1 q).2)
 ·intro y hy;rcases aX.1 hy with q|q
  ·rcases aX.1 q with q|q
   ·exact h.2 y (cJ.1 q).1
   ·rw[aW.1 q];rfl
  ·exact h.2 y (cJ.1 q).1
 ·have hlen:∀r:Row,(r.filter (pl k)).length+(r.filter (pg k)).length<=r.length:=by
   intro r;induction r with
   |nil=>exact bR _
   |cons y r ih=>
    have hx:pl k y=aj->pg k y=false:=by intro h;unfold pl at h;unfold pg;rw[h];rfl
    cases h1:pl k y with
    |true=>rw[db h1,bX (by rw[hx h1];simp)];simp only[bU];omega
    |false=>
     rw[bX (by simp[h1])];cases h2:pg k y with
     |true=>rw[db h2];simp only[bU];omega
     |false=>rw[bX (by simp[h2])];simp only[bU];omega
  have:=hlen r;simp only[bW,bu];omega
end eT

namespace tl
def p(s:Row)(k:aq)(i:aG):aU:=cu (aC (bJ (au s i 0))) (aC k)
theorem ok(d:Row)(n:aq)(hl:d.length<=4294967296):c d n=aj/\v d n=Lib.fi (p d n) d.length 0:=by
 refine out d n ?_;unfold vo b;refine wh (p d n) d.length (λm (i:aG)=>l2 Lib.cR (λ(_:Row) (_:aq) (y7 _ _:ay)=>ah y7) (λ(_:Row) (_:aq) (_ _ _:ay)=>ah (-1)) m d n 0 (d.length:ay) (i:ay)) ah (λm i hi hp=> ?_) (λm i hi hp=> ?_) (λm=> ?_) Lib.cR (c6 (by omega))
 ·unfold p at hp;simp only[l2,r2,Lib.dJ,Lib.c9,Lib.eK,hi,aT,aL,aw,A9.v,hp]
 ·unfold p at hp;simp only[l2,r2,Lib.dJ,Lib.c9,Lib.eK,hi,aT,aL,aw,A9.v,hp,az,Lib.dn hi (by omega:d.length<=9223372036854775807)]
 ·simp only[l2,r2,Lib.dJ,bB,bn,az]
end tl

namespace pc
def cn(y:ax CV):aU:=match y with|[.s _, .i .i64 _, .i .i64 _, .s _]=>aj|_=>ao
def cr(y:ax CV):ax CV:=[CV.s (bJ (y.getD 0 (.b ao))),CV.i ar (bS (y.getD 1 (.b ao))),CV.i ar (bS (y.getD 2 (.b ao))),CV.s (bJ (y.getD 3 (.b ao)))]
theorem EW{y:ax CV}(h:cn y=aj):cr y=y:=by
 unfold cn at h;split at h
 ·rfl
 ·cases h
theorem tE{y:ax CV}(h:cn y=aj):y.length=4:=by rw[<-EW h];rfl
def keep(d:aq)(y:ax CV):aU:= !List.beq (aC (bJ (y.getD 0 (.b ao)))) (aC d)
theorem mB(d:aq){s:Row}{i:aG}(h:i<s.length):(s.take (i+1)).filter (keep d)=(s.take i).filter (keep d)++(bif keep d s[i]then [s[i]]else []):=by rw[cj h,ik];cases hk:keep d s[i]<;>simp[hk]
theorem run(N:aG)(s0:Row)(d:aq)(hc:s0.all cn=aj)(hn:s0.length<=9223372036854775807)(K:aq->ay->ay->Row->aA R)(kr:Row->aA R)
  (hK:∀(j:aG) x,x.length=s0.length->j<=s0.length->K d j s0.length x=kr (x.take j)) (m j i:aG) (x:Row)
  (hi:j<i/\i<=s0.length/\x.length=s0.length/\(∀y∈x,y.length=4)/\x.take j=(s0.take i).filter (keep d)/\x.drop i=s0.drop i) (hm:s0.length-i<m):
  l5 N K m d j i x=kr (s0.filter (keep d)):=by
 have Y0:∀y∈s0,cn y=true:=bf.1 hc
 refine Lib.iL (λm (s:aG×aG×Row)=>l5 N K m d s.1 s.2.1 s.2.2) (λs=>s0.length-s.2.1)
  (λs=>s.1<s.2.1/\s.2.1<=s0.length/\s.2.2.length=s0.length/\(∀y∈s.2.2,y.length=4)/\s.2.2.take s.1=(s0.take s.2.1).filter (keep d)/\s.2.2.drop s.2.1=s0.drop s.2.1)
  (λ_=>kr (s0.filter (keep d))) (λm s hs=> ?_) m (j,i,x) hi hm
 obtain⟨j,i,x⟩:=s;obtain⟨h1,h2,h3,h4,h5,h6⟩:=hs;simp only at h1 h2 h3 h4 h5 h6⊢;by_cases g6:i<s0.length
 ·right;have yK:i<x.length:=by omega
  have SI:j<x.length:=by omega
  have hx:x[i]=s0[i]:=by have e1:=Lib.gK yK;have e2:=Lib.gK g6;rw[h6,e2]at e1;exact(qt e1).1.symm
  have hd:x.drop (i+1)=s0.drop (i+1):=by have e1:=Lib.gK yK;have e2:=Lib.gK g6;rw[h6,e2]at e1;exact(qt e1).2.symm
  have Y4:=Y0 _ (bH g6);have hf:=mB d g6;cases hk:keep d s0[i]with
  |true=>
   refine⟨(j+1,i+1,x.set j s0[i]), ?_,by simp only;omega,trivial, ?_⟩
   ·rw[hk,aw,<-h5]at hf;refine⟨by simp only;omega,by simp only;omega,by simpa using h3, ?_, ?_, ?_⟩
    ·intro y hy;rcases iD hy with h|h
     ·exact h4 y h
     ·rw[h];exact tE Y4
    ·rw[hf];rw[cj (by simpa using SI)];simp[IP]
    ·simp only;rw[IL (by omega)];exact hd
   ·have e:A9.v (bJ (au x i 0)) (bS (au x i 1)) (bS (au x i (1+1))) (bJ (au x i (1+1+1))) d=false:=by
     have:(!A9.v (bJ (au x i 0)) (bS (au x i 1)) (bS (au x i (1+1))) (bJ (au x i (1+1+1))) d)=true:=by rw[Lib.de yK,hx];exact hk
     simpa using this
    have es:eN x j 0 [CV.s (bJ (au x i 0)),CV.i ar (bS (au x i 1)),CV.i ar (bS (au x i (1+1))),CV.s (bJ (au x i (1+1+1)))]=x.set j s0[i]:=by
     have hl:=h4 _ (bH SI);rw[Lib.J7 SI,Lib.de yK,Lib.de yK,Lib.de yK,Lib.de yK,hx];have:iB x[j] 0 (cr s0[i])=s0[i]:=by rw[EW Y4];unfold iB;have:=tE Y4;simp[hl,this,lJ]
     unfold cr at this;rw[this]
    have b1:(j:ay)<(x.length:ay):=by omega
    simp only[l5,r5,Lib.dJ,Lib.c9,Lib.eK,yK,SI,aT,bK,aw,e,bO,es,Lib.dn g6 hn,Lib.dn (show j<s0.length by omega) hn]
  |false=>
   refine⟨(j,i+1,x), ?_,by simp only;omega,trivial, ?_⟩
   ·rw[hk,az,dv,<-h5]at hf;exact⟨by simp only;omega,by simp only;omega,h3,h4,hf.symm,hd⟩
   ·have e:A9.v (bJ (au x i 0)) (bS (au x i 1)) (bS (au x i (1+1))) (bJ (au x i (1+1+1))) d=true:=by
     have:(!A9.v (bJ (au x i 0)) (bS (au x i 1)) (bS (au x i (1+1))) (bJ (au x i (1+1+1))) d)=false:=by rw[Lib.de yK,hx];exact hk
     simpa using this
    simp only[l5,r5,Lib.dJ,Lib.c9,Lib.eK,yK,aT,bK,aw,e,a9,az,Lib.dn g6 hn]
 ·left;have:i=s0.length:=by omega
  subst this;rw[d_]at h5;have e:=hK j x h3 (by omega);rw[h5]at e;have yK:¬s0.length<x.length:=by omega
  simp only[l5,r5,Lib.dJ,yK,bn,az,e]
theorem ok(s0:Row)(nQ:aq)(hc:s0.all cn=aj)(hn:s0.length<=4294967296):c s0 nQ=aj/\v s0 nQ=s0.filter (keep nQ):=by
 refine out s0 nQ ?_;have hv:=tl.ok s0 nQ hn;unfold vo b;rw[hv.1,hv.2,aw];rcases Lib.wi (tl.p s0 nQ) s0.length 0 with ⟨h,l_⟩|⟨k,_,wW,hk,Zb,YZ⟩
 ·rw[h];have:s0.filter (keep nQ)=s0:=by rw[fX];intro y hy;obtain⟨i,hi,rfl⟩:=di hy;have:=l_ i (bC _) (by omega);unfold tl.p at this;rw[Lib.de hi]at this;unfold keep;rw[this];rfl
  rw[this];rfl
 ·rw[hk];have Vv:k<s0.length:=by omega
  have g_:decide ((k:ay)=Int.neg 1)=false:=aK (by show¬(k:ay)= -1;omega);rw[g_,az,Lib.dn Vv (by omega)];have Y0:∀y∈s0,cn y=true:=bf.1 hc;refine run _ s0 nQ hc (by omega) _ ah (λj x hx hj=> ?_) _ k (k+1) s0 ⟨by omega,by omega,rfl,λy hy=>tE (Y0 y hy), ?_,rfl⟩ (c6 (by omega))
  ·have b1:gU (j:ay) (s0.length:ay) (s0.length:ay)=true:=by simp[gU];omega
   have e:mP j x++aR [Ck.s,Ck.i ar,Ck.i ar,Ck.s] (s0.length-j)++za s0.length x=mP j x++aR [Ck.s,Ck.i ar,Ck.i ar,Ck.s] (s0.length-j):=by rw[lJ (by omega),dv]
   have hl:(mP j x).length=j:=by simp;omega
   simp only[hx,Lib.eK,b1,aw,e];rw[Lib.zp (by simp[gU];omega)];unfold dR;rw[show aY 0=0 from rfl,eB,Eh,AJ (by omega),gb (by omega)]
  ·rw[mB nQ Vv];have e1:keep nQ s0[k]=false:=by unfold tl.p at Zb;rw[Lib.de Vv]at Zb;unfold keep;rw[Zb];rfl
   have e2:(s0.take k).filter (keep nQ)=s0.take k:=by
    rw[fX];intro y hy;obtain⟨i,hi,rfl⟩:=di hy;have hik:i<k:=by simp at hi;omega
    have:=YZ i (bC _) hik;unfold tl.p at this;rw[Lib.de (by omega)]at this;rw[o8];unfold keep;rw[this];rfl
   rw[e1,e2,az,dv]
end pc

namespace fH
open _root_.Go.FG.Lib (re En)
def ew(x y:aq):aU:=bP (aC x) (aC y)
def So(en:ax En):Prop:=en.Pairwise λx y=>ew x.k y.k=aj
def fw(en:ax En)(k:aq):ax En:=en.filter λx=> !decide (x.k=k)
def lE(en:ax En)(e:En):ax En:=en.filter (λx=>ew x.k e.k)++[e]++en.filter (λx=> !(ew x.k e.k||decide (x.k=e.k)))
theorem So.drop{en:ax En}(h:So en)(k:aq):So (fw en k):=yr _ h
theorem zw(en:ax En)(k:aq):(fw en k).length<=en.length:=dM ..
theorem drop_nil{en:ax En}(h:∀e∈en,1<=e.k.size):fw en ⟨#[]⟩=en:=by unfold fw;rw[fX];intro e he;have:=h e he;simp only[dA,eV];intro e2;rw[e2]at this;exact b_ this (by decide)
theorem Cc{en:ax En}(h:So en):eT.Or (re en):=by
 constructor
 ·unfold Lib.re;rw[jw];exact h
 ·intro y hy;unfold Lib.re at hy;obtain⟨z,_,rfl⟩:=cD.1 hy;rfl
theorem tL(en:ax En)(e:En):eT.val (re en) e.k e.st e.li e.bo=re (lE en e):=by
 unfold eT.val lE Lib.re;rw[qL,qL,jr,jr,c7,c7];have e1:(eT.pl e.k∘En.row)=λx:En=>ew x.k e.k:=rfl;have e2:(eT.pg e.k∘En.row)=λx:En=> !(ew x.k e.k||decide (x.k=e.k)):=by funext x;show(!(bP (aC x.k) (aC e.k)||List.beq (aC x.k) (aC e.k)))=_;rw[Lib.fP];rfl
 rw[e1,e2];rfl
theorem Sg(en:ax En)(k:aq):(re en).filter (pc.keep k)=re (fw en k):=by unfold Lib.re fw;rw[qL];congr 1;apply jv;intro x _;show(!List.beq (aC x.k) (aC k))=_;rw[Lib.fP]
theorem ab0(en:ax En):(re en).all pc.cn=true:=by rw[bf];intro y hy;unfold Lib.re at hy;obtain⟨z,_,rfl⟩:=cD.1 hy;rfl
theorem qh(en:ax En)(e:En)(h:So en):(lE en e).length<=en.length+1:=by have:=(eT.uN (Cc h) e.k e.st e.li e.bo).2;rw[tL,ff,ff]at this;exact this
end fH

namespace eO
def el(r:Row)(i:aG):aU:=decide (1<=((bJ (au r i 0)).size:ay)/\((bJ (au r i 0)).size:ay)<=8)&&(!decide (((bJ (au r i 1)).size:ay)>20000)&&(decide (0<=bS (au r i 2)/\bS (au r i 2)<=((bJ (au r i 1)).size:ay))&&(i==0||Go.Op.bytesLess (aC (bJ (au r (i-1) 0))) (aC (bJ (au r i 0))))))
def val(r:Row):aU:=decide (r.length<=30)&&(ej r.length).all (el r)
theorem mF(n a b:ay):jN.v n a b=decide (a<=n/\n<=b):=by unfold jN.v;by_cases h:a<=n<;>by_cases h2:n<=b<;>simp[h,h2]
theorem Ct{i:aG}(h:0<i)(hn:i<=9223372036854775807):bN ((i:ay)-1)=((i-1:aG):ay):=by rw[dj (by omega) (by omega)];omega
theorem ok(r:Row)(hl:r.length<=4294967296):c r=aj/\v r=val r:=by
 refine out r ?_;unfold vo b val;by_cases h30:(r.length:ay)>30
 ·rw[aE h30,aw,aK (show¬r.length<=30 by omega)];rfl
 rw[aK h30,az,aE (show r.length<=30 by omega),bK]
 have key:=nh (el r) r.length (λm (i:aG)=>l4 Lib.cR (λ(y3:aU) (_:ay) (_:Row)=>ah y3) (λ(_:aU) (_:ay) (_:Row)=>ah aj) m ao (i:ay) r) (ah ao) (ah aj)
  (λm i hi hp=>by
   unfold el at hp;simp only[aJ]at hp;obtain⟨h1,h2,h3,h4⟩:=hp;have h3:decide (0<=bS (au r i (1+1))/\bS (au r i (1+1))<=((bJ (au r i 1)).size:ay))=true:=h3;have h2:decide (((bJ (au r i 1)).size:ay)>20000)=false:=by simpa using h2
   by_cases hz:0<i
   ·have e0:decide ((i:ay)>0)=true:=aE (by omega);have mE:i-1<r.length:=by omega
    have h5:bP (aC (bJ (au r (i-1) 0))) (aC (bJ (au r i 0)))=true:=by
     rcases dq _ _▸h4 with q|q
     ·have:i=0:=by simpa using q
      omega
     ·exact q
    simp only[l4,r4,Lib.dJ,hi,mE,aT,Lib.c9,aL,aw,az,Lib.eK,th.v,mF,h1,h2,h3,h5,e0,Ct hz (by omega),a9,Lib.dn hi (by omega:r.length<=9223372036854775807)]
   ·have e0:decide ((i:ay)>0)=false:=aK (by omega);simp only[l4,r4,Lib.dJ,hi,aT,Lib.c9,aL,aw,az,Lib.eK,th.v,mF,h1,h2,h3,e0,a9,Lib.dn hi (by omega:r.length<=9223372036854775807)])
  (λm i hi hp=>by
   unfold el at hp;cases h1:decide (1<=((bJ (au r i 0)).size:ay)/\((bJ (au r i 0)).size:ay)<=8)with
   |false=>simp only[l4,r4,Lib.dJ,hi,aT,Lib.c9,aL,aw,az,Lib.eK,th.v,mF,h1,bO]
   |true=>
   cases h2:decide (((bJ (au r i 1)).size:ay)>20000)with
   |true=>simp only[l4,r4,Lib.dJ,hi,aT,Lib.c9,aL,aw,az,Lib.eK,th.v,mF,h1,h2,a9]
   |false=>
   cases h3:decide (0<=bS (au r i (1+1))/\bS (au r i (1+1))<=((bJ (au r i 1)).size:ay))with
   |false=>simp only[l4,r4,Lib.dJ,hi,aT,Lib.c9,aL,aw,az,Lib.eK,th.v,mF,h1,h2,h3,a9,bO]
   |true=>
   rw[h1,h2,show decide (0<=bS (au r i 2)/\bS (au r i 2)<=((bJ (au r i 1)).size:ay))=aj from h3,bO,bK,bK,bK]at hp;rw[gD]at hp;obtain⟨h4,h5⟩:=hp;have hz:0<i:=by
    have:¬i=0:=by simpa using h4
    omega
   have e0:decide ((i:ay)>0)=true:=aE (by omega);have mE:i-1<r.length:=by omega
   simp only[l4,r4,Lib.dJ,hi,mE,aT,Lib.c9,aL,aw,az,Lib.eK,th.v,mF,h1,h2,h3,h5,e0,Ct hz (by omega),a9,bO])
  (λm=>by simp only[l4,r4,Lib.dJ,bB,bn,az]) Lib.cR (c6 (by omega))
 refine key.trans ?_;cases (ej r.length).all (el r)<;>rfl
end eO

namespace nM
def p(s:Row)(k:aq)(i:aG):aU:=cu (aC (bJ (au s i 0))) (aC k)
theorem ok(d:Row)(n:aq)(hl:d.length<=4294967296):c d n=aj/\v d n=Lib.fi (p d n) d.length 0:=by
 refine out d n ?_;unfold vo b;refine wh (p d n) d.length (λm (i:aG)=>l2 Lib.cR (λ(_:Row) (_:aq) (y7 _ _:ay)=>ah y7) (λ(_:Row) (_:aq) (_ _ _:ay)=>ah (-1)) m d n 0 (d.length:ay) (i:ay)) ah (λm i hi hp=> ?_) (λm i hi hp=> ?_) (λm=> ?_) Lib.cR (c6 (by omega))
 ·unfold p at hp;simp only[l2,r2,Lib.dJ,Lib.c9,Lib.eK,hi,aT,aL,aw,Be.v,hp]
 ·unfold p at hp;simp only[l2,r2,Lib.dJ,Lib.c9,Lib.eK,hi,aT,aL,aw,Be.v,hp,az,Lib.dn hi (by omega:d.length<=9223372036854775807)]
 ·simp only[l2,r2,Lib.dJ,bB,bn,az]
end nM

namespace zg
def cn(y:ax CV):aU:=match y with|[.s _, .s _, .i .i64 _]=>aj|_=>ao
def cr(y:ax CV):ax CV:=[CV.s (bJ (y.getD 0 (.b ao))),CV.s (bJ (y.getD 1 (.b ao))),CV.i ar (bS (y.getD 2 (.b ao)))]
theorem EW{y:ax CV}(h:cn y=aj):cr y=y:=by
 unfold cn at h;split at h
 ·rfl
 ·cases h
theorem tE{y:ax CV}(h:cn y=aj):y.length=3:=by rw[<-EW h];rfl
def keep(d:aq)(y:ax CV):aU:= !List.beq (aC (bJ (y.getD 0 (.b ao)))) (aC d)
theorem mB(d:aq){s:Row}{i:aG}(h:i<s.length):(s.take (i+1)).filter (keep d)=(s.take i).filter (keep d)++(bif keep d s[i]then [s[i]]else []):=by rw[cj h,ik];cases hk:keep d s[i]<;>simp[hk]
theorem run(N:aG)(s0:Row)(d:aq)(hc:s0.all cn=aj)(hn:s0.length<=9223372036854775807)(K:aq->ay->ay->Row->aA R)(kr:Row->aA R)
  (hK:∀(j:aG) x,x.length=s0.length->j<=s0.length->K d j s0.length x=kr (x.take j)) (m j i:aG) (x:Row)
  (hi:j<i/\i<=s0.length/\x.length=s0.length/\(∀y∈x,y.length=3)/\x.take j=(s0.take i).filter (keep d)/\x.drop i=s0.drop i) (hm:s0.length-i<m):
  l5 N K m d j i x=kr (s0.filter (keep d)):=by
 have Y0:∀y∈s0,cn y=true:=bf.1 hc
 refine Lib.iL (λm (s:aG×aG×Row)=>l5 N K m d s.1 s.2.1 s.2.2) (λs=>s0.length-s.2.1)
  (λs=>s.1<s.2.1/\s.2.1<=s0.length/\s.2.2.length=s0.length/\(∀y∈s.2.2,y.length=3)/\s.2.2.take s.1=(s0.take s.2.1).filter (keep d)/\s.2.2.drop s.2.1=s0.drop s.2.1)
  (λ_=>kr (s0.filter (keep d))) (λm s hs=> ?_) m (j,i,x) hi hm
 obtain⟨j,i,x⟩:=s;obtain⟨h1,h2,h3,h4,h5,h6⟩:=hs;simp only at h1 h2 h3 h4 h5 h6⊢;by_cases g6:i<s0.length
 ·right;have yK:i<x.length:=by omega
  have SI:j<x.length:=by omega
  have hx:x[i]=s0[i]:=by have e1:=Lib.gK yK;have e2:=Lib.gK g6;rw[h6,e2]at e1;exact(qt e1).1.symm
  have hd:x.drop (i+1)=s0.drop (i+1):=by have e1:=Lib.gK yK;have e2:=Lib.gK g6;rw[h6,e2]at e1;exact(qt e1).2.symm
  have Y4:=Y0 _ (bH g6);have hf:=mB d g6;cases hk:keep d s0[i]with
  |true=>
   refine⟨(j+1,i+1,x.set j s0[i]), ?_,by simp only;omega,trivial, ?_⟩
   ·rw[hk,aw,<-h5]at hf;refine⟨by simp only;omega,by simp only;omega,by simpa using h3, ?_, ?_, ?_⟩
    ·intro y hy;rcases iD hy with h|h
     ·exact h4 y h
     ·rw[h];exact tE Y4
    ·rw[hf];rw[cj (by simpa using SI)];simp[IP]
    ·simp only;rw[IL (by omega)];exact hd
   ·have e:Be.v (bJ (au x i 0)) (bJ (au x i 1)) (bS (au x i (1+1))) d=false:=by
     have:(!Be.v (bJ (au x i 0)) (bJ (au x i 1)) (bS (au x i (1+1))) d)=true:=by rw[Lib.de yK,hx];exact hk
     simpa using this
    have es:eN x j 0 [CV.s (bJ (au x i 0)),CV.s (bJ (au x i 1)),CV.i ar (bS (au x i (1+1)))]=x.set j s0[i]:=by
     have hl:=h4 _ (bH SI);rw[Lib.J7 SI,Lib.de yK,Lib.de yK,Lib.de yK,hx];have:iB x[j] 0 (cr s0[i])=s0[i]:=by rw[EW Y4];unfold iB;have:=tE Y4;simp[hl,this,lJ]
     unfold cr at this;rw[this]
    have b1:(j:ay)<(x.length:ay):=by omega
    simp only[l5,r5,Lib.dJ,Lib.c9,Lib.eK,yK,SI,aT,bK,aw,e,bO,es,Lib.dn g6 hn,Lib.dn (show j<s0.length by omega) hn]
  |false=>
   refine⟨(j,i+1,x), ?_,by simp only;omega,trivial, ?_⟩
   ·rw[hk,az,dv,<-h5]at hf;exact⟨by simp only;omega,by simp only;omega,h3,h4,hf.symm,hd⟩
   ·have e:Be.v (bJ (au x i 0)) (bJ (au x i 1)) (bS (au x i (1+1))) d=true:=by
     have:(!Be.v (bJ (au x i 0)) (bJ (au x i 1)) (bS (au x i (1+1))) d)=false:=by rw[Lib.de yK,hx];exact hk
     simpa using this
    simp only[l5,r5,Lib.dJ,Lib.c9,Lib.eK,yK,aT,bK,aw,e,a9,az,Lib.dn g6 hn]
 ·left;have:i=s0.length:=by omega
  subst this;rw[d_]at h5;have e:=hK j x h3 (by omega);rw[h5]at e;have yK:¬s0.length<x.length:=by omega
  simp only[l5,r5,Lib.dJ,yK,bn,az,e]
theorem ok(s0:Row)(nQ:aq)(hc:s0.all cn=aj)(hn:s0.length<=4294967296):c s0 nQ=aj/\v s0 nQ=s0.filter (keep nQ):=by
 refine out s0 nQ ?_;have hv:=nM.ok s0 nQ hn;unfold vo b;rw[hv.1,hv.2,aw];rcases Lib.wi (nM.p s0 nQ) s0.length 0 with ⟨h,l_⟩|⟨k,_,wW,hk,Zb,YZ⟩
 ·rw[h];have:s0.filter (keep nQ)=s0:=by rw[fX];intro y hy;obtain⟨i,hi,rfl⟩:=di hy;have:=l_ i (bC _) (by omega);unfold nM.p at this;rw[Lib.de hi]at this;unfold keep;rw[this];rfl
  rw[this];rfl
 ·rw[hk];have Vv:k<s0.length:=by omega
  have g_:decide ((k:ay)=Int.neg 1)=false:=aK (by show¬(k:ay)= -1;omega);rw[g_,az,Lib.dn Vv (by omega)];have Y0:∀y∈s0,cn y=true:=bf.1 hc;refine run _ s0 nQ hc (by omega) _ ah (λj x hx hj=> ?_) _ k (k+1) s0 ⟨by omega,by omega,rfl,λy hy=>tE (Y0 y hy), ?_,rfl⟩ (c6 (by omega))
  ·have b1:gU (j:ay) (s0.length:ay) (s0.length:ay)=true:=by simp[gU];omega
   have e:mP j x++aR [Ck.s,Ck.s,Ck.i ar] (s0.length-j)++za s0.length x=mP j x++aR [Ck.s,Ck.s,Ck.i ar] (s0.length-j):=by rw[lJ (by omega),dv]
   have hl:(mP j x).length=j:=by simp;omega
   simp only[hx,Lib.eK,b1,aw,e];rw[Lib.zp (by simp[gU];omega)];unfold dR;rw[show aY 0=0 from rfl,eB,Eh,AJ (by omega),gb (by omega)]
  ·rw[mB nQ Vv];have e1:keep nQ s0[k]=false:=by unfold nM.p at Zb;rw[Lib.de Vv]at Zb;unfold keep;rw[Zb];rfl
   have e2:(s0.take k).filter (keep nQ)=s0.take k:=by
    rw[fX];intro y hy;obtain⟨i,hi,rfl⟩:=di hy;have hik:i<k:=by simp at hi;omega
    have:=YZ i (bC _) hik;unfold nM.p at this;rw[Lib.de (by omega)]at this;rw[o8];unfold keep;rw[this];rfl
   rw[e1,e2,az,dv]
end zg

namespace dp
open _root_.Go.FG.Lib (rd el Fi)
def Q9(l:ax Fi):Prop:=l.Pairwise λx y=>fH.ew x.n y.n=aj
def without(l:ax Fi)(n:aq):ax Fi:=l.filter λx=> !decide (x.n=n)
def put(l:ax Fi)(f:Fi):ax Fi:=l.filter (λx=>fH.ew x.n f.n)++[f]++l.filter (λx=> !(fH.ew x.n f.n||decide (x.n=f.n)))
def oU(f:Fi):aU:=decide (1<=(f.n.size:ay)/\(f.n.size:ay)<=8)&&(!decide ((f.t.size:ay)>20000)&&decide (0<=f.kp/\f.kp<=(f.t.size:ay)))
def rB(l:ax Fi):aU:=eO.val (rd l)
theorem irrefl(x:aq):fH.ew x x=false:=eT.nz _
theorem jl{l:ax Fi}:rB l=aj↔l.length<=30/\(∀f∈l,oU f=aj)/\Q9 l:=by
 unfold rB eO.val;rw[aJ,aZ,bf,eh];have e:∀i (h:i<l.length),eO.el (rd l) i=(oU l[i]&&(i==0||fH.ew (l.getD (i-1) default).n l[i].n)):=λi h=>by
  unfold eO.el oU fH.ew;rw[H7 h,Ww h,show au (rd l) i 2=CV.i ar l[i].kp from Wx h,H7 (show i-1<l.length by omega)];have h5:l.getD (i-1) default=l[i-1]:=by simp[e6,show i-1<l.length by omega]
  rw[h5];simp only[bJ,bS,Bool.and_assoc];rfl
 constructor
 ·rintro ⟨h1,h2⟩;have h3:∀i (h:i<l.length),oU l[i]=aj/\(i=0\/fH.ew (l.getD (i-1) default).n l[i].n=aj):=λi h=>by have:=h2 i (by simpa using h);rw[e i h,aJ,dq]at this;exact⟨this.1,this.2.imp (λq=>by simpa using q) id⟩
  refine⟨h1,λf hf=> ?_, ?_⟩
  ·obtain⟨i,hi,rfl⟩:=di hf;exact(h3 i hi).1
  ·have adj:∀d i (hi:i+d+1<l.length),fH.ew l[i].n l[i+d+1].n=true:=by
    intro d;induction d with
    |zero=>
     intro i hi;rcases(h3 (i+1) (by omega)).2 with q|q
     ·omega
     ·simpa [e6,show i<l.length by omega]using q
    |succ d ih=>
     intro i hi;have a:=ih i (by omega);rcases(h3 (i+d+1+1) (by omega)).2 with q|q
     ·omega
     ·have q:fH.ew l[i+d+1].n l[i+d+1+1].n=true:=by simpa [e6,show i+d+1<l.length by omega]using q
      exact eT.nO _ _ _ a q
   unfold Q9;rw[da];intro i j hi hj Le;have:=adj (j-i-1) i (by omega);simpa only[show i+(j-i-1)+1=j by omega]using this
 ·rintro ⟨h1,h2,h3⟩;refine⟨h1,λi hi=> ?_⟩
  have hi:i<l.length:=by simpa using hi
  rw[e i hi,h2 _ (bH hi),bK,dq];by_cases hz:i=0
  ·left;simpa using hz
  ·right;have:=da.1 h3 (i-1) i (by omega) hi (by omega);simpa [e6,show i-1<l.length by omega]using this
theorem abZ(l:ax Fi):(rd l).all zg.cn=true:=by rw[bf];intro y hy;unfold Lib.rd at hy;obtain⟨z,_,rfl⟩:=cD.1 hy;rfl
theorem afj(l:ax Fi)(n:aq):(rd l).filter (zg.keep n)=rd (without l n):=by unfold Lib.rd without;rw[qL];congr 1;apply jv;intro x _;show(!List.beq (aC x.n) (aC n))=_;rw[Lib.fP]
theorem Is(l:ax Fi)(n:aq):(without l n).length<=l.length:=dM ..
theorem Xq{l:ax Fi}(h:Q9 l)(n:aq):Q9 (without l n):=yr _ h
theorem qh{l:ax Fi}(f:Fi):(put l f).length<=l.length+1:=by
 unfold put;have:∀r:ax Fi,(r.filter λx=>fH.ew x.n f.n).length+(r.filter λx=> !(fH.ew x.n f.n||decide (x.n=f.n))).length<=r.length:=by
  intro r;induction r with
  |nil=>exact bR _
  |cons y r ih=>
   cases h1:fH.ew y.n f.n with
   |true=>rw[db (by simpa using h1),bX (by simp[h1])];simp only[bU];omega
   |false=>
    rw[bX (by simp[h1])];by_cases h2:y.n=f.n
    ·rw[bX (by simp[h2])];simp only[bU];omega
    ·rw[db (by simp[h1,h2])];simp only[bU];omega
 have:=this l;simp only[bW,bu];omega
theorem oE{l:ax Fi}{x f:Fi}:x∈put l f↔x=f\/(x∈l/\x.n≠f.n):=by
 unfold put;simp only[aX,cJ,aW,dA,gD,eV];constructor
 ·rintro ((⟨h1,h2⟩|rfl)|⟨h1,h2⟩)
  ·refine .inr ⟨h1,λe2=> ?_⟩;rw[e2,irrefl]at h2;cases h2
  ·exact .inl rfl
  ·exact .inr ⟨h1,h2.2⟩
 ·rintro (rfl|⟨h1,h2⟩)
  ·exact .inl (.inr rfl)
  ·cases hl:fH.ew x.n f.n with
   |true=>exact .inl (.inl ⟨h1,rfl⟩)
   |false=>exact .inr ⟨h1,rfl,h2⟩
def DL(l:ax Fi)(k:ay)(n t o:aq):aA (ax Fi):=
 match l.find? λx=>decide (x.n=n)with
 |some f=>
  if k=1 then ah (put l ⟨f.n,f.t++t,f.kp⟩)
  else if k=2 then ah (put l ⟨f.n,f.t,f.t.size⟩)
  else if k=3 then(if f.kp≠f.t.size\/o=n then ai else ah (put (without l n) ⟨o,f.t,f.kp⟩))
  else ah (without l n)
 |none=>if k=1 then ah (put l ⟨n,t,0⟩)else ai
def jd(k:ay)(t o:aq):aU:=decide (1<=k/\k<=4)&&((decide (t=⟨#[]⟩)||decide (k=1))&&(decide (o=⟨#[]⟩)||decide (k=3)))
def act(l:ax Fi)(k:ay)(n t o:aq):aA (ax Fi):=
 bif rB l&&jd k t o then(match DL l k n t o with|some d=>bif rB d then ah d else ai|none=>ai)else ai
structure Ac where
 k:ay
 n:aq
 t:aq
 o:aq
 deriving DecidableEq
instance:Inhabited Ac:=⟨⟨0,⟨#[]⟩,⟨#[]⟩,⟨#[]⟩⟩⟩
def Ac.row(e:Ac):ax CV:=[CV.i ar e.k,CV.s e.n,CV.s e.t,CV.s e.o]
def ra(l:ax Ac):Row:=l.map Ac.row
theorem DU(l):(ra l).length=l.length:=by unfold ra;simp
theorem wa0{l:ax Ac}{i:aG}(h:i<l.length):au (ra l) i 0=CV.i ar (el l i).k:=fQ _ l i 0 h
theorem wa1{l:ax Ac}{i:aG}(h:i<l.length):au (ra l) i 1=CV.s (el l i).n:=fQ _ l i 1 h
theorem wa2{l:ax Ac}{i:aG}(h:i<l.length):au (ra l) i (1+1)=CV.s (el l i).t:=fQ _ l i 2 h
theorem wa3{l:ax Ac}{i:aG}(h:i<l.length):au (ra l) i (1+1+1)=CV.s (el l i).o:=fQ _ l i 3 h
def lL:ax Fi->aG->ax Ac->ax Fi×aG
 |l,i,[]=>(l,i)
 |l,i,a::r=>match act l a.k a.n a.t a.o with|some d=>lL d (i+1) r|none=>(l,i)
theorem I9{l d:ax Fi}{k:ay}{n t o:aq}(h:act l k n t o=ah d):rB d=aj/\d.length<=30:=by
 unfold act at h;cases hb:rB l&&jd k t o with
 |false=>rw[hb]at h;cases h
 |true=>
  rw[hb,aw]at h;split at h
  ·rename_i e _;cases ho:rB e with
   |false=>rw[ho]at h;cases h
   |true=>rw[ho]at h;obtain rfl:=aD h;exact⟨ho,(jl.1 ho).1⟩
  ·cases h
end dp

namespace oj
theorem size(x:ay):(v x).size=4:=by unfold v;rw[Lib.gM];simp only[dt,Lib.lB]
end oj

namespace iP
def rd(x:ay):ay:=bif decide (bZ x 2=1)then(bj dO (↑(ed (kJ (cq 32 (bj dO (cO x 2))) (cq 32 3558460437))):ay))else(bj dO (cO x 2))
def mn:aG->ay->ay|0,x=>x|n+1,x=>mn n (rd x)
theorem in6(N:aG)(K:ay->aq->ay->ay->aA R)(a:aq)(b:ay):∀(d n i:aG) (x:ay),d+i=8->d<n->l6 N K n x a b (i:ay)=K (mn d x) a b 8:=by
 intro d;induction d with
 |zero=>
  intro n i x h1 h2;obtain⟨n,rfl⟩:∃m,n=m+1:=⟨n-1,by omega⟩
  have:i=8:=by omega
  subst this;rfl
 |succ d ih=>
  intro n i x h1 h2;obtain⟨n,rfl⟩:∃m,n=m+1:=⟨n-1,by omega⟩
  have m8:bN ((i:ay)+1)=((i+1:aG):ay):=dj (by omega) (by omega);rw[mn,<-ih n (i+1) (rd x) (by omega) (by omega)];simp only[l6,r6,aE (show(i:ay)<8 by omega),aw,m8,rd];cases decide (bZ x 2=1)<;>rfl
def su(t:aq):aG->aG->ay->ay
 |0,_,s=>s
 |d+1,i,s=>su t d (i+1) (mn 8 (bj dO (↑(ed (kJ (cq 32 s) (cq 32 (bj dO (↑(fK t i):ay))))):ay)))
theorem run(s:ay)(t:aq)(ht:t.size<=4611686018427387904):vo s t=ah (su t t.size 0 s):=by
 unfold vo b;have key:∀(d n i:aG) (s:ay),d+i=t.size->d<n->l2 Lib.cR (λ(rO:ay) (_:aq) (_:ay)=>ah rO) n s t (i:ay)=ah (su t d i s):=by
  intro d;induction d with
  |zero=>
   intro n i s h1 h2;obtain⟨n,rfl⟩:∃m,n=m+1:=⟨n-1,by omega⟩
   simp only[l2,r2,Lib.dJ,aK (show¬i<t.size by omega),az];rfl
  |succ d ih=>
   intro n i s h1 h2;obtain⟨n,rfl⟩:∃m,n=m+1:=⟨n-1,by omega⟩
   have m8:bN ((i:ay)+1)=((i+1:aG):ay):=dj (by omega) (by omega);simp only[l2,r2,Lib.dJ,aE (show i<t.size by omega),Lib.c9,aL,aw,Lib.eK];have e:=in6 (R:=ay) Lib.cR (λy7 y8 y9 _=>l2 Lib.cR (λrO _ _=>ah rO) n y7 y8 (bN (y9+1))) t (i:ay) 8 Lib.cR 0 (bj dO (↑(ed (kJ (cq 32 s) (cq 32 (bj dO (↑(fK t i):ay))))):ay)) rfl (by unfold Lib.cR;omega);refine e.trans ?_;rw[m8,ih n (i+1) _ (by omega) (by omega)];rfl
 exact key t.size Lib.cR 0 s (by omega) (c6 (by omega))
theorem ok(s:ay)(t:aq)(ht:t.size<=4611686018427387904):c s t=aj/\v s t=su t t.size 0 s:=out s t (run s t ht)
end iP

namespace tf
theorem ok(t:aq)(ht:t.size<=4611686018427387904):c t=aj/\v t=iP.su t t.size 0 4294967295:=by have h:=iP.ok 4294967295 t ht;refine out t ?_;unfold vo b;rw[h.1,h.2];rfl
end tf

namespace e_
def fr(t:aq):aq:=bytesOf (Lib.vb t.size)++oj.v (iP.su t t.size 0 4294967295)++t
def val(t:aq):aq×aU:=if 1<=t.size/\t.size<=9000 then(fr t,aj)else(⟨#[]⟩,ao)
theorem gL(n a b:ay):jN.v n a b=decide (a<=n/\n<=b):=by unfold jN.v;by_cases h:a<=n<;>by_cases h2:n<=b<;>simp[h,h2]
theorem SA{t:aq}(h:t.size<=9000):(fr t).size<=t.size+68:=by unfold fr;have:=Lib.mI (x:=(t.size:ay)) (by omega);rw[Lib.dX,Lib.dX,oj.size];omega
theorem ok(t:aq):c t=aj/\v t=val t:=by
 refine out t ?_;unfold vo b val;rw[gL];by_cases h:1<=t.size/\t.size<=9000
 ·have hs:=tf.ok t (by omega);have hc:jt.c (t.size:ay)=true:=aE (show(t.size:ay)<=9223372036854775807 by omega);have z1:(jt.v (t.size:ay)).size<=64:=Lib.mI (x:=(t.size:ay)) (by omega);rw[aE (show(1:ay)<=(t.size:ay)/\(t.size:ay)<=9000 by omega),ba h,hs.1,hs.2];simp(disch:=omega) only[a9,az,aw,hc,Lib.dX,oj.size,Lib.ab7];rfl
 ·rw[aK (show¬((1:ay)<=(t.size:ay)/\(t.size:ay)<=9000)by omega),a_ h];rfl
end e_

namespace jc
theorem head{t:aq}{p:aG}{b:eE}{r:ax eE}(h:t.data.toList.drop p=b::r):p<t.size/\fK t p=b.toNat/\t.data.toList.drop (p+1)=r:=by
 have hl:=je bI h;rw[il,bU]at hl;have hs:t.data.toList.length=t.size:=rfl;have hp:p<t.data.toList.length:=by omega
 have hd:=cQ hp;rw[hd]at h;injection h with h1 h2;refine⟨by omega, ?_,h2⟩
 unfold fK;have mE:p<t.data.size:=hp;rw[show t.data.getD p 0=t.data[p]by unfold Array.getD;rw[dif_pos mE];rfl];rw[<-h1];rfl
theorem zt(x:ay)(r:Row):(bytesOf ([CV.i a6 x]::r)).data.toList=ak x.toNat::(bytesOf r).data.toList:=rfl
theorem Qa(t:aq)(a:aG)(rest:ax eE):∀(f j:aG) (n y:ay),0<=y->0<=n->n+y*128^j<=1000000000->y<=1000000000->(j>0->0<y)->t.data.toList.drop (a+j)=(bytesOf (Lib.vb y)).data.toList++rest->(Lib.vb y).length<=f->
  Lib.rv t a f j n=(n+y*128^j,((a+j+(Lib.vb y).length:aG):ay),aj)/\t.data.toList.drop (a+j+(Lib.vb y).length)=rest
 |0,j,n,y,h0,hn,hb,hy,hj,hd,hf=>by
  by_cases hc:y>127
  ·rw[Lib.tP hc]at hf;simp at hf
  ·rw[Lib.lG hc]at hf;simp at hf
 |f+1,j,n,y,h0,hn,hb,hy,hj,hd,hf=>by
  by_cases hc:y>127
  ·have e1:bZ y 128=y%128:=iJ (by omega);have e2:cO y 128=y/128:=dB (by omega);have e3:bN (y%128+128)=y%128+128:=dj (by omega) (by omega);have e4:bj a6 (y%128+128)=y%128+128:=by show(y%128+128)%256=_;omega
   have e5:bN (y/128)=y/128:=dj (by omega) (by omega);have ev:Lib.vb y=[CV.i a6 (y%128+128)]::Lib.vb (y/128):=by rw[Lib.tP hc,e1,e2,e3,e4,e5]
   rw[ev,zt,mO]at hd;obtain⟨q1,q2,q3⟩:=head hd;have q4:(fK t (a+j):ay)=y%128+128:=by rw[q2,tU];omega
   rw[ev,bU]at hf;have hP:y*128^j=y%128*128^j+y/128*128^(j+1):=by
    have hyd:y=y%128+128*(y/128):=by omega
    rw[sw];generalize (128:ay)^j=P;conv=>lhs;rw[hyd]
    rw[Int.add_mul,Int.mul_comm P 128,<-Int.mul_assoc,Int.mul_comm (y/128) 128]
   have hpp:(0:ay)<=y%128*128^j:=Int.mul_nonneg (by omega) (Int.le_of_lt (Int.pow_pos (by omega)));obtain⟨i1,i2⟩:=Qa t a rest f (j+1) (n+y%128*128^j) (y/128) (by omega) (by omega) (by omega) (by omega) (by omega) (by rw[show a+(j+1)=a+j+1 by omega];exact q3) (by omega);refine⟨?_, ?_⟩
   ·unfold Lib.rv;rw[ba q1,q4,ba (by omega),show(y%128+128)%128=y%128 by omega,i1,hP,ev,bU];refine Prod.ext ?_ (Prod.ext ?_ rfl)
    ·dsimp only;omega
    ·dsimp only;omega
   ·rw[ev,bU,show a+j+((Lib.vb (y/128)).length+1)=a+(j+1)+(Lib.vb (y/128)).length by omega];exact i2
  ·have e4:bj a6 y=y:=by show y%256=_;omega
   have ev:Lib.vb y=[[CV.i a6 y]]:=by rw[Lib.lG hc,e4]
   rw[ev,zt,mO]at hd;obtain⟨q1,q2,q3⟩:=head hd;have q4:(fK t (a+j):ay)=y:=by rw[q2,tU];omega
   refine⟨?_,by rw[ev];exact q3⟩
   unfold Lib.rv;rw[ba q1,q4,a_ hc,show y%128=y by omega,a_ (by omega),ev];rfl
theorem vb5{y:ay}(h:y<=1000000000):(Lib.vb y).length<=5:=by
 have e:(128:ay)^(4+1)=34359738368:=by decide
 exact Lib.yV 4 y (by rw[e];omega)
theorem kX(t:aq)(p:aG)(y:ay)(rest:ax eE)(h0:0<=y)(h1:y<=1000000000)(hd:t.data.toList.drop p=(bytesOf (Lib.vb y)).data.toList++rest):Lib.dV t p=(y,((p+(Lib.vb y).length:aG):ay),aj)/\t.data.toList.drop (p+(Lib.vb y).length)=rest:=by
 have hl:=je bI hd;have g_:0<(Lib.vb y).length:=by
  by_cases hc:y>127
  ·rw[Lib.tP hc];simp
  ·rw[Lib.lG hc];simp
 have hb:(bytesOf (Lib.vb y)).data.toList.length=(Lib.vb y).length:=Lib.gM _;rw[il,bW,hb]at hl;have hs:t.data.toList.length=t.size:=rfl;obtain⟨i1,i2⟩:=Qa t p rest 5 0 0 y h0 (by omega) (by simp;omega) h1 (by omega) (by simpa using hd) (vb5 h1);refine⟨?_,by simpa using i2⟩
 unfold Lib.dV;rw[ba (by omega),show((p:aG):ay).toNat=p from rfl,i1];simp
theorem Hk(t k:aq)(p:aG)(rest:ax eE)(hd:t.data.toList.drop p=k.data.toList++rest):t.extract p (p+k.size)=k:=by apply Lib.qW;simp only[fu,gk,eS];rw[hd,show p+k.size-p=k.data.toList.length by show p+k.size-p=k.size;omega,List.take_left]
theorem enc(k:aq)(s l:ay)(b:aq)(h:ie.v k s l b=aj):v (jb.qN k s l b)=(k,s,l,b,aj):=by
 obtain⟨⟨k1,k2⟩,⟨s1,s2⟩,⟨l1,l2⟩,b1⟩:=ie.DX h;generalize ht:jb.qN k s l b=t;have hT:t.data.toList=(bytesOf (Lib.vb k.size)).data.toList++(k.data.toList++((bytesOf (Lib.vb s)).data.toList++((bytesOf (Lib.vb l)).data.toList++b.data.toList))):=by rw[<-ht];unfold jb.qN;simp only[eH,kC,bY]
 have hs:t.data.toList.length=t.size:=rfl;have hk:k.data.toList.length=k.size:=rfl;obtain⟨a1,a2⟩:=kX t 0 (k.size:ay) _ (by omega) (by omega) (by rw[eB];exact hT);rw[bG]at a1 a2;generalize (Lib.vb (k.size:ay)).length=n1 at a1 a2;have ami:=je bI a2;simp only[il,bW,hk,hs]at ami;have ek:=Hk t k n1 _ a2;have a3:t.data.toList.drop (n1+k.size)=(bytesOf (Lib.vb s)).data.toList++((bytesOf (Lib.vb l)).data.toList++b.data.toList):=by rw[<-s7,a2];exact List.drop_left' (by rw[hk])
 obtain⟨b1',b2⟩:=kX t (n1+k.size) s _ (by omega) (by omega) a3;obtain⟨c1,c2⟩:=kX t (n1+k.size+(Lib.vb s).length) l _ (by omega) (by omega) b2;have hr:Lib.gT t 0=(k,((n1+k.size:aG):ay),aj):=by unfold Lib.gT;rw[show(0:ay)=((0:aG):ay)from rfl,a1];dsimp only;rw[ba (by omega)];rw[show((n1:aG):ay).toNat=n1 from rfl,show((n1:ay)+(k.size:ay)).toNat=n1+k.size by omega,ek];rfl
 have eb:t.extract (n1+k.size+(Lib.vb s).length+(Lib.vb l).length) t.size=b:=by
  have hl2:=je bI c2;rw[il,hs]at hl2;have hbs:b.data.toList.length=b.size:=rfl;by_cases hz:b.size=0
  ·apply Lib.qW;simp only[fu,gk,eS];rw[c2];exact gb (by omega)
  ·apply Lib.qW;simp only[fu,gk,eS];rw[c2];exact gb (by omega)
 unfold v;rw[hr];dsimp only;rw[b1'];dsimp only;rw[c1];dsimp only;rw[show((n1+k.size+(Lib.vb s).length+(Lib.vb l).length:aG):ay).toNat=n1+k.size+(Lib.vb s).length+(Lib.vb l).length from rfl,eb,ba h]
end jc

namespace Bd
theorem in6(N:aG)(K:ay->aq->ay->ay->aA R)(a:aq)(b:ay):∀(d n i:aG) (x:ay),d+i=8->d<n->l6 N K n x a b (i:ay)=K (iP.mn d x) a b 8:=by
 intro d;induction d with
 |zero=>
  intro n i x h1 h2;obtain⟨n,rfl⟩:∃m,n=m+1:=⟨n-1,by omega⟩
  have:i=8:=by omega
  subst this;rfl
 |succ d ih=>
  intro n i x h1 h2;obtain⟨n,rfl⟩:∃m,n=m+1:=⟨n-1,by omega⟩
  have m8:bN ((i:ay)+1)=((i+1:aG):ay):=dj (by omega) (by omega);rw[iP.mn,<-ih n (i+1) (iP.rd x) (by omega) (by omega)];simp only[l6,r6,aE (show(i:ay)<8 by omega),aw,m8,iP.rd];cases decide (bZ x 2=1)<;>rfl
theorem run(s:ay)(t:aq)(ht:t.size<=4611686018427387904):vo s t=ah (iP.su t t.size 0 s):=by
 unfold vo b;have key:∀(d n i:aG) (s:ay),d+i=t.size->d<n->l2 Lib.cR (λ(rO:ay) (_:aq) (_:ay)=>ah rO) n s t (i:ay)=ah (iP.su t d i s):=by
  intro d;induction d with
  |zero=>
   intro n i s h1 h2;obtain⟨n,rfl⟩:∃m,n=m+1:=⟨n-1,by omega⟩
   simp only[l2,r2,Lib.dJ,aK (show¬i<t.size by omega),az];rfl
  |succ d ih=>
   intro n i s h1 h2;obtain⟨n,rfl⟩:∃m,n=m+1:=⟨n-1,by omega⟩
   have m8:bN ((i:ay)+1)=((i+1:aG):ay):=dj (by omega) (by omega);simp only[l2,r2,Lib.dJ,aE (show i<t.size by omega),Lib.c9,aL,aw,Lib.eK];have e:=in6 (R:=ay) Lib.cR (λy7 y8 y9 _=>l2 Lib.cR (λrO _ _=>ah rO) n y7 y8 (bN (y9+1))) t (i:ay) 8 Lib.cR 0 (bj dO (↑(ed (kJ (cq 32 s) (cq 32 (bj dO (↑(fK t i):ay))))):ay)) rfl (by unfold Lib.cR;omega);refine e.trans ?_;rw[m8,ih n (i+1) _ (by omega) (by omega)];rfl
 exact key t.size Lib.cR 0 s (by omega) (c6 (by omega))
theorem ok(s:ay)(t:aq)(ht:t.size<=4611686018427387904):c s t=aj/\v s t=iP.su t t.size 0 s:=out s t (run s t ht)
end Bd

namespace ze
theorem ok(t:aq)(ht:t.size<=4611686018427387904):c t=aj/\v t=iP.su t t.size 0 4294967295:=by have h:=Bd.ok 4294967295 t ht;refine out t ?_;unfold vo b;rw[h.1,h.2];rfl
end ze

namespace v9
theorem ok(t:aq)(ht:t.size<=4611686018427387904):c t=aj/\v t=oj.v (iP.su t t.size 0 4294967295):=by have h:=ze.ok t ht;refine out t ?_;unfold vo b;rw[h.1,h.2];rfl
end v9

namespace qI
theorem cut(a s s' b:aq):cu (aC (a++s++b)) (aC (a++s'++b))=cu (aC s) (aC s'):=by
 rw[Lib.fP,Lib.fP,c_];constructor
 ·intro h;have h2:=je (λx:aq=>x.data.toList) h;simp only[eH,kC,bY]at h2;have h3:=List.append_cancel_right (List.append_cancel_left h2);exact Lib.qW h3
 ·intro h;rw[h]
theorem kZ(n a b:ay):qu.v n a b=decide (a<=n/\n<=b):=e_.gL n a b
theorem both(t:aq)(ht:t.size<=20000):∀(d:aG) (gz:aG) (acc:Row) (n m:aG) (z:ay),t.size-gz<=d->gz<=t.size->acc.length<=gz->d<n->d<m->
  ∃R:Row×ay,U152.l3 Lib.cR (λ(_:aq) (y4:ay) (y5:Row)=>ah (y5,y4)) n t (gz:ay) acc=ah R/\l5 Lib.cR (λ(_:aq) (y5 _:ay) (y7:Row)=>ah (y7,y5)) (λ(_:aq) (_ Kz:ay) (rO:Row)=>ah (rO,Kz)) m t z (gz:ay) acc=ah R/\R.1.length<=20000:=by
 intro d;induction d with
 |zero=>
  intro gz acc n m z h1 h2 h3 h4 h5;obtain⟨n,rfl⟩:∃n',n=n'+1:=⟨n-1,by omega⟩
  obtain⟨m,rfl⟩:∃m',m=m'+1:=⟨m-1,by omega⟩
  have jj:decide ((gz:ay)<(t.size:ay))=false:=aK (by omega);have hr:(Lib.dV t (gz:ay)).2.2=false:=by
   cases h:Lib.dV t (gz:ay)with
   |mk a r=>
    obtain⟨x,o⟩:=r;cases o with
    |false=>rfl
    |true=>have:=Lib.jG h;omega
  have e1:∀a b,fJ.v a b=Lib.dV a b:=λ_ _=>rfl;refine⟨(acc,(gz:ay)), ?_, ?_,by dsimp only;omega⟩
  ·simp only[U152.l3,U152.r3,e1,hr,aE (show(t.size:ay)<=20000 by omega),aw,bO]
  ·simp only[l5,r5,jj,az]
 |succ d ih=>
  intro gz acc n m z h1 h2 h3 h4 h5;obtain⟨n,rfl⟩:∃n',n=n'+1:=⟨n-1,by omega⟩
  obtain⟨m,rfl⟩:∃m',m=m'+1:=⟨m-1,by omega⟩
  have e1:∀a b,fJ.v a b=Lib.dV a b:=λ_ _=>rfl;have e2:∀a b,eP.v a b=Lib.dV a b:=λ_ _=>rfl;have hsz:decide ((t.size:ay)<=20000)=true:=aE (by omega);cases hr:Lib.dV t (gz:ay)with
  |mk N r=>
   obtain⟨nx,o⟩:=r;cases o with
   |false=>
    refine⟨(acc,(gz:ay)), ?_, ?_,by dsimp only;omega⟩
    ·simp only[U152.l3,U152.r3,e1,hr,hsz,aw,bO]
    ·by_cases jj:(gz:ay)<(t.size:ay)
     ·simp only[l5,r5,e2,hr,aE jj,aw,bO]
     ·simp only[l5,r5,aK jj,az]
   |true=>
    obtain⟨q1,q2,q3,q4,q5,q6⟩:=Lib.jG hr;have jj:decide ((gz:ay)<(t.size:ay))=true:=aE (by omega);have w1:bN (N+4)=N+4:=dj (by omega) (by omega);have w2:bN ((t.size:ay)-nx)=(t.size:ay)-nx:=dj (by omega) (by omega);have w3:bN ((t.size:ay)-nx-4)=(t.size:ay)-nx-4:=dj (by omega) (by omega);have w4:bN (nx+4)=nx+4:=dj (by omega) (by omega);have w5:bN (nx+4+N)=nx+4+N:=dj (by omega) (by omega);by_cases xU:N+4>(t.size:ay)-nx
    ·have hb2:N>(t.size:ay)-nx-4:=by omega
     refine⟨(acc,(gz:ay)), ?_, ?_,by dsimp only;omega⟩
     ·cases SX:decide (1<=N/\N<=9000)with
      |false=>simp only[U152.l3,U152.r3,e1,hr,hsz,kZ,SX,aw,az,a9,bO]
      |true=>simp only[U152.l3,U152.r3,e1,hr,hsz,kZ,SX,w1,w2,aE xU,aw,az,a9]
     ·simp only[l5,r5,e2,hr,jj,w2,w3,aE hb2,aw,az,a9]
    ·have hb2:¬N>(t.size:ay)-nx-4:=by omega
     have i1:gU (nx+4) (nx+4+N) (t.size:ay)=true:=by simp[gU];omega
     have i2:gU nx (nx+4) (t.size:ay)=true:=by simp[gU];omega
     have i3:gU (gz:ay) (nx+4+N) (t.size:ay)=true:=by simp[gU];omega
     have hts:(t.extract (nx+4).toNat (nx+4+N).toNat).size=N.toNat:=by rw[vn];omega
     generalize VD:t.extract (nx+4).toNat (nx+4+N).toNat=tx at hts;have f1:=e_.ok tx;have f2:=v9.ok tx (by omega);by_cases SX:1<=N/\N<=9000
     ·have hfv:e_.val tx=(e_.fr tx,aj):=by unfold e_.val;rw[ba (by omega)]
      have aka:((tx.size:aG):ay)=N:=by omega
      have Y7:e_.fr tx=t.extract gz nx.toNat++oj.v (iP.su tx tx.size 0 4294967295)++tx:=by unfold e_.fr;rw[aka,q6];rfl
      have hwh:t.extract gz (nx+4+N).toNat=t.extract gz nx.toNat++t.extract nx.toNat (nx+4).toNat++tx:=by rw[<-VD,Lib.uC t (by omega) (by omega),Lib.uC t (by omega) (by omega)]
      have SF:cu (aC (e_.fr tx)) (aC (t.extract gz (nx+4+N).toNat))=cu (aC (oj.v (iP.su tx tx.size 0 4294967295))) (aC (t.extract nx.toNat (nx+4).toNat)):=by rw[Y7,hwh];exact cut _ _ _ _
      have JA:cF (acc.length+1) 16=true:=Lib.cE (by omega) (by omega);cases hs:cu (aC (oj.v (iP.su tx tx.size 0 4294967295))) (aC (t.extract nx.toNat (nx+4).toNat))with
      |false=>
       rw[hs]at SF;refine⟨(acc,(gz:ay)), ?_, ?_,by dsimp only;omega⟩
       ·simp only[U152.l3,U152.r3,e1,hr,hsz,kZ,aE SX,w1,w2,w4,w5,aK xU,i1,i2,VD,f2.1,f2.2,hs,aw,az,a9,bO]
       ·simp only[l5,r5,e2,hr,jj,w2,w3,w4,w5,aK hb2,i1,i3,VD,f1.1,f1.2,hfv,dD,SF,aw,az,a9,bO]
      |true=>
       rw[hs]at SF;obtain⟨a2,ha2⟩:∃a2:aG,nx+4+N=(a2:ay):=⟨(nx+4+N).toNat,by omega⟩
       obtain⟨R,g1,g2,g3⟩:=ih a2 (acc++[[CV.s tx]]) n m z (by omega) (by omega) (by rw[bW,bu];omega) (by omega) (by omega);refine⟨R, ?_, ?_,g3⟩
       ·simp only[U152.l3,U152.r3,e1,hr,hsz,kZ,aE SX,w1,w2,w4,w5,aK xU,i1,i2,VD,f2.1,f2.2,hs,Lib.jE,bu,JA,aw,az,a9];rw[ha2];exact g1
       ·simp only[l5,r5,e2,hr,jj,w2,w3,w4,w5,aK hb2,i1,i3,VD,f1.1,f1.2,hfv,dD,SF,Lib.jE,bu,JA,aw,az,a9];rw[ha2];exact g2
     ·have hfv:e_.val tx=(⟨#[]⟩,ao):=by unfold e_.val;rw[a_ (by omega)]
      refine⟨(acc,(gz:ay)), ?_, ?_,by dsimp only;omega⟩
      ·simp only[U152.l3,U152.r3,e1,hr,hsz,kZ,aK SX,aw,az,a9,bO]
      ·simp only[l5,r5,e2,hr,jj,w2,w3,w4,w5,aK hb2,i1,VD,f1.1,f1.2,hfv,aw,az,a9,bO]
theorem same(t:aq):∃R:Row×ay,(c t=aj/\v t=R)/\(U152.c t=aj/\U152.v t=R)/\R.1.length<=20000:=by
 by_cases ht:t.size<=20000
 ·obtain⟨R,g1,g2,g3⟩:=both t ht t.size 0 [] Lib.cR Lib.cR 0 (by omega) (bC _) (bR _) (c6 (by omega)) (c6 (by omega));refine⟨R,out t ?_,U152.out t ?_,g3⟩
  ·unfold vo b;rw[aK (show¬(t.size:ay)>20000 by omega),az];exact g2
  ·unfold U152.vo U152.b;exact g1
 ·refine⟨([],0),out t ?_,U152.out t ?_,bC _⟩
  ·unfold vo b;rw[aE (show(t.size:ay)>20000 by omega)];rfl
  ·unfold U152.vo U152.b;have hb:Lib.cR=18446744073709551615+1:=rfl;have:∀n,U152.l3 Lib.cR (λ(_:aq) (y4:ay) (y5:Row)=>ah (y5,y4)) (n+1) t 0 (aR [Ck.s] 0)=ah ([],0):=by intro n;simp only[U152.l3,U152.r3,aK (show¬(t.size:ay)<=20000 by omega),az];rfl
   exact this 18446744073709551615
end qI

namespace Rx
def fs:ax aq->aq
 |[]=>⟨#[]⟩|x::r=>e_.fr x++fs r
theorem toL(a b:aq):(a++b).data.toList=a.data.toList++b.data.toList:=by simp[eH]
theorem Dt(x:aq):(e_.fr x).data.toList=(bytesOf (Lib.vb x.size)).data.toList++((oj.v (iP.su x x.size 0 4294967295)).data.toList++x.data.toList):=by unfold e_.fr;rw[toL,toL,bY]
theorem GK(x:aq):x.data.toList.length=x.size:=dm
def Stop(z:aq):Prop:=z=⟨#[]⟩\/∃(x:aq) (w:ax eE),x.size<=9000/\(e_.fr x).data.toList=z.data.toList++w/\w≠[]
theorem nB(n:ay):(oj.v n).size=4:=rfl
theorem vbl(n:ay):(bytesOf (Lib.vb n)).data.toList.length=(Lib.vb n).length:=by rw[GK,Lib.gM]
theorem stop{t z:aq}{p:aG}(hz:Stop z)(hp:p<=t.size)(hd:t.data.toList.drop p=z.data.toList){N nx:ay}(h:Lib.dV t p=(N,nx,aj)):N+4>(t.size:ay)-nx:=by
 obtain⟨q1,q2,q3,q4,q5,q6⟩:=Lib.jG h;have hl:t.size-p=z.size:=by have:=je bI hd;rw[il,GK,GK]at this;exact this
 rcases hz with rfl|⟨x,w,hx,hF,hw⟩
 ·have:(⟨#[]⟩:aq).size=0:=rfl;omega
 ·-- the file's next bytes are the number's
  have e1:(t.extract p nx.toNat).data.toList=z.data.toList.take (nx.toNat-p):=by rw[<-hd];simp[fu,gk,List.extract]
  rw[dD]at q6;have Lp:nx.toNat-p<=z.data.toList.length:=by rw[GK];omega
  have e2:(e_.fr x).data.toList.drop 0=(bytesOf (Lib.vb N)).data.toList++(z.data.toList.drop (nx.toNat-p)++w):=by rw[eB,hF,q6,e1,<-bY,List.take_append_drop]
  have e3:(e_.fr x).data.toList.drop 0=(bytesOf (Lib.vb x.size)).data.toList++((oj.v (iP.su x x.size 0 4294967295)).data.toList++x.data.toList):=by rw[eB,Dt]
  have r1:=(jc.kX _ 0 N _ q4 q5 e2).1;have r2:=(jc.kX _ 0 (x.size:ay) _ (by omega) (by omega) e3).1;rw[r1]at r2;obtain⟨hN,hq⟩:=bF r2;have hlen:(Lib.vb N).length=nx.toNat-p:=by have:=je bI (je (λy:aq=>y.data.toList) q6);simp only[vbl,e1,eg]at this;omega
  have hFl:=je bI hF;rw[Dt,bW,bW,bW,vbl,GK,GK,GK,nB]at hFl;have hw1:1<=w.length:=by cases w with|nil=>exact b_ rfl hw|cons=>simp
  subst hN;omega
theorem go(t:aq)(ht:t.size<=20000)(z:aq)(hz:Stop z):∀(es:ax aq),(∀x∈es,1<=x.size/\x.size<=9000)->∀(p n:aG) (acc:Row),p<=t.size->acc.length<=p->t.data.toList.drop p=(fs es++z).data.toList->t.size-p<n->
  U152.l3 Lib.cR (λ(_:aq) (y4:ay) (y5:Row)=>ah (y5,y4)) n t (p:ay) acc=ah (acc++Lib.rs es,((p+(fs es).size:aG):ay)):=by
 have e0:∀a b,fJ.v a b=Lib.dV a b:=λ_ _=>rfl;have hsz:decide ((t.size:ay)<=20000)=true:=aE (by omega);intro es;induction es with
 |nil=>
  intro hes p n acc hp ha hd hn;obtain⟨n,rfl⟩:∃n',n=n'+1:=⟨n-1,by omega⟩
  have hd:t.data.toList.drop p=z.data.toList:=by rw[hd];unfold fs;rw[toL];rfl
  have e1:acc++Lib.rs []=acc:=dv _;have e2:((p+(fs []).size:aG):ay)=(p:ay):=rfl;rw[e1,e2];cases hr:Lib.dV t (p:ay)with
  |mk N r=>
   obtain⟨nx,o⟩:=r;cases o with
   |false=>simp only[U152.l3,U152.r3,e0,hr,hsz,aw,bO]
   |true=>
    have hs:=stop hz hp hd hr;obtain⟨q1,q2,q3,q4,q5,q6⟩:=Lib.jG hr;have w1:bN (N+4)=N+4:=dj (by omega) (by omega);have w2:bN ((t.size:ay)-nx)=(t.size:ay)-nx:=dj (by omega) (by omega);cases SX:decide (1<=N/\N<=9000)with
    |false=>simp only[U152.l3,U152.r3,e0,hr,hsz,qI.kZ,SX,aw,az,a9,bO]
    |true=>simp only[U152.l3,U152.r3,e0,hr,hsz,qI.kZ,SX,w1,w2,aE hs,aw,az,a9]
 |cons x es ih=>
  intro hes p n acc hp ha hd hn;obtain⟨n,rfl⟩:∃n',n=n'+1:=⟨n-1,by omega⟩
  have hx:=hes x (by simp);have hd1:t.data.toList.drop p=(bytesOf (Lib.vb x.size)).data.toList++((oj.v (iP.su x x.size 0 4294967295)).data.toList++(x.data.toList++(fs es++z).data.toList)):=by rw[hd,show fs (x::es)=e_.fr x++fs es from rfl,toL,toL,Dt,toL];simp only[bY]
  obtain⟨hr,hd2⟩:=jc.kX t p (x.size:ay) _ (by omega) (by omega) hd1;have Ml:(e_.fr x).size=(Lib.vb x.size).length+4+x.size:=by rw[<-GK,Dt,bW,bW,vbl,GK,GK,nB];omega
  have hlen:=je bI hd;rw[il,GK,GK]at hlen;have l_:(fs (x::es)++z).size=(e_.fr x).size+(fs es).size+z.size:=by rw[show fs (x::es)=e_.fr x++fs es from rfl,dh,dh]
  rw[l_,Ml]at hlen;generalize hm:(Lib.vb (x.size:ay)).length=m at*
  have x4:t.extract (p+m) (p+m+4)=oj.v (iP.su x x.size 0 4294967295):=by have:=jc.Hk t _ (p+m) _ hd2;rwa[nB]at this
  have hd3:t.data.toList.drop (p+m+4)=x.data.toList++(fs es++z).data.toList:=by rw[<-s7,hd2,yt (by rw[GK,nB];omega),Es (by rw[GK,nB];omega),eR]
  have x5:t.extract (p+m+4) (p+m+4+x.size)=x:=jc.Hk t x (p+m+4) _ hd3;have hd4:t.data.toList.drop (p+m+4+x.size)=(fs es++z).data.toList:=by rw[<-s7,hd3,yt (by rw[GK];omega),Es (by rw[GK];omega),eR]
  have i:=ih (λy hy=>hes y (by simp[hy])) (p+m+4+x.size) n (acc++[[CV.s x]]) (by omega) (by simp;omega) hd4 (by omega);have w1:bN ((x.size:ay)+4)=(x.size:ay)+4:=dj (by omega) (by omega);have w2:bN ((t.size:ay)-((p+m:aG):ay))=(t.size:ay)-((p+m:aG):ay):=dj (by omega) (by omega);have w4:bN (((p+m:aG):ay)+4)=((p+m+4:aG):ay):=by rw[dj (by omega) (by omega)];omega
  have w5:bN (((p+m+4:aG):ay)+(x.size:ay))=((p+m+4+x.size:aG):ay):=by rw[dj (by omega) (by omega)];omega
  have b1:¬(x.size:ay)+4>(t.size:ay)-((p+m:aG):ay):=by omega
  have i1:gU ((p+m+4:aG):ay) ((p+m+4+x.size:aG):ay) (t.size:ay)=true:=by simp[gU];omega
  have i2:gU ((p+m:aG):ay) ((p+m+4:aG):ay) (t.size:ay)=true:=by simp[gU];omega
  have f2:=v9.ok x (by omega);have JA:cF (acc.length+1) 16=true:=Lib.cE (by omega) (by omega);simp only[U152.l3,U152.r3,e0,hr,hsz,qI.kZ,aE (show 1<=(x.size:ay)/\(x.size:ay)<=9000 by omega),w1,w2,w4,w5,aK b1,i1,i2,dD,x4,x5,f2.1,f2.2,Lib.nN,Lib.jE,bu,JA,aw,az,a9];rw[i];have e3:acc++[[CV.s x]]++Lib.rs es=acc++Lib.rs (x::es):=by unfold Lib.rs;simp
  have e4:p+m+4+x.size+(fs es).size=p+(fs (x::es)).size:=by
   have:(fs (x::es)).size=(e_.fr x).size+(fs es).size:=by rw[show fs (x::es)=e_.fr x++fs es from rfl,dh]
   omega
  rw[e3,e4]
theorem ok(es:ax aq)(hes:∀x∈es,1<=x.size/\x.size<=9000)(z:aq)(hz:Stop z)(ht:(fs es++z).size<=20000):
  (U152.c (fs es++z)=aj/\U152.v (fs es++z)=(Lib.rs es,((fs es).size:ay)))/\(qI.c (fs es++z)=aj/\qI.v (fs es++z)=(Lib.rs es,((fs es).size:ay))):=by
 have h1:=U152.out (fs es++z) (x:=(Lib.rs es,((fs es).size:ay))) (by unfold U152.vo U152.b;have:=go (fs es++z) ht z hz es hes 0 Lib.cR [] (bC _) (bC _) (by rw[eB]) (c6 (by omega));rw[bG,eR]at this;exact this);obtain⟨R,s1,s2,_⟩:=qI.same (fs es++z);refine⟨h1,s1.1, ?_⟩
 rw[s1.2,<-s2.2,h1.2]
end Rx

namespace EB
end EB

namespace xN
theorem vf{k b:aq}{s l:ay}(h:ie.v k s l b=aj):(jb.qN k s l b).size<=1000:=by have hr:=ie.DX h;have z1:(bytesOf (Lib.vb (k.size:ay))).size<=64:=Lib.mI (x:=(k.size:ay)) (by omega);have z2:(bytesOf (Lib.vb s)).size<=64:=Lib.mI (x:=s) (by omega);have z3:(bytesOf (Lib.vb l)).size<=64:=Lib.mI (x:=l) (by omega);unfold jb.qN;simp only[Lib.dX];omega
theorem D_{k b:aq}{s l:ay}(h:ie.v k s l b=aj):1<=(jb.qN k s l b).size:=by have hr:=ie.DX h;unfold jb.qN;simp only[Lib.dX];omega
def val(k:aq)(s l:ay)(b:aq):aq×aU:=if ie.v k s l b=aj then(e_.fr (jb.qN k s l b),aj)else(⟨#[]⟩,ao)
end xN

namespace ju
def p(d:Row)(n:aq)(i:aG):aU:=cu (aC (bJ (au d i 0))) (aC n)
theorem ok(d:Row)(n:aq)(hl:d.length<=4294967296):c d n=aj/\v d n=Lib.fi (p d n) d.length 0:=by
 refine out d n ?_;unfold vo b;refine wh (p d n) d.length (λm (i:aG)=>l2 Lib.cR (λ(_:aq) (y5 _:ay) (_:Row)=>ah y5) (λ(_:aq) (_ _:ay) (_:Row)=>ah (-1)) m n 0 (i:ay) d) ah (λm i hi hp=> ?_) (λm i hi hp=> ?_) (λm=> ?_) Lib.cR (c6 (by omega))
 ·unfold p at hp;simp only[l2,r2,Lib.dJ,Lib.c9,Lib.eK,hi,aT,aL,aw,hp]
 ·unfold p at hp;simp only[l2,r2,Lib.dJ,Lib.c9,Lib.eK,hi,aT,aL,aw,hp,az,Lib.dn hi (by omega:d.length<=9223372036854775807)]
 ·simp only[l2,r2,Lib.dJ,bB,bn,az]
end ju

namespace lX
def val(d:Row)(n:aq):aq×aU:=if Lib.fi (ju.p d n) d.length 0<0 then(⟨#[]⟩,ao)else(bJ (au d (Lib.fi (ju.p d n) d.length 0).toNat 1),aj)
theorem DX(d:Row)(n:aq)(h:¬Lib.fi (ju.p d n) d.length 0<0):0<=Lib.fi (ju.p d n) d.length 0/\Lib.fi (ju.p d n) d.length 0<(d.length:ay):=by
 rcases Lib.wi (ju.p d n) d.length 0 with ⟨h1,_⟩|⟨k,h1,h2,h3,_,_⟩
 ·rw[h1]at h;omega
 ·rw[h3];omega
theorem ok(d:Row)(n:aq)(hl:d.length<=4294967296):c d n=aj/\v d n=val d n:=by
 refine out d n ?_;have h:=ju.ok d n hl;unfold vo b val;rw[h.1,h.2,aw];by_cases hn:Lib.fi (ju.p d n) d.length 0<0
 ·rw[aE hn,ba hn];rfl
 ·have hr:=DX d n hn;rw[aK hn,a_ hn,az,aE hr.1,aE hr.2];rfl
end lX

namespace k9
theorem ok(r:Row)(hl:r.length<=4294967296):c r=aj/\v r=eO.val r:=by
 refine out r ?_;unfold vo b eO.val;have g6:∀a b c,qu.v a b c=jN.v a b c:=λ_ _ _=>rfl
 have key:=nh (eO.el r) r.length (λm (i:aG)=>l2 Lib.cR (λ(y5:aU) (_:Row) (_ _:ay) (_:Row)=>ah y5) (λ(_:aU) (_:Row) (_ _:ay) (QV:Row)=>ah (decide ((QV.length:ay)<=30))) m ao r (r.length:ay) (i:ay) r) (ah ao) (ah (decide ((r.length:ay)<=30)))
  (λm i hi hp=>by
   unfold eO.el at hp;simp only[aJ]at hp;obtain⟨h1,h2,h3,h4⟩:=hp;have h3:decide (0<=bS (au r i (1+1))/\bS (au r i (1+1))<=((bJ (au r i 1)).size:ay))=true:=h3;have h2:decide (((bJ (au r i 1)).size:ay)>20000)=false:=by simpa using h2
   by_cases hz:0<i
   ·have e0:decide ((i:ay)>0)=true:=aE (by omega);have mE:i-1<r.length:=by omega
    have h5:bP (aC (bJ (au r (i-1) 0))) (aC (bJ (au r i 0)))=true:=by
     rcases dq _ _▸h4 with q|q
     ·have:i=0:=by simpa using q
      omega
     ·exact q
    simp only[l2,r2,Lib.dJ,hi,mE,aT,Lib.c9,aL,aw,az,Lib.eK,g6,eO.mF,h1,h2,h3,h5,e0,eO.Ct hz (by omega),a9,Lib.dn hi (by omega:r.length<=9223372036854775807)]
   ·have e0:decide ((i:ay)>0)=false:=aK (by omega);simp only[l2,r2,Lib.dJ,hi,aT,Lib.c9,aL,aw,az,Lib.eK,g6,eO.mF,h1,h2,h3,e0,a9,Lib.dn hi (by omega:r.length<=9223372036854775807)])
  (λm i hi hp=>by
   unfold eO.el at hp;cases h1:decide (1<=((bJ (au r i 0)).size:ay)/\((bJ (au r i 0)).size:ay)<=8)with
   |false=>simp only[l2,r2,Lib.dJ,hi,aT,Lib.c9,aL,aw,az,Lib.eK,g6,eO.mF,h1,bO]
   |true=>
   cases h2:decide (((bJ (au r i 1)).size:ay)>20000)with
   |true=>simp only[l2,r2,Lib.dJ,hi,aT,Lib.c9,aL,aw,az,Lib.eK,g6,eO.mF,h1,h2,a9]
   |false=>
   cases h3:decide (0<=bS (au r i (1+1))/\bS (au r i (1+1))<=((bJ (au r i 1)).size:ay))with
   |false=>simp only[l2,r2,Lib.dJ,hi,aT,Lib.c9,aL,aw,az,Lib.eK,g6,eO.mF,h1,h2,h3,a9,bO]
   |true=>
   rw[h1,h2,show decide (0<=bS (au r i 2)/\bS (au r i 2)<=((bJ (au r i 1)).size:ay))=aj from h3,bO,bK,bK,bK]at hp;rw[gD]at hp;obtain⟨h4,h5⟩:=hp;have hz:0<i:=by
    have:¬i=0:=by simpa using h4
    omega
   have e0:decide ((i:ay)>0)=true:=aE (by omega);have mE:i-1<r.length:=by omega
   simp only[l2,r2,Lib.dJ,hi,mE,aT,Lib.c9,aL,aw,az,Lib.eK,g6,eO.mF,h1,h2,h3,h5,e0,eO.Ct hz (by omega),a9,bO])
  (λm=>by simp only[l2,r2,Lib.dJ,bB,bn,az]) Lib.cR (c6 (by omega))
 refine key.trans ?_;rw[show decide ((r.length:ay)<=30)=decide (r.length<=30)from by rw[c_];omega];cases (ej r.length).all (eO.el r)<;>cases decide (r.length<=30)<;>rfl
end k9

namespace uo
theorem ok(d:Row)(n:aq)(hl:d.length<=4294967296):c d n=aj/\v d n=Lib.fi (ju.p d n) d.length 0:=by
 refine out d n ?_;unfold vo b;refine wh (ju.p d n) d.length (λm (i:aG)=>l2 Lib.cR (λ(_:Row) (_:aq) (y7 _ _:ay)=>ah y7) (λ(_:Row) (_:aq) (_ _ _:ay)=>ah (-1)) m d n 0 (d.length:ay) (i:ay)) ah (λm i hi hp=> ?_) (λm i hi hp=> ?_) (λm=> ?_) Lib.cR (c6 (by omega))
 ·unfold ju.p at hp;simp only[l2,r2,Lib.dJ,Lib.c9,Lib.eK,hi,aT,aL,aw,Nu.v,hp]
 ·unfold ju.p at hp;simp only[l2,r2,Lib.dJ,Lib.c9,Lib.eK,hi,aT,aL,aw,Nu.v,hp,az,Lib.dn hi (by omega:d.length<=9223372036854775807)]
 ·simp only[l2,r2,Lib.dJ,bB,bn,az]
end uo

namespace gm
theorem ok(d:Row)(n:aq)(hl:d.length<=4294967296):c d n=aj/\v d n=Lib.fi (ju.p d n) d.length 0:=by have h:=uo.ok d n hl;exact out d n (by unfold vo b;rw[h.1,h.2,aw])
end gm

namespace C9
theorem ok(d:Row)(h:d.length<=1000000000):c d=aj/\v d=d:=by refine out d ?_;unfold vo b;rw[Lib.lB,Lib.cE (by omega) (by omega)];rfl
end C9

namespace lW
open _root_.Go.FG.Lib (rd Fi)
open dp (without)
theorem ok(l:ax Fi)(n:aq)(hl:l.length<=1000000):c (rd l) n=aj/\v (rd l) n=rd (without l n):=by have h1:=C9.ok (rd l) (by rw[eh];omega);have h2:=zg.ok (rd l) n (dp.abZ l) (by rw[eh];omega);exact out _ _ (by unfold vo b;rw[h1.1,h1.2,h2.1,h2.2,dp.afj];rfl)
end lW

namespace kM
open _root_.Go.FG.Lib (rd Fi)
open dp (without put Q9)
def nw(n t:aq)(k:ay):ax CV:=[CV.s n,CV.s t,CV.i ar k]
def pn(n:aq)(y:ax CV):aU:=bP (aC (bJ (y.getD 0 (.b ao)))) (aC n)
theorem ok(l:ax Fi)(n t:aq)(k:ay)(hs:Q9 l)(hl:l.length<=1000000):c (rd l) n t k=aj/\v (rd l) n t k=rd (put l ⟨n,t,k⟩):=by
 refine out _ _ _ _ ?_;have hd:=lW.ok l n hl;unfold vo b;rw[hd.1,hd.2,aw];have HD:=dp.Is l n;have e1:(without l n).filter (λx=>fH.ew x.n n)=l.filter λx=>fH.ew x.n n:=by
  unfold without;rw[oc];apply jv;intro y _;by_cases h:y.n=n
  ·rw[h,dp.irrefl];rfl
  ·rw[aK h];simp
 have e2:(without l n).filter (λx=> !fH.ew x.n n)=l.filter λx=> !(fH.ew x.n n||decide (x.n=n)):=by unfold without;rw[oc];apply jv;intro y _;cases fH.ew y.n n<;>cases decide (y.n=n)<;>rfl
 have VC:=Lib.AB (λx:Fi=>fH.ew x.n n) (λx=> !fH.ew x.n n) (without l n) (λ_ _=>rfl) ((dp.Xq hs n).imp λ{y z} hyz hz=>eT.nO _ _ _ hyz hz);rw[e1,e2]at VC;generalize without l n=o at HD VC
 have:=vd (pn n) (rd o) (λm (i:aG)=>l3 Lib.cR (λ(y5:ay) (y6 y7:aq) (y8:ay) (y9:Row)=>bif(decide (0<=y5)&&decide (y5<=(↑(bI y9):ay))&&cF (bI y9+bI (aF (aR [Ck.s,Ck.s,Ck.i ar] 1) 0 [CV.s y6,CV.s y7,CV.i ar y8])) 40)then(ah (Pu.DC y9 (aY y5) (aF (aR [Ck.s,Ck.s,Ck.i ar] 1) 0 [CV.s y6,CV.s y7,CV.i ar y8])))else(ai)) m (i:ay) n t k (rd o))
  (λa=>bif decide ((a:ay)<=((rd o).length:ay))then ah (Pu.DC (rd o) a [nw n t k])else ai)
  (λm i h hp=>by
   have mE:bP (aC (bJ (au (rd o) i 0))) (aC n)=true:=by rw[Lib.de h];exact hp
   simp only[l3,r3,Lib.dJ,h,aT,Lib.c9,aL,aw,Lib.eK,mE,Lib.dn h (by rw[eh];omega:(rd o).length<=9223372036854775807)])
  (λm i h hp=>by
   have mE:bP (aC (bJ (au (rd o) i 0))) (aC n)=false:=by rw[Lib.de h];exact hp
   simp only[l3,r3,Lib.dJ,h,aT,Lib.c9,aL,bK,ig,aw,az,Lib.eK,mE,Lib.jE,bu,Lib.cE (n:=(rd o).length+1) (b:=40) (by rw[eh];omega) (by rw[eh];omega)];rfl)
  (λm=>by simp only[l3,r3,Lib.dJ,bB,bn,aT,Lib.c9,aL,bK,ig,aw,az,Lib.eK,Lib.jE,bu,Lib.cE (n:=(rd o).length+1) (b:=40) (by rw[eh];omega) (by rw[eh];omega)];rfl) Lib.cR (c6 (by rw[eh];omega))
 refine this.trans ?_;have hle:=Gl (pn n) (rd o);rw[aE (by omega),aw];unfold Pu.DC;rw[yR,yF];have e3:pn n∘Fi.row=λx:Fi=>fH.ew x.n n:=rfl;unfold Lib.rd;rw[List.takeWhile_map,List.dropWhile_map,e3,VC.1,VC.2];unfold put;rw[c7,c7];rfl
end kM

namespace A_
open _root_.Go.FG.Lib (rd el Fi)
open dp (without put Q9 rB act DL jl)
def res(o:aA (ax Fi)):Row×aU:=match o with|some d=>(rd d,aj)|none=>([],ao)
theorem find(l:ax Fi)(n:aq):(Lib.fi (ju.p (rd l) n) l.length 0= -1/\l.find? (λx=>decide (x.n=n))=ai)\/∃i,i<l.length/\Lib.fi (ju.p (rd l) n) l.length 0=(i:ay)/\l.find? (λx=>decide (x.n=n))=ah (el l i):=by
 have hq:∀i (hi:i<l.length),ju.p (rd l) n i=decide (l[i].n=n):=λi hi=>by unfold ju.p;rw[H7 hi];exact Lib.fP
 rcases Lib.wi (ju.p (rd l) n) l.length 0 with ⟨e,ha⟩|⟨k,_,hk,e,hp,hb⟩
 ·refine .inl ⟨e,RQ.2 λx hx=> ?_⟩;obtain⟨i,hi,rfl⟩:=di hx;rw[<-hq i hi,ha i (by omega) (by omega)];simp
 ·have sP:k<l.length:=by omega
  refine .inr ⟨k,sP,e, ?_⟩;rw[xH];exact⟨by rw[fy sP,<-hq k sP];exact hp,k,sP,(fy sP).symm,λj hj=>by rw[<-hq j (by omega),hb j (by omega) hj];rfl⟩
theorem Ws(d:ax Fi)(h:d.length<=1000000):k9.c (rd d)=aj/\k9.v (rd d)=rB d:=k9.ok (rd d) (by rw[eh];omega)
theorem Nw(k:ay)(n t o:aq):Nt.v k n t o=dp.jd k t o:=by
 unfold Nt.v dp.jd qu.v;rw[Lib.fP,Lib.fP];by_cases h1:1<=k
 ·by_cases h2:k<=4
  ·rw[aE h1,aE h2,aE (⟨h1,h2⟩:1<=k/\k<=4)];cases decide (t=⟨#[]⟩)<;>cases decide (o=⟨#[]⟩)<;>cases decide (k=1)<;>cases decide (k=3)<;>rfl
  ·rw[aE h1,aK h2,aK (show¬(1<=k/\k<=4)by omega)];rfl
 ·rw[aK h1,aK (show¬(1<=k/\k<=4)by omega)];rfl
theorem ok(l:ax Fi)(k:ay)(n t o:aq)(hl:l.length<=1000)(ht:t.size<=2305843009213693952):c (rd l) k n t o=aj/\v (rd l) k n t o=res (act l k n t o):=by
 refine out _ _ _ _ _ ?_;unfold vo b h0;have h1:=gm.ok (rd l) n (by rw[eh];omega);have h2:=Ws l (by omega);rw[h1.1,h1.2,h2.1,h2.2,Nw,aw,aw,eh];unfold act;cases hk:rB l with
 |false=>rfl
 |true=>
 rw[a9,az,bK];obtain⟨q1,q2,q3⟩:=jl.1 hk;cases ha:dp.jd k t o with
 |false=>rfl
 |true=>
 rw[a9,az,aw];have hk4:1<=k/\k<=4:=by unfold dp.jd at ha;rw[aJ]at ha;exact ca ha.1
 have wp:=λ(m:ax Fi) (hm:Q9 m) (hml:m.length<=1000) (n t:aq) (k:ay)=>kM.ok m n t k hm (by omega);have wo:=lW.ok l n (by omega);have wol:=dp.Is l n;have pl:=λ(m:ax Fi) (f:Fi) (hm:m.length<=1000)=>Ws (put m f) (cm (dp.qh f) (by omega));have fin:∀d:ax Fi,(bif !rB d then ah (([]:Row),ao)else ah (rd d,aj))=ah (res (bif rB d then ah d else ai)):=λd=>by cases rB d<;>rfl
 unfold DL;rcases find l n with ⟨e1,e2⟩|⟨i,hi,e1,e2⟩
 ·rw[e1,e2];by_cases k1:k=1
  ·subst k1;have p:=wp l q3 hl n (⟨#[]⟩++t) 0;have d:=pl l ⟨n,⟨#[]⟩++t,0⟩ hl;have et:(⟨#[]⟩:aq)++t=t:=ka;rw[show decide ((-1:ay)<0)=aj from rfl,show decide ((-1:ay)≥0)=ao from rfl,show((1:ay) !=1)=ao from rfl,aw,az,az,aE (show(1:ay)=1 from rfl),aw,aE (show(⟨#[]⟩:aq).size+t.size<=4611686018427387904 from by rw[show(⟨#[]⟩:aq).size=0 from rfl];omega),aw,p.1,p.2,aw,d.1,d.2,aw,fin,et];rfl
  ·rw[show decide ((-1:ay)<0)=aj from rfl,aw,show(k !=1)=aj from bne_iff_ne.2 k1,aw,a_ k1];rfl
 ·have hf:(el l i).n=n:=by have:=CG e2;exact ca this
  have Ej:((el l i).t.size:ay)<=20000:=by have:=q2 _ (kO hi);unfold dp.oU at this;simp only[aJ,aZ,dA,eV]at this;omega
  rw[e1,e2,aK (show¬((i:aG):ay)<0 by omega),aE (show((i:aG):ay)≥0 by omega),az,aw];simp only[Lib.dJ,hi,aT,Lib.eK,wd0 hi,wd1 hi,wd2 hi,bJ,bS,aL,bK,aw];by_cases k1:k=1
  ·subst k1;have p:=wp l q3 hl (el l i).n ((el l i).t++t) (el l i).kp;have d:=pl l ⟨(el l i).n,(el l i).t++t,(el l i).kp⟩ hl;rw[aE (show(1:ay)=1 from rfl),aw,aE (show(el l i).t.size+t.size<=4611686018427387904 by omega),aw,p.1,p.2,aw,d.1,d.2,aw,fin];rfl
  rw[aK k1,az,a_ k1];by_cases k2:k=2
  ·subst k2;have p:=wp l q3 hl (el l i).n (el l i).t ((el l i).t.size:ay);have d:=pl l ⟨(el l i).n,(el l i).t,((el l i).t.size:ay)⟩ hl;rw[aE (show(2:ay)=2 from rfl),aw,p.1,p.2,aw,d.1,d.2,aw,fin];rfl
  rw[aK k2,az,a_ k2];by_cases k3:k=3
  ·subst k3;rw[aE (show(3:ay)=3 from rfl),aw,ba rfl];by_cases b1:(el l i).kp=((el l i).t.size:ay)
   ·rw[show((el l i).kp !=((el l i).t.size:ay))=ao from by simp[b1],az,Lib.fP];by_cases b2:o=n
    ·rw[aE b2,aw,ba (.inr b2)];rfl
    ·have p:=wp (without l n) (dp.Xq q3 n) (by omega) o (el l i).t (el l i).kp;have d:=pl (without l n) ⟨o,(el l i).t,(el l i).kp⟩ (by omega);rw[aK b2,az,wo.1,wo.2,aw,p.1,p.2,aw,d.1,d.2,aw,fin,a_ (by rintro (h|h);exact h b1;exact b2 h)]
   ·rw[show((el l i).kp !=((el l i).t.size:ay))=aj from bne_iff_ne.2 b1,aw,ba (.inl b1)];rfl
  rw[aK k3,az,a_ k3];have d:=Ws (without l n) (by omega);rw[wo.1,wo.2,aw,d.1,d.2,aw,fin]
end A_

namespace C8
theorem ok(l:Row)(hl:l.length<=4294967296):c l=aj/\v l=l:=by refine out l ?_;unfold vo b;rw[show bI (aR [Ck.s,Ck.i ar,Ck.i ar,Ck.s] 0)+l.length=l.length by simp[aR],Lib.cE (by omega) (by omega)];rfl
end C8

namespace Ve
theorem ok(l:Row)(k:aq)(hc:l.all pc.cn=aj)(hl:l.length<=4294967296):c l k=aj/\v l k=l.filter (pc.keep k):=by have h1:=C8.ok l hl;have h2:=pc.ok l k hc hl;exact out l k (by unfold vo b;rw[h1.1,h1.2,h2.1,h2.2,aw,aw])
end Ve

namespace Ba
theorem AB(p q:ax CV->aU):∀r:Row,(∀y∈r,q y= !p y)->r.Pairwise (λy z=>p z=aj->p y=aj)->r.takeWhile p=r.filter p/\r.dropWhile p=r.filter q
 |[],_,_=>⟨rfl,rfl⟩
 |y::r,hq,h=>by
  rw[lu]at h;have hy:=hq y (by simp);cases hp:p y with
  |true=>rw[hp]at hy;obtain⟨i1,i2⟩:=AB p q r (λz hz=>hq z (by simp[hz])) h.2;rw[oL hp,db hp,List.dropWhile_cons_of_pos hp,bX (by rw[hy];simp),i1,i2];exact⟨rfl,rfl⟩
  |false=>
   rw[hp]at hy;have hn:¬p y=true:=by rw[hp];simp
   have ha:∀z∈r,p z=false:=λz hz=>by
    cases Bn:p z with
    |false=>rfl
    |true=>exact b_ (h.1 z hz Bn) hn
   rw[oK hn,bX hn,List.dropWhile_cons_of_neg hn,db (by rw[hy];rfl)];refine⟨?_, ?_⟩
   ·symm;rw[List.filter_eq_nil_iff];intro z hz;rw[ha z hz];simp
   ·congr 1;symm;rw[fX];intro z hz;rw[hq z (by simp[hz]),ha z hz];rfl
theorem YF{r:Row}(h:∀y∈r,eT.cr y=y):r.all pc.cn=true:=by rw[bf];intro y hy;rw[<-h y hy];rfl
theorem ok(r:Row)(k:aq)(s l:ay)(b0:aq)(hO:eT.Or r)(hl:r.length<=1048576):c r k s l b0=aj/\v r k s l b0=eT.val r k s l b0:=by
 refine out r k s l b0 ?_;have hd:=Ve.ok r k (YF hO.2) (by omega);unfold vo b;rw[hd.1,aw,hd.2];have Ml:(r.filter (pc.keep k)).length<=r.length:=dM _ _;have hke:∀y,pc.keep k y= !List.beq (eT.key y) (aC k):=λ_=>rfl;have VC:=AB (eT.pl k) (eT.pg k) (r.filter (pc.keep k)) (λy hy=>by
  have h2:=(cJ.1 hy).2;rw[hke]at h2;have h3:cu (eT.key y) (aC k)=false:=by simpa using h2
  unfold eT.pg eT.pl;rw[h3,Bool.or_false]) ((hO.1.sublist iM).imp (λ{y z} hyz hz=>eT.nO _ _ _ hyz hz))
 have e1:(r.filter (pc.keep k)).filter (eT.pl k)=r.filter (eT.pl k):=by
  rw[oc];apply jv;intro y _;cases h:eT.pl k y with
  |false=>rfl
  |true=>
   rw[hke,bK];cases h2:cu (eT.key y) (aC k)with
   |false=>rfl
   |true=>exfalso;have h3:=Lib.beq_iff.1 h2;unfold eT.pl at h;rw[h3,eT.nz]at h;cases h
 have e2:(r.filter (pc.keep k)).filter (eT.pg k)=r.filter (eT.pg k):=by rw[oc];apply jv;intro y _;rw[hke];unfold eT.pg;cases cu (eT.key y) (aC k)<;>cases bP (eT.key y) (aC k)<;>rfl
 generalize r.filter (pc.keep k)=o at Ml VC e1 e2
 have:=vd (eT.pl k) o (λm (i:aG)=>l3 Lib.cR (λ(y6:ay) (y7:aq) (y8 y9:ay) (Kz:aq) (rO:Row)=>bif(decide (0<=y6)&&decide (y6<=(↑(bI rO):ay))&&cF (bI rO+bI (aF (aR [Ck.s,Ck.i ar,Ck.i ar,Ck.s] 1) 0 [CV.s y7,CV.i ar y8,CV.i ar y9,CV.s Kz])) 48)then(ah (Pu.DC rO (aY y6) (aF (aR [Ck.s,Ck.i ar,Ck.i ar,Ck.s] 1) 0 [CV.s y7,CV.i ar y8,CV.i ar y9,CV.s Kz])))else(ai)) m (i:ay) k s l b0 o)
  (λa=>bif decide ((a:ay)<=(o.length:ay))then ah (Pu.DC o a [eT.nw k s l b0])else ai)
  (λm i h hp=>by
   have mE:bP (aC (bJ (au o i 0))) (aC k)=true:=by rw[Lib.de h];exact hp
   simp only[l3,r3,Lib.dJ,h,aT,Lib.c9,aL,aw,Lib.eK,mE,Lib.dn h (by omega:o.length<=9223372036854775807)])
  (λm i h hp=>by
   have mE:bP (aC (bJ (au o i 0))) (aC k)=false:=by rw[Lib.de h];exact hp
   simp only[l3,r3,Lib.dJ,h,aT,Lib.c9,aL,bK,ig,aw,az,Lib.eK,mE,Lib.jE,bu,Lib.cE (n:=o.length+1) (b:=48) (by omega) (by omega)];rfl)
  (λm=>by simp only[l3,r3,Lib.dJ,bB,bn,aT,Lib.c9,aL,bK,ig,aw,az,Lib.eK,Lib.jE,bu,Lib.cE (n:=o.length+1) (b:=48) (by omega) (by omega)];rfl) Lib.cR (c6 (by omega))
 refine this.trans ?_;have hle:=Gl (eT.pl k) o;rw[aE (by omega),aw];unfold Pu.DC eT.val;rw[yR,yF,VC.1,VC.2,e1,e2,eT.DH hO.2,eT.DH hO.2]
end Ba

namespace zd
theorem ok(d:Row)(n:aq)(hl:d.length<=4294967296):c d n=aj/\v d n=lX.val d n:=by
 refine out d n ?_;have h:=gm.ok d n hl;unfold vo b lX.val;rw[h.1,h.2,aw];by_cases hn:Lib.fi (ju.p d n) d.length 0<0
 ·rw[aE hn,ba hn];rfl
 ·have hr:=lX.DX d n hn;rw[aK hn,a_ hn,az,aE hr.1,aE hr.2];rfl
end zd

namespace qG
def nm:aq:={data:= #[ak 107,ak 101,ak 112,ak 116]}
theorem both(rec:Row)(hr:rec.length<=20000):∀(d i:aG) (o:Row) (n m:aG),rec.length-i<=d->i<=rec.length->eT.Or o->o.length<=i->d<n->d<m->
  ∃L:Row,U101.l7 Lib.cR (λ(_ _:ay) (y6:Row) (_:Row)=>ah y6) n (rec.length:ay) (i:ay) o rec=ah L/\l7 Lib.cR (λ(_:ay) (y4 _:Row)=>ah y4) m (i:ay) o rec=ah L/\eT.Or L/\L.length<=20000:=by
 have e1:∀t,v5.v t=jc.v t:=λ_=>rfl;intro d;induction d with
 |zero=>
  intro i o n m h1 h2 hO h3 h4 h5;obtain⟨n,rfl⟩:∃n',n=n'+1:=⟨n-1,by omega⟩
  obtain⟨m,rfl⟩:∃m',m=m'+1:=⟨m-1,by omega⟩
  have jj:decide ((i:ay)<(rec.length:ay))=false:=aK (by omega);exact⟨o,by simp only[U101.l7,U101.r7,jj,az],by simp only[l7,r7,jj,az],hO,by omega⟩
 |succ d ih=>
  intro i o n m h1 h2 hO h3 h4 h5;obtain⟨n,rfl⟩:∃n',n=n'+1:=⟨n-1,by omega⟩
  obtain⟨m,rfl⟩:∃m',m=m'+1:=⟨m-1,by omega⟩
  by_cases hi:i<rec.length
  ·have hw:bN ((i:ay)+1)=((i+1:aG):ay):=dj (by omega) (by omega);cases hok:(jc.v (bJ (au rec i 0))).2.2.2.2 with
   |false=>
    obtain⟨L,g1,g2,g3,g4⟩:=ih (i+1) o n m (by omega) hi hO (by omega) (by omega) (by omega);refine⟨L, ?_, ?_,g3,g4⟩
    ·simp only[U101.l7,U101.r7,Lib.dJ,hi,aT,Lib.c9,aL,aw,Lib.eK,e1,hok,az,hw];exact g1
    ·simp only[l7,r7,Lib.dJ,hi,aT,Lib.c9,aL,aw,Lib.eK,hok,az,hw];exact g2
   |true=>
    have p1:=eT.ok o (jc.v (bJ (au rec i 0))).1 (jc.v (bJ (au rec i 0))).2.1 (jc.v (bJ (au rec i 0))).2.2.1 (jc.v (bJ (au rec i 0))).2.2.2.1 (by omega);have p2:=Ba.ok o (jc.v (bJ (au rec i 0))).1 (jc.v (bJ (au rec i 0))).2.1 (jc.v (bJ (au rec i 0))).2.2.1 (jc.v (bJ (au rec i 0))).2.2.2.1 hO (by omega);have p3:=eT.uN hO (jc.v (bJ (au rec i 0))).1 (jc.v (bJ (au rec i 0))).2.1 (jc.v (bJ (au rec i 0))).2.2.1 (jc.v (bJ (au rec i 0))).2.2.2.1;obtain⟨L,g1,g2,g3,g4⟩:=ih (i+1) _ n m (by omega) hi p3.1 (by omega) (by omega) (by omega);refine⟨L, ?_, ?_,g3,g4⟩
    ·simp only[U101.l7,U101.r7,Lib.dJ,hi,aT,Lib.c9,aL,aw,Lib.eK,e1,hok,p2.1,p2.2,hw];exact g1
    ·simp only[l7,r7,Lib.dJ,hi,aT,Lib.c9,aL,aw,Lib.eK,hok,p1.1,p1.2,hw];exact g2
  ·have jj:decide ((i:ay)<(rec.length:ay))=false:=aK (by omega);exact⟨o,by simp only[U101.l7,U101.r7,jj,az],by simp only[l7,r7,jj,az],hO,by omega⟩
theorem same(d:Row)(hd:d.length<=1048576):∃L:Row,(c d=aj/\v d=L)/\(U101.c d=aj/\U101.v d=L)/\(∀y∈L,y.length=4)/\L.length<=20000:=by
 have k1:=eO.ok d (by omega);have k2:=k9.ok d (by omega);cases hv:eO.val d with
 |false=>
  refine⟨[],out d ?_,U101.out d ?_,λy hy=>(by cases hy),bC _⟩
  ·unfold vo b;rw[k1.1,k1.2,hv];rfl
  ·unfold U101.vo U101.b;rw[k2.1,k2.2,hv];rfl
 |true=>
  have k3:=lX.ok d nm (by omega);have k4:=zd.ok d nm (by omega);obtain⟨R,u1,u2,u3⟩:=qI.same (lX.val d nm).1;obtain⟨L,g1,g2,g3,g4⟩:=both R.1 u3 R.1.length 0 [] Lib.cR Lib.cR (by omega) (bC _) ⟨fZ,λy hy=>(by cases hy)⟩ (bC _) (c6 (by omega)) (c6 (by omega));refine⟨L,out d ?_,U101.out d ?_,λy hy=>(by rw[<-g3.2 y hy];rfl),g4⟩
  ·unfold nm at k3 u1;unfold vo b;rw[k1.1,k1.2,hv,aw,a9,az,k3.1,aw,k3.2,u1.1,aw,u1.2];exact g2
  ·unfold nm at k4 u2;unfold U101.vo U101.b;rw[k2.1,k2.2,hv,aw,a9,az,k4.1,aw,k4.2,u2.1,aw,u2.2];exact g1
end qG

namespace i_
def kept:aq:={data:= #[ak 107,ak 101,ak 112,ak 116]}
def lL(f:aq):Row:=[[CV.i ar 1,CV.s kept,CV.s f,CV.s {data:= #[]}],[CV.i ar 2,CV.s kept,CV.s {data:= #[]},CV.s {data:= #[]}]]
def val(k:aq)(s l:ay)(b:aq):Row×aU:=if ie.v k s l b=aj then(lL (e_.fr (jb.qN k s l b)),aj)else([],ao)
end i_

namespace jX
open _root_.Go.FG.Lib (rd re rs el Fi En)
open dp (rB jl act lL DL put without ra Ac oU)
open fH (So lE ew)
open Rx (fs Stop)
abbrev pH:aq:={data:= #[ak 107,ak 101,ak 112,ak 116]}
def qN(e:En):aq:=jb.qN e.k e.st e.li e.bo
def BS(e:En):aU:=ie.v e.k e.st e.li e.bo
def Hv(e:En):aq:=e_.fr (qN e)
def tx(es:ax En):aq:=fs (es.map qN)
def kp(es:ax En):ax En:=es.foldl lE []
theorem YR(a b:ax aq):fs (a++b)=fs a++fs b:=by
 induction a with
 |nil=>exact ka.symm
 |cons x a ih=>rw[mO];show e_.fr x++fs (a++b)=e_.fr x++fs a++fs b;rw[ih,dY]
theorem UA(es:ax En)(e:En):tx (es++[e])=tx es++Hv e:=by unfold tx;rw[c7,YR];show fs (es.map qN)++(e_.fr (qN e)++⟨#[]⟩)=_;rw[show(⟨#[]⟩:aq)=Ee from rfl,o6];rfl
theorem UB{e:En}(h:BS e=aj):1<=(qN e).size/\(qN e).size<=1000:=⟨xN.D_ h,xN.vf h⟩
theorem wF{en:ax En}(h:So en)(e:En):So (lE en e):=by have:=(eT.uN (fH.Cc h) e.k e.st e.li e.bo).1.1;rw[fH.tL]at this;unfold Lib.re at this;rw[jw]at this;exact this
theorem oE{en:ax En}{x e:En}:x∈lE en e↔x=e\/(x∈en/\x.k≠e.k):=by
 unfold lE;simp only[aX,cJ,aW,dA,gD,eV];constructor
 ·rintro ((⟨h1,h2⟩|rfl)|⟨h1,h2⟩)
  ·refine .inr ⟨h1,λe2=> ?_⟩;rw[e2]at h2;unfold ew at h2;rw[eT.nz]at h2;cases h2
  ·exact .inl rfl
  ·exact .inr ⟨h1,h2.2⟩
 ·rintro (rfl|⟨h1,h2⟩)
  ·exact .inl (.inr rfl)
  ·cases hl:ew x.k e.k with
   |true=>exact .inl (.inl ⟨h1,rfl⟩)
   |false=>exact .inr ⟨h1,rfl,h2⟩
theorem Zx{es:ax En}{x:En}(h:x∈kp es):x∈es:=by
 have:∀(es o:ax En),x∈es.foldl lE o->x∈o\/x∈es:=by
  intro es;induction es with
  |nil=>intro o h;exact .inl h
  |cons e es ih=>
   intro o h;rcases ih _ h with h|h
   ·rcases oE.1 h with rfl|h
    ·exact .inr (by simp)
    ·exact .inl h.1
   ·exact .inr (by simp[h])
 rcases this es [] h with h|h
 ·cases h
 ·exact h
theorem OQ(es:ax En):(kp es).length<=es.length:=by
 have:∀(es o:ax En),So o->(es.foldl lE o).length<=o.length+es.length:=by
  intro es;induction es with
  |nil=>intro o h;exact bR _
  |cons e es ih=>intro o h;have:=ih _ (wF h e);have:=fH.qh o e h;simp only[nJ,bU];omega
 have:=this es [] fZ;rw[lP,bG]at this;exact this
theorem fileAt(d:ax Fi)(n:aq):lX.val (rd d) n=match d.find? (λx=>decide (x.n=n))with|some f=>(f.t,aj)|none=>(⟨#[]⟩,ao):=by
 unfold lX.val;rw[eh];rcases A_.find d n with ⟨e1,e2⟩|⟨i,hi,e1,e2⟩
 ·rw[e1,e2];rfl
 ·rw[e1,e2,a_ (by omega),dD,wd1 hi];rfl
theorem amO(es:ax En)(he:∀e∈es,BS e=aj)(hl:es.length<=20000):∀(d i n:aG) (o:ax En),es.length-i<=d->i<=es.length->So o->o.length<=i->d<n->
  U101.l7 Lib.cR (λ(_ _:ay) (y6:Row) (_:Row)=>ah y6) n (es.length:ay) (i:ay) (re o) (rs (es.map qN))=ah (re ((es.drop i).foldl lE o)):=by
 have e1:∀t,v5.v t=jc.v t:=λ_=>rfl;intro d;induction d with
 |zero=>
  intro i n o h1 h2 hO h3 h5;obtain⟨n,rfl⟩:∃n',n=n'+1:=⟨n-1,by omega⟩
  have:i=es.length:=by omega
  subst this;simp only[U101.l7,U101.r7,Lib.dJ,bB,bn,az,cU,sA]
 |succ d ih=>
  intro i n o h1 h2 hO h3 h5;obtain⟨n,rfl⟩:∃n',n=n'+1:=⟨n-1,by omega⟩
  by_cases hi:i<es.length
  ·have Bj:i<(es.map qN).length:=by simpa using hi
   have hk:=he _ (bH hi);have hr:jc.v (qN es[i])=(es[i].k,es[i].st,es[i].li,es[i].bo,aj):=jc.enc _ _ _ _ hk;have hp:=Ba.ok (re o) es[i].k es[i].st es[i].li es[i].bo (fH.Cc hO) (by rw[ff];omega);rw[fH.tL o es[i]]at hp;have hg:(es.map qN)[i]=qN es[i]:=by simp
   simp only[U101.l7,U101.r7,Lib.dJ,hi,Lib.dG,bM,aT,Lib.c9,aL,aw,Lib.eK,Z1 Bj,hg,bJ,e1,hr,hp.1,hp.2,Lib.dn hi (by omega:es.length<=9223372036854775807)];rw[cQ hi,nJ];exact ih (i+1) n _ (by omega) hi (wF hO _) (by have:=fH.qh o es[i] hO;omega) (by omega)
  ·have:i=es.length:=by omega
   subst this;simp only[U101.l7,U101.r7,Lib.dJ,bB,bn,az,cU,sA]
theorem fk(d:ax Fi)(es:ax En)(z:aq)(hd:rB d=aj)(hf:(lX.val (rd d) pH).1=tx es++z)(he:∀e∈es,BS e=aj)(hz:Stop z):
  (U101.c (rd d)=aj/\U101.v (rd d)=re (kp es))/\(qG.c (rd d)=aj/\qG.v (rd d)=re (kp es)):=by
 obtain⟨q1,q2,q3⟩:=jl.1 hd;have hs:(tx es++z).size<=20000:=by
  rw[<-hf,fileAt];cases h:d.find? (λx=>decide (x.n=pH))with
  |none=>exact bC _
  |some f=>have:=q2 f (j9 h);unfold oU at this;simp only[aJ,aZ,dA,eV]at this;show f.t.size<=20000;omega
 have hl:es.length<=20000:=by
  have:∀es:ax En,es.length<=(tx es).size:=by
   intro es;induction es with
   |nil=>exact bR _
   |cons e es ih=>
    have:(tx (e::es)).size=(Hv e).size+(tx es).size:=dh;have h2:4<=(Hv e).size:=by unfold Hv e_.fr;rw[dh,dh,Rx.nB];omega
    rw[this,bU];omega
  have h2:=this es;rw[dh]at hs;omega
 have u:=Rx.ok (es.map qN) (λx hx=>by obtain⟨e,h,rfl⟩:=cD.1 hx;have:=UB (he e h);omega) z hz hs;have k2:=A_.Ws d (by omega);have k4:=zd.ok (rd d) pH (by rw[eh];omega);have h1:=U101.out (rd d) (x:=re (kp es)) (by unfold U101.vo U101.b;rw[k2.1,k2.2,hd,aw,a9,az,k4.1,aw,k4.2,hf];have hu:=u.1;rw[show fs (es.map qN)=tx es from rfl]at hu;rw[hu.1,aw,hu.2];dsimp only;rw[Lib.dG,bM];have:=amO es he hl es.length 0 Lib.cR [] (by omega) (bC _) fZ (bC _) (c6 (by omega));rw[eB]at this;exact this);obtain⟨L,s1,s2,_⟩:=qG.same (rd d) (by rw[eh];omega);refine⟨h1,s1.1, ?_⟩
 rw[s1.2,<-s2.2,h1.2]
def base:aA aq->ax Fi
 |none=>[]|some t=>[⟨pH,t,t.size⟩]
def bt:aA aq->aq|none=>⟨#[]⟩|some t=>t
def wX(f:aq):ax Ac:=[⟨1,pH,f,⟨#[]⟩⟩,⟨2,pH,⟨#[]⟩,⟨#[]⟩⟩]
theorem ok1(f:Fi):rB [f]=oU f:=by
 cases h:oU f with
 |true=>exact jl.2 ⟨by simp,λg hg=>by rw[aW.1 hg];exact h,by unfold dp.Q9;simp⟩
 |false=>
  cases h2:rB [f]with
  |false=>rfl
  |true=>have:=(jl.1 h2).2.1 f (by simp);rw[h]at this;cases this
theorem YQ(t:aq)(k:ay)(h1:t.size<=20000)(h2:0<=k/\k<=(t.size:ay)):oU ⟨pH,t,k⟩=true:=by unfold oU;have:((pH.size:aG):ay)=4:=rfl;rw[this,aE (by omega),aE h2,aK (by dsimp only;omega)];rfl
theorem rT{o:aA aq}(h:(bt o).size<=20000):rB (base o)=true:=by
 cases o with
 |none=>exact jl.2 ⟨bC _,⟨λf hf=>(by cases hf),fZ⟩⟩
 |some t=>exact(ok1 _).trans (YQ t _ h ⟨by omega,by omega⟩)
theorem uT{g f:Fi}(h:g.n=f.n):put [g] f=[f]:=by unfold put;rw[bX (by rw[h,dp.irrefl];simp),bX (by simp[h])];rfl
theorem Yj{o:aA aq}{f:aq}(h:(bt o).size+f.size<=20000):act (base o) 1 pH f ⟨#[]⟩=ah [⟨pH,bt o++f,(bt o).size⟩]:=by
 unfold act;rw[rT (by omega),show dp.jd 1 f ⟨#[]⟩=aj from by unfold dp.jd;simp,aL,aw];have hs:(bt o++f).size<=20000:=by rw[dh];omega
 have hn:DL (base o) 1 pH f ⟨#[]⟩=ah [⟨pH,bt o++f,(bt o).size⟩]:=by
  cases o with
  |none=>unfold DL;show(if(1:ay)=1 then ah (put [] ⟨pH,f,0⟩)else ai)=_;rw[ba rfl];show ah [(⟨pH,f,0⟩:Fi)]=ah [⟨pH,(⟨#[]⟩:aq)++f,((⟨#[]⟩:aq).size:ay)⟩];rw[show(⟨#[]⟩:aq)++f=f from ka];rfl
  |some t=>unfold DL;rw[show(base (ah t)).find? (λx=>decide (x.n=pH))=ah ⟨pH,t,t.size⟩from by unfold base;simp];dsimp only;rw[ba rfl];exact je ah (uT rfl)
 rw[hn];dsimp only;rw[ok1,YQ _ _ hs ⟨by omega,by rw[dh];omega⟩];rfl
theorem Tf{t:aq}{k:ay}(h:t.size<=20000)(hk:0<=k/\k<=(t.size:ay)):act [⟨pH,t,k⟩] 2 pH ⟨#[]⟩ ⟨#[]⟩=ah (base (ah t)):=by
 unfold act;rw[ok1,YQ _ _ h hk,show dp.jd 2 ⟨#[]⟩ ⟨#[]⟩=aj from by unfold dp.jd;simp,aL,aw];have hn:DL [⟨pH,t,k⟩] 2 pH ⟨#[]⟩ ⟨#[]⟩=ah (base (ah t)):=by unfold DL;rw[show([⟨pH,t,k⟩]:ax Fi).find? (λx=>decide (x.n=pH))=ah ⟨pH,t,k⟩from by simp];dsimp only;rw[a_ (by omega),ba rfl];exact je ah (uT rfl)
 rw[hn];dsimp only;rw[rT (o:=ah t) h];rfl
theorem OM{o:aA aq}{f:aq}(h:(bt o).size+f.size<=20000):lL (base o) 0 (wX f)=(base (ah (bt o++f)),2):=by have hs:(bt o++f).size=(bt o).size+f.size:=dh;unfold wX lL;dsimp only;rw[Yj h];dsimp only;unfold lL;dsimp only;rw[Tf (by omega) ⟨by omega,by omega⟩];rfl
theorem KP(o:aA aq):(lX.val (rd (base o)) pH).1=bt o:=by
 rw[fileAt];cases o with
 |none=>rfl
 |some t=>rw[show(base (ah t)).find? (λx=>decide (x.n=pH))=ah ⟨pH,t,t.size⟩from by unfold base;simp];rfl
def kd(es:ax En):ax Fi:=base (match es with|[]=>ai|_=>ah (tx es))
theorem amf(es:ax En):∃o,kd es=base o/\bt o=tx es:=by
 cases es with
 |nil=>exact⟨ai,rfl,rfl⟩
 |cons e es=>exact⟨ah (tx (e::es)),rfl,rfl⟩
end jX

namespace e9
def has(l:ax aq)(k:aq):aU:=l.any λx=>decide (x=k)
def without(l:ax aq)(k:aq):ax aq:=l.filter λx=> !decide (x=k)
theorem gq{l:ax aq}{k:aq}:has l k=aj↔k∈l:=by unfold has;simp
theorem ma{l:ax aq}{k:aq}:has l k=ao↔k∉l:=by rw[<-gq];cases has l k<;>simp
theorem Ir{l:ax aq}{k:aq}(h:has l k=ao):without l k=l:=by unfold without;rw[fX];intro x hx;have:=ma.1 h;simp;intro e;subst e;exact this hx
theorem iS{l:ax aq}{k:aq}:(without l k).length<=l.length:=dM ..
theorem tQ{l:ax aq}{k:aq}(h:has l k=aj):(without l k).length<l.length:=by unfold without;refine List.length_filter_lt_length_iff_exists.2 ⟨k,gq.1 h,by simp⟩
theorem ok(l:ax aq)(k:aq)(hl:l.length<=4294967296):c (Lib.rs l) k=aj/\v (Lib.rs l) k=has l k:=by
 refine out _ _ ?_;unfold vo b
 have:=zj l (λx=>decide (x=k)) (λm (i:aG)=>l2 Lib.cR (λ(_:Row) (_:aq) (y6:aU) (_:ay)=>ah y6) (λ(_:Row) (_:aq) (_:aU) (_:ay)=>ah ao) m (Lib.rs l) k ao (i:ay)) (ah aj) (ah ao)
  (λm i h hp=>by simp only[l2,r2,Lib.dG,Lib.dJ,h,aT,Lib.c9,aL,aw,Lib.eK,Z1 h,bJ,Lib.fP,hp])
  (λm i h hp=>by simp only[l2,r2,Lib.dG,Lib.dJ,h,aT,Lib.c9,aL,aw,Lib.eK,Z1 h,bJ,Lib.fP,hp,az,Lib.dn h (by omega:l.length<=9223372036854775807)])
  (λm=>by simp only[l2,r2,Lib.dG,Lib.dJ,bB,bn,az]) Lib.cR (c6 (by omega))
 refine this.trans ?_;unfold has;cases l.any λx=>decide (x=k)<;>rfl
end e9

namespace v8
theorem ok(l:Row)(hl:l.length<=4294967296):c l=aj/\v l=l:=by refine out l ?_;unfold vo b;rw[show bI (aR [Ck.i ar] 0)+l.length=l.length by simp[aR],Lib.cE (by omega) (by omega)];rfl
end v8

namespace pd
open _root_.Go.FG.Lib (rr)
def tv(s:ax (ax ay)):Prop:=s.length<=1048576/\∀q∈s,q.length<=1048576
theorem run(N:aG)(K0:Row->ay->ay->ay->ay->aA R)(K1:Row->ay->ay->ay->ay->Row->aA R)(s:ax (ax ay))(z a:ay)(hf:tv s)(m:aG)(hm:s.length+1<m)(kr:Row->aA R)
  (h0:s=[]->K0 (rr s) 0 0 z a=kr []) (h1:K1 (rr s) s.length s.length z a (rr s)=kr (rr s)):l3 N K0 K1 m (rr s) (s.length:ay) 0 z a=kr (rr s):=by
 obtain⟨m,rfl⟩:∃m',m=m'+1:=⟨m-1,by omega⟩
 have Y2:∀i (h:i<s.length),v8.c (Lib.ri s[i])=aj/\v8.v (Lib.ri s[i])=Lib.ri s[i]:=λi h=>v8.ok _ (by rw[Lib.j8];have:=hf.2 _ (bH h);omega);by_cases hs:s=[]
 ·subst hs;simp only[l3,r3,lP,Q6,XV,bn,az];exact h0 rfl
 ·have hp:0<s.length:=IM.2 hs;have key:=jO (R:=R) s.length (λm i (x:Row)=>oa N K0 K1 m (rr s) (s.length:ay) (i:ay) z a x) (λi=>rr (s.take i)) (kr (rr s)) (λm i h=>by
   have hl:=hf.1;simp only[oa,uU,Lib.dJ,h,aT,aw,Lib.c9,bK,iW,Lib.eK,LX h,kU,(Y2 i h).1,(Y2 i h).2,pD,bu];rw[Lib.cE (by rw[eg];omega) (by rw[eg];omega),aw,Lib.dn h (by omega)];have:=nD (λq=>[CV.l 3 (Lib.ri q)]) s i h;unfold rr;rw[<-this]) (λm=>by
   simp only[oa,uU,Lib.dJ,bB,bn,az,d_];exact h1) m 1 hp (by omega)
  simp only[l3,r3,aE (show(0:ay)<(s.length:ay)by omega),aw,aL,iW,show decide ((0:ay)<=0)=aj from rfl];have e:=Y2 0 hp;have e0:=LX (l:=s) hp;simp only[show aY 0=0 from rfl,e0,kU,e.1,e.2,aw,pD,eR];rw[show bN (0+1)=((1:aG):ay)from rfl];refine Eq.trans ?_ key;have:=nD (λq=>[CV.l 3 (Lib.ri q)]) s 0 hp;unfold rr;rw[show(0+1)=1 from rfl]at this;rw[<-this];rfl
theorem ok(s:ax (ax ay))(a:ay)(hf:tv s):c (rr s) a=aj/\v (rr s) a=(rr s,a):=by refine out _ _ ?_;unfold vo b;rw[iW];exact run Lib.cR (λ_ _ _ _ y=>ah ([],y)) (λ_ _ _ _ AW XA=>ah (XA,AW)) s 0 a hf Lib.cR (c6 (by have:=hf.1;omega)) (λx=>ah (x,a)) (λ_=>rfl) rfl
end pd

namespace gH
open _root_.Go.FG.Lib (rr)
def V5(n:ay):aU:=decide (0<=n/\n<=15)
def uY(q:ax ay):aU:=decide (q.length=16)&&q.all V5
def pE(s:ax (ax ay))(a:ay):aU:=decide (s.length=3)&&(decide (0<=a/\a<=63)&&s.all uY)
theorem gL(n a b:ay):jN.v n a b=decide (a<=n/\n<=b):=by
 unfold jN.v;by_cases h1:a<=n
 ·rw[aE (show n≥a from h1),aw];by_cases h2:n<=b<;>simp[h1,h2]
 ·rw[aK (show¬n≥a from h1),az];simp[h1]
theorem ok(s:ax (ax ay))(a:ay)(hf:pd.tv s):c (rr s) a=aj/\v (rr s) a=pE s a:=by
 refine out _ _ ?_;unfold vo b pE;rw[iW];by_cases h3:¬s.length=3
 ·rw[show((s.length:ay) !=3)=aj by simp;omega,aK h3];rfl
 have h3:s.length=3:=Decidable.not_not.1 h3;rw[show((s.length:ay) !=3)=ao by simp;omega,aE h3,az,gL];cases h4:decide (0<=a/\a<=63)with
 |false=>rfl
 |true=>
  rw[a9,az,bK,bK];have inner:∀i (h:i<s.length) (K0 K1:aU->ay->ay->Row->ay->aA aU) (kf kt:aA aU) (h0:∀j:ay,K0 ao i j (rr s) a=kf) (h1:∀j:ay,K1 ao i j (rr s) a=kt),l9 Lib.cR K0 K1 Lib.cR ao (i:ay) 0 (rr s) a=bif(s[i]).all V5 then kt else kf:=λi h K0 K1 kf kt h0 h1=>
   qV (s[i]) V5 (λm (j:aG)=>l9 Lib.cR K0 K1 m ao (i:ay) (j:ay) (rr s) a) kf kt
    (λm j hj hp=>by have hl:=hf.2 _ (bH h);unfold V5 at hp;simp only[l9,r9,iW,Lib.dJ,h,aT,Lib.c9,aL,aw,Lib.eK,LX h,kU,Lib.j8,hj,Z0 hj,bS,gL,hp,a9,az,Lib.dn hj (by omega:s[i].length<=9223372036854775807)])
    (λm j hj hp=>by unfold V5 at hp;simp only[l9,r9,iW,Lib.dJ,h,aT,Lib.c9,aL,aw,Lib.eK,LX h,kU,Lib.j8,hj,Z0 hj,bS,gL,hp,bO,h0])
    (λm=>by simp only[l9,r9,iW,Lib.dJ,h,aT,Lib.c9,aL,aw,Lib.eK,LX h,kU,Lib.j8,bB,bn,az,h1]) Lib.cR (c6 (by have:=hf.2 _ (bH h);omega))
  have key:=qV s uY (λm (i:aG)=>l4 Lib.cR (λ(Mt:aU) (_:ay) (_:Row) (_:ay)=>ah Mt) (λ(_:aU) (_:ay) (_:Row) (_:ay)=>ah aj) m ao (i:ay) (rr s) a) (ah ao) (ah aj)
   (λm i h hp=>by unfold uY at hp;rw[aJ]at hp;have hl:=ca hp.1;simp only[l4,r4,iW,Lib.dJ,h,aT,Lib.c9,aL,aw,Lib.eK,LX h,kU,Lib.j8,hl,show(((16:aG):ay) !=16)=ao from rfl,az];rw[inner i h _ _ _ _ (λ_=>rfl) (λ_=>rfl),hp.2,aw,Lib.dn h (by omega)])
   (λm i h hp=>by
    unfold uY at hp;by_cases hl:s[i].length=16
    ·rw[aE hl,bK]at hp;simp only[l4,r4,iW,Lib.dJ,h,aT,Lib.c9,aL,aw,Lib.eK,LX h,kU,Lib.j8,hl,show(((16:aG):ay) !=16)=ao from rfl,az];rw[inner i h _ _ _ _ (λ_=>rfl) (λ_=>rfl),hp,az]
    ·simp only[l4,r4,iW,Lib.dJ,h,aT,Lib.c9,aL,aw,Lib.eK,LX h,kU,Lib.j8,show((s[i].length:ay) !=16)=aj by simp;omega])
   (λm=>by simp only[l4,r4,iW,Lib.dJ,bB,bn,az]) Lib.cR (c6 (by omega))
  refine key.trans ?_;cases s.all uY<;>rfl
end gH

namespace jz
open _root_.Go.FG.Lib (rr rs)
open e9 (has without gq ma)
def eM(k:aq):aU:=decide (1<=(k.size:ay)/\(k.size:ay)<=30)
def Td(l:ax aq)(i:aG):aU:=eM (l.getD i ⟨#[]⟩)&& !has (l.take i) (l.getD i ⟨#[]⟩)
def oW(l:ax aq):aU:=(ej l.length).all (Td l)
def vv(w m:ax aq)(s:ax (ax ay))(a:ay):aU:=oW (w++m)&&(decide (w.length<=2)&&(decide (m.length<=4)&&gH.pE s a))
theorem nk(k:aq):qS.v k=eM k:=gH.gL _ _ _
theorem Kk(l:ax aq)(i:aG):dR (Lib.rs l) (aY 0) i=Lib.rs (l.take i):=by unfold dR Lib.rs;rw[show aY 0=0 from rfl,eB,Eh,List.map_take]
theorem ok(w m:ax aq)(s:ax (ax ay))(a:ay)(hw:w.length<=1048576)(hm:m.length<=1048576)(hf:pd.tv s):c (rs w) (rs m) (rr s) a=aj/\v (rs w) (rs m) (rr s) a=vv w m s a:=by
 refine out _ _ _ _ ?_;have h2:=gH.ok s a hf;unfold vo b;have r1:cF (bI (aR [Ck.s] 0)+bI (rs w)) 16=true:=Lib.cE (by simp[aR,Lib.dG];omega) (by simp[aR,Lib.dG];omega);have r2:cF (bI (aR [Ck.s] 0++rs w)+bI (rs m)) 16=true:=Lib.cE (by simp[aR,Lib.dG];omega) (by simp[aR,Lib.dG];omega);have e:aR [Ck.s] 0++rs w++rs m=rs (w++m):=by rw[show aR [Ck.s] 0++rs w=rs w from rfl];unfold Lib.rs;rw[c7]
 rw[r1,r2,aw,aw,e];have hl:(w++m).length<=2097152:=by rw[bW];omega
 have g6:∀i,i<(w++m).length->e9.c (rs ((w++m).take i)) ((w++m).getD i ⟨#[]⟩)=aj/\e9.v (rs ((w++m).take i)) ((w++m).getD i ⟨#[]⟩)=has ((w++m).take i) ((w++m).getD i ⟨#[]⟩):=λi hi=>e9.ok _ _ (by rw[eg];omega);have hk:∀i (hi:i<(w++m).length),bJ (au (rs (w++m)) i 0)=(w++m).getD i ⟨#[]⟩:=λi hi=>by rw[Z1 hi,show(w++m).getD i ⟨#[]⟩=(w++m)[i]by rw[cM,qD hi];rfl];rfl
 generalize hL:w++m=L at hl g6 hk
 have key:=nh (Td L) L.length (λn (i:aG)=>l3 Lib.cR (λ(y7:aU) (_:ay) (_ _ _:Row) (_:ay) (_:Row)=>ah y7) (λ(_:aU) (_:ay) (UJ QW Ma:Row) (Mt:ay) (_:Row)=>bif(decide ((↑(bI UJ):ay)<=2))then(bif(decide ((↑(bI QW):ay)<=4))then(bif(gH.c Ma Mt)then(ah (gH.v Ma Mt))else(ai))else(ah ao))else(ah ao)) n ao (i:ay) (rs w) (rs m) (rr s) a (rs L)) (ah ao) (ah (decide (w.length<=2)&&(decide (m.length<=4)&&gH.pE s a)))
  (λn i hi hp=>by
   unfold Td at hp;rw[aJ,dA]at hp;have b1:gU 0 (i:ay) (L.length:ay)=true:=by simp[gU];omega
   simp only[l3,r3,Lib.dG,Lib.dJ,hi,aT,Lib.c9,aL,aw,Lib.eK,hk i hi,nk,hp.1,a9,az,b1,Kk,(g6 i hi).1,(g6 i hi).2,hp.2,Lib.dn hi (by omega:L.length<=9223372036854775807)])
  (λn i hi hp=>by
   have b1:gU 0 (i:ay) (L.length:ay)=true:=by simp[gU];omega
   unfold Td at hp;cases h1:eM (L.getD i ⟨#[]⟩)with
   |false=>simp only[l3,r3,Lib.dG,Lib.dJ,hi,aT,Lib.c9,aL,aw,Lib.eK,hk i hi,nk,h1,bO]
   |true=>rw[h1,bK,vx]at hp;simp only[l3,r3,Lib.dG,Lib.dJ,hi,aT,Lib.c9,aL,aw,Lib.eK,hk i hi,nk,h1,a9,az,b1,Kk,(g6 i hi).1,(g6 i hi).2,hp])
  (λn=>by simp only[l3,r3,Lib.dG,Lib.dJ,bB,bn,az,h2.1,h2.2,aw];rw[show decide ((w.length:ay)<=2)=decide (w.length<=2)by rw[c_];omega,show decide ((m.length:ay)<=4)=decide (m.length<=4)by rw[c_];omega];cases decide (w.length<=2)<;>cases decide (m.length<=4)<;>rfl) Lib.cR (c6 (by omega))
 refine key.trans ?_;unfold vv oW;rw[hL];cases (ej L.length).all (Td L)<;>rfl
end jz

namespace qT
open _root_.Go.FG.Lib (rr rs)
open e9 (has)
theorem ok(w m:ax aq)(s:Row)(a:ay)(k:aq)(hw:w.length<=1048576)(hm:m.length<=1048576):c (rs w) (rs m) s a k=aj/\v (rs w) (rs m) s a k=(has w k||has m k):=by have h1:=e9.ok w k (by omega);have h2:=e9.ok m k (by omega);exact out _ _ _ _ _ (by unfold vo b;rw[h1.1,h1.2,h2.1,h2.2,aw,aw];cases has w k<;>rfl)
end qT

namespace mR
open _root_.Go.FG.Lib (rr rs re el xX AQ AR AU En)
open e9 (has)
open jz (vv)
def uw(e:En):aU:=ie.v e.k e.st e.li e.bo
def KU(en:ax En)(w m:ax aq)(i:aG):aU:=
 uw (el en i)&&((decide (i=0)||Go.Op.bytesLess (aC (el en (i-1)).k) (aC (el en i).k))&&(has w (el en i).k||has m (el en i).k))
def Si(en:ax En)(w m:ax aq)(s:ax (ax ay))(a:ay):aU:=(ej en.length).all (KU en w m)&&(vv w m s a&&decide (w.length+m.length=en.length))
theorem ok(i0:ay)(en:ax En)(w m:ax aq)(s:ax (ax ay))(a:ay)(r6 r7:Row)(i8:ay)(he:en.length<=1048576)(hw:w.length<=1048576)(hm:m.length<=1048576)(hf:pd.tv s):
  c i0 (re en) (rs w) (rs m) (rr s) a r6 r7 i8=aj/\v i0 (re en) (rs w) (rs m) (rr s) a r6 r7 i8=Si en w m s a:=by
 refine out _ _ _ _ _ _ _ _ _ ?_;have h1:=jz.ok w m s a hw hm hf;have h2:=λk=>qT.ok w m (rr s) a k hw hm;unfold vo b
 have key:=nh (KU en w m) en.length (λn (i:aG)=>l2 Lib.cR (λ(rO:aU) (_ _:ay) (_ _ _ _:Row) (_:ay) (_ _:Row) (_:ay)=>ah rO) (λ(_:aU) (_ _:ay) (y25 XB KA UK:Row) (UL:ay) (_ _:Row) (_:ay)=>bif(jz.c XB KA UK UL)then(bif(jz.v XB KA UK UL)then(ah (decide ((↑(bI y25):ay)=bN ((↑(bI XB):ay)+(↑(bI KA):ay)))))else(ah ao))else(ai)) n ao (i:ay) i0 (re en) (rs w) (rs m) (rr s) a r6 r7 i8) (ah ao) (ah (vv w m s a&&decide (w.length+m.length=en.length)))
  (λn i hi hp=>by
   unfold KU uw at hp;rw[aJ,aJ]at hp;obtain⟨p1,p2,p3⟩:=hp;by_cases hz:i=0
   ·subst hz;simp only[l2,r2,ff,Lib.dJ,hi,aT,Lib.c9,aL,aw,Lib.eK,xX hi,AQ hi,AR hi,AU hi,bJ,bS,p1,a9,az,aK (show¬(((0:aG):ay)>0)by omega),(h2 _).1,(h2 _).2,p3,Lib.dn hi (by omega:en.length<=9223372036854775807)]
   ·rw[aK hz,tS]at p2;have m8:i-1<en.length:=by omega
    simp only[l2,r2,ff,Lib.dJ,hi,aT,Lib.c9,aL,aw,Lib.eK,xX hi,AQ hi,AR hi,AU hi,bJ,bS,p1,a9,az,aE (show(i:ay)>0 by omega),pz (show 0<i by omega) (by omega),m8,xX m8,p2,(h2 _).1,(h2 _).2,p3,Lib.dn hi (by omega:en.length<=9223372036854775807)])
  (λn i hi hp=>by
   unfold KU uw at hp;cases p1:ie.v (el en i).k (el en i).st (el en i).li (el en i).bo with
   |false=>simp only[l2,r2,ff,Lib.dJ,hi,aT,Lib.c9,aL,aw,Lib.eK,xX hi,AQ hi,AR hi,AU hi,bJ,bS,p1,bO]
   |true=>
    rw[p1,bK]at hp;by_cases hz:i=0
    ·subst hz;rw[aE rfl,Bool.true_or,bK]at hp;simp only[l2,r2,ff,Lib.dJ,hi,aT,Lib.c9,aL,aw,Lib.eK,xX hi,AQ hi,AR hi,AU hi,bJ,bS,p1,a9,bO,az,aK (show¬(((0:aG):ay)>0)by omega),(h2 _).1,(h2 _).2,hp]
    ·rw[aK hz,tS]at hp;have m8:i-1<en.length:=by omega
     cases p2:bP (aC (el en (i-1)).k) (aC (el en i).k)with
     |false=>simp only[l2,r2,ff,Lib.dJ,hi,aT,Lib.c9,aL,aw,Lib.eK,xX hi,AQ hi,AR hi,AU hi,bJ,bS,p1,a9,bO,az,aE (show(i:ay)>0 by omega),pz (show 0<i by omega) (by omega),m8,xX m8,p2]
     |true=>rw[p2,bK]at hp;simp only[l2,r2,ff,Lib.dJ,hi,aT,Lib.c9,aL,aw,Lib.eK,xX hi,AQ hi,AR hi,AU hi,bJ,bS,p1,a9,bO,az,aE (show(i:ay)>0 by omega),pz (show 0<i by omega) (by omega),m8,xX m8,p2,(h2 _).1,(h2 _).2,hp])
  (λn=>by simp only[l2,r2,ff,Lib.dJ,bB,bn,az,h1.1,h1.2,aw,Lib.dG];rw[dj (x:=(w.length:ay)+(m.length:ay)) (by omega) (by omega),show decide ((en.length:ay)=(w.length:ay)+(m.length:ay))=decide (w.length+m.length=en.length)by rw[c_];omega];cases vv w m s a<;>rfl) Lib.cR (c6 (by omega))
 refine key.trans ?_;unfold Si;cases (ej en.length).all (KU en w m)<;>rfl
end mR

namespace oi
open _root_.Go.FG.Lib (rf el Ru Rv wf2 Iq wf3 wf4 Fe)
open jz (eM)
def oU(now:ay)(f:Fe):aU:=eM f.k&&(decide ((f.t.size:ay)<=400)&&(decide (1<=f.sta/\f.sta<=3)&&(decide (0<=f.li/\f.li<=999999)&&decide (0<=f.st/\f.st<=now))))
def lR(f g:Fe):aU:=decide (f.sta=1)&&(decide (g.sta=1)&&decide (f.k=g.k))
def apart(fe:ax Fe)(i:aG):aU:=(ej i).all λj=> !lR (el fe i) (el fe j)
theorem gL(n a b:ay):jN.v n a b=decide (a<=n/\n<=b):=gH.gL n a b
theorem ok(i0:ay)(r1 r2 r3 r4:Row)(i5:ay)(fe:ax Fe)(r7:Row)(i8:ay)(i:aG)(hi:i<fe.length)(hf:fe.length<=1048576):
  c i0 r1 r2 r3 r4 i5 (rf fe) r7 i8 (i:ay)=aj/\v i0 r1 r2 r3 r4 i5 (rf fe) r7 i8 (i:ay)=(oU i0 (el fe i)&&apart fe i):=by
 refine out _ _ _ _ _ _ _ _ _ _ ?_;unfold vo b
 have key:=nh (λj=> !lR (el fe i) (el fe j)) i (λn (j:aG)=>l5 Lib.cR (λ(_:ay) (Ma:aU) (_ _:ay) (_ _ _ _:Row) (_:ay) (_ _:Row) (_:ay) (_ _:aq) (_ _ _:ay)=>ah Ma) (λ(_:ay) (_:aU) (_ _:ay) (_ _ _ _:Row) (_:ay) (_ _:Row) (_:ay) (_ _:aq) (_ _ _:ay)=>ah aj) n (i:ay) ao (j:ay) i0 r1 r2 r3 r4 i5 (rf fe) r7 i8 (el fe i).k (el fe i).t (el fe i).sta (el fe i).li (el fe i).st) (ah ao) (ah aj)
  (λn j hj hp=>by
   have jB:j<fe.length:=by omega
   rw[dA]at hp;unfold lR at hp;have e:decide ((el fe j).k=(el fe i).k)=decide ((el fe i).k=(el fe j).k):=by rw[c_];exact eq_comm
   simp only[l5,r5,Lib.dJ,hj,aT,Lib.c9,aL,aw,Lib.eK,gf,jB,Ru jB,Iq jB,bJ,bS,Lib.fP,e,Lib.dn hj (by omega:i<=9223372036854775807)];revert hp;cases decide ((el fe i).k=(el fe j).k)<;>cases decide ((el fe j).sta=1)<;>cases decide ((el fe i).sta=1)<;>intro hp<;>first|rfl|cases hp)
  (λn j hj hp=>by
   have jB:j<fe.length:=by omega
   rw[vx]at hp;unfold lR at hp;rw[aJ,aJ]at hp;have e:decide ((el fe j).k=(el fe i).k)=decide ((el fe i).k=(el fe j).k):=by rw[c_];exact eq_comm
   simp only[l5,r5,Lib.dJ,hj,aT,Lib.c9,aL,aw,Lib.eK,gf,jB,Ru jB,Iq jB,bJ,bS,Lib.fP,e,hp.1,hp.2.1,hp.2.2])
  (λn=>by simp only[l5,r5,Lib.dJ,bB,bn,az]) Lib.cR (c6 (by omega))
 simp only[gf,Lib.dJ,hi,aT,Lib.c9,aL,aw,Lib.eK,Ru hi,Rv hi,wf2 hi,wf3 hi,wf4 hi,bJ,bS,gL,jz.nk];rw[show l5 Lib.cR _ _ Lib.cR (i:ay) ao 0 i0 r1 r2 r3 r4 i5 (rf fe) r7 i8 (el fe i).k (el fe i).t (el fe i).sta (el fe i).li (el fe i).st=_ from key];unfold oU apart;rw[show decide (((el fe i).t.size:ay)>400)= !decide (((el fe i).t.size:ay)<=400)by rw[<-decide_not,c_];omega];cases eM (el fe i).k<;>cases decide (((el fe i).t.size:ay)<=400)<;>cases decide (1<=(el fe i).sta/\(el fe i).sta<=3)<;>cases decide (0<=(el fe i).li/\(el fe i).li<=999999)<;>cases decide (0<=(el fe i).st/\(el fe i).st<=i0)<;>cases (ej i).all (λj=> !lR (el fe i) (el fe j))<;>rfl
end oi

namespace kL
open _root_.Go.FG.Lib (rr rs re rf rc el En Fe Cl Px Rt wc1 wc2 wc3 UD UE UF)
open jz (eM)
open mR (Si)
open oi (oU apart gL)
def Rc(now:ay)(nf:aG)(cl:ax Cl)(i:aG):aU:=
 decide (1<=(el cl i).id/\(el cl i).id<=9)&&((decide (i=0)||decide ((el cl (i-1)).id<(el cl i).id))&&(eM (el cl i).k&&(decide (1<=(el cl i).sta/\(el cl i).sta<=3)&&(decide (0<=(el cl i).fe/\(el cl i).fe<=(nf:ay))&&(decide (((el cl i).got.size:ay)<=400)&&(decide (0<=(el cl i).fr/\(el cl i).fr<=now)&&decide (0<=(el cl i).age)))))))
def lF(p:Px):aU:=
 decide (1<=p.now/\p.now<=1000000000)&&(Si p.en p.w p.m p.s p.a&&(decide (p.fe.length<=20)&&(decide (p.cl.length<=6)&&(decide (0<=p.hits/\p.hits<=1000000000)&&((ej p.fe.length).all (λi=>oU p.now (el p.fe i)&&apart p.fe i)&&(ej p.cl.length).all (Rc p.now p.fe.length p.cl))))))
theorem step(N:aG)(g k0 k1:aU->ay->ay->Row->Row->Row->Row->ay->Row->Row->ay->aA R)(i0:ay)(q1 q2 q3 q4:Row)(i5:ay)(fe:ax Fe)(cl:ax Cl)(i8:ay)(i:aG)(hi:i<cl.length)(hl:cl.length<=1048576):
  r9 N g k0 k1 ao (i:ay) i0 q1 q2 q3 q4 i5 (rf fe) (rc cl) i8=bif Rc i0 fe.length cl i then g ao ((i+1:aG):ay) i0 q1 q2 q3 q4 i5 (rf fe) (rc cl) i8 else k0 ao (i:ay) i0 q1 q2 q3 q4 i5 (rf fe) (rc cl) i8:=by
 unfold Rc;have e1:decide (((el cl i).got.size:ay)>400)= !decide (((el cl i).got.size:ay)<=400):=by rw[<-decide_not,c_];omega
 have e2:decide ((el cl i).age<0)= !decide (0<=(el cl i).age):=by rw[<-decide_not,c_];omega
 by_cases hz:i=0
 ·subst hz;simp only[r9,fc,gf,Lib.dJ,hi,aT,Lib.c9,aL,aw,Lib.eK,Rt hi,wc1 hi,wc2 hi,wc3 hi,UD hi,UE hi,UF hi,bJ,bS,gL,jz.nk,aK (show¬(((0:aG):ay)>0)by omega),az,e1,e2,Lib.dn hi (by omega:cl.length<=9223372036854775807),Bool.true_or,bK];cases decide (1<=(el cl 0).id/\(el cl 0).id<=9)<;>cases eM (el cl 0).k<;>cases decide (1<=(el cl 0).sta/\(el cl 0).sta<=3)<;>cases decide (0<=(el cl 0).fe/\(el cl 0).fe<=(fe.length:ay))<;>cases decide (((el cl 0).got.size:ay)<=400)<;>cases decide (0<=(el cl 0).fr/\(el cl 0).fr<=i0)<;>cases decide (0<=(el cl 0).age)<;>rfl
 ·have m8:i-1<cl.length:=by omega
  have e3:decide ((el cl (i-1)).id≥(el cl i).id)= !decide ((el cl (i-1)).id<(el cl i).id):=by rw[<-decide_not,c_];omega
  simp only[r9,fc,gf,Lib.dJ,hi,aT,Lib.c9,aL,aw,Lib.eK,Rt hi,wc1 hi,wc2 hi,wc3 hi,UD hi,UE hi,UF hi,bJ,bS,gL,jz.nk,aE (show(i:ay)>0 by omega),pz (show 0<i by omega) (by omega),m8,Rt m8,az,e1,e2,e3,Lib.dn hi (by omega:cl.length<=9223372036854775807),aK hz,tS];cases decide (1<=(el cl i).id/\(el cl i).id<=9)<;>cases decide ((el cl (i-1)).id<(el cl i).id)<;>cases eM (el cl i).k<;>cases decide (1<=(el cl i).sta/\(el cl i).sta<=3)<;>cases decide (0<=(el cl i).fe/\(el cl i).fe<=(fe.length:ay))<;>cases decide (((el cl i).got.size:ay)<=400)<;>cases decide (0<=(el cl i).fr/\(el cl i).fr<=i0)<;>cases decide (0<=(el cl i).age)<;>rfl
theorem ok(p:Px)(hp:p.Fit 1048576):c p.now (re p.en) (rs p.w) (rs p.m) (rr p.s) p.a (rf p.fe) (rc p.cl) p.hits=aj/\v p.now (re p.en) (rs p.w) (rs p.m) (rr p.s) p.a (rf p.fe) (rc p.cl) p.hits=lF p:=by
 refine out _ _ _ _ _ _ _ _ _ ?_;have h1:=mR.ok p.now p.en p.w p.m p.s p.a (rf p.fe) (rc p.cl) p.hits hp.en hp.w hp.m ⟨hp.s.1,hp.s.2.1⟩;have Jy:=hp.fe;have nC:=hp.cl;unfold vo b;have h2:=λi hi=>oi.ok p.now (re p.en) (rs p.w) (rs p.m) (rr p.s) p.a p.fe (rc p.cl) p.hits i hi Jy
 have kc:=λ(n:aG) (hn:p.cl.length<n)=>nh (Rc p.now p.fe.length p.cl) p.cl.length (λn (i:aG)=>l9 Lib.cR (λ(QX:aU) (_ _:ay) (_ _ _ _:Row) (_:ay) (_ _:Row) (_:ay)=>ah QX) (λ(_:aU) (_ _:ay) (_ _ _ _:Row) (_:ay) (_ _:Row) (_:ay)=>ah aj) n ao (i:ay) p.now (re p.en) (rs p.w) (rs p.m) (rr p.s) p.a (rf p.fe) (rc p.cl) p.hits) (ah ao) (ah aj)
  (λn i hi hq=>by simp only[l9];rw[step _ _ _ _ _ _ _ _ _ _ _ _ _ i hi nC,hq];rfl)
  (λn i hi hq=>by simp only[l9];rw[step _ _ _ _ _ _ _ _ _ _ _ _ _ i hi nC,hq];rfl)
  (λn=>by simp only[l9,r9,fc,Lib.dJ,bB,bn,az]) n hn
 have kf:=nh (λi=>oU p.now (el p.fe i)&&apart p.fe i) p.fe.length (λn (i:aG)=>l4 Lib.cR (λ(rO:aU) (_ _:ay) (_ _ _ _:Row) (_:ay) (_ _:Row) (_:ay)=>ah rO) (λ(y22:aU) (_ y24:ay) (y25 XB KA UK:Row) (UL:ay) (y30 y31:Row) (y32:ay)=>l9 Lib.cR (λ(QX:aU) (_ _:ay) (_ _ _ _:Row) (_:ay) (_ _:Row) (_:ay)=>ah QX) (λ(_:aU) (_ _:ay) (_ _ _ _:Row) (_:ay) (_ _:Row) (_:ay)=>ah aj) Lib.cR y22 0 y24 y25 XB KA UK UL y30 y31 y32) n ao (i:ay) p.now (re p.en) (rs p.w) (rs p.m) (rr p.s) p.a (rf p.fe) (rc p.cl) p.hits) (ah ao) (ah ((ej p.cl.length).all (Rc p.now p.fe.length p.cl)))
  (λn i hi hq=>by simp only[l4,r4,gf,Lib.dJ,hi,aT,aw,(h2 i hi).1,(h2 i hi).2,hq,a9,az,Lib.dn hi (by omega:p.fe.length<=9223372036854775807)])
  (λn i hi hq=>by simp only[l4,r4,gf,Lib.dJ,hi,aT,aw,(h2 i hi).1,(h2 i hi).2,hq,bO])
  (λn=>by simp only[l4,r4,gf,Lib.dJ,bB,bn,az];refine(kc Lib.cR (c6 (by omega))).trans ?_;cases (ej p.cl.length).all (Rc p.now p.fe.length p.cl)<;>rfl) Lib.cR (c6 (by omega))
 rw[gL,gL,h1.1,h1.2,aw,gf,fc];rw[show l4 Lib.cR _ _ Lib.cR ao 0 p.now (re p.en) (rs p.w) (rs p.m) (rr p.s) p.a (rf p.fe) (rc p.cl) p.hits=_ from kf];unfold lF;rw[show decide ((p.fe.length:ay)>20)= !decide (p.fe.length<=20)by rw[<-decide_not,c_];omega,show decide ((p.cl.length:ay)>6)= !decide (p.cl.length<=6)by rw[<-decide_not,c_];omega];cases decide (1<=p.now/\p.now<=1000000000)<;>cases Si p.en p.w p.m p.s p.a<;>cases decide (p.fe.length<=20)<;>cases decide (p.cl.length<=6)<;>cases decide (0<=p.hits/\p.hits<=1000000000)<;>cases (ej p.fe.length).all (λi=>oU p.now (el p.fe i)&&apart p.fe i)<;>cases (ej p.cl.length).all (Rc p.now p.fe.length p.cl)<;>rfl
end kL

namespace t_
open _root_.Go.FG.Lib (Px Cl Fe En el)
def ec(f:aG)(st:ay)(t:aq)(c:Cl):Cl:=bif decide (c.fe=(f:ay)+1)&&decide (c.sta=1)then{c with sta:=st,got:=t}else c
def qv(cl:ax Cl)(f:aG)(st:ay)(t:aq):ax Cl:=cl.map (ec f st t)
theorem uP{α:Type}(l:ax α)(g:α->α):l.mapIdx (λ_ c=>g c)=l.map g:=by apply pQ<;>simp
end t_

namespace gV
open _root_.Go.FG.Lib (Px Cl Fe En el)
open kL (lF)
open t_ (qv)
def uS(p:Px)(f:ay):aU:=lF p&&(decide (0<=f/\f<=(p.fe.length:ay)-1)&&decide ((el p.fe f.toNat).sta=1))
def told(p:Px)(f:aG)(g:Fe)(st:ay):Px:={p with fe:=p.fe.set f g,cl:=qv p.cl f st g.t}
theorem jm{p:Px}{f:ay}(h:uS p f=aj):∃n:aG,f=(n:ay)/\n<p.fe.length/\lF p=aj/\(el p.fe n).sta=1:=by unfold uS at h;simp only[aJ,aZ]at h;obtain⟨h1,h2,h3⟩:=h;exact⟨f.toNat,by omega,by omega,h1,h3⟩
theorem ve{p:Px}{n f:aG}{g:Fe}{st:ay}(h:p.Fit n):(told p f g st).Fit n:=by
 refine⟨h.en,h.w,h.m,h.s, ?_, ?_⟩
 ·show(p.fe.set f g).length<=n;rw[dt];exact h.fe
 ·show(qv p.cl f st g.t).length<=n;unfold t_.qv;rw[bM];exact h.cl
def Gy(p:Px)(f:ay):Px×aU:=bif uS p f then(told p f.toNat {el p.fe f.toNat with sta:=3} 3,aj)else(p,ao)
def GH(p:Px)(f:ay)(t:aq):Px×aU:=
 bif uS p f&&(decide (1<=t.size/\t.size<=40)&&decide ((el p.fe f.toNat).t.size+t.size<=400))then(told p f.toNat {el p.fe f.toNat with t:=(el p.fe f.toNat).t++t} 1,aj)else(p,ao)
theorem qZ{l:ax Fe}{n:aG}{g:Fe}(h:n<l.length):el (l.set n g) n=g:=by rw[fy (by rw[dt];exact h),mj]
theorem L6(l:ax Fe)(n j:aG)(ys:ax CV)(g:Fe)(h:n<l.length)(hs:iB (Fe.row (el l n)) j ys=Fe.row g):eN (Lib.rf l) n j ys=Lib.rf (l.set n g):=by rw[fy h]at hs;exact n5 Fe.row l n j ys g h hs
theorem acd{p:Px}(h:lF p=aj)(i:aG)(hi:i<p.fe.length):oi.oU p.now (el p.fe i)=true:=by unfold kL.lF at h;simp only[aJ,aZ]at h;obtain⟨_,_,_,_,_,h6,_⟩:=h;rw[bf]at h6;have:=h6 i (by simpa using hi);rw[aJ]at this;exact this.1
end gV

namespace iE
theorem afk(x:ay):0<=bj dO x/\bj dO x<4294967296:=by have e:bj dO x=x%4294967296:=rfl;rw[e];omega
theorem ZZ(x:ay):0<=iP.rd x/\iP.rd x<4294967296:=by unfold iP.rd;cases decide (bZ x 2=1)<;>exact afk _
theorem J4:∀(n:aG) (x:ay),0<=x/\x<4294967296->0<=iP.mn n x/\iP.mn n x<4294967296
 |0,_,h=>h
 |n+1,x,_=>J4 n _ (ZZ x)
theorem QL(t:aq):∀(d i:aG) (s:ay),0<=s/\s<4294967296->0<=iP.su t d i s/\iP.su t d i s<4294967296
 |0,_,_,h=>h
 |d+1,i,s,h=>QL t d (i+1) _ (J4 8 _ (afk _))
def keyed(i:aG)(key:aq):aq:=key++bytesOf [[CV.i a6 (i:ay)]]
def sm(i:aG)(key:aq):ay:=iP.su (keyed i key) (keyed i key).size 0 4294967295
def pl(i:aG)(key:aq):aG:=(bZ (sm i key) 16).toNat
theorem Qi(i:aG)(key:aq):0<=sm i key/\sm i key<4294967296:=QL _ _ _ _ (by omega)
theorem pl_int(i:aG)(key:aq):bZ (sm i key) 16=(pl i key:ay):=by have:=Qi i key;have h:0<=bZ (sm i key) 16:=AH _ this.1;unfold pl;omega
theorem JX(i:aG)(key:aq):pl i key<16:=by have:=Qi i key;have h:=Int.tmod_lt_of_pos (sm i key) (show(0:ay)<16 by omega);have h2:0<=bZ (sm i key) 16:=AH _ this.1;unfold pl;omega
theorem Ib(i:aG)(key:aq):(keyed i key).size=key.size+1:=by unfold keyed;rw[dh,D0]
theorem ok(i:aG)(key:aq)(hi:i<3)(hk:key.size<=140737488355328):c (i:ay) key=aj/\v (i:ay) key=(pl i key:ay):=by
 refine out _ _ ?_;unfold vo b;have e:(key++bytesOf (aF (aR [Ck.i a6] 1) 0 [CV.i a6 (bj a6 (i:ay))]))=keyed i key:=by
  unfold keyed;match i,hi with
  |0,_=>rfl
  |1,_=>rfl
  |2,_=>rfl
 have hs:=Ib i key;have h:=tf.ok (keyed i key) (by omega);have e2:bh key+bh (bytesOf (aF (aR [Ck.i a6] 1) 0 [CV.i a6 (bj a6 (i:ay))]))=key.size+1:=by rw[pD,D0]
 rw[e2,e,aE (by omega),aw,h.1,h.2,aw];have hp:=pl_int i key;have hl:=JX i key;unfold sm at hp;rw[hp,dj (by omega) (by omega)]
end iE

namespace mQ
open _root_.Go.FG.Lib (rr)
theorem run(N:aG)(K0:ay->Row->ay->ay->ay->aA R)(K1:ay->Row->ay->ay->ay->Row->aA R)(s:ax (ax ay))(z y a:ay)(hf:pd.tv s)(m:aG)(hm:s.length+1<m)(kr:Row->aA R)
  (h0:s=[]->K0 0 (rr s) z y a=kr []) (h1:K1 s.length (rr s) z y a (rr s)=kr (rr s)):l3 N K0 K1 m 0 (rr s) z y a=kr (rr s):=by
 obtain⟨m,rfl⟩:∃m',m=m'+1:=⟨m-1,by omega⟩
 have hz:∀q:Row,aR [Ck.i ar] 0++q=q:=λq=>rfl;have Y2:∀i (h:i<s.length),cF (bI (aR [Ck.i ar] 0)+bI (Lib.ri s[i])) 8=true:=λi h=>by have:=hf.2 _ (bH h);exact Lib.cE (by rw[Lib.j8];simp[aR];omega) (by rw[Lib.j8];simp[aR];omega)
 by_cases hs:s=[]
 ·subst hs;simp only[l3,r3,iW,lP,Q6,XV,bn,az];exact h0 rfl
 ·have hp:0<s.length:=IM.2 hs;have key:=jO (R:=R) s.length (λm i (x:Row)=>oa N K0 K1 m (i:ay) (rr s) z y a x) (λi=>rr (s.take i)) (kr (rr s)) (λm i h=>by
   have hl:=hf.1;simp only[oa,uU,iW,Lib.dJ,h,aT,aw,Lib.c9,bK,Lib.eK,LX h,kU,Y2 i h,hz,pD,bu];rw[Lib.cE (by rw[eg];omega) (by rw[eg];omega),aw,Lib.dn h (by omega)];have:=nD (λq=>[CV.l 3 (Lib.ri q)]) s i h;unfold rr;rw[<-this]) (λm=>by
   simp only[oa,uU,iW,Lib.dJ,bB,bn,az,d_];exact h1) m 1 hp (by omega)
  have e:=Y2 0 hp;have e0:=LX (l:=s) hp;simp only[l3,r3,aE (show(0:ay)<(s.length:ay)by omega),aw,aL,iW,show decide ((0:ay)<=0)=aj from rfl,show aY 0=0 from rfl,e0,kU,e,hz,aw,pD,eR];rw[show bN (0+1)=((1:aG):ay)from rfl];refine Eq.trans ?_ key;have:=nD (λq=>[CV.l 3 (Lib.ri q)]) s 0 hp;unfold rr;rw[show(0+1)=1 from rfl]at this;rw[<-this];rfl
theorem ok(s:ax (ax ay))(a:ay)(hf:pd.tv s):c (rr s) a=aj/\v (rr s) a=(rr s,a):=by refine out _ _ ?_;unfold vo b;exact run Lib.cR (λ_ _ _ _ y=>ah ([],y)) (λ_ _ _ _ AW XA=>ah (XA,AW)) s a 0 a hf Lib.cR (c6 (by have:=hf.1;omega)) (λx=>ah (x,a)) (λ_=>rfl) rfl
end mQ

namespace dy
open _root_.Go.FG.Lib (rr ri)
def bq(p:aG)(q:ax ay):ax ay:=q.set p (bif decide (q.getD p 0<15)then q.getD p 0+1 else q.getD p 0)
def EM(s:ax (ax ay))(key:aq):ax (ax ay):=s.mapIdx λi q=>bq (iE.pl i key) q
def half(s:ax (ax ay)):ax (ax ay):=s.map λq=>q.map λn=>cO n 2
def val(s:ax (ax ay))(a:ay)(key:aq):ax (ax ay)×ay:=
 bif gH.pE s a then(bif decide (a+1=64)then(half (EM s key),0)else(EM s key,a+1))else(s,a)
def fR(q:ax ay):ax CV:=[CV.l 3 (ri q)]
theorem aek(q:ax ay)(p:aG)(x:ay)(h:p<q.length):eN (ri q) p 0 [CV.i ar x]=ri (q.set p x):=n5 (λn=>[CV.i ar n]) q p 0 _ x h rfl
theorem ael(L:ax (ax ay))(i:aG)(q:ax ay)(h:i<L.length):eN (L.map fR) i 0 [CV.l 3 (ri q)]=(L.set i q).map fR:=n5 fR L i 0 _ q h rfl
theorem NR(L:ax (ax ay))(i:aG)(h:i<L.length):au (L.map fR) i 0=CV.l 3 (ri L[i]):=fF fR L i 0 h
theorem DM{s:ax (ax ay)}{a:ay}(h:gH.pE s a=aj):s.length=3/\(0<=a/\a<=63)/\∀q∈s,q.length=16/\∀n∈q,0<=n/\n<=15:=by
 unfold gH.pE at h;rw[aJ,aJ]at h;refine⟨ca h.1,ca h.2.1,λq hq=> ?_⟩
 have:=bf.1 h.2.2 q hq;unfold gH.uY at this;rw[aJ]at this;refine⟨ca this.1,λn hn=> ?_⟩
 have:=bf.1 this.2 n hn;unfold gH.V5 at this;exact ca this
theorem rX{q:ax ay}{p:aG}(h:p<q.length):q.getD p 0=q[p]:=by simp[e6,h]
theorem amS(K:aq->ay->ay->ay->Row->aA R)(s:ax (ax ay))(key:aq)(y a:ay)(hs:s.length=3)(hq:∀q∈s,q.length=16/\∀n∈q,0<=n/\n<=15)(hk:key.size<=140737488355328):
  l5 Lib.cR K Lib.cR key 0 y a (rr s)=K key 3 y a (rr (EM s key)):=by
 refine(vh fR s (λi q=>bq (iE.pl i key) q) (λm (i:aG) x=>l5 Lib.cR K m key (i:ay) y a x) (λx=>K key 3 y a x) (λm i L h h2 hL Mk=> ?_) (λm L hL=> ?_) Lib.cR (c6 (by omega)))
 ·have hp:=iE.ok i key (by omega) hk;have sR:=iE.JX i key;obtain⟨YT,hn⟩:=hq _ (bH h);have e0:au (L.map fR) i 0=CV.l 3 (ri s[i]):=by rw[NR L i h2,Mk]
  have hb:iE.pl i key<s[i].length:=by omega
  have hx:=hn _ (bH hb);simp only[l5,r5,bM,Lib.dJ,h2,aT,aw,hp.1,hp.2,Lib.c9,aL,Lib.eK,e0,kU,Lib.j8,YT,sR,Z0 hb,bS];unfold bq;rw[rX hb];cases hd:decide (s[i][iE.pl i key]<15)with
  |true=>have:=ca hd;rw[aw,aw,dj (x:=s[i][iE.pl i key]+1) (by omega) (by omega),aek _ _ _ hb,ael _ _ _ h2,Lib.dn h2 (by omega)]
  |false=>rw[az,az,Lib.dn h2 (by omega),js,<-Mk,js]
 ·simp only[l5,r5,bM,Lib.dJ,hL,bB,bn,az,hs];rfl
theorem zr{s:ax (ax ay)}{key:aq}(hs:s.length=3)(hq:∀q∈s,q.length=16/\∀n∈q,0<=n/\n<=15):(EM s key).length=3/\∀q∈EM s key,q.length=16/\∀n∈q,0<=n/\n<=15:=by
 unfold EM;refine⟨by simp[hs],λq hm=> ?_⟩
 obtain⟨i,hi,rfl⟩:=List.mem_mapIdx.1 hm;obtain⟨YT,hn⟩:=hq _ (bH hi);unfold bq;have hb:iE.pl i key<s[i].length:=by have:=iE.JX i key;omega
 refine⟨by rw[dt];exact YT,λn h=> ?_⟩
 rcases iD h with h|h
 ·exact hn n h
 ·rw[rX hb]at h;have hx:=hn _ (bH hb);rw[h];cases hd:decide (s[i][iE.pl i key]<15)with
  |true=>have:=ca hd;rw[aw];omega
  |false=>rw[az];exact hx
theorem aei(K:ay->ay->ay->ay->Row->aA R)(L:ax (ax ay))(i:aG)(h:i<L.length)(y a:ay)(hl:L.length<=1048576)(hq:L[i].length=16)(hn:∀n∈L[i],0<=n/\n<=15):
  ZA Lib.cR K Lib.cR (i:ay) 0 y a (L.map fR)=K i 16 y a ((L.set i (L[i].map λn=>cO n 2)).map fR):=by
 have hmi:L[i].mapIdx (λ_ n=>cO n 2)=L[i].map λn=>cO n 2:=by apply pQ<;>simp
 have key:=jO (L[i].length) (λm (k:aG) x=>ZA Lib.cR K m (i:ay) (k:ay) y a x) (λk=>(L.set i (oq L[i] (λ_ n=>cO n 2) k)).map fR) (K i 16 y a ((L.set i (L[i].map λn=>cO n 2)).map fR)) (λm k hk=> ?_) (λm=> ?_) Lib.cR 0 (bC _) (c6 (by omega))
 ·rw[Ea,js]at key;exact key
 ·have hu:=rJ L[i] (λ_ n=>cO n 2) k (by omega);generalize hU:oq L[i] (λ_ n=>cO n 2) k=U at hu;have hku:k<U.length:=by omega
  have fN:U[k]=L[i][k]:=by subst hU;exact yT _ _ _ hk _
  have ako:U.set k (cO L[i][k] 2)=oq L[i] (λ_ n=>cO n 2) (k+1):=by subst hU;exact vg L[i] (λ_ n=>cO n 2) k hk
  have h2:i<(L.set i U).length:=by simpa using h
  have e0:au ((L.set i U).map fR) i 0=CV.l 3 (ri U):=by rw[NR _ _ h2,mj]
  have hx:=hn _ (bH hk);have ht:0<=cO L[i][k] 2:=Int.tdiv_nonneg hx.1 (by omega);have Fy:cO L[i][k] 2<=15:=Gu (Int.tdiv_le_self _ hx.1) hx.2;simp only[ZA,r17,bM,dt,Lib.dJ,h,hku,aT,aw,Lib.c9,aL,Lib.eK,e0,kU,Lib.j8,Z0 hku,bS,fN];rw[dj (x:=cO L[i][k] 2) (by omega) (by omega),aek _ _ _ hku,ael _ _ _ h2,ako,Yc,Lib.dn hk (by omega)]
 ·have e0:au ((L.set i (oq L[i] (λ_ n=>cO n 2) L[i].length)).map fR) i 0=CV.l 3 (ri (L[i].map λn=>cO n 2)):=by rw[NR _ _ (by simpa using h),mj,rI,hmi]
  simp only[ZA,r17,bM,dt,Lib.dJ,h,aT,aw,Lib.c9,aL,Lib.eK,e0,kU,Lib.j8,bB,bn,az];rw[rI,hmi,hq];rfl
theorem aeh(K:ay->ay->ay->Row->aA R)(s:ax (ax ay))(y a:ay)(hs:s.length=3)(hq:∀q∈s,q.length=16/\∀n∈q,0<=n/\n<=15):
  Zz Lib.cR K Lib.cR 0 y a (rr s)=K 3 y a (rr (half s)):=by
 have hmi:s.mapIdx (λ_ q=>q.map λn=>cO n 2)=half s:=by unfold half;apply pQ<;>simp
 rw[<-hmi];refine(vh fR s (λ_ q=>q.map λn=>cO n 2) (λm (i:aG) x=>Zz Lib.cR K m (i:ay) y a x) (λx=>K 3 y a x) (λm i L h h2 hL Mk=> ?_) (λm L hL=> ?_) Lib.cR (c6 (by omega)))
 ·obtain⟨YT,hn⟩:=hq _ (bH h);simp only[Zz,r14,bM,Lib.dJ,h2,aT,aw];rw[aei _ L i h2 y a (by omega) (by rw[Mk];exact YT) (by rw[Mk];exact hn),Lib.dn h2 (by omega),Mk]
 ·simp only[Zz,r14,bM,Lib.dJ,hL,bB,bn,az,hs];rfl
theorem ok(s:ax (ax ay))(a:ay)(key:aq)(hf:pd.tv s)(hk:key.size<=140737488355328):c (rr s) a key=aj/\v (rr s) a key=(rr (val s a key).1,(val s a key).2):=by
 refine out _ _ _ ?_;have h1:=mQ.ok s a hf;have h2:=gH.ok s a hf;unfold vo b val;rw[h1.1,h1.2,h2.1,h2.2,aw,aw];cases hok:gH.pE s a with
 |false=>rfl
 |true=>
  obtain⟨hs,ha,hq⟩:=DM hok;obtain⟨b1,b2⟩:=zr (key:=key) hs hq;rw[a9,az,aw,amS _ s key _ _ hs hq hk,dj (x:=a+1) (by omega) (by omega)];cases hd:decide (a+1=64)with
  |false=>rfl
  |true=>rw[aw,aw,aeh _ _ _ _ b1 b2]
end dy

namespace mS
open _root_.Go.FG.Lib (rr ri)
def gs(key:aq):aG->ax (ax ay)->ay->ay
 |_,[],x=>x
 |i,q::r,x=>gs key (i+1) r (bif decide (q.getD (iE.pl i key) 0<x)then q.getD (iE.pl i key) 0 else x)
def val(s:ax (ax ay))(a:ay)(key:aq):ay:=bif gH.pE s a then gs key 0 s 15 else 0
theorem SC(key:aq)(s:ax (ax ay))(i:aG)(h:i<s.length)(x:ay):gs key i (s.drop i) x=gs key (i+1) (s.drop (i+1)) (bif decide (s[i].getD (iE.pl i key) 0<x)then s[i].getD (iE.pl i key) 0 else x):=by rw[cQ h];rfl
theorem ok(s:ax (ax ay))(a:ay)(key:aq)(hf:pd.tv s)(hk:key.size<=140737488355328):c (rr s) a key=aj/\v (rr s) a key=val s a key:=by
 refine out _ _ _ ?_;have h2:=gH.ok s a hf;unfold vo b val;rw[h2.1,h2.2,aw];cases hok:gH.pE s a with
 |false=>rfl
 |true=>
  obtain⟨hs,ha,hq⟩:=dy.DM hok;rw[a9,az,aw];have:=Lib.iL (λm (t:aG×ay)=>l5 Lib.cR (λ(_:aq) (y6 _:ay) (_:Row) (_:ay)=>ah y6) m key t.2 (t.1:ay) (rr s) a) (λt=>s.length-t.1) (λt=>t.1<=s.length) (λt=>ah (gs key t.1 (s.drop t.1) t.2)) (λm t ht=>by
   obtain⟨i,x⟩:=t;dsimp only at ht⊢;by_cases h:i<s.length
   ·right;have hp:=iE.ok i key (by omega) hk;have sR:=iE.JX i key;obtain⟨YT,hn⟩:=hq _ (bH h);have hb:iE.pl i key<s[i].length:=by omega
    refine⟨(i+1,bif decide (s[i].getD (iE.pl i key) 0<x)then s[i].getD (iE.pl i key) 0 else x),by dsimp only;omega,by dsimp only;omega,by rw[<-SC key s i h x], ?_⟩
    simp only[l5,r5,iW,Lib.dJ,h,aT,aw,hp.1,hp.2,Lib.c9,aL,Lib.eK,LX h,kU,Lib.j8,YT,sR,Z0 hb,bS,Lib.dn h (by omega:s.length<=9223372036854775807)];rw[dy.rX hb];cases decide (s[i][iE.pl i key]<x)<;>rfl
   ·left;have:i=s.length:=by omega
    subst this;simp only[l5,r5,iW,Lib.dJ,bB,bn,az,cU,gs]) Lib.cR (0,15) (bC _) (c6 (by dsimp only;omega))
  simpa using this
end mS

namespace e7
open _root_.Go.FG.Lib (rr rs)
theorem ok(w m:ax aq)(s:ax (ax ay))(a:ay)(hw:w.length<=1048576)(hm:m.length<=1048576)(hf:pd.tv s):c (rs w) (rs m) (rr s) a=aj/\v (rs w) (rs m) (rr s) a=(rs w,rs m,rr s,a):=by have h3:=mQ.ok s a hf;have r1:cF (bI (aR [Ck.s] 0)+bI (rs w)) 16=true:=Lib.cE (by simp[aR,Lib.dG];omega) (by simp[aR,Lib.dG];omega);have r2:cF (bI (aR [Ck.s] 0)+bI (rs m)) 16=true:=Lib.cE (by simp[aR,Lib.dG];omega) (by simp[aR,Lib.dG];omega);exact out _ _ _ _ (by unfold vo b;rw[r1,r2,h3.1,h3.2,aw,aw,aw];rfl)
end e7

namespace nL
theorem ok(l:ax aq)(k:aq)(hl:l.length<=1048576):c (Lib.rs l) k=aj/\v (Lib.rs l) k=Lib.rs (e9.without l k):=by
 refine out _ _ ?_;unfold vo b;have key:=jO l.length (λm (i:aG) (x:Row)=>l3 Lib.cR (λ(_:Row) (_:aq) (_:ay) (y7:Row)=>ah y7) m (Lib.rs l) k (i:ay) x) (λi=>Lib.rs (e9.without (l.take i) k)) (ah (Lib.rs (e9.without l k))) (λm i h=>by
  have hlen:=e9.iS (l:=l.take i) (k:=k);rw[eg]at hlen;simp only[l3,r3,Lib.dG,Lib.dJ,h,aT,Lib.c9,aL,aw,Lib.eK,Z1 h,bJ,Lib.fP,pD,bu,Lib.dn h (by omega:l.length<=9223372036854775807)];rw[Lib.cE (by omega) (by omega),aw];have e:e9.without (l.take (i+1)) k=e9.without (l.take i) k++(bif !decide (l[i]=k)then [l[i]]else []):=by unfold e9.without;rw[cj h,ik];cases hd:decide (l[i]=k)<;>simp[hd]
  rw[e];cases hd:decide (l[i]=k)with
  |true=>rw[a9,az,az,dv]
  |false=>rw[bO,aw,aw];unfold Lib.rs;rw[c7];rfl) (λm=>by
  simp only[l3,r3,Lib.dG,Lib.dJ,bB,bn,az,d_]) Lib.cR 0 (bC _) (c6 (by omega))
 exact key
end nL

namespace e8
open _root_.Go.FG.Lib (rr rs)
open e9 (has without gq ma Ir iS tQ)
open jz (eM Td oW vv nk)
def val(w m:ax aq)(s:ax (ax ay))(a:ay)(key:aq):ax aq×ax aq×ax (ax ay)×ay×aq:=
 bif vv w m s a&&eM key then
  bif has w key then(without w key++[key],m,(dy.val s a key).1,(dy.val s a key).2,⟨#[]⟩)
  else bif has m key then(w,without m key++[key],(dy.val s a key).1,(dy.val s a key).2,⟨#[]⟩)
  else bif decide ((w++[key]).length<=2)then(w++[key],m,(dy.val s a key).1,(dy.val s a key).2,⟨#[]⟩)
  else bif decide (m.length<4)then((w++[key]).tail,m++[(w++[key]).getD 0 ⟨#[]⟩],(dy.val s a key).1,(dy.val s a key).2,⟨#[]⟩)
  else bif decide (mS.val (dy.val s a key).1 (dy.val s a key).2 ((w++[key]).getD 0 ⟨#[]⟩)>mS.val (dy.val s a key).1 (dy.val s a key).2 (m.getD 0 ⟨#[]⟩))then
   ((w++[key]).tail,m.tail++[(w++[key]).getD 0 ⟨#[]⟩],(dy.val s a key).1,(dy.val s a key).2,m.getD 0 ⟨#[]⟩)
  else((w++[key]).tail,m,(dy.val s a key).1,(dy.val s a key).2,(w++[key]).getD 0 ⟨#[]⟩)
 else(w,m,s,a,⟨#[]⟩)
theorem Qj(l:ax aq)(k:aq):rs l++[[CV.s k]]=rs (l++[k]):=by unfold Lib.rs;rw[c7];rfl
theorem zer(l:ax aq):aR [Ck.s] 0++rs l=rs l:=rfl
theorem acq(l:ax aq):bJ (au (rs l) (aY 0) 0)=l.getD 0 ⟨#[]⟩:=by cases l<;>rfl
theorem ae_(l:ax aq):dR (rs l) (aY 1) (aY (l.length:ay))=rs l.tail:=by unfold dR Lib.rs;rw[show aY 1=1 from rfl,Lib.eK,List.drop_one,<-List.map_tail,gb (by simp)]
theorem tD{l:ax aq}(h:oW l=aj){k:aq}(hk:k∈l):eM k=true:=by
 unfold oW at h;rw[bf]at h;obtain⟨i,hi,rfl⟩:=di hk;have:=h i (by simpa using hi);unfold Td at this;rw[aJ]at this;have e:l.getD i ⟨#[]⟩=l[i]:=by simp[e6,hi]
 rw[e]at this;exact this.1
theorem HL{l:ax aq}:oW l=aj↔(∀k∈l,eM k=aj)/\l.Nodup:=by
 constructor
 ·intro h;refine⟨λk hk=>tD h hk, ?_⟩
  rw[oe,da];intro i j hi hj Le he;unfold oW at h;rw[bf]at h;have h2:=h j (by simpa using hj);unfold Td at h2;have e:l.getD j ⟨#[]⟩=l[j]:=by simp[e6,hj]
  rw[e,aJ,dA,ma]at h2;refine h2.2 ?_;rw[<-he];have:(l.take j)[i]'(by rw[eg];omega)=l[i]:=o8 ..;rw[<-this];exact bH _
 ·intro h;unfold oW;rw[bf];intro j hj;have hj:j<l.length:=by simpa using hj
  unfold Td;have e:l.getD j ⟨#[]⟩=l[j]:=by simp[e6,hj]
  rw[e,aJ,dA,ma];refine⟨h.1 _ (bH hj),λhm=> ?_⟩
  obtain⟨i,hi,he⟩:=di hm;rw[eg]at hi;rw[o8]at he;have h2:=h.2;rw[oe,da]at h2;exact h2 i j (by omega) hj (by omega) he
theorem rk{k:aq}(h:eM k=aj):1<=k.size/\k.size<=30:=by unfold eM at h;have:=ca h;omega
theorem Z3{s:ax (ax ay)}{a:ay}{key:aq}(h:pd.tv s):pd.tv (dy.val s a key).1:=by
 unfold dy.val;cases hok:gH.pE s a with
 |false=>exact h
 |true=>
  obtain⟨hs,_,hq⟩:=dy.DM hok;obtain⟨b1,b2⟩:=dy.zr (key:=key) hs hq;rw[aw];cases decide (a+1=64)with
  |false=>exact⟨by rw[az];dsimp only;omega,λq h=>by have:=(b2 q h).1;omega⟩
  |true=>
   rw[aw];dsimp only;unfold dy.half;refine⟨by rw[bM];omega,λq h=> ?_⟩
   obtain⟨q',hq',rfl⟩:=cD.1 h;rw[bM];have:=(b2 q' hq').1;omega
theorem Fl{l:ax aq}(h:0<l.length):l.getD 0 ⟨#[]⟩∈l:=by
 cases l with
 |nil=>simp at h
 |cons x r=>exact cw ..
theorem H4{w m:ax aq}{s:ax (ax ay)}{a:ay}(h:vv w m s a=aj):oW (w++m)=aj/\w.length<=2/\m.length<=4/\gH.pE s a=true:=by unfold vv at h;simp only[aJ,aZ]at h;exact⟨h.1,h.2.1,h.2.2.1,h.2.2.2⟩
theorem ok(w m:ax aq)(s:ax (ax ay))(a:ay)(key:aq)(hw:w.length<=1048576)(hm:m.length<=1048576)(hf:pd.tv s)(hk:key.size<=140737488355328):
  c (rs w) (rs m) (rr s) a key=aj/\v (rs w) (rs m) (rr s) a key=(rs (val w m s a key).1,rs (val w m s a key).2.1,rr (val w m s a key).2.2.1,(val w m s a key).2.2.2.1,(val w m s a key).2.2.2.2):=by
 refine out _ _ _ _ _ ?_;have h1:=e7.ok w m s a hw hm hf;have h2:=jz.ok w m s a hw hm hf;have h3:=dy.ok s a key hf hk;have h4:=e9.ok w key (by omega);have h5:=e9.ok m key (by omega);have h6:=nL.ok w key hw;have h7:=nL.ok m key hm;have sf:=Z3 (a:=a) (key:=key) hf;unfold vo b;simp only[Lib.lt,h1.1,h1.2,h2.1,h2.2,aw];unfold val;cases hp:vv w m s a with
 |false=>rfl
 |true=>
  obtain⟨p1,p2,p3,p4⟩:=H4 hp;rw[nk,bK];cases wW:eM key with
  |false=>rfl
  |true=>
   have AM:=rk wW;have l6:=iS (l:=w) (k:=key);have l7:=iS (l:=m) (k:=key);simp only[a9,az,aw,h3.1,h3.2,h4.1,h4.2,h5.1,h5.2,h6.1,h6.2,h7.1,h7.2,Qj,zer,Lib.dG,pD,bu];rw[Lib.cE (n:=(without w key).length+1) (by omega) (by omega),Lib.cE (n:=(without m key).length+1) (by omega) (by omega),Lib.cE (n:=w.length+1) (by omega) (by omega)];simp only[aw];cases hA:has w key with
   |true=>rfl
   |false=>
    cases hB:has m key with
    |true=>rfl
    |false=>
     simp only[az];rw[show decide (((w++[key]).length:ay)<=2)=decide ((w++[key]).length<=2)by rw[c_];omega];cases hC:decide ((w++[key]).length<=2)with
     |true=>rfl
     |false=>
      have hlw:(w++[key]).length=3:=by have:=V7 hC;rw[bW,bu]at this⊢;omega
      have hfm:(w++[key]).getD 0 ⟨#[]⟩∈w++[key]:=Fl (by omega);have Ri:((w++[key]).getD 0 ⟨#[]⟩).size<=30:=by
       rcases aX.1 hfm with h|h
       ·exact(rk (tD p1 (bL _ h))).2
       ·rw[aW]at h;rw[h];exact AM.2
      have g1:=mS.ok (dy.val s a key).1 (dy.val s a key).2 ((w++[key]).getD 0 ⟨#[]⟩) sf (by omega);have i1:gU 1 ((w++[key]).length:ay) ((w++[key]).length:ay)=true:=by rw[hlw];rfl
      have ht:(w++[key]).tail.length=2:=by rw[Nh];omega
      have rz:cF (bI (aR [Ck.s] 0)+(w++[key]).tail.length) 16=true:=Lib.cE (by rw[ht];decide) (by rw[ht];decide);simp only[az,aE (show(0:ay)<((w++[key]).length:ay)by omega),i1,aw,acq,ae_,rz,zer,Qj,Lib.dG,Lib.cE (n:=m.length+1) (b:=16) (by omega) (by omega),g1.1,g1.2];rw[show decide ((m.length:ay)<4)=decide (m.length<4)by rw[c_];omega];cases hD:decide (m.length<4)with
      |true=>rfl
      |false=>
       have hm4:m.length=4:=by have:=V7 hD;omega
       have hmm:m.getD 0 ⟨#[]⟩∈m:=Fl (by omega);have hms:=(rk (tD p1 (bE _ hmm))).2;have g2:=mS.ok (dy.val s a key).1 (dy.val s a key).2 (m.getD 0 ⟨#[]⟩) sf (by omega);have i2:gU 1 (m.length:ay) (m.length:ay)=true:=by simp[gU];omega
       have Fy:m.tail.length=3:=by rw[Nh];omega
       have rz2:cF (bI (aR [Ck.s] 0)+m.tail.length) 16=true:=Lib.cE (by rw[Fy];decide) (by rw[Fy];decide);simp only[az,aE (show(0:ay)<(m.length:ay)by omega),i2,aw,rz2,Qj,Lib.cE (n:=m.tail.length+1) (b:=16) (by omega) (by omega),g2.1,g2.2];cases decide (mS.val (dy.val s a key).1 (dy.val s a key).2 ((w++[key]).getD 0 ⟨#[]⟩)>mS.val (dy.val s a key).1 (dy.val s a key).2 (m.getD 0 ⟨#[]⟩))<;>rfl
def lens(s:ax (ax ay)):ax aG:=s.map bI
theorem B8(s:ax (ax ay))(key:aq):lens (dy.EM s key)=lens s:=by
 unfold lens dy.EM;apply pQ
 ·simp
 ·intro i h1 h2;simp[dy.bq]
theorem Lw(s:ax (ax ay)):lens (dy.half s)=lens s:=by unfold lens dy.half;rw[jr];apply Me;intro q _;simp
theorem Th(s:ax (ax ay))(a:ay)(key:aq):lens (dy.val s a key).1=lens s:=by
 unfold dy.val;cases gH.pE s a with
 |false=>rfl
 |true=>
  cases decide (a+1=64)with
  |false=>exact B8 s key
  |true=>exact(Lw _).trans (B8 s key)
theorem QO(w m:ax aq)(s:ax (ax ay))(a:ay)(key:aq):(val w m s a key).1.length<=w.length+1/\(val w m s a key).2.1.length<=m.length+1/\lens (val w m s a key).2.2.1=lens s:=by
 have hw:=iS (l:=w) (k:=key);have hm:=iS (l:=m) (k:=key);have hs:=Th s a key;unfold val;cases vv w m s a&&eM key with
 |false=>exact⟨by rw[az];exact gY _,by rw[az];exact gY _,rfl⟩
 |true=>
  rw[aw];cases has w key with
  |true=>refine⟨?_, ?_,hs⟩<;>(simp only[aw];simp;try omega)
  |false=>
   cases has m key with
   |true=>refine⟨?_, ?_,hs⟩<;>(simp only[aw,az];simp;try omega)
   |false=>
    cases decide ((w++[key]).length<=2)with
    |true=>refine⟨?_, ?_,hs⟩<;>(simp only[aw,az];simp;try omega)
    |false=>
     cases decide (m.length<4)with
     |true=>refine⟨?_, ?_,hs⟩<;>(simp only[aw,az];simp;try omega)
     |false=>
      cases decide (mS.val (dy.val s a key).1 (dy.val s a key).2 ((w++[key]).getD 0 ⟨#[]⟩)>mS.val (dy.val s a key).1 (dy.val s a key).2 (m.getD 0 ⟨#[]⟩))with
      |true=>refine⟨?_, ?_,hs⟩<;>(simp only[aw,az];simp;try omega)
      |false=>refine⟨?_, ?_,hs⟩<;>(simp only[aw,az];simp;try omega)
end e8

namespace lj
open _root_.Go.FG.Lib (rr rs re rf rc Px En el)
open e9 (has)
open fH (ew So fw lE zw drop_nil Cc tL Sg ab0 qh)
def Gk(p:Px)(e:En):Px:=
 {p with
  w:=(e8.val p.w p.m p.s p.a e.k).1
  m:=(e8.val p.w p.m p.s p.a e.k).2.1
  s:=(e8.val p.w p.m p.s p.a e.k).2.2.1
  a:=(e8.val p.w p.m p.s p.a e.k).2.2.2.1
  en:=bif has (e8.val p.w p.m p.s p.a e.k).1 e.k||has (e8.val p.w p.m p.s p.a e.k).2.1 e.k then lE (fw p.en (e8.val p.w p.m p.s p.a e.k).2.2.2.2) e else fw p.en (e8.val p.w p.m p.s p.a e.k).2.2.2.2}
theorem aen{en:ax En}{w m:ax aq}(h:(ej en.length).all (mR.KU en w m)=aj):So en/\∀e∈en,1<=e.k.size:=by
 rw[bf]at h;have h1:∀i (hi:i<en.length),mR.KU en w m i=true:=λi hi=>h i (by simpa using hi);constructor
 ·have adj:∀d i (hi:i+d+1<en.length),ew (el en i).k (el en (i+d+1)).k=true:=by
   intro d;induction d with
   |zero=>
    intro i hi;have:=h1 (i+1) (by omega);unfold mR.KU at this;rw[aJ,aJ,dq]at this;rcases this.2.1 with h|h
    ·have:=ca h;omega
    ·exact h
   |succ d ih=>
    intro i hi;have a:=ih i (by omega);have:=h1 (i+d+1+1) (by omega);unfold mR.KU at this;rw[aJ,aJ,dq]at this;rcases this.2.1 with h|h
    ·have:=ca h;omega
    ·exact eT.nO _ _ _ a h
  unfold So;rw[da];intro i j hi hj Le;have:=adj (j-i-1) i (by omega);rw[show i+(j-i-1)+1=j by omega,fy hi,fy hj]at this;exact this
 ·intro e he;obtain⟨i,hi,rfl⟩:=di he;have:=h1 i hi;unfold mR.KU mR.uw at this;rw[aJ,fy hi]at this;exact(ie.DX this.1).1.1
theorem JZ{p:Px}(h:kL.lF p=aj):So p.en/\(∀e∈p.en,1<=e.k.size)/\p.en.length<=6/\p.w.length<=2/\p.m.length<=4/\p.fe.length<=20/\p.cl.length<=6/\(1<=p.now/\p.now<=1000000000)/\(0<=p.hits/\p.hits<=1000000000)/\jz.vv p.w p.m p.s p.a=aj/\(∀i,i<p.fe.length->oi.oU p.now (el p.fe i)=aj):=by
 unfold kL.lF at h;simp only[aJ,aZ]at h;obtain⟨h1,h2,h3,h4,h5,h6,h7⟩:=h;unfold mR.Si at h2;simp only[aJ,aZ]at h2;obtain⟨g1,g2,g3⟩:=h2;obtain⟨s1,s2⟩:=aen g1;obtain⟨_,q2,q3,_⟩:=e8.H4 g2;refine⟨s1,s2,by omega,q2,q3,h3,h4,h1,h5,g2,λi hi=> ?_⟩
 rw[bf]at h6;have:=h6 i (by simpa using hi);rw[aJ]at this;exact this.1
theorem oY{p:Px}(h:kL.lF p=aj):p.Fit 48:=by
 obtain⟨_,_,a1,a2,a3,a4,a5,_,_,hp,_⟩:=JZ h;obtain⟨_,_,_,hs⟩:=e8.H4 hp;unfold gH.pE at hs;simp only[aJ,aZ,bf]at hs;obtain⟨s1,_,s3⟩:=hs;have s4:∀q∈p.s,q.length=16:=λq hq=>by have:=s3 q hq;unfold gH.uY at this;rw[aJ,aZ]at this;exact this.1
 refine⟨by omega,by omega,by omega,⟨by omega,λq hq=>by rw[s4 q hq];omega, ?_⟩,by omega,by omega⟩
 have:p.s.map bI=List.replicate 3 16:=by
  rw[List.eq_replicate_iff];refine⟨by rw[bM,s1],λx hx=> ?_⟩
  obtain⟨q,hq,rfl⟩:=cD.1 hx;exact s4 q hq
 rw[this];decide
end lj

namespace sK
open _root_.Go.FG.Lib (Px Cl Fe En el)
open gV (uS told)
def oT(f:Fe):En:=⟨f.k,f.st,f.li,f.t⟩
def cls(p:Px)(f:ay)(life:ay):Px×aU:=
 bif uS p f&&decide (0<=life/\life<=999999)then
  (bif decide (life>0)then lj.Gk (told p f.toNat {el p.fe f.toNat with sta:=2,li:=life,st:=p.now} 2) (oT {el p.fe f.toNat with sta:=2,li:=life,st:=p.now})
   else told p f.toNat {el p.fe f.toNat with sta:=2,li:=life,st:=p.now} 2,aj)
 else(p,ao)
theorem NV{p:Px}{f life:ay}:(cls p f life).1.now=p.now/\(cls p f life).1.hits=p.hits:=by
 unfold cls;cases uS p f&&decide (0<=life/\life<=999999)with
 |false=>exact⟨rfl,rfl⟩
 |true=>cases decide (life>0)<;>exact⟨rfl,rfl⟩
end sK

namespace fU
open _root_.Go.FG.Lib (Px Cl Fe En el rc rf re)
open e9 (has without)
open jz (eM)
open kL (lF)
open fH (So fw)
def xT(e:En)(now:ay):aU:=RV.v e.k e.st e.li e.bo now
def jn(l:ax Cl)(c:Cl):ax Cl:=l.filter (λx=>decide (x.id<c.id))++[c]++l.filter (λx=>decide (x.id>c.id))
def oy(l:ax Cl)(id:ay):aU:=l.any λx=>decide (x.id=id)
def KW(l:ax En)(key:aq):aA En:=l.find? λe=>decide (e.k=key)
def HZ(key:aq)(f:Fe):aU:=decide (f.k=key)&&decide (f.sta=1)
def Mp(l:ax Fe)(key:aq):aA aG:=l.findIdx? (HZ key)
def zZ(key:aq):Fe:=⟨key,⟨#[]⟩,1,0,0⟩
def put(p:Px)(id:ay)(key:aq)(h:aU)(fe:ax Fe)(i:aG):Px:=
 {p with en:=bif h then fw p.en key else p.en,w:=bif h then without p.w key else p.w,m:=bif h then without p.m key else p.m,s:=(dy.val p.s p.a key).1,a:=(dy.val p.s p.a key).2,fe:=fe,cl:=jn p.cl ⟨id,key,(i:ay)+1,0,1,(el fe i).t,0⟩}
def pr(p:Px)(id:ay)(key:aq)(h:aU):Px×ay:=
 match Mp p.fe key with
 |some i=>(put p id key h p.fe i,0)
 |none=>bif decide (p.fe.length<20)then(put p id key h (p.fe++[zZ key]) p.fe.length,0)else(p,2)
def Y8(p:Px)(id:ay)(key:aq)(e:En):Px:=
 {p with w:=(e8.val p.w p.m p.s p.a key).1,m:=(e8.val p.w p.m p.s p.a key).2.1,s:=(e8.val p.w p.m p.s p.a key).2.2.1,a:=(e8.val p.w p.m p.s p.a key).2.2.2.1,cl:=jn p.cl ⟨id,key,0,e.st,2,e.bo,p.now-e.st⟩,hits:=bif decide (p.hits<1000000000)then p.hits+1 else p.hits}
def ask(p:Px)(id:ay)(key:aq):Px×ay:=
 bif lF p&&(decide (1<=id/\id<=9)&&(eM key&&(!oy p.cl id&&decide (p.cl.length<6))))then
  match KW p.en key with
  |some e=>bif xT e p.now then(Y8 p id key e,0)else pr p id key aj
  |none=>pr p id key ao
 else(p,1)
theorem Sw{α:Type}[Inhabited α](l:ax α)(q:α->aU)(p:aG->aU)(h:∀i (hi:i<l.length),p i=q l[i]):
  (Lib.fi p l.length 0= -1/\l.find? q=ai/\l.findIdx? q=ai)\/∃i,i<l.length/\Lib.fi p l.length 0=(i:ay)/\l.find? q=ah (el l i)/\l.findIdx? q=ah i:=by
 rcases Lib.wi p l.length 0 with ⟨e,ha⟩|⟨k,_,hk,e,hp,hb⟩
 ·have hn:∀x∈l,q x=false:=λx hx=>by obtain⟨i,hi,rfl⟩:=di hx;rw[<-h i hi,ha i (by omega) (by omega)]
  refine .inl ⟨e,RQ.2 λx hx=>by rw[hn x hx];simp,BG.2 hn⟩
 ·have sP:k<l.length:=by omega
  have f:l.findIdx? q=ah k:=vp.2 ⟨sP,by rw[<-h k sP];exact hp,λj hj=>by rw[<-h j (by omega),hb j (by omega) hj];simp⟩;refine .inr ⟨k,sP,e, ?_,f⟩;rw[xH];exact⟨by rw[fy sP,<-h k sP];exact hp,k,sP,(fy sP).symm,λj hj=>by rw[<-h j (by omega),hb j (by omega) hj];rfl⟩
def lid(id:ay)(y:ax CV):aU:=decide (bS (y.getD 0 (.b ao))<id)
end fU

namespace mL
open _root_.Go.FG.Lib (rd el Fi)
open dp (rB jl)
def kN(left:Row)(i:aG)(f:Fi):ay:=bif decide (i<left.length)then fS aj f.kp (fS ao (bS (au left i 0)) (f.t.size:ay))else f.kp
def ab4(left:Row)(i:aG)(f:Fi):Fi:=⟨f.n,f.t.extract 0 (kN left i f).toNat,kN left i f⟩
def ada(d:ax Fi)(left:Row):aA (ax Fi):=bif rB d then ah (d.mapIdx (ab4 left))else ai
theorem Zu(left:Row)(i:aG){f:Fi}(h:0<=f.kp/\f.kp<=(f.t.size:ay)):f.kp<=kN left i f/\kN left i f<=(f.t.size:ay):=by
 unfold kN fS;cases decide (i<left.length)with
 |false=>rw[az];omega
 |true=>simp only[aw,az];split<;>split<;>omega
end mL

namespace lK
def eo(l:Row)(i:aG):aU:=ie.v (bJ (au l i 0)) (bS (au l i 1)) (bS (au l i 2)) (bJ (au l i 3))
def tx(l:Row)(i:aG):aq:=jb.qN (bJ (au l i 0)) (bS (au l i 1)) (bS (au l i 2)) (bJ (au l i 3))
def fs(l:Row):aG->aG->aq->aA aq
 |0,_,acc=>ah acc
 |d+1,i,acc=>if eo l i=aj then fs l d (i+1) (acc++e_.fr (tx l i))else ai
theorem Dv(l:Row)(d i:aG)(acc:aq):fs l (d+1) i acc=if eo l i=aj then fs l d (i+1) (acc++e_.fr (tx l i))else none:=rfl
def fin(o:aA aq)(kf:aA R)(kt:aq->aA R):aA R:=match o with|some x=>kt x|none=>kf
theorem R9(l:Row)(hl:l.length<=1048576)(F:aG->aG->aq->aA R)(kf:aA R)(kt:aq->aA R)
  (hT:∀m i acc,i<l.length->acc.size<=2000*i->(e_.fr (tx l i)).size<=2000->eo l i=aj->F (m+1) i acc=F m (i+1) (acc++e_.fr (tx l i)))
  (hF:∀m i acc,i<l.length->eo l i=ao->F (m+1) i acc=kf) (hE:∀m acc,F (m+1) l.length acc=kt acc):F Lib.cR 0 ⟨#[]⟩=fin (fs l l.length 0 ⟨#[]⟩) kf kt:=by
 have:=Lib.iL (λn (z:aG×aq)=>F n z.1 z.2) (λz=>l.length-z.1) (λz=>z.1<=l.length/\z.2.size<=2000*z.1) (λz=>fin (fs l (l.length-z.1) z.1 z.2) kf kt) (λm z hz=>by
  obtain⟨i,acc⟩:=z;obtain⟨h1,h2⟩:=hz;dsimp only at h1 h2⊢;by_cases h:i<l.length
  ·have e:l.length-i=(l.length-(i+1))+1:=by omega
   cases ho:eo l i with
   |true=>
    right;have hs:=xN.vf ho;have hf:(e_.fr (tx l i)).size<=2000:=by have:=e_.SA (t:=tx l i) (by unfold tx;omega);unfold tx at this⊢;omega
    exact⟨(i+1,acc++e_.fr (tx l i)),⟨h,by dsimp only;rw[Lib.dX];omega⟩,by dsimp only;omega,by dsimp only;rw[e,Dv,ba ho],hT m i acc h h2 hf ho⟩
   |false=>left;rw[hF m i acc h ho,e,Dv,a_ (by simp[ho])];rfl
  ·left;have:i=l.length:=by omega
   subst this;rw[hE,Ye];rfl) Lib.cR (0,⟨#[]⟩) ⟨bC _,bC _⟩ (c6 (by dsimp only;omega))
 simpa using this
def nm:aq:={data:= #[ak 110,ak 101,ak 119]}
def lL(has:aU)(x:aq):Row:=(if has=aj then [[CV.i ar 4,CV.s nm,CV.s {data:= #[]},CV.s {data:= #[]}]]else [])++[[CV.i ar 1,CV.s nm,CV.s x,CV.s {data:= #[]}],[CV.i ar 2,CV.s nm,CV.s {data:= #[]},CV.s {data:= #[]}],[CV.i ar 3,CV.s nm,CV.s {data:= #[]},CV.s {data:= #[ak 107,ak 101,ak 112,ak 116]}]]
def val(d l:Row):Row×aU:=bif eO.val d then(match fs l l.length 0 ⟨#[]⟩with|some x=>(lL (lX.val d nm).2 x,aj)|none=>([],ao))else([],ao)
theorem ok(d l:Row)(hd:d.length<=1048576)(hl:l.length<=1048576):c d l=aj/\v d l=val d l:=by
 refine out d l ?_;have k1:=eO.ok d (by omega);have k2:=lX.ok d {data:= #[ak 110,ak 101,ak 119]} (by omega);have e2:lX.val d {data:= #[ak 110,ak 101,ak 119]}=lX.val d nm:=rfl;unfold vo b val;rw[k1.1,k1.2,aw];cases eO.val d with
 |false=>rfl
 |true=>
  rw[a9,az,aw,k2.1,aw,k2.2,e2];have tr:∀(K0:Row->aU->aq->ay->Row->Row->aA (Row×aU)) (K1:Row->aU->aq->ay->Row->aA (Row×aU)) (base:Row) (kt:aq->aA (Row×aU)) (h0:∀x i,K0 l ao x i [] base=ah ([],ao)) (h1:∀x i,K1 l ao x i base=kt x),l9 Lib.cR K0 K1 Lib.cR l ao ⟨#[]⟩ 0 base=fin (fs l l.length 0 ⟨#[]⟩) (ah ([],ao)) kt:=by
   intro K0 K1 base kt h0 h1;refine R9 l hl (λm i acc=>l9 Lib.cR K0 K1 m l ao acc (i:ay) base) _ kt (λm i acc hi ha hf ho=> ?_) (λm i acc hi ho=> ?_) (λm acc=> ?_)
   ·have m8:bN ((i:ay)+1)=((i+1:aG):ay):=dj (by omega) (by omega);have t1:jb.v (bJ (au l i 0)) (bS (au l i 1)) (bS (au l i (1+1))) (bJ (au l i (1+1+1)))=(tx l i,aj):=by unfold jb.v;exact ba ho
    have f1:=e_.ok (tx l i);have f2:e_.val (tx l i)=(e_.fr (tx l i),aj):=by unfold e_.val;have q1:=xN.D_ ho;have q2:=xN.vf ho;rw[ba ⟨q1,cm q2 (by omega)⟩]
    simp only[l9,r9,Lib.dJ,Lib.c9,Lib.eK,hi,aT,aL,aw,az,t1,f1.1,f1.2,f2,a9,aE (show acc.size+(e_.fr (tx l i)).size<=4611686018427387904 by omega),m8]
   ·have t1:jb.v (bJ (au l i 0)) (bS (au l i 1)) (bS (au l i (1+1))) (bJ (au l i (1+1+1)))=(⟨#[]⟩,ao):=by unfold jb.v;rw[a_ (by intro h;have h':eo l i=true:=h;rw[ho]at h';cases h')]
    have f1:=e_.ok ⟨#[]⟩;simp only[l9,r9,Lib.dJ,Lib.c9,Lib.eK,hi,aT,aL,aw,t1,f1.1,bO];exact h0 acc i
   ·simp only[l9,r9,Lib.dJ,bB,bn,az];exact h1 acc _
  cases hh:(lX.val d nm).2 with
  |true=>rw[aw];refine(tr _ _ _ (λx=>ah (lL aj x,aj)) (λ_ _=>rfl) (λ_ _=>rfl)).trans ?_;cases fs l l.length 0 ⟨#[]⟩<;>rfl
  |false=>rw[az];refine(tr _ _ _ (λx=>ah (lL ao x,aj)) (λ_ _=>rfl) (λ_ _=>rfl)).trans ?_;cases fs l l.length 0 ⟨#[]⟩<;>rfl
end lK

namespace tZ
open _root_.Go.FG.Lib (re rd el En Fi)
open jX (kd kp BS tx Hv base bt pH amf)
open dp (lL act rB oU put without DL ra Ac)
open fH (So lE ew)
open mL (ada ab4 kN Zu)
abbrev pI:aq:={data:= #[ak 110,ak 101,ak 119]}
def wP(x:aq):ax Ac:=[⟨1,pI,x,⟨#[]⟩⟩,⟨2,pI,⟨#[]⟩,⟨#[]⟩⟩,⟨3,pI,⟨#[]⟩,pH⟩]
theorem less:ew pH pI=true:=by unfold ew;rw[jq,jq];rfl
theorem ajv(t:aq)(k:ay)(h1:t.size<=20000)(h2:0<=k/\k<=(t.size:ay)):oU ⟨pI,t,k⟩=true:=by unfold oU;have:((pI.size:aG):ay)=3:=rfl;rw[this,aE (by omega),aE h2,aK (by dsimp only;omega)];rfl
theorem D9{o:aA aq}{x:aq}{k:ay}(h:(bt o).size<=20000)(hx:x.size<=20000)(hk:0<=k/\k<=(x.size:ay)):rB (base o++[⟨pI,x,k⟩])=true:=by
 refine dp.jl.2 ⟨?_,λf hf=> ?_, ?_⟩
 ·cases o<;>simp[base]
 ·rcases aX.1 hf with hf|hf
  ·exact(dp.jl.1 (jX.rT h)).2.1 f hf
  ·rw[aW.1 hf];exact ajv x k hx hk
 ·cases o with
  |none=>exact Eg ..
  |some t=>exact lu.2 ⟨λy hy=>by rw[aW.1 hy];exact less,Eg ..⟩
theorem nKN:pH≠pI:=by decide
theorem N4(o:aA aq)(x:aq)(k:ay):(base o++[(⟨pI,x,k⟩:Fi)]).find? (λy=>decide (y.n=pI))=ah ⟨pI,x,k⟩:=by
 cases o with
 |none=>rfl
 |some t=>rw[show base (ah t)++[(⟨pI,x,k⟩:Fi)]=[⟨pH,t,t.size⟩,⟨pI,x,k⟩]from rfl,qB (by simp[nKN]),Et (by simp)]
theorem adk(o:aA aq):(base o).find? (λy=>decide (y.n=pI))=none:=by
 cases o with
 |none=>rfl
 |some t=>rw[show base (ah t)=[⟨pH,t,t.size⟩]from rfl,qB (by simp[nKN]),List.find?_nil]
theorem aeb(o:aA aq)(x:aq)(k:ay):put (base o) ⟨pI,x,k⟩=base o++[⟨pI,x,k⟩]:=by
 cases o with
 |none=>rfl
 |some t=>unfold put;rw[show base (ah t)=[⟨pH,t,t.size⟩]from rfl,db (by simpa using less),bX (by simp[less])];rfl
theorem ZW(o:aA aq)(x y:aq)(k m:ay):put (base o++[⟨pI,y,m⟩]) ⟨pI,x,k⟩=base o++[⟨pI,x,k⟩]:=by
 cases o with
 |none=>exact jX.uT rfl
 |some t=>unfold put;rw[show base (ah t)++[(⟨pI,y,m⟩:Fi)]=[⟨pH,t,t.size⟩,⟨pI,y,m⟩]from rfl,db (by simpa using less),bX (by rw[dp.irrefl];simp),bX (by simp[less]),bX (by simp)];rfl
theorem mov(o:aA aq)(x:aq)(k:ay):put (without (base o++[⟨pI,x,k⟩]) pI) ⟨pH,x,k⟩=[⟨pH,x,k⟩]:=by
 have:without (base o++[⟨pI,x,k⟩]) pI=base o:=by
  unfold without;rw[ik,bX (by simp),List.filter_nil,dv,fX];intro f hf;cases o with
  |none=>cases hf
  |some t=>rw[aW.1 hf];simp[nKN]
 rw[this];cases o with
 |none=>rfl
 |some t=>exact jX.uT rfl
theorem a1{o:aA aq}{x:aq}(h:(bt o).size<=20000)(hx:x.size<=20000):act (base o) 1 pI x ⟨#[]⟩=ah (base o++[⟨pI,x,0⟩]):=by
 unfold act;rw[jX.rT h,show dp.jd 1 x ⟨#[]⟩=aj from by unfold dp.jd;simp,aL,aw];have hn:DL (base o) 1 pI x ⟨#[]⟩=ah (base o++[⟨pI,x,0⟩]):=by unfold DL;rw[adk];dsimp only;rw[ba rfl,aeb]
 rw[hn];dsimp only;rw[D9 h hx ⟨by omega,by omega⟩];rfl
theorem a2{o:aA aq}{x:aq}(h:(bt o).size<=20000)(hx:x.size<=20000):act (base o++[⟨pI,x,0⟩]) 2 pI ⟨#[]⟩ ⟨#[]⟩=ah (base o++[⟨pI,x,x.size⟩]):=by
 unfold act;rw[D9 h hx ⟨by omega,by omega⟩,show dp.jd 2 ⟨#[]⟩ ⟨#[]⟩=aj from by unfold dp.jd;simp,aL,aw];have hn:DL (base o++[⟨pI,x,0⟩]) 2 pI ⟨#[]⟩ ⟨#[]⟩=ah (base o++[⟨pI,x,x.size⟩]):=by unfold DL;rw[N4];dsimp only;rw[a_ (by omega),ba rfl,ZW]
 rw[hn];dsimp only;rw[D9 h hx ⟨by omega,by omega⟩];rfl
theorem a3{o:aA aq}{x:aq}(h:(bt o).size<=20000)(hx:x.size<=20000):act (base o++[⟨pI,x,x.size⟩]) 3 pI ⟨#[]⟩ pH=ah (base (ah x)):=by
 unfold act;rw[D9 h hx ⟨by omega,by omega⟩,show dp.jd 3 ⟨#[]⟩ pH=aj from by unfold dp.jd;simp,aL,aw];have hn:DL (base o++[⟨pI,x,x.size⟩]) 3 pI ⟨#[]⟩ pH=ah (base (ah x)):=by unfold DL;rw[N4];dsimp only;rw[a_ (by omega),a_ (by omega),ba rfl,a_ (by rintro (h|h);exact h rfl;exact nKN h),mov];rfl
 rw[hn];dsimp only;rw[jX.rT (o:=ah x) hx];rfl
theorem ajn{o:aA aq}{x:aq}(h:(bt o).size<=20000)(hx:x.size<=20000):lL (base o) 0 (wP x)=(base (ah x),3):=by unfold wP lL;dsimp only;rw[a1 h hx];dsimp only;unfold lL;dsimp only;rw[a2 h hx];dsimp only;unfold lL;dsimp only;rw[a3 h hx];rfl
theorem YS(l:ax En)(Rh:∀x∈l,BS x=aj):∀(d i:aG) (acc:aq),d+i=l.length->lK.fs (re l) d i acc=ah (acc++tx (l.drop i)):=by
 intro d;induction d with
 |zero=>
  intro i acc h;have:i=l.length:=by omega
  subst this;rw[cU];exact je ah (o6).symm
 |succ d ih=>
  intro i acc h;have hi:i<l.length:=by omega
  have h0:lK.eo (re l) i=true:=by unfold lK.eo;rw[xX hi,AQ hi,show au (re l) i 2=CV.i ar (el l i).li from AR hi,show au (re l) i 3=CV.s (el l i).bo from AU hi];exact Rh _ (kO hi)
  have h1:lK.tx (re l) i=jX.qN l[i]:=by unfold lK.tx;rw[xX hi,AQ hi,show au (re l) i 2=CV.i ar (el l i).li from AR hi,show au (re l) i 3=CV.s (el l i).bo from AU hi,fy hi];rfl
  rw[lK.Dv,ba h0,h1,ih (i+1) _ (by omega),cQ hi,dY];rfl
end tZ

namespace oG
open _root_.Go.FG.Lib (En Fi Px Cl Fe el re rd rf rc rs rr)
open fH (So lE)
open dp (rB lL Ac ra)
open jX (qN BS Hv tx kp base bt wX)
open tZ (wP)
open mL (ada)
def dk(o:aA (ax En)):ax Fi:=base (o.map tx)
def es(o:aA (ax En)):ax En:=o.getD []
theorem EL(o:aA (ax En)):bt (o.map tx)=tx (es o):=by cases o<;>rfl
theorem NY(o:aA (ax En)):(dk o).length<=1:=by cases o<;>simp[dk,base]
theorem Jh{o:aA (ax En)}(h:(tx (es o)).size<=20000):rB (dk o)=true:=jX.rT (by rw[EL];exact h)
theorem ab6{o:aA (ax En)}(h:(tx (es o)).size<=20000)(he:∀e∈es o,BS e=aj):(U101.c (rd (dk o))=aj/\U101.v (rd (dk o))=re (kp (es o)))/\(qG.c (rd (dk o))=aj/\qG.v (rd (dk o))=re (kp (es o))):=by refine jX.fk (dk o) (es o) ⟨#[]⟩ (Jh h) ?_ he (.inl rfl);unfold dk;rw[jX.KP,EL];exact(o6).symm
theorem Sf{o:aA (ax En)}{e:En}(h:(tx (es o)).size+(Hv e).size<=20000):lL (dk o) 0 (wX (Hv e))=(dk (ah (es o++[e])),2):=by unfold dk;rw[jX.OM (by rw[EL];exact h),EL,fM,jX.UA]
theorem Sd{o:aA (ax En)}{l:ax En}(h:(tx (es o)).size<=20000)(hl:(tx l).size<=20000):lL (dk o) 0 (wP (tx l))=(dk (ah l),3):=tZ.ajn (by rw[EL];exact h) hl
theorem ab5{o:aA (ax En)}{l:ax En}(hs:(tx (es o)).size<=20000)(Rh:∀x∈l,BS x=aj):lK.val (rd (dk o)) (re l)=(ra (wP (tx l)),aj):=by
 unfold lK.val;rw[show eO.val (rd (dk o))=aj from Jh hs,aw,ff,tZ.YS l Rh l.length 0 ⟨#[]⟩ (by omega),eB];have xV:(lX.val (rd (dk o)) lK.nm).2=false:=by unfold dk;rw[jX.fileAt,show lK.nm=tZ.pI from rfl,tZ.adk]
 dsimp only;rw[xV,show(⟨#[]⟩:aq)++tx l=tx l from ka];rfl
end oG

namespace gW
open _root_.Go.FG.Lib (rr rs re rf rc Px En el)
open fH (So fw lE ew)
open lj (Gk)
def Gq:ax ay:=[0,0,0,0,0,0,0,0,0,0,0,0,0,0,0,0]
def p0(now:ay):Px:=⟨now,[],[],[],[Gq,Gq,Gq],0,[],[],0⟩
def xT(e:En)(now:ay):aU:=RV.v e.k e.st e.li e.bo now
def one(now:ay)(p:Px)(e:En):Px:=bif xT e now then Gk p e else p
def Am(now:ay)(l:ax En):Px:=l.foldl (one now) (p0 now)
structure Inv (now:ay) (i:aG) (p:Px):Prop where
 so:So p.en
 ks:∀e∈p.en,1<=e.k.size
 en:p.en.length<=i
 w:p.w.length<=i
 m:p.m.length<=i
 s:e8.lens p.s=[16,16,16]
 fe:p.fe=[]
 cl:p.cl=[]
 now:p.now=now
 hits:p.hits=0
theorem akz(now:ay):Inv now 0 (p0 now):=⟨fZ,λe h=>(nomatch h),bR _,bR _,bR _,rfl,rfl,rfl,rfl,rfl⟩
theorem OS{s:ax (ax ay)}(h:e8.lens s=[16,16,16]):s.length=3/\(∀q∈s,q.length=16)/\(s.map bI).sum=48:=by
 refine⟨?_,λq hq=> ?_, ?_⟩
 ·have:=je bI h;unfold e8.lens at this;simpa using this
 ·have:q.length∈e8.lens s:=cD.2 ⟨q,hq,rfl⟩;rw[h]at this;simpa using this
 ·rw[show s.map bI=[16,16,16]from h];rfl
theorem Inv.fit{now:ay}{i:aG}{p:Px}(h:Inv now i p){n:aG}(hn:i<=n)(h48:48<=n):p.Fit n:=by
 obtain⟨a,b,c⟩:=OS h.s;have hq:∀q∈p.s,q.length<=n:=λq hq=>by have:=b q hq;omega
 exact⟨cm h.en hn,cm h.w hn,cm h.m hn,⟨by omega,hq,by omega⟩,by rw[h.fe];exact bC _,by rw[h.cl];exact bC _⟩
theorem Inv.up{now:ay}{i:aG}{p:Px}(h:Inv now i p):Inv now (i+1) p:=⟨h.so,h.ks,lQ h.en,lQ h.w,lQ h.m,h.s,h.fe,h.cl,h.now,h.hits⟩
theorem wF{en:ax En}(h:So en)(e:En):So (lE en e):=by have:=(eT.uN (fH.Cc h) e.k e.st e.li e.bo).1.1;rw[fH.tL]at this;unfold Lib.re at this;rw[jw]at this;exact this
theorem Inv.store{now:ay}{i:aG}{p:Px}(h:Inv now i p)(e:En)(he:1<=e.k.size):Inv now (i+1) (Gk p e):=by
 obtain⟨b1,b2,b3⟩:=e8.QO p.w p.m p.s p.a e.k;have hw:=h.w;have hm:=h.m;have hn:=h.en;refine⟨?_, ?_, ?_,cm b1 (by omega),cm b2 (by omega),b3.trans h.s,h.fe,h.cl,h.now,h.hits⟩
 ·show So (bif _ then lE (fw p.en _) e else fw p.en _);cases e9.has (e8.val p.w p.m p.s p.a e.k).1 e.k||e9.has (e8.val p.w p.m p.s p.a e.k).2.1 e.k with
  |true=>exact wF (h.so.drop _) e
  |false=>exact h.so.drop _
 ·show∀x∈(bif _ then lE (fw p.en _) e else fw p.en _),1<=x.k.size;have hd:∀x∈fw p.en (e8.val p.w p.m p.s p.a e.k).2.2.2.2,1<=x.k.size:=λx hx=>h.ks x (cJ.1 hx).1;cases e9.has (e8.val p.w p.m p.s p.a e.k).1 e.k||e9.has (e8.val p.w p.m p.s p.a e.k).2.1 e.k with
  |true=>
   intro x hx;rw[aw]at hx;unfold lE at hx;rcases aX.1 hx with hx|hx
   ·rcases aX.1 hx with hx|hx
    ·exact hd x (cJ.1 hx).1
    ·rw[aW]at hx;rw[hx];exact he
   ·exact hd x (cJ.1 hx).1
  |false=>exact hd
 ·show(bif _ then lE (fw p.en _) e else fw p.en _).length<=i+1;have d:=fH.zw p.en (e8.val p.w p.m p.s p.a e.k).2.2.2.2;have q:=fH.qh (fw p.en (e8.val p.w p.m p.s p.a e.k).2.2.2.2) e (h.so.drop _);cases e9.has (e8.val p.w p.m p.s p.a e.k).1 e.k||e9.has (e8.val p.w p.m p.s p.a e.k).2.1 e.k with
  |true=>rw[aw];omega
  |false=>rw[az];omega
theorem Du{e:En}{now:ay}(h:xT e now=aj):ie.v e.k e.st e.li e.bo=true:=by
 unfold xT RV.v at h;cases hq:ie.v e.k e.st e.li e.bo with
 |true=>rfl
 |false=>rw[show EA.v e.k e.st e.li e.bo=ao from hq]at h;cases h
theorem DD(now:ay)(l:ax En):∀i,i<=l.length->Inv now i (Am now (l.take i)):=by
 intro i;induction i with
 |zero=>intro _;exact akz now
 |succ i ih=>
  intro hi;have h:=ih (by omega);have e:Am now (l.take (i+1))=one now (Am now (l.take i)) l[i]:=by unfold Am;rw[cj (by omega),vI];rfl
  rw[e];unfold one;cases hf:xT l[i] now with
  |true=>exact h.store _ (ie.DX (Du hf)).1.1
  |false=>exact h.up
theorem F9(now:ay)(l:ax En)(i:aG)(h:i<l.length):Am now (l.take (i+1))=one now (Am now (l.take i)) (el l i):=by unfold Am;rw[cj h,vI,fy h];rfl
end gW

namespace j7
open _root_.Go.FG.Lib (rr rs re rf rc Px)
theorem ok(p:Px)(hp:p.Fit 1048576):c p.now (re p.en) (rs p.w) (rs p.m) (rr p.s) p.a (rf p.fe) (rc p.cl) p.hits=aj/\v p.now (re p.en) (rs p.w) (rs p.m) (rr p.s) p.a (rf p.fe) (rc p.cl) p.hits=(p.now,re p.en,rs p.w,rs p.m,rr p.s,p.a,rf p.fe,rc p.cl,p.hits):=by have he:=hp.en;have hf:=hp.fe;have hc:=hp.cl;have h2:=e7.ok p.w p.m p.s p.a hp.w hp.m ⟨hp.s.1,hp.s.2.1⟩;exact out _ _ _ _ _ _ _ _ _ (by unfold vo b;rw[h2.1,h2.2,aw,Lib.cE (b:=48) (by simp[aR,ff];omega) (by simp[aR,ff];omega),Lib.cE (b:=56) (by simp[aR,gf];omega) (by simp[aR,gf];omega),Lib.cE (b:=72) (by simp[aR,fc];omega) (by simp[aR,fc];omega)];rfl)
end j7

namespace ta
open _root_.Go.FG.Lib (rr rs re rf rc Px)
def later(now n:ay):ay:=bif decide (now>1000000000-n%1000)then 1000000000 else bN (now+n%1000)
def val(p:Px)(n:ay):Px:={p with now:=later p.now n}
theorem tm(n:ay):(0<=bZ n 1000->bZ n 1000=n%1000)/\(bZ n 1000<0->bZ n 1000+1000=n%1000):=by
 rw[Int.tmod_eq_emod];by_cases h:0<=n\/(1000:ay)∣n
 ·rw[ba h];constructor<;>omega
 ·rw[a_ h];have hd:¬(1000:ay)∣n:=λx=>h (.inr x);have:n%1000≠0:=λe=>hd (Int.dvd_of_emod_eq_zero e);constructor<;>simp<;>omega
theorem ok(p:Px)(n:ay)(hp:p.Fit 1048576):c p.now (re p.en) (rs p.w) (rs p.m) (rr p.s) p.a (rf p.fe) (rc p.cl) p.hits n=aj/\v p.now (re p.en) (rs p.w) (rs p.m) (rr p.s) p.a (rf p.fe) (rc p.cl) p.hits n=((val p n).now,re p.en,rs p.w,rs p.m,rr p.s,p.a,rf p.fe,rc p.cl,p.hits):=by
 have h:=j7.ok p hp;refine out _ _ _ _ _ _ _ _ _ _ ?_;have t:=tm n;unfold vo b val later;simp only[Lib.lt,h.1,h.2,aw];by_cases hn:bZ n 1000<0
 ·have e:=t.2 hn;rw[aE hn,aw,e,dj (x:=n%1000) (by omega) (by omega),dj (x:=1000000000-n%1000) (by omega) (by omega)];cases decide (p.now>1000000000-n%1000)<;>rfl
 ·have e:=t.1 (by omega);rw[aK hn,az,e,dj (x:=1000000000-n%1000) (by omega) (by omega)];cases decide (p.now>1000000000-n%1000)<;>rfl
end ta

namespace tc
open _root_.Go.FG.Lib (rr rs re rf rc Px Cl el Rt wc1 wc2 wc3 UD UE UF)
def val(p:Px)(id:ay):Px:={p with cl:=p.cl.filter λc=> !decide (c.id=id)}
theorem ok(p:Px)(id:ay)(hp:p.Fit 1048576):c p.now (re p.en) (rs p.w) (rs p.m) (rr p.s) p.a (rf p.fe) (rc p.cl) p.hits id=aj/\v p.now (re p.en) (rs p.w) (rs p.m) (rr p.s) p.a (rf p.fe) (rc p.cl) p.hits id=(p.now,re p.en,rs p.w,rs p.m,rr p.s,p.a,rf p.fe,rc (val p id).cl,p.hits):=by
 have h:=j7.ok p hp;have hc:=hp.cl;refine out _ _ _ _ _ _ _ _ _ _ ?_;unfold vo b;simp only[Lib.lt,h.1,h.2,aw];have key:=jO p.cl.length (λn (i:aG) (x:Row)=>l4 Lib.cR (λ(_ _ _:ay) (_ _ _ _:Row) (_:ay) (_ _:Row) (_ _ _ _ y37 y38 y39:ay) (y40 y41 y42 y43 QX y45:Row)=>ah (y37,y40,y41,y42,y43,y38,QX,y45,y39)) n id (i:ay) p.now (re p.en) (rs p.w) (rs p.m) (rr p.s) p.a (rf p.fe) (rc p.cl) p.hits 0 0 0 p.now p.a p.hits (re p.en) (rs p.w) (rs p.m) (rr p.s) (rf p.fe) x) (λi=>rc ((p.cl.take i).filter λc=> !decide (c.id=id))) (ah (p.now,re p.en,rs p.w,rs p.m,rr p.s,p.a,rf p.fe,rc (val p id).cl,p.hits)) (λn i hi=>by
  have hlen:((p.cl.take i).filter λc=> !decide (c.id=id)).length<=i:=by refine cm (dM ..) ?_;rw[eg];omega
  have e:(p.cl.take (i+1)).filter (λc=> !decide (c.id=id))=(p.cl.take i).filter (λc=> !decide (c.id=id))++(bif !decide ((el p.cl i).id=id)then [el p.cl i]else []):=by rw[cj hi,ik,fy hi];cases hd:decide (p.cl[i].id=id)<;>simp[hd]
  rw[e];simp only[l4,r4,fc,Lib.dJ,hi,aT,Lib.c9,aL,aw,Lib.eK,Rt hi,wc1 hi,wc2 hi,wc3 hi,UD hi,UE hi,UF hi,bJ,bS,pD,bu,Lib.dn hi (by omega:p.cl.length<=9223372036854775807)];rw[Lib.cE (by omega) (by omega),aw,show((el p.cl i).id !=id)= !decide ((el p.cl i).id=id)from rfl];cases decide ((el p.cl i).id=id)with
  |true=>rw[a9,az,az,dv]
  |false=>rw[bO,aw,aw];unfold Lib.rc;rw[c7];rfl) (λn=>by
  simp only[l4,r4,fc,Lib.dJ,bB,bn,az,d_];rfl) Lib.cR 0 (bC _) (c6 (by omega))
 exact key
end tc

namespace iO
open _root_.Go.FG.Lib (En Fi Px Cl Fe el)
open jX (kp BS)
open sK (cls oT)
open gV (Gy GH)
open fU (oy)
open oG (dk es)
structure Wo where
 p:Px
 o:aA (ax En)
 cd:ax ay
 bd:ax En
structure Ev where
 k:ay
 id:ay
 t:aq
 n:ay
 l:Row
def flag(b:aU):ay:=bif b then 0 else 1
def pj(w:Wo):ax En:=(kp (es w.o)).filter λe=>gW.xT e w.p.now
def closed(w:Wo)(id life:ay):Wo×ay:=
 let q:=cls w.p id life
 (bif q.2&&decide (life>0)then{w with p:=q.1,o:=ah (es w.o++[oT (el q.1.fe id.toNat)]),bd:=w.bd++[oT (el q.1.fe id.toNat)]}else{w with p:=q.1},flag q.2)
def Hp(w:Wo):Wo:={w with p:=gW.Am w.p.now (pj w),o:=ah (pj w)}
def act(w:Wo)(e:Ev):Wo×ay:=
 bif decide (e.k=1)then({w with p:=(fU.ask w.p e.id e.t).1},(fU.ask w.p e.id e.t).2)
 else bif decide (e.k=2)then({w with p:=(GH w.p e.id e.t).1},flag (GH w.p e.id e.t).2)
 else bif decide (e.k=3)then closed w e.id (e.n%1000000)
 else bif decide (e.k=4)then({w with p:=(Gy w.p e.id).1},flag (Gy w.p e.id).2)
 else bif decide (e.k=5)then({w with p:=ta.val w.p e.n},0)
 else bif decide (e.k=6)then({w with p:=tc.val w.p e.id},flag (oy w.p.cl e.id))
 else(Hp w,0)
def step(w:Wo)(e:Ev):Wo:={(act w e).1 with cd:=w.cd++[(act w e).2]}
def kl(e:Ev):aU:=decide (1<=e.k/\e.k<=7)&&(decide (0<=e.id/\e.id<=30)&&(decide (e.t.size<=60)&&(decide (0<=e.n)&&decide (e.l.length<=4))))
end iO

namespace qO
open _root_.Go.FG.Lib (Px Cl Fe En el)
open e9 (has gq)
open jz (eM vv)
open mR (uw KU Si)
open oi (oU lR apart)
open kL (Rc lF)
open fH (So ew)
def EO(now:ay)(nf:aG)(c:Cl):aU:=
 decide (1<=c.id/\c.id<=9)&&(eM c.k&&(decide (1<=c.sta/\c.sta<=3)&&(decide (0<=c.fe/\c.fe<=(nf:ay))&&(decide ((c.got.size:ay)<=400)&&(decide (0<=c.fr/\c.fr<=now)&&decide (0<=c.age))))))
structure gd (p:Px):Prop where
 now:1<=p.now/\p.now<=1000000000
 en:∀e∈p.en,uw e=aj
 so:So p.en
 ek:∀e∈p.en,e.k∈p.w\/e.k∈p.m
 pol:vv p.w p.m p.s p.a=aj
 len:p.w.length+p.m.length=p.en.length
 fl:p.fe.length<=20
 fe:∀f∈p.fe,oU p.now f=aj
 ap:p.fe.Pairwise λf g=>lR g f=ao
 cll:p.cl.length<=6
 cl:∀c∈p.cl,EO p.now p.fe.length c=aj
 cs:p.cl.Pairwise λc d=>c.id<d.id
 hits:0<=p.hits/\p.hits<=1000000000
theorem PM{α:Type}(R:α->α->Prop)(tr:∀x y z,R x y->R y z->R x z)(l:ax α)(h:∀i (hi:i+1<l.length),R (l[i]) (l[i+1])):l.Pairwise R:=by
 rw[da];have adj:∀d i (hi:i+d+1<l.length),R (l[i]) (l[i+d+1]):=by
  intro d;induction d with
  |zero=>intro i hi;exact h i hi
  |succ d ih=>intro i hi;exact tr _ _ _ (ih i (by omega)) (h (i+d+1) (by omega))
 intro i j hi hj Le;have:=adj (j-i-1) i (by omega);simp only[show i+(j-i-1)+1=j by omega]at this;exact this
theorem HM(x y z:aq)(a:ew x y=aj)(b:ew y z=aj):ew x z=true:=eT.nO _ _ _ a b
theorem ad3{p:Px}(h:lF p=aj):gd p:=by
 obtain⟨h1,h2,h3,h4,h5,h6,h7⟩:_/\_/\_/\_/\_/\_/\_:=by unfold lF at h;simpa only[aJ,aZ,bf,od]using h
 obtain⟨g1,g2,g3⟩:_/\_/\_:=by unfold Si at h2;simpa only[aJ,aZ,bf,od]using h2
 have e1:∀i (hi:i<p.en.length),uw p.en[i]=aj/\(0<i->ew (el p.en (i-1)).k p.en[i].k=aj)/\(p.en[i].k∈p.w\/p.en[i].k∈p.m):=λi hi=>by have:=g1 i hi;unfold KU at this;simp only[aJ,dq,aZ,fy hi,gq]at this;exact⟨this.1,λh0=>this.2.1.resolve_left (by omega),this.2.2⟩
 have c1:∀i (hi:i<p.cl.length),EO p.now p.fe.length p.cl[i]=aj/\(0<i->(el p.cl (i-1)).id<p.cl[i].id):=λi hi=>by have:=h7 i hi;unfold Rc at this;unfold EO;simp only[aJ,dq,aZ,fy hi]at this⊢;exact⟨⟨this.1,this.2.2⟩,λh0=>this.2.1.resolve_left (by omega)⟩
 have f1:∀i (hi:i<p.fe.length),oU p.now p.fe[i]=aj/\∀j (hj:j<i),lR p.fe[i] (p.fe[j]'(by omega))=false:=λi hi=>by
  have:=h6 i hi;unfold apart at this;simp only[bf,od,fy hi]at this;refine⟨this.1,λj hj=> ?_⟩
  have h:=this.2 j hj;rw[fy (show j<p.fe.length by omega)]at h;simpa using h
 refine⟨h1,λe he=> ?_, ?_,λe he=> ?_,g2,g3,h3,λf hf=> ?_, ?_,h4,λc hc=> ?_, ?_,h5⟩
 ·obtain⟨i,hi,rfl⟩:=di he;exact(e1 i hi).1
 ·refine PM (λx y:En=>ew x.k y.k=aj) (λx y z a b=>HM _ _ _ a b) p.en λi hi=> ?_;have:=(e1 (i+1) hi).2.1 (by omega);rw[Mf,fy (show i<p.en.length by omega)]at this;exact this
 ·obtain⟨i,hi,rfl⟩:=di he;exact(e1 i hi).2.2
 ·obtain⟨i,hi,rfl⟩:=di hf;exact(f1 i hi).1
 ·rw[da];intro i j hi hj Le;exact(f1 j hj).2 i Le
 ·obtain⟨i,hi,rfl⟩:=di hc;exact(c1 i hi).1
 ·refine PM (λc d:Cl=>c.id<d.id) (λx y z a b=>Int.lt_trans a b) p.cl λi hi=> ?_;have:=(c1 (i+1) hi).2 (by omega);rw[Mf,fy (show i<p.cl.length by omega)]at this;exact this
theorem ado{p:Px}(h:gd p):lF p=true:=by
 unfold lF Si;simp only[aJ,aZ,bf,od];refine⟨h.now,⟨λi hi=> ?_,h.pol,h.len⟩,h.fl,h.cll,h.hits,λi hi=>⟨?_, ?_⟩,λi hi=> ?_⟩
 ·unfold KU;simp only[aJ,dq,aZ,fy hi,gq];refine⟨h.en _ (bH hi), ?_,h.ek _ (bH hi)⟩
  by_cases h0:i=0
  ·exact .inl h0
  ·right;rw[fy (show i-1<p.en.length by omega)];exact da.1 h.so (i-1) i (by omega) hi (by omega)
 ·rw[fy hi];exact h.fe _ (bH hi)
 ·unfold apart;simp only[bf,od];intro j hj;rw[fy hi,fy (show j<p.fe.length by omega),da.1 h.ap j i (by omega) hi hj];rfl
 ·have hc:=h.cl _ (bH hi);unfold EO at hc;unfold Rc;simp only[aJ,dq,aZ,fy hi]at hc⊢;refine⟨hc.1, ?_,hc.2⟩
  by_cases h0:i=0
  ·exact .inl h0
  ·right;rw[fy (show i-1<p.cl.length by omega)];exact da.1 h.cs (i-1) i (by omega) hi (by omega)
theorem rC{p:Px}:lF p=aj↔gd p:=⟨ad3,ado⟩
end qO

namespace xB
open _root_.Go.FG.Lib (Px Cl Fe En el)
open iO (Wo Ev kl)
open gV (told uS)
open fU (jn zZ)
def nt(t:aq):aU:=t.data.toList.all λc=>c !=10
def NN(p:Px):Prop:=(∀f∈p.fe,nt f.t=aj)/\(∀e∈p.en,nt e.bo=aj)/\(∀c∈p.cl,nt c.got=aj/\c.age<=1000000000)
theorem rA{a b:aq}(ha:nt a=aj)(hb:nt b=aj):nt (a++b)=true:=by
 unfold nt at*
 rw[eH,kC,U_,ha,hb];rfl
theorem yS{p:Px}{n:aG}{g:Fe}{st:ay}(h:NN p)(hg:nt g.t=aj):NN (told p n g st):=by
 refine⟨λf hf=> ?_,h.2.1,λc hc=> ?_⟩
 ·rcases iD hf with hf|rfl
  ·exact h.1 f hf
  ·exact hg
 ·obtain⟨x,hx,rfl⟩:=cD.1 hc;unfold t_.ec;cases decide (x.fe=(n:ay)+1)&&decide (x.sta=1)with
  |true=>exact⟨hg,(h.2.2 x hx).2⟩
  |false=>exact h.2.2 x hx
theorem OJ{l:ax Cl}{c x:Cl}(h:x∈jn l c):x=c\/x∈l:=by
 unfold fU.jn at h;rcases aX.1 h with h|h
 ·rcases aX.1 h with h|h
  ·exact .inr (cJ.1 h).1
  ·exact .inl (aW.1 h)
 ·exact .inr (cJ.1 h).1
theorem wb{l:ax En}{k:aq}{x:En}(h:x∈fH.fw l k):x∈l:=by unfold fH.fw at h;exact(cJ.1 h).1
theorem PJ{l:ax En}{e x:En}(h:x∈fH.lE l e):x=e\/x∈l:=by
 unfold fH.lE at h;rcases aX.1 h with h|h
 ·rcases aX.1 h with h|h
  ·exact .inr (cJ.1 h).1
  ·exact .inl (aW.1 h)
 ·exact .inr (cJ.1 h).1
theorem Ux{p:Px}{e x:En}(h:x∈(lj.Gk p e).en):x=e\/x∈p.en:=by
 unfold lj.Gk at h;dsimp only at h;cases hb:e9.has (e8.val p.w p.m p.s p.a e.k).1 e.k||e9.has (e8.val p.w p.m p.s p.a e.k).2.1 e.k with
 |true=>rw[hb,aw]at h;exact(PJ h).imp_right wb
 |false=>rw[hb,az]at h;exact .inr (wb h)
theorem PK{p:Px}{id:ay}{key:aq}{b:aU}{fe:ax Fe}{i:aG}(h:NN p)(Jy:∀f∈fe,nt f.t=aj)(hi:i<fe.length):NN (fU.put p id key b fe i):=by
 refine⟨Jy,λe he=> ?_,λc hc=> ?_⟩
 ·cases b with
  |true=>exact h.2.1 e (wb he)
  |false=>exact h.2.1 e he
 ·rcases OJ hc with rfl|hc
  ·exact⟨Jy _ (kO hi),by show(0:ay)<=_;omega⟩
  ·exact h.2.2 c hc
theorem JI{p:Px}{id:ay}{key:aq}{b:aU}(h:NN p):NN (fU.pr p id key b).1:=by
 unfold fU.pr;cases ho:fU.Mp p.fe key with
 |some i=>
  have hi:i<p.fe.length:=by unfold fU.Mp at ho;exact(List.findIdx?_eq_some_iff_findIdx_eq.1 ho).1
  exact PK h h.1 hi
 |none=>
  dsimp only;cases decide (p.fe.length<20)with
  |true=>
   refine PK h (λf hf=> ?_) (by simp);rcases aX.1 hf with hf|hf
   ·exact h.1 f hf
   ·rw[aW.1 hf];rfl
  |false=>exact h
theorem Z8{e:En}(h:mR.uw e=aj):0<=e.st:=by have:=ie.DX h;omega
theorem Yq{p:Px}(id:ay)(key:aq)(ho:qO.gd p)(h:NN p):NN (fU.ask p id key).1:=by
 unfold fU.ask;cases (kL.lF p&&(decide (1<=id/\id<=9)&&(jz.eM key&&(!fU.oy p.cl id&&decide (p.cl.length<6)))))with
 |false=>exact h
 |true=>
  rw[aw];cases he:fU.KW p.en key with
  |none=>exact JI h
  |some e=>
   dsimp only;cases fU.xT e p.now with
   |false=>exact JI h
   |true=>
    refine⟨h.1,h.2.1,λc hc=> ?_⟩
    rcases OJ hc with rfl|hc
    ·unfold fU.KW at he;have hm:=j9 he;have h1:=ho.now.2;have h2:=Z8 (ho.en e hm);exact⟨h.2.1 e hm,by show p.now-e.st<=_;omega⟩
    ·exact h.2.2 c hc
theorem NG{p:Px}{f:ay}(h:NN p)(ho:uS p f=aj):nt (el p.fe f.toNat).t=true:=by obtain⟨n,rfl,hn,_,_⟩:=gV.jm ho;exact h.1 _ (kO (by simpa using hn))
theorem ZV{p:Px}(f:ay)(t:aq)(h:NN p)(ht:nt t=aj):NN (gV.GH p f t).1:=by
 unfold gV.GH;cases hc:(uS p f&&(decide (1<=t.size/\t.size<=40)&&decide ((el p.fe f.toNat).t.size+t.size<=400)))with
 |false=>exact h
 |true=>rw[aJ]at hc;exact yS h (rA (NG h hc.1) ht)
theorem Yy{p:Px}(f:ay)(h:NN p):NN (gV.Gy p f).1:=by
 unfold gV.Gy;cases hc:uS p f with
 |false=>exact h
 |true=>exact yS h (NG h hc)
theorem YE{p:Px}(f life:ay)(h:NN p):NN (sK.cls p f life).1:=by
 unfold sK.cls;cases hc:(uS p f&&decide (0<=life/\life<=999999))with
 |false=>exact h
 |true=>
  rw[aJ]at hc;have ht:=NG h hc.1;rw[aw];dsimp only;cases decide (life>0)with
  |false=>exact yS h ht
  |true=>
   have h2:NN (told p f.toNat {el p.fe f.toNat with sta:=2,li:=life,st:=p.now} 2):=yS h ht;refine⟨h2.1,λe he=> ?_,h2.2.2⟩
   rcases Ux he with rfl|he
   ·exact ht
   ·exact h2.2.1 e he
theorem Uw{w:Wo}{e:Ev}(ho:qO.gd w.p)(h:NN w.p)(hk:e.k<=6)(h1:1<=e.k)(ht:e.k=2->nt e.t=aj):NN (iO.step w e).p:=by
 show NN (iO.act w e).1.p;unfold iO.act;by_cases k1:e.k=1
 ·rw[aE k1];exact Yq _ _ ho h
 rw[aK k1,az];by_cases k2:e.k=2
 ·rw[aE k2];exact ZV _ _ h (ht k2)
 rw[aK k2,az];by_cases k3:e.k=3
 ·rw[aE k3,aw];unfold iO.closed;have:=YE e.id (e.n%1000000) h;dsimp only;cases (sK.cls w.p e.id (e.n%1000000)).2&&decide (e.n%1000000>0)<;>exact this
 rw[aK k3,az];by_cases k4:e.k=4
 ·rw[aE k4];exact Yy _ h
 rw[aK k4,az];by_cases k5:e.k=5
 ·rw[aE k5];exact⟨h.1,h.2.1,h.2.2⟩
 rw[aK k5,az];by_cases k6:e.k=6
 ·rw[aE k6];exact⟨h.1,h.2.1,λc hc=>h.2.2 c (cJ.1 hc).1⟩
 omega
end xB

namespace ua
open _root_.Go.FG.Lib (rs)
def sp(c:eE):ax eE->ax eE->ax (ax eE)
 |cur,[]=>[cur]
 |cur,b::r=>if b=c then cur::sp c [] r else sp c (cur++[b]) r
theorem Xg{c:eE}:∀(l cur:ax eE),c∉l->sp c cur l=[cur++l]
 |[],cur,_=>by simp[sp]
 |b::r,cur,h=>by
  have h1:b≠c:=λe=>h (e▸cw);have h2:c∉r:=λe=>h (cg _ e);rw[sp,a_ h1,Xg r _ h2];simp
theorem QI{c:eE}:∀(a cur r:ax eE),c∉a->sp c cur (a++c::r)=(cur++a)::sp c [] r
 |[],cur,r,_=>by simp[sp]
 |b::a,cur,r,h=>by
  have h1:b≠c:=λe=>h (e▸cw);have h2:c∉a:=λe=>h (cg _ e);rw[mO,sp,a_ h1,QI a _ r h2];simp
theorem amM(c b:eE)(l:ax eE):[c].isPrefixOf (b::l)=(c==b):=by simp[List.isPrefixOf]
theorem ix(c:eE):∀l:ax eE,(_root_.Go.Lib.index l [c]= -1/\c∉l)\/∃i:aG,_root_.Go.Lib.index l [c]=i/\i<l.length/\l=l.take i++c::l.drop (i+1)/\c∉l.take i
 |[]=> .inl ⟨rfl,by simp⟩
 |b::l=>by
  unfold _root_.Go.Lib.index;rw[amM];by_cases hb:c=b
  ·subst hb;right;exact⟨0,by simp,by simp,by simp,by simp⟩
  ·have:(c==b)=false:=by simp[hb]
   rw[this];rcases ix c l with ⟨h1,h2⟩|⟨i,h1,h2,h3,h4⟩
   ·left;rw[h1];exact⟨rfl,by simp[hb,h2]⟩
   ·right;have e:(_root_.Go.Lib.index l [c]== -1)=false:=by rw[h1];simp
    refine⟨i+1,by rw[e];simp[h1],by simp[h2], ?_,by simp[hb,h4]⟩
    rw[List.take_succ_cons,List.drop_succ_cons,mO,<-h3]
theorem Gj(c:eE):∀(k:aG) (l:ax eE),_root_.Go.Lib.count l [c]=k->_root_.Go.Lib.splitK [c] 0 k l=sp c [] l
 |0,l,hk=>by
  rcases ix c l with ⟨h1,h2⟩|⟨i,h1,_⟩
  ·rw[Xg l [] h2];rfl
  ·have:=_root_.Go.Lib.count_hit (s:=l) (sub:=[c]) (i:=i) (by simp) h1;omega
 |k+1,l,hk=>by
  rcases ix c l with ⟨h1,h2⟩|⟨i,h1,h2,h3,h4⟩
  ·rw[_root_.Go.Lib.count_miss h1]at hk;omega
  ·have hc:=_root_.Go.Lib.count_hit (s:=l) (sub:=[c]) (i:=i) (by simp) h1;have e:(_root_.Go.Lib.index l [c]== -1)=false:=by rw[h1];simp
   rw[_root_.Go.Lib.splitK,e,h1];have ih:=Gj c k (l.drop (i+1)) (by rw[show([c]:ax eE).length=1 from rfl]at hc;omega);have hs:=QI (l.take i) [] (l.drop (i+1)) h4;rw[<-h3]at hs;rw[hs];simp only[cN,if_false,dD,rS,eR,show([c]:ax eE).length=1 from rfl,ih]
def mk(l:ax eE):aq:=⟨l.toArray⟩
theorem DJ(l:ax eE):(mk l).size=l.length:=rfl
def GG(c:eE)(s:aq):ax aq:=(sp c [] s.data.toList).map mk
theorem ajr(c:eE)(s:aq):_root_.Go.Lib.splitB ⟨#[c]⟩ 0 (_root_.Go.Lib.countB s ⟨#[c]⟩) s=GG c s:=by have h:=_root_.Go.Lib.splitB_data ⟨#[c]⟩ 0 (_root_.Go.Lib.countB s ⟨#[c]⟩) s;have e:_root_.Go.Lib.countB s ⟨#[c]⟩=_root_.Go.Lib.count s.data.toList [c]:=rfl;unfold GG;rw[<-Gj c _ s.data.toList rfl,<-e];rw[show([c]:ax eE)=(⟨#[c]⟩:aq).data.toList from rfl,<-h,jr];exact(List.map_id _).symm
theorem Ki(c:eE)(s:aq):wa.v s ⟨#[c]⟩=rs (GG c s):=by unfold wa.v;rw[ajr];rfl
theorem Kh(c:eE)(s:aq)(h:s.size<=4000000000):wa.c s ⟨#[c]⟩=true:=by unfold wa.c;rw[aJ,Nat.ble_eq];exact⟨h,rfl⟩
theorem zC(s:aq)(b i:aG):s.extract b i=mk ((s.data.toList.drop b).take (i-b)):=by apply lh;unfold mk;apply qK;simp[eS]
theorem sz(s:aq):s.data.toList.length=s.size:=rfl
theorem NW{l:ax eE}{b i:aG}(hb:b<=i)(hi:i<l.length):(l.drop b).take (i+1-b)=(l.drop b).take (i-b)++[l[i]]:=by rw[show i+1-b=(i-b)+1 by omega,cj (by simp;omega)];simp[show b+(i-b)=i by omega]
theorem bt{s:aq}{i:aG}(h:i<s.size):fK s i=(s.data.toList[i]'(by rw[sz];exact h)).toNat:=by unfold fK;rw[dc,Array.getElem?_eq_getElem (show i<s.data.size from h)];rfl
end ua

namespace AZ
open mo (dd Vk dd2 it)
def vl(a:aG)(l:ax eE):aG:=l.foldl (λa c=>a*10+(c.toNat-48)) a
def Sb(c:eE):aU:=decide (48<=c.toNat)&&decide (c.toNat<=57)
theorem uv{c:eE}:Sb c=aj↔48<=c.toNat/\c.toNat<=57:=by unfold Sb;simp
theorem B9{x:aG}(h:x<10):(ak (48+x)).toNat=48+x:=by rw[tU];omega
theorem Dj:∀(m u:aG),u<=m->vl 0 (dd u)=u/\(dd u).all Sb=aj
 |m,u,h=>by
  by_cases hu:u<10
  ·rw[Vk hu];have e:=B9 hu;refine⟨?_, ?_⟩
   ·simp only[vl,nJ,sA,e];omega
   ·simp only[mv,List.all_nil,ig,uv,e];omega
  ·match m with
   |0=>omega
   |m+1=>
    obtain⟨h1,h2⟩:=Dj m (u/10) (by omega);rw[dd2 hu];have e:=B9 (x:=u%10) (by omega);refine⟨?_, ?_⟩
    ·unfold vl at h1⊢;rw[vI,h1];simp only[nJ,sA,e];omega
    ·rw[U_,h2];simp only[mv,List.all_nil,ig,bK,uv,e];omega
theorem NX:∀(k u:aG),u<10^(k+1)->(dd u).length<=k+1
 |0,u,h=>by rw[Vk (by omega)];simp
 |k+1,u,h=>by
  by_cases hu:u<10
  ·rw[Vk hu];simp
  ·rw[dd2 hu,bW,bu];have:=NX k (u/10) (by rw[Nat.pow_succ]at h;omega);omega
theorem Xo:∀(l:ax eE) (a:aG),a<=vl a l
 |[],a=>bR _
 |c::l,a=>by
  have:=Xo l (a*10+(c.toNat-48));show a<=vl (a*10+(c.toNat-48)) l;omega
theorem prs:∀(l:ax eE) (a:aG),l.all Sb=aj->vl a l<9223372036854775808->_root_.Go.Lib.parseUint10 a l= .ok (vl a l)
 |[],a,_,_=>rfl
 |c::l,a,h,hb=>by
  rw[mv,aJ,uv]at h;have hg:=Xo l (a*10+(c.toNat-48));have hb:vl (a*10+(c.toNat-48)) l<9223372036854775808:=hb;rw[_root_.Go.Lib.parseUint10,ba h.1,a_ (by omega),a_ (by omega)];exact prs l _ h.2 hb
def kI(s:aq):ay×aU:=
 bif s.data.toList.all Sb&&decide (s.size<=10)&&decide (vl 0 s.data.toList<=1000000000)&&(dd (vl 0 s.data.toList)==s.data.toList)then((vl 0 s.data.toList:aG),aj)else(0,ao)
theorem Yt(l:ax eE)(h1:l≠[])(h2:l.all Sb=aj)(h3:vl 0 l<=1000000000):_root_.Go.Lib.atoiAll l= .ok ((vl 0 l:aG):ay):=by
 have hp:=prs l 0 h2 (by omega);match l,h1 with
 |c::r,_=>
  have hc:=(aJ _ _▸(mv▸h2)).1;rw[uv]at hc;unfold _root_.Go.Lib.atoiAll;have e3:¬c.toNat=43:=by omega
  have e5:¬c.toNat=45:=by omega
  simp only[e3,e5,or_self,if_false,false_and,not_false_eq_true,true_and];unfold _root_.Go.Lib.parseMag;rw[a_ (by simp),hp];dsimp only;rw[a_ (by omega)]
theorem Zr(s:aq):vt.v s=kI s:=by
 unfold kI;cases hc:(s.data.toList.all Sb&&decide (s.size<=10)&&decide (vl 0 s.data.toList<=1000000000)&&(dd (vl 0 s.data.toList)==s.data.toList))with
 |true=>
  simp only[aJ,aZ,beq_iff_eq]at hc;obtain⟨⟨⟨h1,h2⟩,h3⟩,h4⟩:=hc;have g_:s.data.toList≠[]:=by intro e;rw[e]at h4;rw[show vl 0 []=0 from rfl,Vk (by omega)]at h4;cases h4
  unfold vt.v;rw[Yt _ g_ h1 h3];have e:(_root_.Go.Lib.itoa ((vl 0 s.data.toList:aG):ay)==s.data.toList)=true:=by rw[_root_.Go.Lib.itoa_nonneg];exact beq_iff_eq.2 h4
  simp only[e,ig,aE (show(0:ay)<=((vl 0 s.data.toList:aG):ay)by omega),aE (show((vl 0 s.data.toList:aG):ay)<=1000000000 by omega),aw]
 |false=>
  unfold vt.v;cases ha:_root_.Go.Lib.atoiAll s.data.toList with
  |range=>rfl
  |ok n=>
   dsimp only;cases hd:(decide (0<=n)&&decide (n<=1000000000)&&(_root_.Go.Lib.itoa n==s.data.toList))with
   |false=>rfl
   |true=>exfalso;simp only[aJ,aZ,beq_iff_eq]at hd;obtain⟨⟨h1,h2⟩,h3⟩:=hd;obtain⟨u,rfl⟩:=Int.eq_ofNat_of_zero_le h1;rw[_root_.Go.Lib.itoa_nonneg]at h3;have h3:dd u=s.data.toList:=h3;obtain⟨k1,k2⟩:=Dj u u (bR _);have k3:=NX 9 u (by omega);rw[h3]at k1 k2 k3;have k3:s.size<=10:=k3;rw[k1,k2,h3,aE k3,aE (show u<=1000000000 by omega)]at hc;simp at hc
  |_=>rfl
end AZ

namespace I8
theorem ok(a t:aq)(h:a.size<=t.size)(h2:t.extract 0 a.size=a):c a t=aj/\v a t=true:=by refine out a t ?_;unfold vo b;rw[aE (show(a.size:ay)<=(t.size:ay)by omega),aw,show gU 0 (a.size:ay) (t.size:ay)=aj by simp[gU];omega,aw];rw[show aY 0=0 from rfl,dD,h2,Lib.nN]
end I8

namespace iw
open _root_.Go.FG.Lib (rr rs re rf rc rd Px En el xX AQ AR AU)
open iO (Wo Ev)
open oG (dk es)
def ri(l:ax ay):Row:=l.map λn=>[CV.i ar n]
theorem j8(l:ax ay):(ri l).length=l.length:=by unfold ri;simp
def BL(w:Wo):ay×Row×Row×Row×Row×ay×Row×Row×ay×Row×Row×Row:=(w.p.now,re w.p.en,rs w.p.w,rs w.p.m,rr w.p.s,w.p.a,rf w.p.fe,rc w.p.cl,w.p.hits,rd (dk w.o),ri w.cd,re w.bd)
theorem Cp(l:ax En)(e:En):re l++aF (aR [Ck.s,Ck.i ar,Ck.i ar,Ck.s] 1) 0 [CV.s e.k,CV.i ar e.st,CV.i ar e.li,CV.s e.bo]=re (l++[e]):=by unfold Lib.re;rw[c7];rfl
theorem aem(l:ax ay)(n:ay):ri l++aF (aR [Ck.i ar] 1) 0 [CV.i ar n]=ri (l++[n]):=by unfold ri;rw[c7];rfl
theorem anN(l:ax En):aR [Ck.s,Ck.i ar,Ck.i ar,Ck.s] 0++re l=re l:=rfl
theorem anO(l:ax ay):aR [Ck.i ar] 0++ri l=ri l:=rfl
theorem sd(ks:ax Ck)(y:ax CV):(aF (aR ks 1) 0 y).length=1:=rfl
theorem oY{p:Px}(h:qO.gd p):p.Fit 1048576:=(lj.oY (qO.rC.2 h)).le (by omega)
theorem lt_eq{α β:Type}(x:α)(f:α->β):Lib.lt x f=f x:=by have h:∀y,y=Lib.lt x f->y=f x:=λy hy=>hy.trans (Eq.refl _);exact h _ (Eq.refl _)
end iw

namespace C_
open _root_.Go.FG.Lib (Cl rc el)
open du (shown ln room Bf sp LC)
theorem step(K:aq->ay->ay->Row->Row->Row->Row->ay->Row->Row->ay->aA R)(i0:ay)(q1 q2 q3 q4:Row)(i5:ay)(q6:Row)(i8:ay)(l:ax Cl)(hr:room l<=1000000000)(ho:∀c∈l,Bf c)(m i:aG)(h:i<l.length):
  l3 Lib.cR K (m+1) (shown (l.take i)) (i:ay) i0 q1 q2 q3 q4 i5 q6 (rc l) i8=l3 Lib.cR K m (shown (l.take (i+1))) ((i+1:aG):ay) i0 q1 q2 q3 q4 i5 q6 (rc l) i8:=by
 have hc:=ho _ (kO h);have d1:=du.num _ hc.1;have d2:=du.num _ hc.2;have s1:=mo.qa _ (du.lD hc.1).1 (du.lD hc.1).2;have s2:=mo.qa _ (du.lD hc.2).1 (du.lD hc.2).2;have s4:=du.Al l i h;have s5:(shown (l.take i)).size<=room l:=cm (du.qk _ (λc hc=>ho c (kh hc))) (du.wB l i);rw[show l3 Lib.cR K (m+1)=r3 Lib.cR (l3 Lib.cR K m) K from rfl];unfold r3;have hl:l.length<=1000000000:=by
  have:∀l:ax Cl,l.length<=room l:=by
   intro l;induction l with
   |nil=>exact bR _
   |cons c r ih=>unfold room;simp only[bU];omega
  exact cm (this l) hr
 rw[du.take_succ l i h,show bN ((i:ay)+1)=((i+1:aG):ay)from dj (by omega) (by omega),fc];have q4:({data:= #[ak 100,ak 111,ak 110,ak 101]}:aq).size=4:=rfl;have q5:({data:= #[ak 119,ak 97,ak 105,ak 116,ak 115]}:aq).size=5:=rfl;have q6:({data:= #[ak 102,ak 97,ak 105,ak 108,ak 101,ak 100]}:aq).size=6:=rfl;simp only[dD,Rt h,UD h,UE h,UF h,bS,bJ,d1.1,d1.2,d2.1,d2.2,aw,aE (show(i:ay)<(l.length:ay)by omega),aE (show 0<=(i:ay)by omega),aL,Lib.dX,show sp.size=1 from rfl,show LC.size=1 from rfl,q4,q5,q6];have w1:∀{n:aG},n<=4000000000->decide (n<=4611686018427387904)=true:=λh=>aE (by omega);unfold du.ln du.st EC.v;by_cases e1:(el l i).sta=1
 ·have e2:¬(el l i).sta=2:=by omega
  simp only[aE e1,aK e2,aw,az];repeat rw[w1 (by omega)]
  simp only[aw,dY]
 ·simp only[aK e1,az];by_cases e2:(el l i).sta=2
  ·simp only[aE e2,aw];repeat rw[w1 (by omega)]
   simp only[aw,dY]
  ·simp only[aK e2,az];repeat rw[w1 (by omega)]
   simp only[aw,dY]
theorem ok(i0:ay)(q1 q2 q3 q4:Row)(i5:ay)(q6:Row)(l:ax Cl)(i8:ay)(hr:room l<=1000000000)(ho:∀c∈l,Bf c):c i0 q1 q2 q3 q4 i5 q6 (rc l) i8=aj/\v i0 q1 q2 q3 q4 i5 q6 (rc l) i8=shown l:=by
 refine out _ _ _ _ _ _ _ _ _ ?_;unfold vo b;have hl:l.length<=1000000000:=by
  have:∀l:ax Cl,l.length<=room l:=by
   intro l;induction l with
   |nil=>exact bR _
   |cons c r ih=>unfold room;simp only[bU];omega
  exact cm (this l) hr
 have key:=jO l.length (λm (i:aG) (x:aq)=>l3 Lib.cR (λrO (_ _:ay) (_ _ _ _:Row) (_:ay) (_ _:Row) (_:ay)=>ah rO) m x (i:ay) i0 q1 q2 q3 q4 i5 q6 (rc l) i8) (λi=>shown (l.take i)) (ah (shown l)) (λm i h=>step _ i0 q1 q2 q3 q4 i5 q6 i8 l hr ho m i h) (λm=>by rw[show l3 Lib.cR (λrO (_ _:ay) (_ _ _ _:Row) (_:ay) (_ _:Row) (_:ay)=>ah rO) (m+1)=r3 Lib.cR (l3 Lib.cR (λrO (_ _:ay) (_ _ _ _:Row) (_:ay) (_ _:Row) (_:ay)=>ah rO) m) (λrO (_ _:ay) (_ _ _ _:Row) (_:ay) (_ _:Row) (_:ay)=>ah rO)from rfl];unfold C_.r3;rw[fc,aK (by omega),az,d_]) Lib.cR 0 (bC _) (c6 (by omega));exact key
end C_

namespace Ek
open e9 (has without gq ma)
open jz (eM oW vv)
open gH (pE V5 uY)
theorem iG{w m:ax aq}{s:ax (ax ay)}{a:ay}:vv w m s a=aj↔((∀k∈w++m,eM k=aj)/\(w++m).Nodup)/\w.length<=2/\m.length<=4/\pE s a=true:=by unfold vv;rw[aJ,aJ,aJ,aZ,aZ,e8.HL]
theorem D3{s:ax (ax ay)}{a:ay}:pE s a=aj↔s.length=3/\(0<=a/\a<=63)/\∀q∈s,q.length=16/\∀n∈q,0<=n/\n<=15:=by unfold pE uY V5;simp only[aJ,aZ,bf]
theorem Ic{s:ax (ax ay)}{a:ay}(key:aq)(h:pE s a=aj):pE (dy.val s a key).1 (dy.val s a key).2=true:=by
 unfold dy.val;rw[h,aw];obtain⟨h1,h2,h3⟩:=D3.1 h;obtain⟨b1,b2⟩:=dy.zr (key:=key) h1 h3;by_cases ha:a+1=64
 ·rw[aE ha,aw,D3];unfold dy.half;refine⟨by rw[bM];exact b1,by omega,λq hq=> ?_⟩
  obtain⟨r,hr,rfl⟩:=cD.1 hq;refine⟨by rw[bM];exact(b2 r hr).1,λn hn=> ?_⟩
  obtain⟨k,hk,rfl⟩:=cD.1 hn;have:=(b2 r hr).2 k hk;rw[dB this.1];omega
 ·rw[aK ha,az,D3];exact⟨b1,by omega,b2⟩
theorem DK{k:aq}(h:eM k=aj):k≠⟨#[]⟩:=by intro e;rw[e]at h;exact b_ h (by decide)
theorem rH{w m:ax aq}{s:ax (ax ay)}{a:ay}{key:aq}(h:vv w m s a=aj)(hk:eM key=aj):
  vv (e8.val w m s a key).1 (e8.val w m s a key).2.1 (e8.val w m s a key).2.2.1 (e8.val w m s a key).2.2.2.1=aj
  /\∀x,x∈(e8.val w m s a key).1\/x∈(e8.val w m s a key).2.1↔(x∈w\/x∈m\/x=key)/\x≠(e8.val w m s a key).2.2.2.2:=by
 obtain⟨⟨k1,nd⟩,l1,l2,hs⟩:=iG.1 h;have Ll:=Ic key hs;have kn:=DK hk;have wn:∀x,x∈w\/x∈m->x≠⟨#[]⟩:=λx hx=>DK (k1 x (aX.2 hx));unfold e8.val;rw[h,hk,aL,aw];generalize dy.val s a key=V at Ll;obtain⟨S,A⟩:=V;dsimp only at Ll⊢;rw[dQ]at nd;obtain⟨n1,n2,n3⟩:=nd;have hwo:∀l:ax aq,l.Nodup->(without l key).Nodup/\(∀x,x∈without l key↔x∈l/\x≠key):=λl hl=>by unfold without;exact⟨hl.sublist iM,λx=>by simp⟩
 cases h1:has w key with
 |true=>
  have hm:=gq.1 h1;obtain⟨o1,o2⟩:=hwo w n1;have o3:=e9.tQ h1;dsimp only[aw];refine⟨iG.2 ⟨⟨λk hx=> ?_, ?_⟩,by simp;omega,l2,Ll⟩,λx=> ?_⟩
  ·simp only[aX,aW,o2]at hx;rcases hx with (hx|rfl)|hx
   ·exact k1 _ (aX.2 (.inl hx.1))
   ·exact hk
   ·exact k1 _ (aX.2 (.inr hx))
  ·simp only[dQ,aX,aW,o2];grind
  ·simp only[aX,aW,o2];grind
 |false=>
  rw[az];have hw:=ma.1 h1;cases h2:has m key with
  |true=>
   have hm:=gq.1 h2;obtain⟨o1,o2⟩:=hwo m n2;have o3:=e9.tQ h2;dsimp only[aw];refine⟨iG.2 ⟨⟨λk hx=> ?_, ?_⟩,l1,by simp;omega,Ll⟩,λx=> ?_⟩
   ·simp only[aX,aW,o2]at hx;rcases hx with hx|hx|rfl
    ·exact k1 _ (aX.2 (.inl hx))
    ·exact k1 _ (aX.2 (.inr hx.1))
    ·exact hk
   ·simp only[dQ,aX,aW,o2];grind
   ·simp only[aX,aW,o2];grind
  |false=>
   rw[az];have hmn:=ma.1 h2;have l_:∀x,x∈w++[key]\/x∈m↔x∈w\/x∈m\/x=key:=λx=>by simp only[aX,aW];grind
   have SJ:∀x,x∈w++[key]\/x∈m->eM x=true:=λx hx=>by
    rcases(l_ x).1 hx with hx|hx|rfl
    ·exact k1 _ (aX.2 (.inl hx))
    ·exact k1 _ (aX.2 (.inr hx))
    ·exact hk
   have Fv:(w++[key]).Nodup/\∀x∈w++[key],x∉m:=by simp only[dQ,aX,aW];grind
   have hlen:(w++[key]).length=w.length+1:=by simp
   generalize w++[key]=W at l_ SJ Fv hlen;obtain⟨d1,d2⟩:=Fv;by_cases h3:W.length<=2
   ·rw[aE h3,aw];refine⟨iG.2 ⟨⟨λk hx=>SJ k (aX.1 hx), ?_⟩,h3,l2,Ll⟩,λx=> ?_⟩
    ·simp only[dQ];grind
    ·dsimp only;rw[l_];grind
   ·rw[aK h3,az];cases W with
    |nil=>simp at hlen
    |cons x0 t=>
     rw[jy]at d1;rw[bU]at hlen;have hg:(x0::t).getD 0 ⟨#[]⟩=x0:=rfl;have ht:(x0::t).tail=t:=rfl;rw[hg,ht];by_cases h4:m.length<4
     ·rw[aE h4,aw];refine⟨iG.2 ⟨⟨λk hx=>SJ k ?_, ?_⟩,by dsimp only;omega,by simp;omega,Ll⟩,λx=> ?_⟩
      ·simp only[aX,aW,b7]at hx⊢;grind
      ·simp only[dQ,aX,aW,b7]at d2⊢;grind
      ·dsimp only;rw[<-l_];simp only[aX,aW,b7];grind
     ·rw[aK h4,az];cases m with
      |nil=>simp at h4
      |cons y0 u=>
       rw[jy]at n2;rw[bU]at l2 h4;have Vt:(y0::u).getD 0 ⟨#[]⟩=y0:=rfl;have Fy:(y0::u).tail=u:=rfl;rw[Vt,Fy];cases decide (mS.val S A x0>mS.val S A y0)with
       |true=>
        rw[aw];refine⟨iG.2 ⟨⟨λk hx=>SJ k ?_, ?_⟩,by dsimp only;omega,by simp;omega,Ll⟩,λx=> ?_⟩
        ·simp only[aX,aW,b7]at hx⊢;grind
        ·simp only[dQ,aX,aW,b7]at d2⊢;grind
        ·dsimp only;rw[<-l_];simp only[aX,aW,b7]at d2⊢;grind
       |false=>
        rw[az];refine⟨iG.2 ⟨⟨λk hx=>SJ k ?_, ?_⟩,by dsimp only;omega,by simp;omega,Ll⟩,λx=> ?_⟩
        ·simp only[aX,b7]at hx⊢;grind
        ·simp only[dQ,jy,b7]at d2⊢;grind
        ·dsimp only;rw[<-l_];simp only[b7]at d2⊢;grind
end Ek

namespace Ix
open _root_.Go.FG.Lib (Px Cl Fe En el)
open e9 (has without gq ma)
open jz (eM vv)
open mR (uw)
open oi (oU lR)
open kL (lF)
open fH (So ew fw lE)
open lj (Gk)
open qO (gd EO rC)
open Ek (iG rH)
open gV (uS told Gy GH jm)
theorem Vh{p:Px}(h:gd p){n:ay}(h1:p.now<=n)(h2:n<=1000000000):gd {p with now:=n}:=by
 have:=h.now;refine⟨⟨by dsimp only;omega,h2⟩,h.en,h.so,h.ek,h.pol,h.len,h.fl,λf hf=> ?_,h.ap,h.cll,λc hc=> ?_,h.cs,h.hits⟩
 ·have:=h.fe f hf;unfold oU at this⊢;simp only[aJ,aZ]at this⊢;exact⟨this.1,this.2.1,this.2.2.1,this.2.2.2.1,this.2.2.2.2.1,Gu this.2.2.2.2.2 h1⟩
 ·have:=h.cl c hc;unfold EO at this⊢;simp only[aJ,aZ]at this⊢;exact⟨this.1,this.2.1,this.2.2.1,this.2.2.2.1,this.2.2.2.2.1,⟨this.2.2.2.2.2.1.1,Gu this.2.2.2.2.2.1.2 h1⟩,this.2.2.2.2.2.2⟩
theorem np{p:Px}{n:aG}{g:Fe}{st:ay}(h:gd p)(hn:n<p.fe.length)(hk:g.k=(el p.fe n).k)(hg:oU p.now g=aj)(hs:g.sta=1->(el p.fe n).sta=1)(h1:1<=st/\st<=3):gd (told p n g st):=by
 rw[fy hn]at hk hs;refine⟨h.now,h.en,h.so,h.ek,h.pol,h.len, ?_,λf hf=> ?_, ?_, ?_,λc hc=> ?_, ?_,h.hits⟩
 ·show(p.fe.set n g).length<=20;rw[dt];exact h.fl
 ·rcases iD hf with q|rfl
  ·exact h.fe f q
  ·exact hg
 ·show(p.fe.set n g).Pairwise _;rw[da];intro i j hi hj Le;rw[dt]at hi hj;have:=da.1 h.ap i j hi hj Le;rw[Ng,Ng];unfold lR at this⊢;by_cases e1:n=i
  ·by_cases e2:n=j
   ·omega
   ·subst e1;simp only[if_true,e2,if_false];rw[hk];by_cases e3:g.sta=1
    ·rw[hs e3]at this;rw[e3];exact this
    ·rw[aK e3];simp
  ·by_cases e2:n=j
   ·subst e2;simp only[e1,if_true,if_false];rw[hk];by_cases e3:g.sta=1
    ·rw[hs e3]at this;rw[e3];exact this
    ·rw[aK e3];simp
   ·simp only[e1,e2,if_false];exact this
 ·show(t_.qv p.cl n st g.t).length<=6;unfold t_.qv;rw[bM];exact h.cll
 ·have Fp:c∈t_.qv p.cl n st g.t:=hc;unfold t_.qv at Fp;obtain⟨d,hd,rfl⟩:=cD.1 Fp;have h2:=h.cl d hd;show EO p.now (p.fe.set n g).length _=aj;rw[dt];unfold t_.ec;cases decide (d.fe=(n:ay)+1)&&decide (d.sta=1)with
  |false=>exact h2
  |true=>rw[aw];unfold EO at h2⊢;unfold oU at hg;simp only[aJ,aZ]at h2 hg⊢;exact⟨h2.1,h2.2.1,h1,h2.2.2.2.1,hg.2.1,h2.2.2.2.2.2⟩
 ·show(t_.qv p.cl n st g.t).Pairwise _;unfold t_.qv;rw[jw];refine h.cs.imp λ{a b} hab=> ?_;have e:∀d:Cl,(t_.ec n st g.t d).id=d.id:=λd=>by unfold t_.ec;cases decide (d.fe=(n:ay)+1)&&decide (d.sta=1)<;>rfl
  rw[e,e];exact hab
theorem Jl{p:Px}(h:gd p){n:aG}(hn:n<p.fe.length):eM (el p.fe n).k=aj/\((el p.fe n).t.size:ay)<=400/\(1<=(el p.fe n).sta/\(el p.fe n).sta<=3)/\(0<=(el p.fe n).li/\(el p.fe n).li<=999999)/\0<=(el p.fe n).st/\(el p.fe n).st<=p.now:=by have:=h.fe _ (kO hn);unfold oU at this;simpa only[aJ,aZ]using this
theorem NK{p:Px}(f:ay)(h:gd p):gd (Gy p f).1:=by
 unfold Gy;cases ho:uS p f with
 |false=>exact h
 |true=>obtain⟨n,rfl,hn,_,h1⟩:=jm ho;obtain⟨g1,g2,g3,g4,g5⟩:=Jl h hn;refine np h hn rfl ?_ (λe=>b_ e (by dsimp only;omega)) (by omega);unfold oU;simp only[aJ,aZ];exact⟨g1,g2,by omega,g4,g5⟩
theorem PI{p:Px}(f:ay)(t:aq)(h:gd p):gd (GH p f t).1:=by
 unfold GH;cases ho:uS p f&&(decide (1<=t.size/\t.size<=40)&&decide ((el p.fe f.toNat).t.size+t.size<=400))with
 |false=>exact h
 |true=>
  simp only[aJ,aZ]at ho;obtain⟨n,rfl,hn,_,h1⟩:=jm ho.1;obtain⟨g1,g2,g3,g4,g5⟩:=Jl h hn;rw[dD]at ho;refine np h hn rfl ?_ (λ_=>h1) (by omega);unfold oU;simp only[aJ,aZ];refine⟨g1, ?_,g3,g4,g5⟩
  show((((el p.fe n).t++t).size:aG):ay)<=400;rw[dh];omega
def KJ(en:ax En)(w m:ax aq):Prop:=∀k,k∈w\/k∈m↔∃e∈en,e.k=k
theorem Gg{en:ax En}(h:So en):(en.map λe=>e.k).Nodup:=by rw[oe,jw];refine h.imp λ{a b} hab e=> ?_;rw[e]at hab;unfold ew at hab;rw[eT.nz]at hab;cases hab
theorem yP{p:Px}(h:gd p):KJ p.en p.w p.m:=by
 obtain⟨⟨_,nd⟩,_⟩:=iG.1 h.pol;have ne:=Gg h.so;have sub:(p.en.map λe=>e.k)⊆p.w++p.m:=λx hx=>by obtain⟨e,he,rfl⟩:=cD.1 hx;exact aX.2 (h.ek e he)
 intro k;constructor
 ·intro hk;have hk:k∈p.w++p.m:=aX.2 hk;refine xE λhn=> ?_;have nn:(k::p.en.map λe=>e.k).Nodup:=jy.2 ⟨λhx=>hn (by obtain⟨e,he,q⟩:=cD.1 hx;exact⟨e,he,q⟩),ne⟩;have:=nn.length_le_of_subset (l₂:=p.w++p.m) (λx hx=>by
   rcases b7.1 hx with rfl|hx
   ·exact hk
   ·exact sub hx)
  have hl:=h.len;simp only[bU,bM,bW]at this;omega
 ·rintro ⟨e,he,rfl⟩;exact h.ek e he
theorem of_same{en:ax En}{w m:ax aq}{s:ax (ax ay)}{a:ay}(h:KJ en w m)(so:So en)(hp:vv w m s a=aj):(∀e∈en,e.k∈w\/e.k∈m)/\w.length+m.length=en.length:=by
 obtain⟨⟨_,nd⟩,_⟩:=iG.1 hp;refine⟨λe he=>(h _).2 ⟨e,he,rfl⟩, ?_⟩
 have:=((List.perm_ext_iff_of_nodup nd (Gg so)).2 λx=>by rw[aX,h x,cD]).length_eq;rw[bW,bM]at this;exact this
theorem ly{en:ax En}{k:aq}{e:En}:e∈fw en k↔e∈en/\e.k≠k:=by unfold fw;simp
theorem oE{en:ax En}{x e:En}:x∈lE en e↔x=e\/(x∈en/\x.k≠e.k):=by
 unfold lE;simp only[aX,cJ,aW,dA,gD,eV];constructor
 ·rintro ((⟨h1,h2⟩|rfl)|⟨h1,h2⟩)
  ·refine .inr ⟨h1,λe2=> ?_⟩;rw[e2]at h2;unfold ew at h2;rw[eT.nz]at h2;cases h2
  ·exact .inl rfl
  ·exact .inr ⟨h1,h2.2⟩
 ·rintro (rfl|⟨h1,h2⟩)
  ·exact .inl (.inr rfl)
  ·cases hl:ew x.k e.k with
   |true=>exact .inl (.inl ⟨h1,rfl⟩)
   |false=>exact .inr ⟨h1,rfl,h2⟩
theorem wF{en:ax En}(h:So en)(e:En):So (lE en e):=by have:=(eT.uN (fH.Cc h) e.k e.st e.li e.bo).1.1;rw[fH.tL]at this;unfold Lib.re at this;rw[jw]at this;exact this
theorem Ij{p:Px}{e:En}(h:gd p)(he:uw e=aj):gd (Gk p e):=by
 have hk:eM e.k=true:=by have:=(ie.DX he).1;unfold eM;exact aE (by omega)
 obtain⟨t1,t2⟩:=rH h.pol hk;have sm:=yP h;unfold Gk;generalize e8.val p.w p.m p.s p.a e.k=V at t1 t2;obtain⟨W,M,S,A,G⟩:=V;dsimp only at t1 t2⊢;have key:∀en',So en'->(∀x∈en',uw x=aj)->KJ en' W M->gd ⟨p.now,en',W,M,S,A,p.fe,p.cl,p.hits⟩:=λen' o1 o2 o3=>by obtain⟨q1,q2⟩:=of_same o3 o1 t1;exact⟨h.now,o2,o1,q1,t1,q2,h.fl,h.fe,h.ap,h.cll,h.cl,h.cs,h.hits⟩
 have d1:So (fw p.en G):=h.so.drop G;have d2:∀x∈fw p.en G,uw x=true:=λx hx=>h.en x (ly.1 hx).1;cases hh:has W e.k||has M e.k with
 |true=>
  rw[aw];have g6:e.k∈W\/e.k∈M:=by rwa[dq,gq,gq]at hh
  refine key _ (wF d1 e) (λx hx=> ?_) λk=> ?_
  ·rcases oE.1 hx with rfl|q
   ·exact he
   ·exact d2 x q.1
  ·rw[t2 k];have hg:=((t2 e.k).1 g6).2;constructor
   ·rintro ⟨q,hn⟩;by_cases e1:k=e.k
    ·exact⟨e,oE.2 (.inl rfl),e1.symm⟩
    ·have q2:k∈p.w\/k∈p.m:=q.elim .inl λq=>q.elim .inr λq=>b_ q e1;obtain⟨x,hx,rfl⟩:=(sm k).1 q2;exact⟨x,oE.2 (.inr ⟨ly.2 ⟨hx,hn⟩,e1⟩),rfl⟩
   ·rintro ⟨x,hx,rfl⟩;rcases oE.1 hx with rfl|q
    ·exact⟨.inr (.inr rfl),hg⟩
    ·obtain⟨q1,q2⟩:=ly.1 q.1;exact⟨((sm x.k).2 ⟨x,q1,rfl⟩).elim .inl λz=> .inr (.inl z),q2⟩
 |false=>
  rw[az];have g6:¬(e.k∈W\/e.k∈M):=by rw[<-gq,<-gq,<-dq,hh];simp
  have hg:e.k=G:=xE λhn=>g6 ((t2 e.k).2 ⟨.inr (.inr rfl),hn⟩);refine key _ d1 d2 λk=> ?_;rw[t2 k];constructor
  ·rintro ⟨q,hn⟩;have q2:k∈p.w\/k∈p.m:=q.elim .inl λq=>q.elim .inr λq=>b_ (q.trans hg) hn;obtain⟨x,hx,rfl⟩:=(sm k).1 q2;exact⟨x,ly.2 ⟨hx,hn⟩,rfl⟩
  ·rintro ⟨x,hx,rfl⟩;obtain⟨q1,q2⟩:=ly.1 hx;exact⟨((sm x.k).2 ⟨x,q1,rfl⟩).elim .inl λz=> .inr (.inl z),q2⟩
end Ix

namespace Iw
def fv(k:aq)(s l:ay)(b:aq)(n:ay):aU:=bif ie.v k s l b then bif jN.v n s 1000000000 then decide (bN (n-s)<l)else ao else ao
theorem eq(k:aq)(s l:ay)(b:aq)(n:ay):RV.v k s l b n=fv k s l b n:=by
 have e:EA.v k s l b=ie.v k s l b:=rfl;unfold RV.v fv;rw[e];cases h:ie.v k s l b with
 |false=>rfl
 |true=>
  have hs:(0<=s/\s<=1000000000)/\1<=l/\l<=999999:=by unfold ie.v at h;cases h1:qS.v k<;>rw[h1]at h<;>simp only[aw,az,cN]at h;cases h2:jN.v s 0 1000000000<;>rw[h2]at h<;>simp only[aw,az,cN]at h;cases h3:jN.v l 1 999999<;>rw[h3]at h<;>simp only[aw,az,cN]at h;simp[jN.v]at h2 h3;omega
  simp only[aw,G6.v,qu.v,jN.v,dI,aZ];by_cases h1:0<=n/\n<=1000000000
  ·rw[jH (x:=n-s) (by omega) (by omega),jH (x:=s+l) (by omega) (by omega),jH (x:=s+l-1) (by omega) (by omega)];by_cases h2:s<=n<;>by_cases h3:n-s<l<;>simp[h1,h2,h3]<;>omega
  ·by_cases h2:s<=n<;>by_cases h3:0<=n<;>by_cases h4:n<=1000000000<;>simp[h2,h3,h4]<;>omega
end Iw

namespace GN
open _root_.Go.FG.Lib (Px Cl Fe En el)
open e9 (has without gq ma)
open jz (eM vv)
open mR (uw)
open oi (oU lR)
open kL (lF)
open fH (So ew fw lE)
open qO (gd EO rC)
open Ek (iG rH Ic DK)
open Ix (KJ yP of_same ly)
open fU (Y8 pr put KW Mp HZ oy jn zZ xT)
theorem Uz(l:ax Cl)(n:ay):(l.filter λx=>decide (x.id<n)).length+(l.filter λx=>decide (x.id>n)).length<=l.length:=by
 induction l with
 |nil=>exact bR _
 |cons y l ih=>
  simp only[List.filter_cons];by_cases h1:y.id<n
  ·rw[aE h1,aK (show¬y.id>n by omega)];simp only[if_true,cN,if_false,bU];omega
  ·rw[aK h1];by_cases h2:y.id>n
   ·rw[aE h2];simp only[if_true,cN,if_false,bU];omega
   ·rw[aK h2];simp only[cN,if_false,bU];omega
theorem V0{l:ax Cl}{c:Cl}(cs:l.Pairwise λa b=>a.id<b.id):(jn l c).length<=l.length+1/\((jn l c).Pairwise λa b=>a.id<b.id)/\∀x∈jn l c,x=c\/x∈l:=by
 unfold jn;refine⟨?_, ?_,λx hx=> ?_⟩
 ·have:=Uz l c.id;simp only[bW,bU,lP];omega
 ·rw[bY,sB];refine⟨cs.filter _, ?_,λa ha b hb=> ?_⟩
  ·rw[sC,lu];exact⟨λb hb=>ca (cJ.1 hb).2,cs.filter _⟩
  ·have ha:=ca (cJ.1 ha).2;rcases aX.1 hb with hb|hb
   ·rw[aW]at hb;rw[hb];exact ha
   ·have hb:=ca (cJ.1 hb).2;omega
 ·rcases aX.1 hx with hx|hx
  ·rcases aX.1 hx with hx|hx
   ·exact .inr (cJ.1 hx).1
   ·exact .inl (aW.1 hx)
  ·exact .inr (cJ.1 hx).1
theorem Uy{w m:ax aq}{s:ax (ax ay)}{a:ay}{key:aq}(h:key∈w\/key∈m):(e8.val w m s a key).2.2.2.2=⟨#[]⟩:=by
 unfold e8.val;cases vv w m s a&&eM key with
 |false=>rfl
 |true=>
  rw[aw];cases h1:has w key with
  |true=>rfl
  |false=>have h2:has m key=true:=gq.2 (h.resolve_left (ma.1 h1));rw[h2];rfl
theorem QN{w m:ax aq}{s:ax (ax ay)}{a:ay}{key:aq}(h:vv w m s a=aj)(hk:eM key=aj):(has (e8.val w m s a key).1 key||has (e8.val w m s a key).2.1 key)=true:=by
 obtain⟨⟨k1,nd⟩,l1,l2,hs⟩:=iG.1 h;rw[dq,gq,gq];refine((rH h hk).2 key).2 ⟨.inr (.inr rfl), ?_⟩;have kn:=DK hk;unfold e8.val;rw[h,hk,aL,aw];cases h1:has w key with
 |true=>exact kn
 |false=>
  rw[az];have hw:=ma.1 h1;cases h2:has m key with
  |true=>exact kn
  |false=>
   rw[az];have hm:=ma.1 h2;by_cases h3:(w++[key]).length<=2
   ·rw[aE h3];exact kn
   ·rw[aK h3,az];have g_:(w++[key]).getD 0 ⟨#[]⟩≠key:=by
     cases w with
     |nil=>simp at h3
     |cons x w=>intro e;exact hw (by rw[<-e];simp)
    by_cases h4:m.length<4
    ·rw[aE h4];exact kn
    ·rw[aK h4,az];cases decide (mS.val (dy.val s a key).1 (dy.val s a key).2 ((w++[key]).getD 0 ⟨#[]⟩)>mS.val (dy.val s a key).1 (dy.val s a key).2 (m.getD 0 ⟨#[]⟩))with
     |true=>
      intro e;cases m with
      |nil=>simp at h4
      |cons x m=>exact hm (by rw[e];simp)
     |false=>exact λe=>g_ e.symm
theorem Y9{p:Px}{id:ay}{key:aq}{e:En}(h:gd p)(Gz:1<=id/\id<=9)(hk:eM key=aj)(hl:p.cl.length<6)(he:e∈p.en)(hek:e.k=key)(Ln:e.st<=p.now):gd (Y8 p id key e):=by
 have g6:key∈p.w\/key∈p.m:=by rw[<-hek];exact h.ek e he
 obtain⟨t1,t2⟩:=rH h.pol hk;have tg:=Uy (s:=p.s) (a:=p.a) g6;have sm:=yP h;have hr:=ie.DX (h.en e he);obtain⟨j1,j2,j3⟩:=V0 (c:=⟨id,key,0,e.st,2,e.bo,p.now-e.st⟩) h.cs;unfold Y8;generalize e8.val p.w p.m p.s p.a key=V at t1 t2 tg;obtain⟨W,M,S,A,G⟩:=V;dsimp only at t1 t2 tg⊢;subst tg;have sm2:KJ p.en W M:=λk=>by
  rw[t2 k];refine Iff.trans ?_ (sm k);constructor
  ·rintro ⟨q|q|rfl,_⟩
   ·exact .inl q
   ·exact .inr q
   ·exact g6
  ·intro q;refine⟨q.elim .inl λq=> .inr (.inl q), ?_⟩
   obtain⟨x,hx,rfl⟩:=(sm k).1 q;have:=(ie.DX (h.en x hx)).1;intro e;rw[e]at this;exact b_ this.1 (by decide)
 obtain⟨q1,q2⟩:=of_same sm2 h.so t1;refine⟨h.now,h.en,h.so,q1,t1,q2,h.fl,h.fe,h.ap,by dsimp only;omega,λc hc=> ?_,j2, ?_⟩
 ·rcases j3 c hc with rfl|hc
  ·unfold EO;simp only[aJ,aZ];exact⟨Gz,hk,by omega,⟨by omega,by omega⟩,by omega,⟨by omega,Ln⟩,by omega⟩
  ·exact h.cl c hc
 ·have:=h.hits;dsimp only;by_cases hh:p.hits<1000000000
  ·rw[aE hh,aw];omega
  ·rw[aK hh,az];exact this
theorem Eb{l:ax aq}{k x:aq}:x∈without l k↔x∈l/\x≠k:=by unfold without;simp
theorem DT{p:Px}{id:ay}{key:aq}{h:aU}{fe:ax Fe}{i:aG}(ho:gd p)(Gz:1<=id/\id<=9)(hk:eM key=aj)(hl:p.cl.length<6)(hn:p.fe.length<=fe.length)(YU:fe.length<=20)(hf:∀f∈fe,oU p.now f=aj)(hap:fe.Pairwise λf g=>lR g f=ao)(hi:i<fe.length)(hp:h=ao->True):gd (put p id key h fe i):=by
 obtain⟨⟨k1,nd⟩,l1,l2,hs⟩:=iG.1 ho.pol;have Ll:=Ic key hs;have sm:=yP ho;obtain⟨j1,j2,j3⟩:=V0 (c:=⟨id,key,(i:ay)+1,0,1,(el fe i).t,0⟩) ho.cs;have hfi:=hf _ (kO hi);have nC:∀c∈jn p.cl ⟨id,key,(i:ay)+1,0,1,(el fe i).t,0⟩,EO p.now fe.length c=true:=λc hc=>by
  rcases j3 c hc with rfl|hc
  ·unfold oU at hfi;unfold EO;simp only[aJ,aZ]at hfi⊢;have:=ho.now;exact⟨Gz,hk,by omega,⟨by omega,by omega⟩,hfi.2.1,⟨by omega,by omega⟩,by omega⟩
  ·have:=ho.cl c hc;unfold EO at this⊢;simp only[aJ,aZ]at this⊢;exact⟨this.1,this.2.1,this.2.2.1,⟨this.2.2.2.1.1,by omega⟩,this.2.2.2.2⟩
 unfold put;cases h with
 |false=>have SP:vv p.w p.m (dy.val p.s p.a key).1 (dy.val p.s p.a key).2=true:=iG.2 ⟨⟨k1,nd⟩,l1,l2,Ll⟩;exact⟨ho.now,ho.en,ho.so,ho.ek,SP,ho.len,YU,hf,hap,by dsimp only;omega,nC,j2,ho.hits⟩
 |true=>
  have SP:vv (without p.w key) (without p.m key) (dy.val p.s p.a key).1 (dy.val p.s p.a key).2=true:=by
   refine iG.2 ⟨⟨λk hx=> ?_, ?_⟩,cm e9.iS l1,cm e9.iS l2,Ll⟩
   ·rcases aX.1 hx with q|q
    ·exact k1 k (aX.2 (.inl (Eb.1 q).1))
    ·exact k1 k (aX.2 (.inr (Eb.1 q).1))
   ·have:without p.w key++without p.m key=(p.w++p.m).filter λx=> !decide (x=key):=by unfold without;rw[ik]
    rw[this];exact nd.sublist iM
  have sm2:KJ (fw p.en key) (without p.w key) (without p.m key):=λk=>by
   rw[Eb,Eb];constructor
   ·intro q;have g_:k≠key:=q.elim (·.2) (·.2);obtain⟨x,hx,rfl⟩:=(sm k).1 (q.elim (λq=> .inl q.1) (λq=> .inr q.1));exact⟨x,ly.2 ⟨hx,g_⟩,rfl⟩
   ·rintro ⟨x,hx,rfl⟩;obtain⟨hx,g_⟩:=ly.1 hx;exact((sm x.k).2 ⟨x,hx,rfl⟩).elim (λq=> .inl ⟨q,g_⟩) (λq=> .inr ⟨q,g_⟩)
  have so:=ho.so.drop key;obtain⟨q1,q2⟩:=of_same sm2 so SP;exact⟨ho.now,λe he=>ho.en e (ly.1 he).1,so,q1,SP,q2,YU,hf,hap,by dsimp only;omega,nC,j2,ho.hits⟩
theorem JJ{p:Px}{id:ay}{key:aq}{h:aU}(ho:gd p)(Gz:1<=id/\id<=9)(hk:eM key=aj)(hl:p.cl.length<6):gd (pr p id key h).1:=by
 unfold pr;cases hop:Mp p.fe key with
 |some i=>have hi:i<p.fe.length:=(vp.1 hop).1;exact DT ho Gz hk hl (bR _) ho.fl ho.fe ho.ap hi (λ_=>trivial)
 |none=>
  dsimp only;by_cases YU:p.fe.length<20
  ·rw[aE YU,aw];have xV:∀f∈p.fe,HZ key f=false:=λf hf=>by have:=BG.1 hop f hf;simpa using this
   have akc:=ho.now;refine DT ho Gz hk hl (by simp) (by simp;omega) (λf hf=> ?_) ?_ (by simp) (λ_=>trivial)
   ·rcases aX.1 hf with q|q
    ·exact ho.fe f q
    ·rw[aW]at q;subst q;unfold oU zZ;simp only[aJ,aZ];exact⟨hk,by show((0:aG):ay)<=400;omega,by omega,by omega,by omega,by omega⟩
   ·rw[sB];refine⟨ho.ap,by simp,λa ha b hb=> ?_⟩
    rw[aW]at hb;subst hb;have:=xV a ha;unfold HZ at this;unfold lR zZ;dsimp only;revert this;rw[show decide (key=a.k)=decide (a.k=key)from by rw[c_];exact eq_comm];cases decide (a.k=key)<;>cases decide (a.sta=1)<;>simp
  ·rw[aK YU];exact ho
theorem Yr{p:Px}(id:ay)(key:aq)(h:gd p):gd (fU.ask p id key).1:=by
 unfold fU.ask;cases hg:lF p&&(decide (1<=id/\id<=9)&&(eM key&&(!oy p.cl id&&decide (p.cl.length<6))))with
 |false=>exact h
 |true=>
  simp only[aJ,aZ]at hg;obtain⟨_,Gz,hk,_,hl⟩:=hg;rw[aw];cases he:KW p.en key with
  |none=>exact JJ h Gz hk hl
  |some e=>
   dsimp only;cases hf:xT e p.now with
   |false=>exact JJ h Gz hk hl
   |true=>
    unfold KW at he;have h1:=j9 he;have h2:=CG he;refine Y9 h Gz hk hl h1 (ca h2) ?_;unfold xT at hf;rw[Iw.eq]at hf;unfold Iw.fv at hf;rw[show ie.v e.k e.st e.li e.bo=aj from h.en e h1,aw,show jN.v p.now e.st 1000000000=decide (e.st<=p.now/\p.now<=1000000000)from gH.gL _ _ _]at hf;cases hd:decide (e.st<=p.now/\p.now<=1000000000)with
    |true=>exact(ca hd).1
    |false=>rw[hd]at hf;cases hf
end GN

namespace GO
open _root_.Go.FG.Lib (Px Cl Fe En el)
open qO (gd EO rC)
open Ix (Vh)
theorem B7{now n:ay}(h:1<=now/\now<=1000000000):now<=ta.later now n/\ta.later now n<=1000000000:=by
 unfold ta.later;have:=RK n (show(1000:ay)≠0 by omega);have:=Mc n (show(0:ay)<1000 by omega);by_cases hc:now>1000000000-n%1000
 ·rw[aE hc,aw];omega
 ·rw[aK hc,az,dj (by omega) (by omega)];omega
theorem Ue{p:Px}(n:ay)(h:gd p):gd (ta.val p n):=Vh h (B7 h.now).1 (B7 h.now).2
theorem OR{p:Px}(id:ay)(h:gd p):gd (tc.val p id):=
 ⟨h.now,h.en,h.so,h.ek,h.pol,h.len,h.fl,h.fe,h.ap,cm (dM _ _) h.cll,λc hc=>h.cl c (cJ.1 hc).1,h.cs.sublist iM,h.hits⟩
end GO

namespace jY
open _root_.Go.FG.Lib (Px Cl Fe En el)
open e9 (has gq)
open jz (eM vv)
open mR (uw)
open oi (oU lR)
open kL (lF)
open qO (gd EO rC)
open gV (uS told Gy GH jm)
open sK (cls oT)
open lj (Gk)
open jX (BS Hv tx kp qN)
open oG (dk es)
open iO (Wo Ev closed Hp pj kl flag)
open Ix (np Jl NK PI Ij)
def on(l:ax Fe):aG:=l.countP λf=>decide (f.sta=1)
theorem vb5{x:ay}(h:x<=1000000000):(bytesOf (Lib.vb x)).size<=5:=by
 rw[Lib.gM]
 exact Lib.yV 4 x (by have:(128:ay)^5=34359738368:=by decide
                      omega)
theorem Oa{e:En}(h:BS e=aj):(Hv e).size<=460:=by
 have hr:=ie.DX h;have z1:=vb5 (x:=(e.k.size:ay)) (by omega);have z2:=vb5 (x:=e.st) (by omega);have z3:=vb5 (x:=e.li) (by omega);have ht:(qN e).size<=445:=by unfold qN jb.qN;simp only[Lib.dX];omega
 have z4:=vb5 (x:=((qN e).size:ay)) (by omega);unfold Hv e_.fr;rw[Lib.dX,Lib.dX,oj.size];omega
theorem Xl(l:ax En)(h:∀e∈l,BS e=aj):(tx l).size<=460*l.length:=by
 induction l with
 |nil=>exact bR _
 |cons e l ih=>have h1:=Oa (h e (by simp));have h2:=ih λx hx=>h x (by simp[hx]);have:(tx (e::l)).size=(Hv e).size+(tx l).size:=dh;rw[this,bU];omega
structure zh (i:aG) (w:Wo):Prop where
 px:gd w.p
 eo:∀e∈es w.o,BS e=aj
 ct:2*(es w.o).length+on w.p.fe<=i
 cd:w.cd.length=i
 bd:w.bd.length<=i
 bo:∀e∈w.bd,BS e=aj
theorem zh.len{i:aG}{w:Wo}(h:zh i w)(hi:i<=71):(es w.o).length<=35:=by have:=h.ct;omega
theorem zh.tx{i:aG}{w:Wo}(h:zh i w)(hi:i<=71):(tx (es w.o)).size<=16100:=by have:=Xl _ h.eo;have:=h.len hi;omega
theorem HV{l:ax Fe}{n:aG}{g:Fe}(hn:n<l.length):on (l.set n g)+(if(el l n).sta=1 then 1 else 0)=on l+(if g.sta=1 then 1 else 0):=by
 unfold on;rw[List.countP_set hn,fy hn];have hle:l[n].sta=1->1<=l.countP λf=>decide (f.sta=1):=λh=>List.countP_pos_iff.2 ⟨_,bH hn,aE h⟩;generalize l.countP (λf=>decide (f.sta=1))=m at hle;by_cases h1:l[n].sta=1
 ·have:=hle h1;by_cases h2:g.sta=1
  ·rw[ba h1,ba h2,ba (aE h1),ba (aE h2)];omega
  ·rw[ba h1,a_ h2,ba (aE h1),a_ (by rw[aK h2];simp)];omega
 ·by_cases h2:g.sta=1
  ·rw[a_ h1,ba h2,a_ (by rw[aK h1];simp),ba (aE h2)];omega
  ·rw[a_ h1,a_ h2,a_ (by rw[aK h1];simp),a_ (by rw[aK h2];simp)];omega
theorem P7{now:ay}(hn:1<=now/\now<=1000000000)(l:ax En):gd (gW.Am now l):=by
 have key:∀(l:ax En) (p:Px),gd p->gd (l.foldl (gW.one now) p):=by
  intro l;induction l with
  |nil=>intro p h;exact h
  |cons e l ih=>
   intro p h;rw[nJ];refine ih _ ?_;unfold gW.one;cases hf:gW.xT e now with
   |true=>exact Ij h (gW.Du hf)
   |false=>exact h
 refine key l _ ⟨hn,λe h=>(by cases h),fZ,λe h=>(by cases h), ?_,rfl,bC _,λf h=>(by cases h),fZ,bC _,λc h=>(by cases h),fZ,by show(0:ay)<=0/\(0:ay)<=1000000000;omega⟩;refine Ek.iG.2 ⟨⟨λk h=>(by cases h),List.nodup_nil⟩,bC _,bC _,Ek.D3.2 ⟨rfl,by show(0:ay)<=0/\(0:ay)<=63;omega,λq hq=> ?_⟩⟩;have:q=gW.Gq:=by change q∈[gW.Gq,gW.Gq,gW.Gq]at hq;simp at hq;exact hq
 subst this;refine⟨rfl,λn hn=> ?_⟩
 unfold gW.Gq at hn;simp at hn;omega
theorem NU{p:Px}{f life:ay}(h:gd p)(hl:0<=life/\life<=999999):
  gd (cls p f life).1/\(((cls p f life).2=ao/\(cls p f life).1=p)\/((cls p f life).2=aj/\∃n:aG,f=(n:ay)/\n<p.fe.length/\(cls p f life).1.fe=p.fe.set n {el p.fe n with sta:=2,li:=life,st:=p.now}/\(el p.fe n).sta=1/\
   (life>0->BS (oT {el p.fe n with sta:=2,li:=life,st:=p.now})=aj/\(has (cls p f life).1.w (el p.fe n).k||has (cls p f life).1.m (el p.fe n).k)=aj))):=by
 unfold cls;cases ho:uS p f&&decide (0<=life/\life<=999999)with
 |false=>exact⟨h, .inl ⟨rfl,rfl⟩⟩
 |true=>
  rw[aJ]at ho;obtain⟨n,rfl,hn,_,h1⟩:=jm ho.1;obtain⟨g1,g2,g3,g4,g5⟩:=Jl h hn;have akc:=h.now;rw[aw,dD];have ht:gd (told p n {el p.fe n with sta:=2,li:=life,st:=p.now} 2):=by refine np h hn rfl ?_ (λe=>b_ e (by dsimp only;omega)) (by omega);unfold oU;simp only[aJ,aZ];exact⟨g1,g2,by omega,hl,by omega,by omega⟩
  have he:life>0->BS (oT {el p.fe n with sta:=2,li:=life,st:=p.now})=true:=λRk=>by unfold BS oT ie.v;dsimp only;rw[jz.nk,g1,aw,show jN.v p.now 0 1000000000=decide (0<=p.now/\p.now<=1000000000)from gH.gL _ _ _,aE (show 0<=p.now/\p.now<=1000000000 by omega),aw,show jN.v life 1 999999=decide (1<=life/\life<=999999)from gH.gL _ _ _,aE (show 1<=life/\life<=999999 by omega),aw];exact aE g2
  by_cases Rk:life>0
  ·rw[aE Rk,aw];have g6:=GN.QN (key:=(el p.fe n).k) ht.pol g1;exact⟨Ij ht (he Rk), .inr ⟨rfl,n,rfl,hn,rfl,h1,λ_=>⟨he Rk,g6⟩⟩⟩
  ·rw[aK Rk,az];exact⟨ht, .inr ⟨rfl,n,rfl,hn,rfl,h1,λh=>b_ h Rk⟩⟩
theorem Ys(p:Px)(id:ay)(key:aq):on (fU.ask p id key).1.fe<=on p.fe+1:=by
 have hm:∀h,on (fU.pr p id key h).1.fe<=on p.fe+1:=λh=>by
  unfold fU.pr;cases fU.Mp p.fe key with
  |some i=>exact gY _
  |none=>
   dsimp only;cases decide (p.fe.length<20)with
   |true=>show on (p.fe++[fU.zZ key])<=_;unfold on;rw[List.countP_append];exact bR _
   |false=>exact gY _
 unfold fU.ask;cases lF p&&(decide (1<=id/\id<=9)&&(eM key&&(!fU.oy p.cl id&&decide (p.cl.length<6))))with
 |false=>exact gY _
 |true=>
  rw[aw];cases fU.KW p.en key with
  |none=>exact hm _
  |some e=>
   dsimp only;cases fU.xT e p.now with
   |false=>exact hm _
   |true=>exact gY _
theorem Fk(w:Wo):(pj w).length<=(es w.o).length:=cm (dM ..) (jX.OQ _)
theorem Ju{w:Wo}(h:∀e∈es w.o,BS e=aj):∀e∈pj w,BS e=true:=λe he=>h e (jX.Zx (cJ.1 he).1)
theorem yQ{i:aG}{w:Wo}{e:Ev}(h:zh i w)(he:kl e=aj):zh (i+1) (iO.step w e):=by
 unfold kl at he;simp only[aJ,aZ]at he;obtain⟨hk,Gz,ht,hn,hl⟩:=he;have hct:=h.ct;have hbd:=h.bd;have cdl:∀n:ay,(w.cd++[n]).length=i+1:=λn=>by rw[bW,h.cd];rfl
 have ZX:∀(p:Px) (n:ay),gd p->on p.fe<=on w.p.fe+1->zh (i+1) {{w with p:=p}with cd:=w.cd++[n]}:=λp n hp ho=>⟨hp,h.eo,by dsimp only;omega,cdl n,lQ h.bd,h.bo⟩
 unfold iO.step iO.act;by_cases k1:e.k=1
 ·rw[aE k1,aw];exact ZX _ _ (GN.Yr _ _ h.px) (Ys ..)
 rw[aK k1,az];by_cases k2:e.k=2
 ·rw[aE k2,aw];refine ZX _ _ (PI _ _ h.px) ?_;unfold GH;cases ho:uS w.p e.id&&(decide (1<=e.t.size/\e.t.size<=40)&&decide ((el w.p.fe e.id.toNat).t.size+e.t.size<=400))with
  |false=>exact gY _
  |true=>
   rw[aJ]at ho;obtain⟨n,en,hn,_,h1⟩:=jm ho.1;rw[en,dD];have q:∀g:Fe,g.sta=(el w.p.fe n).sta->on (w.p.fe.set n g)<=on w.p.fe+1:=λg hg=>by have:=HV (g:=g) hn;rw[hg]at this;omega
   exact q _ rfl
 rw[aK k2,az];by_cases k3:e.k=3
 ·rw[aE k3,aw];have hlr:0<=e.n%1000000/\e.n%1000000<=999999:=by omega
  obtain⟨q1,q2⟩:=NU (f:=e.id) h.px hlr;unfold closed;dsimp only;rcases q2 with ⟨r1,r2⟩|⟨r1,n,rn,hn,rf,rs,rl⟩
  ·rw[r1,A0,az];exact ZX _ _ q1 (by rw[r2];exact gY _)
  ·have:=HV (g:={el w.p.fe n with sta:=2,li:=e.n%1000000,st:=w.p.now}) hn;rw[ba rs,a_ (show¬(2:ay)=1 by omega)]at this;have ho:on (cls w.p e.id (e.n%1000000)).1.fe+1=on w.p.fe:=by rw[rf];exact this
   rw[r1,bK];by_cases Rk:e.n%1000000>0
   ·rw[aE Rk,aw];obtain⟨s1,s2⟩:=rl Rk;have hx:BS (oT (el (cls w.p e.id (e.n%1000000)).1.fe e.id.toNat))=true:=by rw[rn,dD,<-rn,rf,gV.qZ hn];exact s1
    refine⟨q1,λy hy=> ?_, ?_,cdl _, ?_,λy hy=> ?_⟩
    ·rcases aX.1 hy with hy|hy
     ·exact h.eo y hy
     ·rw[aW]at hy;rw[hy];exact hx
    ·show 2*(es w.o++[_]).length+on (cls w.p e.id (e.n%1000000)).1.fe<=i+1;rw[bW,bu];omega
    ·show(w.bd++[_]).length<=i+1;rw[bW,bu];omega
    ·rcases aX.1 hy with hy|hy
     ·exact h.bo y hy
     ·rw[aW]at hy;rw[hy];exact hx
   ·rw[aK Rk,az];exact ZX _ _ q1 (by omega)
 rw[aK k3,az];by_cases k4:e.k=4
 ·rw[aE k4,aw];refine ZX _ _ (NK _ h.px) ?_;unfold Gy;cases ho:uS w.p e.id with
  |false=>exact gY _
  |true=>
   obtain⟨n,en,hn,_,h1⟩:=jm ho;rw[en,dD];have q:∀g:Fe,g.sta=3->on (w.p.fe.set n g)<=on w.p.fe+1:=λg hg=>by have:=HV (g:=g) hn;rw[ba h1,a_ (show¬g.sta=1 by omega)]at this;omega
   exact q _ rfl
 rw[aK k4,az];by_cases k5:e.k=5
 ·rw[aE k5,aw];exact ZX _ _ (GO.Ue _ h.px) (gY _)
 rw[aK k5,az];by_cases k6:e.k=6
 ·rw[aE k6,aw];exact ZX _ _ (GO.OR _ h.px) (gY _)
 rw[aK k6,az];have Ml:=Fk w;have hinv:=gW.DD w.p.now (pj w) (pj w).length (bR _);rw[d_]at hinv;refine⟨P7 h.px.now _,Ju h.eo, ?_,cdl _,lQ h.bd,h.bo⟩
 show 2*(pj w).length+on (gW.Am w.p.now (pj w)).fe<=i+1;rw[hinv.fe];show 2*(pj w).length+0<=i+1;omega
end jY

namespace AY
open _root_.Go.FG.Lib (rr rs re rf rc rd Px En el)
open iO (Wo Ev kl)
open oG (dk es)
open jY (zh)
open iw (ri BL)
instance:Inhabited Ev:=⟨⟨0,0,⟨#[]⟩,0,[]⟩⟩
def Evr(e:Ev):ax CV:=[CV.i ar e.k,CV.i ar e.id,CV.s e.t,CV.i ar e.n,CV.l 3 e.l]
def rv(l:ax Ev):Row:=l.map Evr
theorem Qb(l):(rv l).length=l.length:=by unfold rv;simp
theorem T9(e:Ev):KN.v e.k e.id e.t e.n e.l=kl e:=by unfold KN.v kl;rw[show qu.v e.k 1 7=decide (1<=e.k/\e.k<=7)from gH.gL _ _ _,show qu.v e.id 0 30=decide (0<=e.id/\e.id<=30)from gH.gL _ _ _,show decide (((e.t.size:aG):ay)<=60)=decide (e.t.size<=60)from by rw[c_];omega,show decide (e.n≥0)=decide (0<=e.n)from rfl,show decide (((e.l.length:aG):ay)<=4)=decide (e.l.length<=4)from by rw[c_];omega];cases decide (1<=e.k/\e.k<=7)<;>cases decide (0<=e.id/\e.id<=30)<;>cases decide (e.t.size<=60)<;>cases decide (0<=e.n)<;>rfl
def w0:Wo:=⟨gW.p0 1,ai,[],[]⟩
def run(l:ax Ev):Wo:=l.foldl iO.step w0
theorem afd:zh 0 w0:=by refine⟨jY.P7 (now:=1) (by omega) [],λe h=>(by cases h),bR _,rfl,bR _,λe h=>(by cases h)⟩
def W13(w:Wo)(b:aU):ay×Row×Row×Row×Row×ay×Row×Row×ay×Row×Row×Row×aU:=(w.p.now,re w.p.en,rs w.p.w,rs w.p.m,rr w.p.s,w.p.a,rf w.p.fe,rc w.p.cl,w.p.hits,rd (dk w.o),ri w.cd,re w.bd,b)
def ajw(l:ax Ev):aU:=decide (l.length<=70)&&(ej l.length).all λi=>kl (el l i)
def life(l:ax Ev):ay×Row×Row×Row×Row×ay×Row×Row×ay×Row×Row×Row×aU:=bif ajw l then W13 (run l) aj else(0,[],[],[],[],0,[],[],0,[],[],[],ao)
end AY

namespace Mi
theorem ok(q:Row)(hl:q.length<=1048576):∃h,c q=aj/\v q=(q,0,h):=by
 have key:=wu (λn (s:aG×ay)=>l3 Lib.cR (λ(y3:Row) (y4 _:ay)=>ah (y3,(0:ay),y4)) n q s.2 (s.1:ay)) (λs=>q.length-s.1) (λs=>s.1<=q.length) (λr=>∃h,r=(q,0,h)) (λn s hs=>by
  obtain⟨i,h⟩:=s;dsimp only at hs⊢;by_cases hi:i<q.length
  ·by_cases h4:(i:ay)<4000
   ·right;have m8:bN ((i:ay)+1)=((i+1:aG):ay):=dj (by omega) (by omega)
    have e:∃h',l3 Lib.cR (λ(y3:Row) (y4 _:ay)=>ah (y3,(0:ay),y4)) (n+1) q h (i:ay)=l3 Lib.cR (λ(y3:Row) (y4 _:ay)=>ah (y3,(0:ay),y4)) n q h' ((i+1:aG):ay):=
     ⟨_,by simp only[l3,r3,Lib.dJ,hi,h4,aT,Lib.c9,aL,aw,Lib.eK,m8];rfl⟩
    obtain⟨h',e⟩:=e;exact⟨(i+1,h'),hi,by dsimp only;omega,e⟩
   ·left;exact⟨_,by simp only[l3,r3,Lib.dJ,hi,h4,aT,bn,aw,az];rfl,_,rfl⟩
  ·left;exact⟨_,by simp only[l3,r3,Lib.dJ,hi,bn,az];rfl,_,rfl⟩) Lib.cR (0,bN (34901+(q.length:ay))) (bC _) (c6 (by omega))
 obtain⟨b',hb,h,rfl⟩:=key;obtain⟨e1,e2⟩:=out q (x:=(q,0,h)) hb;exact⟨h,e1,e2⟩
end Mi

namespace cZ
def I(q:Row)(a:ay):Prop:=0<=a/\a<=(q.length:ay)/\q.length<=1048576
theorem DX(x:BitVec 64):0<=bN ((ed (nF x (cq 64 255)):aG):ay)/\bN ((ed (nF x (cq 64 255)):aG):ay)<=255:=by
 have h:ed (nF x (cq 64 255))<=255:=by have e:ed (nF x (cq 64 255))=x.toNat&&&255:=BitVec.toNat_and x (cq 64 255);rw[e];exact Nat.and_le_right
 rw[dj (by omega) (by omega)];omega
theorem ok(q:Row)(a s:ay)(hI:I q a):∃n a' s',c q a s=aj/\v q a s=(n,q,a',s')/\I q a'/\0<=n/\n<=255:=by
 obtain⟨h0,h1,h2⟩:=hI;by_cases h:a<(q.length:ay)
 ·have hw:bN (a+1)=a+1:=dj (by omega) (by omega);have hvo:∃n s',vo q a s=ah (n,q,a+1,s')/\0<=n/\n<=255:=by unfold vo b;rw[aE h,aE h0,aw,aL,aw,hw];exact⟨_,_,rfl,DX _⟩
  obtain⟨n,s',hv,hr⟩:=hvo;obtain⟨e1,e2⟩:=out q a s hv;exact⟨n,a+1,s',e1,e2,⟨by omega,by omega,h2⟩,hr⟩
 ·have hvo:∃n s',vo q a s=ah (n,q,a,s')/\0<=n/\n<=255:=by unfold vo b;rw[aK h,az];exact⟨_,_,rfl,DX _⟩
  obtain⟨n,s',hv,hr⟩:=hvo;obtain⟨e1,e2⟩:=out q a s hv;exact⟨n,a,s',e1,e2,⟨h0,h1,h2⟩,hr⟩
end cZ

namespace mJ
theorem ok(q:Row)(a s k:ay)(hI:cZ.I q a):∃n a' s',c q a s k=aj/\v q a s k=(n,q,a',s')/\cZ.I q a'/\0<=n/\(0<k->n<k):=by
 by_cases hk:k<=0
 ·obtain⟨e1,e2⟩:=out q a s k (x:=(0,q,a,s)) (by unfold vo b;rw[aE hk,aw]);exact⟨0,a,s,e1,e2,hI,by omega,λh=>by omega⟩
 ·have hm:∀x:ay,0<=x->0<=bZ x k/\bZ x k<k:=λx hx=>by rw[iJ hx];exact⟨RK _ (by omega),Mc _ (by omega)⟩
  have hk0:¬k=0:=by omega
  obtain⟨n1,a1,s1,c1,v1,I1,g1,u1⟩:=cZ.ok q a s hI;by_cases h2:k<=256
  ·obtain⟨e1,e2⟩:=out q a s k (x:=(bZ n1 k,q,a1,s1)) (by unfold vo b;simp only[hk,h2,hk0,c1,v1,aT,bn,aw,az,bO]);exact⟨_,a1,s1,e1,e2,I1,(hm n1 g1).1,λ_=>(hm n1 g1).2⟩
  ·obtain⟨n2,a2,s2,c2,v2,I2,g2,u2⟩:=cZ.ok q a1 s1 I1;obtain⟨n3,a3,s3,c3,v3,I3,g3,u3⟩:=cZ.ok q a2 s2 I2;obtain⟨n4,a4,s4,c4,v4,I4,g4,u4⟩:=cZ.ok q a3 s3 I3;have w1:bN (n1*16777216)=n1*16777216:=dj (by omega) (by omega);have w2:bN (n2*65536)=n2*65536:=dj (by omega) (by omega);have w3:bN (n3*256)=n3*256:=dj (by omega) (by omega);have w4:bN (n1*16777216+n2*65536)=n1*16777216+n2*65536:=dj (by omega) (by omega);have w5:bN (n1*16777216+n2*65536+n3*256)=n1*16777216+n2*65536+n3*256:=dj (by omega) (by omega);have w6:bN (n1*16777216+n2*65536+n3*256+n4)=n1*16777216+n2*65536+n3*256+n4:=dj (by omega) (by omega);obtain⟨e1,e2⟩:=out q a s k (x:=(bZ (n1*16777216+n2*65536+n3*256+n4) k,q,a4,s4)) (by unfold vo b;simp only[hk,h2,hk0,c1,v1,c2,v2,c3,v3,c4,v4,w1,w2,w3,w4,w5,w6,aT,bn,aw,az,bO]);have:=hm (n1*16777216+n2*65536+n3*256+n4) (by omega);exact⟨_,a4,s4,e1,e2,I4,this.1,λ_=>this.2⟩
end mJ

namespace Gw
theorem ok(q:Row)(a s k:ay)(hI:cZ.I q a):∃x a' s',c q a s k=aj/\v q a s k=(x,q,a',s')/\cZ.I q a':=by obtain⟨n1,a1,s1,c1,v1,I1,g1,u1⟩:=mJ.ok q a s k hI;obtain⟨e1,e2⟩:=out q a s k (x:=(decide (n1=0),q,a1,s1)) (by unfold vo b;simp only[c1,v1,aw]);exact⟨_,a1,s1,e1,e2,I1⟩
end Gw

namespace mw
theorem ok(q:Row)(a s:ay)(l:Row)(hI:cZ.I q a)(hl:0<l.length):∃i a' s',c q a s l=aj/\v q a s l=(bS (au l i 0),q,a',s',l)/\cZ.I q a'/\i<l.length:=by obtain⟨n1,a1,s1,c1,v1,I1,g1,u1⟩:=mJ.ok q a s (l.length:ay) hI;have hu:=u1 (by omega);obtain⟨e1,e2⟩:=out q a s l (x:=(bS (au l n1.toNat 0),q,a1,s1,l)) (by unfold vo b;simp only[c1,v1,g1,hu,aT,aL,aw]);exact⟨n1.toNat,a1,s1,e1,e2,I1,by omega⟩
end mw

namespace oh
theorem ok(q:Row)(a s:ay)(l:Row)(hI:cZ.I q a)(hl:0<l.length):∃i a' s',c q a s l=aj/\v q a s l=(bJ (au l i 0),q,a',s',l)/\cZ.I q a'/\i<l.length:=by obtain⟨n1,a1,s1,c1,v1,I1,g1,u1⟩:=mJ.ok q a s (l.length:ay) hI;have hu:=u1 (by omega);obtain⟨e1,e2⟩:=out q a s l (x:=(bJ (au l n1.toNat 0),q,a1,s1,l)) (by unfold vo b;simp only[c1,v1,g1,hu,aT,aL,aw]);exact⟨n1.toNat,a1,s1,e1,e2,I1,by omega⟩
end oh

namespace sD
theorem ok(q:Row)(a s:ay)(hI:cZ.I q a):∃k a' s',c q a s=aj/\v q a s=(k,q,a',s')/\cZ.I q a'/\k.size=2:=by
 obtain⟨i,a1,s1,c1,v1,I1,g1⟩:=oh.ok q a s (aF (aF (aF (aF (aF (aF (aF (aF (aR [Ck.s] 8) 0 [CV.s {data:= #[ak 47,ak 97]}]) 1 [CV.s {data:= #[ak 47,ak 98]}]) 2 [CV.s {data:= #[ak 47,ak 99]}]) 3 [CV.s {data:= #[ak 47,ak 100]}]) 4 [CV.s {data:= #[ak 47,ak 101]}]) 5 [CV.s {data:= #[ak 47,ak 102]}]) 6 [CV.s {data:= #[ak 47,ak 103]}]) 7 [CV.s {data:= #[ak 47,ak 104]}]) hI (by simp[aR]);obtain⟨e1,e2⟩:=out q a s (x:=(_,q,a1,s1)) (by unfold vo b;simp only[c1,v1,aw];rfl);refine⟨_,a1,s1,e1,e2,I1, ?_⟩
 have g2:i<8:=by simpa [aR]using g1
 match i,g2 with
 |0,_=>rfl
 |1,_=>rfl
 |2,_=>rfl
 |3,_=>rfl
 |4,_=>rfl
 |5,_=>rfl
 |6,_=>rfl
 |7,_=>rfl
end sD

namespace A_Post
open cZ (I)
def iU{α:Type}(o:aA α)(P:α->Prop):Prop:=∃x,o=ah x/\P x
theorem ret{α:Type}{x:α}{P:α->Prop}(h:P x):iU (ah x) P:=⟨x,rfl,h⟩
theorem br{α:Type}{b:aU}{A B:aA α}{P:α->Prop}(h1:b=aj->iU A P)(h2:b=ao->iU B P):iU (bif b then A else B) P:=by
 cases b
 ·exact h2 rfl
 ·exact h1 rfl
theorem ck{α:Type}{b:aU}{A B:aA α}{P:α->Prop}(h:b=aj)(h1:iU A P):iU (bif b then A else B) P:=by subst h;exact h1
theorem cn{α:Type}{b:aU}{A B:aA α}{P:α->Prop}(h:b=ao)(h1:iU B P):iU (bif b then A else B) P:=by subst h;exact h1
theorem eq{α:Type}{o o':aA α}{P:α->Prop}(e:o=o')(h:iU o' P):iU o P:=by rw[e];exact h
theorem call{α β:Type}{b:aU}{w u:β}{X:β->aA α}{P:α->Prop}(h:b=aj)(e:w=u)(hx:iU (X u) P):iU (bif b then Lib.lt w X else ai) P:=by subst h;rw[aw,iw.lt_eq,e];exact hx
theorem below{α:Type}{q:Row}{a s k:ay}{X:ay×Row×ay×ay->aA α}{P:α->Prop}(hI:I q a)(hx:∀n a' s',I q a'->0<=n->(0<k->n<k)->iU (X (n,q,a',s')) P):iU (bif mJ.c q a s k then Lib.lt (mJ.v q a s k) X else ai) P:=by obtain⟨n,a',s',h1,h2,h3,h4,h5⟩:=mJ.ok q a s k hI;exact call h1 h2 (hx n a' s' h3 h4 h5)
theorem once{α:Type}{q:Row}{a s k:ay}{X:aU×Row×ay×ay->aA α}{P:α->Prop}(hI:I q a)(hx:∀n a' s',I q a'->iU (X (n,q,a',s')) P):iU (bif Gw.c q a s k then Lib.lt (Gw.v q a s k) X else ai) P:=by obtain⟨n,a',s',h1,h2,h3⟩:=Gw.ok q a s k hI;exact call h1 h2 (hx n a' s' h3)
theorem Wu{α:Type}{q:Row}{a s:ay}{l:Row}{X:ay×Row×ay×ay×Row->aA α}{P:α->Prop}(R:ay->Prop)(hR:0<l.length/\∀i,i<l.length->R (bS (au l i 0)))(hI:I q a)(hx:∀n a' s',I q a'->R n->iU (X (n,q,a',s',l)) P):iU (bif mw.c q a s l then Lib.lt (mw.v q a s l) X else ai) P:=by obtain⟨n,a',s',h1,h2,h3,h4⟩:=mw.ok q a s l hI hR.1;exact call h1 h2 (hx _ a' s' h3 (hR.2 n h4))
theorem ad8{α:Type}{q:Row}{a s:ay}{l:Row}{X:aq×Row×ay×ay×Row->aA α}{P:α->Prop}(R:aq->Prop)(hR:0<l.length/\∀i,i<l.length->R (bJ (au l i 0)))(hI:I q a)(hx:∀n a' s',I q a'->R n->iU (X (n,q,a',s',l)) P):iU (bif oh.c q a s l then Lib.lt (oh.v q a s l) X else ai) P:=by obtain⟨n,a',s',h1,h2,h3,h4⟩:=oh.ok q a s l hI hR.1;exact call h1 h2 (hx _ a' s' h3 (hR.2 n h4))
theorem key{α:Type}{q:Row}{a s:ay}{X:aq×Row×ay×ay->aA α}{P:α->Prop}(hI:I q a)(hx:∀n a' s',I q a'->n.size=2->iU (X (n,q,a',s')) P):iU (bif sD.c q a s then Lib.lt (sD.v q a s) X else ai) P:=by obtain⟨n,a',s',h1,h2,h3,h4⟩:=sD.ok q a s hI;exact call h1 h2 (hx n a' s' h3 h4)
theorem idx{n:ay}{m:aG}(h0:0<=n)(h1:0<(m:ay)->n<(m:ay))(hm:decide ((m:ay)>0)=aj):(decide (0<=n)&&decide (n<(m:ay)))=true:=by have:=h1 (ca hm);rw[aE h0,aE this,aL]
end A_Post

namespace G8
open cZ (I)
open A_Post (iU)
open iO (Ev kl)
def Dr(q e w m s fe cl dk cd bd:Row)(x:ay×ay×aq×ay×Row×Row×ay×ay×Row×Row×Row×Row×Row×Row×Row×Row×Row):Prop:=
 ∃k id t n a' s',x=(k,id,t,n,[],q,a',s',e,w,m,s,fe,cl,dk,cd,bd)/\I q a'/\kl ⟨k,id,t,n,[]⟩=aj/\k<=6
theorem idA{n:ay}(h0:0<=n)(h1:(0:ay)<3->n<3):0<=n/\n<=30:=by omega
theorem idB{n:ay}(h0:0<=n)(h1:(0:ay)<9->n<9):0<=bN (1+n)/\bN (1+n)<=30:=by rw[dj (x:=1+n) (by omega) (by omega)];omega
theorem idC{l:Row}{n:ay}(hl:∀j,j<l.length->0<=bS (au l j 0)/\bS (au l j 0)<=30)(h0:0<=n)(h1:0<(l.length:ay)->n<(l.length:ay))(hp:decide ((l.length:ay)>0)=aj):0<=bS (au l n.toNat 0)/\bS (au l n.toNat 0)<=30:=by have:=h1 (ca hp);exact hl _ (by omega)
theorem tA{t:aq}(h:t.size=2):t.size<=60:=by omega
theorem opens{P:R->Prop}(N:aG)(K:ay->ay->ay->ay->Row->ay->ay->Row->Row->Row->Row->Row->Row->Row->Row->Row->ay->ay->ay->ay->ay->aq->ay->ay->ay->aq->ay->Row->aA R)(x1 x2 x3:ay)(x5:Row)(x6 x7:ay)(x8 x9 Xr Xt GM x13 x14 x15 x16:Row)(x17 x18 x19 x20 Kr:ay)(x22:aq)(Ks Ku Kv:ay)(Kw:aq)(Kx:ay)(hf:GM.length<=20)
  (hK:∀l:Row,(∀j,j<l.length->0<=bS (au l j 0)/\bS (au l j 0)<=30)->iU (K x1 x2 x3 (GM.length:ay) x5 x6 x7 x8 x9 Xr Xt GM x13 x14 x15 x16 x17 x18 x19 x20 Kr x22 Ks Ku Kv Kw Kx l) P):
  ∀(d i n:aG) (l:Row),GM.length-i<=d->i<=GM.length->d<n->l.length<=i->(∀j,j<l.length->0<=bS (au l j 0)/\bS (au l j 0)<=30)->
   iU (l4 N K n x1 x2 x3 (i:ay) x5 x6 x7 x8 x9 Xr Xt GM x13 x14 x15 x16 x17 x18 x19 x20 Kr x22 Ks Ku Kv Kw Kx l) P:=by
 have fin:∀(n:aG) (l:Row),(∀j,j<l.length->0<=bS (au l j 0)/\bS (au l j 0)<=30)->iU (l4 N K (n+1) x1 x2 x3 (GM.length:ay) x5 x6 x7 x8 x9 Xr Xt GM x13 x14 x15 x16 x17 x18 x19 x20 Kr x22 Ks Ku Kv Kw Kx l) P:=λn l hl=>by refine A_Post.eq ?_ (hK l hl);simp only[l4,r4,Lib.dJ,bB,bn,az]
 intro d;induction d with
 |zero=>
  intro i n l h1 h2 h3 h4 h5;obtain⟨n,rfl⟩:∃k,n=k+1:=⟨n-1,by omega⟩
  have:i=GM.length:=by omega
  subst this;exact fin n l h5
 |succ d ih=>
  intro i n l h1 h2 h3 h4 h5;obtain⟨n,rfl⟩:∃k,n=k+1:=⟨n-1,by omega⟩
  by_cases h:i<GM.length
  ·have m8:bN ((i:ay)+1)=((i+1:aG):ay):=dj (by omega) (by omega);by_cases hs:bS (au GM i 2)=1
   ·have hr:cF (l.length+(aF (aR [Ck.i ar] 1) 0 [CV.i ar (i:ay)]).length) 8=true:=by rw[iw.sd];exact Lib.cE (by omega) (by omega)
    refine A_Post.eq (o':=l4 N K n x1 x2 x3 ((i+1:aG):ay) x5 x6 x7 x8 x9 Xr Xt GM x13 x14 x15 x16 x17 x18 x19 x20 Kr x22 Ks Ku Kv Kw Kx (l++aF (aR [Ck.i ar] 1) 0 [CV.i ar (i:ay)])) ?_ (ih (i+1) n _ (by omega) h (by omega) (by rw[bW,iw.sd];omega) λj hj=> ?_)
    ·simp only[l4,r4,Lib.dJ,h,aT,Lib.c9,aL,aw,Lib.eK,hs,hr,m8]
    ·rw[bW,iw.sd]at hj;by_cases jB:j<l.length
     ·have:au (l++aF (aR [Ck.i ar] 1) 0 [CV.i ar (i:ay)]) j 0=au l j 0:=by unfold au;rw[cM,cM,dx jB];simp only[cM]
      rw[this];exact h5 j jB
     ·have:au (l++aF (aR [Ck.i ar] 1) 0 [CV.i ar (i:ay)]) j 0=CV.i ar (i:ay):=by unfold au;rw[cM,cM,cT (by omega),show j-l.length=0 by omega];rfl
      rw[this];show 0<=(i:ay)/\(i:ay)<=30;omega
   ·refine A_Post.eq (o':=l4 N K n x1 x2 x3 ((i+1:aG):ay) x5 x6 x7 x8 x9 Xr Xt GM x13 x14 x15 x16 x17 x18 x19 x20 Kr x22 Ks Ku Kv Kw Kx l) ?_ (ih (i+1) n _ (by omega) h (by omega) (by omega) h5);simp only[l4,r4,Lib.dJ,h,aT,Lib.c9,aL,aw,az,Lib.eK,hs,bn,m8]
  ·have:i=GM.length:=by omega
   subst this;exact fin n l h5
end G8

namespace sL
open _root_.Go.FG.Lib (rr rs re rf rc Px Cl Fe En el)
open e9 (without)
open jz (eM)
open kL (lF)
open fU (Y8 pr put KW Mp HZ oy jn zZ xT Sw)
open fH (fw)
open qO (gd rC)
def res(q:Px×ay):ay×Row×Row×Row×Row×ay×Row×Row×ay×ay:=(q.1.now,re q.1.en,rs q.1.w,rs q.1.m,rr q.1.s,q.1.a,rf q.1.fe,rc q.1.cl,q.1.hits,q.2)
theorem Qk(fe:ax Fe)(key:aq):rf fe++aF (aR [Ck.s,Ck.s,Ck.i ar,Ck.i ar,Ck.i ar] 1) 0 [CV.s key,CV.s {data:= #[]},CV.i ar 1,CV.i ar 0,CV.i ar 0]=rf (fe++[zZ key]):=by unfold Lib.rf;rw[c7];rfl
theorem Jt{p:Px}{i:aG}(hi:i<p.en.length)(ho:gd p):bN (p.now-(el p.en i).st)=p.now-(el p.en i).st:=by have h1:=ho.now;have h2:=(ie.DX (ho.en _ (kO hi))).2.1;exact dj (by omega) (by omega)
end sL

namespace uj
open _root_.Go.FG.Lib (re el En)
open fU (KW)
def res(o:aA En):aq×ay×ay×aq×aU:=match o with|some e=>(e.k,e.st,e.li,e.bo,aj)|none=>(⟨#[]⟩,0,0,⟨#[]⟩,ao)
theorem ok(now:ay)(en:ax En)(q2 q3 q4:Row)(q5:ay)(q6 q7:Row)(q8:ay)(key:aq)(hl:en.length<=1048576):c now (re en) q2 q3 q4 q5 q6 q7 q8 key=aj/\v now (re en) q2 q3 q4 q5 q6 q7 q8 key=res (KW en key):=by
 refine out _ _ _ _ _ _ _ _ _ _ ?_;unfold vo b KW
 have go:∀(d i n:aG),en.length-i<=d->i<=en.length->d<n->
   l2 Lib.cR (λ(_:aq) (QW:aU) (_ _:ay) (_ _ _ _:Row) (_:ay) (_ _:Row) (_:ay) (UK:aq) (UL y30:ay) (y31:aq)=>ah (UK,UL,y30,y31,QW)) (λ(_:aq) (_:aU) (_ _:ay) (_ _ _ _:Row) (_:ay) (_ _:Row) (_:ay) (_:aq) (_ _:ay) (_:aq)=>ah (({data:= #[]}:aq),0,0,({data:= #[]}:aq),ao)) n key ao (i:ay) now (re en) q2 q3 q4 q5 q6 q7 q8 ({data:= #[]}) 0 0 ({data:= #[]})=ah (res ((en.drop i).find? λe=>decide (e.k=key))):=by
  intro d
  induction d with
  |zero=>
   intro i n h1 h2 h3;obtain⟨n,rfl⟩:∃n',n=n'+1:=⟨n-1,by omega⟩
   have:i=en.length:=by omega
   subst this;simp only[l2,r2,ff,Lib.dJ,bB,bn,az,cU];rfl
  |succ d ih=>
   intro i n h1 h2 h3;obtain⟨n,rfl⟩:∃n',n=n'+1:=⟨n-1,by omega⟩
   by_cases hi:i<en.length
   ·rw[cQ hi];have g:=ih (i+1) n (by omega) hi (by omega);simp only[l2,r2,ff,Lib.dJ,hi,aT,Lib.c9,aL,aw,Lib.eK,xX hi,AQ hi,AR hi,AU hi,bJ,bS,Lib.fP,fy hi,Lib.dn hi (by omega:en.length<=9223372036854775807)];cases hk:decide (en[i].k=key)with
    |true=>rw[aw,Et (p:=λe:En=>decide (e.k=key)) hk];rfl
    |false=>rw[az,qB (p:=λe:En=>decide (e.k=key)) (by simp[hk])];exact g
   ·have:i=en.length:=by omega
    subst this;simp only[l2,r2,ff,Lib.dJ,bB,bn,az,cU];rfl
 have:=go en.length 0 Lib.cR (by omega) (bC _) (c6 (by omega));rw[eB]at this;exact this
end uj

namespace sF
open _root_.Go.FG.Lib (rr rs)
open e9 (without)
theorem ok(w m:ax aq)(s:ax (ax ay))(a:ay)(key:aq)(hw:w.length<=1048576)(hm:m.length<=1048576)(hf:pd.tv s):c (rs w) (rs m) (rr s) a key=aj/\v (rs w) (rs m) (rr s) a key=(rs (without w key),rs (without m key),rr s,a):=by have h1:=mQ.ok s a hf;have h2:=nL.ok w key hw;have h3:=nL.ok m key hm;exact out _ _ _ _ _ (by unfold vo b;rw[h1.1,h1.2,h2.1,h2.2,h3.1,h3.2];rfl)
end sF

namespace oN
open _root_.Go.FG.Lib (re el xX AQ AR AU En)
open fH (fw)
theorem ok(l:ax En)(k:aq)(hl:l.length<=2097152):c (re l) k=aj/\v (re l) k=re (fw l k):=by
 refine out _ _ ?_;unfold vo b;have key:=jO l.length (λn (i:aG) (x:Row)=>l3 Lib.cR (λ(_:Row) (_:aq) (_:ay) (y7:Row)=>ah y7) n (re l) k (i:ay) x) (λi=>re (fw (l.take i) k)) (ah (re (fw l k))) (λn i hi=>by
  have hlen:(fw (l.take i) k).length<=i:=by refine cm (dM ..) ?_;rw[eg];omega
  have e:fw (l.take (i+1)) k=fw (l.take i) k++(bif !decide ((el l i).k=k)then [el l i]else []):=by unfold fw;rw[cj hi,ik,fy hi];cases hd:decide (l[i].k=k)<;>simp[hd]
  rw[e];simp only[l3,r3,ff,Lib.dJ,hi,aT,Lib.c9,aL,aw,Lib.eK,xX hi,AQ hi,AR hi,AU hi,bJ,bS,Lib.fP,pD,bu,Lib.dn hi (by omega:l.length<=9223372036854775807)];rw[Lib.cE (by omega) (by omega),aw];cases decide ((el l i).k=k)with
  |true=>rw[a9,az,az,dv]
  |false=>rw[bO,aw,aw];unfold Lib.re;rw[c7];rfl) (λn=>by
  simp only[l3,r3,ff,Lib.dJ,bB,bn,az,d_]) Lib.cR 0 (bC _) (c6 (by omega))
 exact key
end oN

namespace ki
open _root_.Go.FG.Lib (rc el Cl)
open fU (jn)
theorem tail(l:ax Cl)(x:Cl)(hl:l.length<=1048576)(c0:ax Cl)(hc:c0.length<=1048577):
  l9 Lib.cR (λ(_:Row) (_ _:ay) (_:aq) (_ _ _:ay) (_:aq) (_:ay) (y:Row)=>ah y) Lib.cR (rc l) 0 x.id x.k x.fe x.fr x.sta x.got x.age (rc c0)=ah (rc (c0++l.filter λy=>decide (y.id>x.id))):=by
 refine BU l (λy=>decide (y.id>x.id)) (λm (i:aG) acc=>l9 Lib.cR (λ(_:Row) (_ _:ay) (_:aq) (_ _ _:ay) (_:aq) (_:ay) (y:Row)=>ah y) m (rc l) (i:ay) x.id x.k x.fe x.fr x.sta x.got x.age (rc acc)) (λacc=>ah (rc acc)) c0
  (λm i acc h ha hp=> ?_) (λm i acc h hp=> ?_) (λm acc=> ?_) Lib.cR (c6 (by omega))
 ·have mE:decide (l[i].id>x.id)=true:=hp;simp only[l9,r9,fc,Lib.dJ,h,aT,Lib.c9,aL,aw,Lib.eK,ZY h,rc1 h,rc2 h,rc3 h,rc4 h,rc5 h,rc6 h,bJ,bS,mE,pD,bu,Lib.dn h (by omega:l.length<=9223372036854775807),Lib.cE (n:=acc.length+1) (b:=72) (by omega) (by omega)];unfold Lib.rc;rw[c7];rfl
 ·have mE:decide (l[i].id>x.id)=false:=hp;simp only[l9,r9,fc,Lib.dJ,h,aT,Lib.c9,aL,aw,az,Lib.eK,ZY h,bS,mE,Lib.dn h (by omega:l.length<=9223372036854775807)]
 ·simp only[l9,r9,fc,Lib.dJ,bB,bn,az]
theorem ok(l:ax Cl)(x:Cl)(hl:l.length<=1048576):c (rc l) x.id x.k x.fe x.fr x.sta x.got x.age=aj/\v (rc l) x.id x.k x.fe x.fr x.sta x.got x.age=rc (jn l x):=by
 refine out _ _ _ _ _ _ _ _ ?_;unfold vo b
 have key:=BU l (λy=>decide (y.id<x.id))
  (λm (i:aG) acc=>l3 Lib.cR (λ(Kz:Row) (_ Mr:ay) (Ms:aq) (QV y15 UJ:ay) (QW:aq) (Ma:ay) (Mt:Row)=>bif(cF (bI Mt+bI (aF (aR [Ck.i ar,Ck.s,Ck.i ar,Ck.i ar,Ck.i ar,Ck.s,Ck.i ar] 1) 0 [CV.i ar Mr,CV.s Ms,CV.i ar QV,CV.i ar y15,CV.i ar UJ,CV.s QW,CV.i ar Ma])) 72)then(l9 Lib.cR (λ(_:Row) (_ _:ay) (_:aq) (_ _ _:ay) (_:aq) (_:ay) (y39:Row)=>ah y39) Lib.cR Kz 0 Mr Ms QV y15 UJ QW Ma (Mt++aF (aR [Ck.i ar,Ck.s,Ck.i ar,Ck.i ar,Ck.i ar,Ck.s,Ck.i ar] 1) 0 [CV.i ar Mr,CV.s Ms,CV.i ar QV,CV.i ar y15,CV.i ar UJ,CV.s QW,CV.i ar Ma]))else(ai)) m (rc l) (i:ay) x.id x.k x.fe x.fr x.sta x.got x.age (rc acc))
  (λacc=>bif cF (acc.length+1) 72 then l9 Lib.cR (λ(_:Row) (_ _:ay) (_:aq) (_ _ _:ay) (_:aq) (_:ay) (y:Row)=>ah y) Lib.cR (rc l) 0 x.id x.k x.fe x.fr x.sta x.got x.age (rc (acc++[x]))else ai) []
  (λm i acc h ha hp=>by
   have mE:decide (l[i].id<x.id)=true:=hp;have ha:acc.length<=i:=by simpa using ha
   simp only[l3,r3,fc,Lib.dJ,h,aT,Lib.c9,aL,aw,Lib.eK,ZY h,rc1 h,rc2 h,rc3 h,rc4 h,rc5 h,rc6 h,bJ,bS,mE,pD,bu,Lib.dn h (by omega:l.length<=9223372036854775807),Lib.cE (n:=acc.length+1) (b:=72) (by omega) (by omega)];unfold Lib.rc;rw[c7];rfl)
  (λm i acc h hp=>by have mE:decide (l[i].id<x.id)=false:=hp;simp only[l3,r3,fc,Lib.dJ,h,aT,Lib.c9,aL,aw,az,Lib.eK,ZY h,bS,mE,Lib.dn h (by omega:l.length<=9223372036854775807)])
  (λm acc=>by simp only[l3,r3,fc,Lib.dJ,bB,bn,az,pD,bu];unfold Lib.rc;rw[c7];rfl) Lib.cR (c6 (by omega))
 refine key.trans ?_;have hf:=dM (λy:Cl=>decide (y.id<x.id)) l;rw[eR,Lib.cE (by omega) (by omega),aw,tail l x hl _ (by simp;omega)];unfold jn;rw[bY]
end ki

namespace sE
theorem eq(k:aq)(s l:ay)(b:aq)(n:ay):RV.v k s l b n=sE.v k s l b n:=Iw.eq k s l b n
end sE

namespace uh
open _root_.Go.FG.Lib (rr rs re rf rc Px Cl Fe En el)
open e9 (without)
open jz (eM)
open kL (lF)
open oi (lR)
open fU (Y8 pr put KW Mp HZ oy jn zZ xT)
open fH (fw)
open qO (gd rC)
open sL (res Jt Qk)
theorem find(k0 k1:ay->aq->ay->ay->ay->Row->Row->Row->Row->ay->Row->Row->ay->ay->ay->ay->ay->ay->ay->Row->Row->Row->Row->Row->Row->aA R)(cl:ax Cl)(hl:cl.length<=1048576)(id:ay)(key:aq)(z4 z6:ay)(q7 q8 q9 GI:Row)(QY:ay)(PN:Row)(QZ XD Gq XE KB KC KD:ay)(PO PQ PR PS PU PV:Row):
  (oy cl id=ao->l5 Lib.cR k0 k1 Lib.cR id key z4 0 z6 q7 q8 q9 GI QY PN (rc cl) QZ XD Gq XE KB KC KD PO PQ PR PS PU PV=k1 id key z4 (cl.length:ay) z6 q7 q8 q9 GI QY PN (rc cl) QZ XD Gq XE KB KC KD PO PQ PR PS PU PV)/\
  (oy cl id=aj->∃j:ay,l5 Lib.cR k0 k1 Lib.cR id key z4 0 z6 q7 q8 q9 GI QY PN (rc cl) QZ XD Gq XE KB KC KD PO PQ PR PS PU PV=k0 id key 1 j z6 q7 q8 q9 GI QY PN (rc cl) QZ KB KC KD KB KC KD PO PQ PR PS PU PV):=by
 have go:∀(d i n:aG),cl.length-i<=d->i<=cl.length->d<n->
   (((cl.drop i).any λx=>decide (x.id=id))=ao->l5 Lib.cR k0 k1 n id key z4 (i:ay) z6 q7 q8 q9 GI QY PN (rc cl) QZ XD Gq XE KB KC KD PO PQ PR PS PU PV=k1 id key z4 (cl.length:ay) z6 q7 q8 q9 GI QY PN (rc cl) QZ XD Gq XE KB KC KD PO PQ PR PS PU PV)/\
   (((cl.drop i).any λx=>decide (x.id=id))=aj->∃j:ay,l5 Lib.cR k0 k1 n id key z4 (i:ay) z6 q7 q8 q9 GI QY PN (rc cl) QZ XD Gq XE KB KC KD PO PQ PR PS PU PV=k0 id key 1 j z6 q7 q8 q9 GI QY PN (rc cl) QZ KB KC KD KB KC KD PO PQ PR PS PU PV):=by
  intro d
  induction d with
  |zero=>
   intro i n h1 h2 h3;obtain⟨n,rfl⟩:∃n',n=n'+1:=⟨n-1,by omega⟩
   have:i=cl.length:=by omega
   subst this;rw[cU];exact⟨λ_=>by simp only[l5,r5,fc,Lib.dJ,bB,bn,az],λh=>by cases h⟩
  |succ d ih=>
   intro i n h1 h2 h3;obtain⟨n,rfl⟩:∃n',n=n'+1:=⟨n-1,by omega⟩
   by_cases hi:i<cl.length
   ·rw[cQ hi,List.any_cons];obtain⟨g1,g2⟩:=ih (i+1) n (by omega) hi (by omega);have e:l5 Lib.cR k0 k1 (n+1) id key z4 (i:ay) z6 q7 q8 q9 GI QY PN (rc cl) QZ XD Gq XE KB KC KD PO PQ PR PS PU PV=bif decide (cl[i].id=id)then k0 id key 1 (i:ay) z6 q7 q8 q9 GI QY PN (rc cl) QZ KB KC KD KB KC KD PO PQ PR PS PU PV else l5 Lib.cR k0 k1 n id key z4 ((i+1:aG):ay) z6 q7 q8 q9 GI QY PN (rc cl) QZ XD Gq XE KB KC KD PO PQ PR PS PU PV:=by simp only[l5,r5,fc,Lib.dJ,hi,aT,Lib.c9,aL,aw,Lib.eK,ZY hi,bS,Lib.dn hi (by omega:cl.length<=9223372036854775807)]
    rw[e];cases hc:decide (cl[i].id=id)with
    |true=>exact⟨λh=>by simp at h,λ_=>⟨i,rfl⟩⟩
    |false=>rw[tS,az];exact⟨g1,g2⟩
   ·have:i=cl.length:=by omega
    subst this;rw[cU];exact⟨λ_=>by simp only[l5,r5,fc,Lib.dJ,bB,bn,az],λh=>by cases h⟩
 have:=go cl.length 0 Lib.cR (by omega) (bC _) (c6 (by omega));rw[eB]at this;exact this
def sc(key:aq):ax Fe->aG->ay×aq->ay×aq
 |[],_,s=>s|x::r,i,s=>sc key r (i+1) (bif HZ key x then((i:ay)+1,x.t)else s)
theorem scan(k0:aq->aU->ay->ay->Row->Row->Row->Row->ay->Row->Row->ay->ay->ay->ay->ay->ay->ay->ay->aq->ay->ay->ay->aq->ay->Row->Row->Row->Row->Row->Row->aA R)(fe:ax Fe)(hl:fe.length<=1048576)(key:aq)(h0:aU)(z84:ay)(q85 q86 q87 q88:Row)(z89:ay)(q91:Row)(z92 z93 z94 z95 z96 z97 z98 z99:ay)(Uq:aq)(UM UN UO:ay)(Uf Ug Uh Ui Uj Uk:Row):
  Tg Lib.cR k0 Lib.cR key h0 0 z84 q85 q86 q87 q88 z89 (rf fe) q91 z92 z93 z94 z95 z96 z97 z98 z99 Uq 0 UM UN ({data:= #[]}) UO Uf Ug Uh Ui Uj Uk=k0 key h0 (fe.length:ay) z84 q85 q86 q87 q88 z89 (rf fe) q91 z92 z93 z94 z95 z96 z97 z98 z99 Uq (sc key fe 0 (0,⟨#[]⟩)).1 UM UN (sc key fe 0 (0,⟨#[]⟩)).2 UO Uf Ug Uh Ui Uj Uk:=by
 have go:∀(d i n:aG) (s:ay×aq),fe.length-i<=d->i<=fe.length->d<n->
   Tg Lib.cR k0 n key h0 (i:ay) z84 q85 q86 q87 q88 z89 (rf fe) q91 z92 z93 z94 z95 z96 z97 z98 z99 Uq s.1 UM UN s.2 UO Uf Ug Uh Ui Uj Uk=k0 key h0 (fe.length:ay) z84 q85 q86 q87 q88 z89 (rf fe) q91 z92 z93 z94 z95 z96 z97 z98 z99 Uq (sc key (fe.drop i) i s).1 UM UN (sc key (fe.drop i) i s).2 UO Uf Ug Uh Ui Uj Uk:=by
  intro d
  induction d with
  |zero=>
   intro i n s h1 h2 h3;obtain⟨n,rfl⟩:∃n',n=n'+1:=⟨n-1,by omega⟩
   have:i=fe.length:=by omega
   subst this;simp only[Tg,r22,gf,Lib.dJ,bB,bn,az,cU,sc]
  |succ d ih=>
   intro i n s h1 h2 h3;obtain⟨n,rfl⟩:∃n',n=n'+1:=⟨n-1,by omega⟩
   by_cases hi:i<fe.length
   ·rw[cQ hi];unfold sc;rw[<-ih (i+1) n _ (by omega) hi (by omega)];have w:=Lib.dn hi (by omega:fe.length<=9223372036854775807);have w2:((i+1:aG):ay)=(i:ay)+1:=by omega
    simp only[Tg,r22,gf,Lib.dJ,hi,aT,Lib.c9,aL,aw,Lib.eK,Ru hi,Rv hi,Iq hi,bJ,bS,Lib.fP,w,fy hi];unfold HZ;cases decide (fe[i].k=key)<;>cases decide (fe[i].sta=1)<;>simp only[ig,El,aL,A0,aw,az,w2]
   ·have:i=fe.length:=by omega
    subst this;simp only[Tg,r22,gf,Lib.dJ,bB,bn,az,cU,sc]
 have:=go fe.length 0 Lib.cR (0,⟨#[]⟩) (by omega) (bC _) (c6 (by omega));rw[eB]at this;exact this
theorem Uu(key:aq):∀(l:ax Fe) (i:aG) (s:ay×aq),(∀x∈l,HZ key x=ao)->sc key l i s=s:=by
 intro l;induction l with
 |nil=>intro i s _;rfl
 |cons x l ih=>intro i s h;unfold sc;rw[h x (by simp),az];exact ih _ _ λy hy=>h y (by simp[hy])
theorem Z2{fe:ax Fe}(hp:fe.Pairwise λf g=>lR g f=ao)(key:aq):sc key fe 0 (0,⟨#[]⟩)=match Mp fe key with|some j=>((j:ay)+1,(el fe j).t)|none=>(0,⟨#[]⟩):=by
 have go:∀(l:ax Fe) (i:aG),l.Pairwise (λf g=>lR g f=ao)->sc key l i (0,⟨#[]⟩)=match l.findIdx? (HZ key)with|some j=>(((i+j:aG):ay)+1,(el l j).t)|none=>(0,⟨#[]⟩):=by
  intro l;induction l with
  |nil=>intro i _;rfl
  |cons x l ih=>
   intro i h;rw[lu]at h;unfold sc;rw[List.findIdx?_cons];cases hq:HZ key x with
   |true=>
    have hn:∀y∈l,HZ key y=false:=λy hy=>by
     have h2:=h.1 y hy;unfold HZ at hq⊢;unfold lR at h2;simp only[aJ,aZ]at hq;rw[hq.1,hq.2]at h2;simp only[Gs,eV]at h2⊢;rcases h2 with h2|h2
     ·exact .inr h2
     ·rcases h2 with h2|h2
      ·exact b_ trivial h2
      ·exact .inl h2
    rw[aw,Uu key l _ _ hn];rfl
   |false=>
    rw[az,ih (i+1) h.2];cases l.findIdx? (HZ key)with
    |none=>rfl
    |some j=>simp only[cN,if_false,fM,show i+1+j=i+(j+1)by omega];rfl
 have:=go fe 0 hp;unfold Mp;rw[this];cases fe.findIdx? (HZ key)with
 |none=>rfl
 |some j=>dsimp only;rw[bG]
theorem ok(p:Px)(id:ay)(key:aq)(hp:p.Fit 1048576)(hkz:key.size<=140737488355328):c p.now (re p.en) (rs p.w) (rs p.m) (rr p.s) p.a (rf p.fe) (rc p.cl) p.hits id key=aj/\v p.now (re p.en) (rs p.w) (rs p.m) (rr p.s) p.a (rf p.fe) (rc p.cl) p.hits id key=res (fU.ask p id key):=by
 have h1:=j7.ok p hp;have h2:=kL.ok p hp;have nC:=hp.cl;have Jy:=hp.fe;have hen:=hp.en;have Ri:pd.tv p.s:=⟨hp.s.1,hp.s.2.1⟩
 refine out _ _ _ _ _ _ _ _ _ _ _ ?_;unfold vo b fU.ask;simp only[Lib.lt,h1.1,h1.2,h2.1,h2.2,aw];cases hok:lF p with
 |false=>rfl
 |true=>
 have ho:gd p:=rC.1 hok;rw[a9,az,bK,show jN.v id 1 9=decide (1<=id/\id<=9)from gH.gL _ _ _];cases Gz:decide (1<=id/\id<=9)with
 |false=>rfl
 |true=>
 rw[a9,az,bK,show qS.v key=eM key from gH.gL _ _ _];cases hko:eM key with
 |false=>rfl
 |true=>
 have AM:=e8.rk hko;rw[a9,az,bK,fc];have hc6:=ho.cll;by_cases h6:p.cl.length=6
 ·rw[aE (show(p.cl.length:ay)≥6 by omega),aw,aK (show¬p.cl.length<6 by omega),El];rfl
 rw[aK (show¬(p.cl.length:ay)≥6 by omega),az,aE (show p.cl.length<6 by omega),ig];cases hhi:oy p.cl id with
 |true=>obtain⟨j,hj⟩:=(find _ _ p.cl nC id key 0 p.now (re p.en) (rs p.w) (rs p.m) (rr p.s) p.a (rf p.fe) p.hits 0 0 0 p.now p.a p.hits (re p.en) (rs p.w) (rs p.m) (rr p.s) (rf p.fe) (rc p.cl)).2 hhi;refine hj.trans ?_;rfl
 |false=>
 refine((find _ _ p.cl nC id key 0 p.now (re p.en) (rs p.w) (rs p.m) (rr p.s) p.a (rf p.fe) p.hits 0 0 0 p.now p.a p.hits (re p.en) (rs p.w) (rs p.m) (rr p.s) (rf p.fe) (rc p.cl)).1 hhi).trans ?_;rw[bO,aw];have h4:=uj.ok p.now p.en (rs p.w) (rs p.m) (rr p.s) p.a (rf p.fe) (rc p.cl) p.hits key hen;have h7:=e8.ok p.w p.m p.s p.a key hp.w hp.m Ri (by omega);have h8:=dy.ok p.s p.a key Ri (by omega);have h9:=sF.ok p.w p.m p.s p.a key hp.w hp.m Ri;have h10:=oN.ok p.en key (by omega);have FI:=λx:Cl=>ki.ok p.cl x nC;have arU:=ho.hits;have sR:=ho.fl;have tW:=Z2 ho.ap key;have JA:cF (p.fe.length+1) 56=true:=Lib.cE (by omega) (by omega);have dg:∀key:aq,bI (aF (aR [Ck.s,Ck.s,Ck.i ar,Ck.i ar,Ck.i ar] 1) 0 [CV.s key,CV.s {data:= #[]},CV.i ar 1,CV.i ar 0,CV.i ar 0])=1:=λ_=>rfl;have Rh:(el (p.fe++[zZ key]) p.fe.length).t=⟨#[]⟩:=by rw[fy (by simp),List.getElem_append_right (by omega)];simp[zZ]
 rw[h4.1,h4.2,aw];cases he:KW p.en key with
 |some e=>
  have Ze:e∈p.en:=j9 he;obtain⟨i,hi,hie⟩:=di Ze;dsimp only[uj.res];rw[aw,<-sE.eq,show RV.v e.k e.st e.li e.bo p.now=xT e p.now from rfl];cases Y7:xT e p.now with
  |true=>
   have hw:bN (p.now-e.st)=p.now-e.st:=by have:=Jt (p:=p) hi ho;rwa[fy hi,hie]at this
   have hj:=FI ⟨id,key,0,e.st,2,e.bo,p.now-e.st⟩;dsimp only at hj;rw[aw,h7.1,h7.2,aw,aw,hw,hj.1,hj.2,aw,aw];unfold res Y8;cases hh:decide (p.hits<1000000000)with
   |true=>rw[aZ]at hh;rw[aw,dj (by omega) (by omega)];rfl
   |false=>rfl
  |false=>
   rw[az,az];refine(scan _ p.fe Jy key aj p.now (re p.en) (rs p.w) (rs p.m) (rr p.s) p.a (rc p.cl) p.hits 0 0 0 p.now p.a p.hits id key 0 1 0 (re p.en) (rs p.w) (rs p.m) (rr p.s) (rf p.fe) (rc p.cl)).trans ?_;rw[tW];unfold pr;cases hoi:Mp p.fe key with
   |none=>
    dsimp only;by_cases YU:p.fe.length=20
    ·rw[aK (show¬p.fe.length<20 by omega)];simp only[aT,aw,gf,aE (show(p.fe.length:ay)≥20 by omega)];rfl
    ·rw[aE (show p.fe.length<20 by omega)];have hj:=FI ⟨id,key,(p.fe.length:ay)+1,0,1,⟨#[]⟩,0⟩;dsimp only at hj;have hlen:((p.fe.length+1:aG):ay)=(p.fe.length:ay)+1:=by omega
     simp only[aT,aw,az,gf,aK (show¬(p.fe.length:ay)≥20 by omega),dg,JA,h10.1,h10.2,h9.1,h9.2,h8.1,h8.2,Qk,bW,bu,hlen,hj.1,hj.2];unfold res put;rw[Rh];rfl
   |some j=>dsimp only;have hj:=FI ⟨id,key,(j:ay)+1,0,1,(el p.fe j).t,0⟩;dsimp only at hj;simp only[aK (show¬(j:ay)+1=0 by omega),aw,az,h10.1,h10.2,h9.1,h9.2,h8.1,h8.2,hj.1,hj.2];rfl
 |none=>
  dsimp only[uj.res];rw[az];refine(scan _ p.fe Jy key ao p.now (re p.en) (rs p.w) (rs p.m) (rr p.s) p.a (rc p.cl) p.hits 0 0 0 p.now p.a p.hits id key 0 1 0 (re p.en) (rs p.w) (rs p.m) (rr p.s) (rf p.fe) (rc p.cl)).trans ?_;rw[tW];unfold pr;cases hoi:Mp p.fe key with
  |none=>
   dsimp only;by_cases YU:p.fe.length=20
   ·rw[aK (show¬p.fe.length<20 by omega)];simp only[aT,aw,gf,aE (show(p.fe.length:ay)≥20 by omega)];rfl
   ·rw[aE (show p.fe.length<20 by omega)];have hj:=FI ⟨id,key,(p.fe.length:ay)+1,0,1,⟨#[]⟩,0⟩;dsimp only at hj;have hlen:((p.fe.length+1:aG):ay)=(p.fe.length:ay)+1:=by omega
    simp only[aT,aw,az,gf,aK (show¬(p.fe.length:ay)≥20 by omega),dg,JA,h8.1,h8.2,Qk,bW,bu,hlen,hj.1,hj.2];unfold res put;rw[Rh];rfl
  |some j=>dsimp only;have hj:=FI ⟨id,key,(j:ay)+1,0,1,(el p.fe j).t,0⟩;dsimp only at hj;simp only[aK (show¬(j:ay)+1=0 by omega),aw,az,h8.1,h8.2,hj.1,hj.2];rfl
end uh

namespace sG
open _root_.Go.FG.Lib (rr rs re rf rc Px el)
open kL (lF)
theorem ok(p:Px)(f:ay)(hp:p.Fit 1048576):c p.now (re p.en) (rs p.w) (rs p.m) (rr p.s) p.a (rf p.fe) (rc p.cl) p.hits f=aj/\v p.now (re p.en) (rs p.w) (rs p.m) (rr p.s) p.a (rf p.fe) (rc p.cl) p.hits f=gV.uS p f:=by
 have h:=kL.ok p hp;have hf:=hp.fe;refine out _ _ _ _ _ _ _ _ _ _ ?_;unfold vo b gV.uS;rw[h.1,h.2,aw,gf,dj (x:=(p.fe.length:ay)-1) (by omega) (by omega),show jN.v f 0 ((p.fe.length:ay)-1)=decide (0<=f/\f<=(p.fe.length:ay)-1)from gH.gL _ _ _];cases lF p with
 |false=>rfl
 |true=>
  cases hd:decide (0<=f/\f<=(p.fe.length:ay)-1)with
  |false=>rfl
  |true=>
   have:=ca hd;obtain⟨n,rfl⟩:∃n:aG,f=(n:ay):=⟨f.toNat,by omega⟩
   have hn:n<p.fe.length:=by omega
   simp only[aw,bK,Lib.c9,Lib.dJ,hn,aT,aL,Lib.eK,Iq hn,bS]
end sG

namespace UR
theorem put(s:ay)(t q:aq)(ht:(t.size:ay)<=400)(hs:1<=s/\s<=3):U88.v s t [] q=bif decide (s=1)&&(decide (1<=q.size/\q.size<=40)&&decide (t.size+q.size<=400))then(s,t++q,[],aj)else(s,t,[],ao):=by
 unfold U88.v;have hok:qH.v s t []=true:=by unfold qH.v qH.rest;rw[aE hs,aE (show t.size<=400 by omega)];rfl
 by_cases h1:s=1
 ·by_cases h2:1<=q.size/\q.size<=40
  ·by_cases h3:t.size+q.size<=400
   ·rw[ba ⟨hok,h1,h2.1,h2.2,h3⟩,aE h1,aE h2,aE h3];rfl
   ·rw[a_ (by omega),aK h3];simp
  ·rw[a_ (by omega),aK h2];simp
 ·rw[a_ (by simp[h1]),aK h1];rfl
end UR

namespace qF
open _root_.Go.FG.Lib (rr rs re rf rc Px Cl el)
open t_ (ec qv uP)
theorem ok(p:Px)(f:aG)(st:ay)(hf:f<p.fe.length)(hl:p.fe.length<=2097152)(hc:p.cl.length<=2097152):
  c p.now (re p.en) (rs p.w) (rs p.m) (rr p.s) p.a (rf p.fe) (rc p.cl) p.hits (f:ay) st=aj/\v p.now (re p.en) (rs p.w) (rs p.m) (rr p.s) p.a (rf p.fe) (rc p.cl) p.hits (f:ay) st=(p.now,re p.en,rs p.w,rs p.m,rr p.s,p.a,rf p.fe,rc (qv p.cl f st (el p.fe f).t),p.hits):=by
 refine out _ _ _ _ _ _ _ _ _ _ _ ?_;unfold vo b;have key:=vh Cl.row p.cl (λ_ c=>ec f st (el p.fe f).t c) (λn (i:aG) x=>l1 Lib.cR (λ(_ _ _ y15 UJ QW:ay) (Ma Mt AW XA y22 y23:Row)=>ah (y15,Ma,Mt,AW,XA,UJ,y22,y23,QW)) n (f:ay) st (i:ay) p.now p.a p.hits (re p.en) (rs p.w) (rs p.m) (rr p.s) (rf p.fe) x) (λx=>ah (p.now,re p.en,rs p.w,rs p.m,rr p.s,p.a,rf p.fe,x,p.hits)) (λn i L h h2 hL Mk=> ?_) (λn L hL=> ?_) Lib.cR (c6 (by omega))
 ·rw[uP]at key;exact key
 ·have e2:au (L.map Cl.row) i 2=CV.i ar p.cl[i].fe:=by rw[fF _ L i _ h2,Mk];rfl
  have e4:au (L.map Cl.row) i 4=CV.i ar p.cl[i].sta:=by rw[fF _ L i _ h2,Mk];rfl
  have s1:eN (L.map Cl.row) i 5 [CV.s (el p.fe f).t]=(L.set i {p.cl[i]with got:=(el p.fe f).t}).map Cl.row:=n5 Cl.row L i 5 _ _ h2 (by rw[Mk];rfl);have h3:i<(L.set i {p.cl[i]with got:=(el p.fe f).t}).length:=by simpa using h2
  have s2:eN ((L.set i {p.cl[i]with got:=(el p.fe f).t}).map Cl.row) i 4 [CV.i ar st]=((L.set i {p.cl[i]with got:=(el p.fe f).t}).set i {p.cl[i]with sta:=st,got:=(el p.fe f).t}).map Cl.row:=n5 Cl.row _ i 4 _ _ h3 (by rw[mj];rfl);simp only[l1,r1,Lib.dJ,h2,hf,bM,dt,aT,Lib.c9,aL,aw,Lib.eK,e2,e4,bS,s1,s2,Yc,gf,Rv hf,bJ,Lib.dn h (by omega:p.cl.length<=9223372036854775807),dj (x:=(f:ay)+1) (by omega) (by omega)];unfold ec;cases decide (p.cl[i].fe=(f:ay)+1)with
  |false=>rw[A0,az,az,<-Mk,js]
  |true=>
   cases decide (p.cl[i].sta=1)with
   |false=>rw[bK,aw,az,az,<-Mk,js]
   |true=>rw[bK,aw,aw,aw]
 ·simp only[l1,r1,bM,hL,Lib.dJ,bB,bn,az]
end qF

namespace A4
open _root_.Go.FG.Lib (rr rs re rf rc Px el)
open gV (uS GH told jm ve qZ L6)
theorem ok(p:Px)(f:ay)(q:aq)(hp:p.Fit 1048576):c p.now (re p.en) (rs p.w) (rs p.m) (rr p.s) p.a (rf p.fe) (rc p.cl) p.hits f q=aj/\v p.now (re p.en) (rs p.w) (rs p.m) (rr p.s) p.a (rf p.fe) (rc p.cl) p.hits f q=(p.now,re p.en,rs p.w,rs p.m,rr p.s,p.a,rf (GH p f q).1.fe,rc (GH p f q).1.cl,p.hits,(GH p f q).2):=by
 have h1:=j7.ok p hp;have h2:=sG.ok p f hp;have hf:=hp.fe;have hc:=hp.cl;refine out _ _ _ _ _ _ _ _ _ _ _ ?_;unfold vo b GH;simp only[Lib.lt,h1.1,h1.2,h2.1,h2.2,aw];cases ho:uS p f with
 |false=>rfl
 |true=>
  obtain⟨n,rfl,hn,hok,hs1⟩:=jm ho;have Ej:=gV.acd hok n hn;unfold oi.oU at Ej;simp only[aJ,aZ]at Ej;have acO:Da.v 1 (el p.fe n).t [] q=_:=UR.put 1 (el p.fe n).t q Ej.2.1 (by omega);rw[aE (show(1:ay)=1 from rfl),bK]at acO;simp only[a9,az,aw,Lib.c9,Lib.dJ,gf,hn,aT,aL,Lib.eK,Rv hn,bJ,acO,bK];cases hs:decide (1<=q.size/\q.size<=40)&&decide ((el p.fe n).t.size+q.size<=400)with
  |false=>rfl
  |true=>
   have e1:=L6 p.fe n 1 [CV.s ((el p.fe n).t++q)] {el p.fe n with t:=(el p.fe n).t++q} hn rfl;have Bl:n<(p.fe.set n {el p.fe n with t:=(el p.fe n).t++q}).length:=by rw[dt];exact hn
   have h3:=qF.ok {p with fe:=p.fe.set n {el p.fe n with t:=(el p.fe n).t++q}} n 1 Bl (by rw[dt];omega) (by dsimp only;omega);dsimp only at h3;rw[qZ hn]at h3;simp only[a9,az,aw,e1,h3.1,h3.2];rfl
end A4

namespace v_
open _root_.Go.FG.Lib (rr rs re rf rc Px En el)
open fH (So fw lE)
open lj (Gk)
theorem ok(p:Px)(e:En)(r6 r7:Row)(hp:p.Fit 1048575)(hso:So p.en)(hk1:∀x∈p.en,1<=x.k.size)(hk:e.k.size<=140737488355328):
  c p.now (re p.en) (rs p.w) (rs p.m) (rr p.s) p.a r6 r7 p.hits e.k e.st e.li e.bo=aj/\v p.now (re p.en) (rs p.w) (rs p.m) (rr p.s) p.a r6 r7 p.hits e.k e.st e.li e.bo=(p.now,re (Gk p e).en,rs (Gk p e).w,rs (Gk p e).m,rr (Gk p e).s,(Gk p e).a,r6,r7,p.hits):=by
 have he:=hp.en;have hw:=hp.w;have hm:=hp.m;obtain⟨b1,b2,b3⟩:=e8.QO p.w p.m p.s p.a e.k;have h1:=e8.ok p.w p.m p.s p.a e.k (by omega) (by omega) ⟨cm hp.s.1 (by omega),λq hq=>cm (hp.s.2.1 q hq) (by omega)⟩ hk;refine out _ _ _ _ _ _ _ _ _ _ _ _ _ ?_;unfold vo b Gk;generalize e8.val p.w p.m p.s p.a e.k=V at h1 b1 b2 b3;obtain⟨W,M,T,A,G⟩:=V;dsimp only at h1 b1 b2⊢;have h2:=oN.ok p.en G (by omega);have h3:=qT.ok W M (rr T) A e.k (by omega) (by omega);have hd:=fH.zw p.en G;have h4:=eT.ok (re (fw p.en G)) e.k e.st e.li e.bo (by rw[ff];omega);rw[fH.tL]at h4;simp only[Lib.lt,h1.1,h1.2,h2.1,h2.2,h3.1,h3.2,h4.1,h4.2,aw,Lib.fP];by_cases hG:G=⟨#[]⟩
 ·subst hG;rw[fH.drop_nil hk1]at h4⊢;rw[aE rfl];simp only[a9,az,h4.1,h4.2,aw];cases e9.has W e.k||e9.has M e.k<;>rfl
 ·rw[aK hG];simp only[bO,aw];cases e9.has W e.k||e9.has M e.k<;>rfl
end v_

namespace Bb
open _root_.Go.FG.Lib (rr rs re rf rc Px el)
open gV (uS told jm ve qZ L6)
open sK (cls oT)
theorem ok(p:Px)(f life:ay)(hp:p.Fit 1048576):c p.now (re p.en) (rs p.w) (rs p.m) (rr p.s) p.a (rf p.fe) (rc p.cl) p.hits f life=aj/\v p.now (re p.en) (rs p.w) (rs p.m) (rr p.s) p.a (rf p.fe) (rc p.cl) p.hits f life=(p.now,re (cls p f life).1.en,rs (cls p f life).1.w,rs (cls p f life).1.m,rr (cls p f life).1.s,(cls p f life).1.a,rf (cls p f life).1.fe,rc (cls p f life).1.cl,p.hits,(cls p f life).2):=by
 have h1:=j7.ok p hp;have h2:=sG.ok p f hp;have hf:=hp.fe;have hc:=hp.cl;refine out _ _ _ _ _ _ _ _ _ _ _ ?_;unfold vo b cls;simp only[Lib.lt,h1.1,h1.2,h2.1,h2.2,aw];cases ho:uS p f with
 |false=>rfl
 |true=>
  obtain⟨n,rfl,hn,hok,hs1⟩:=jm ho;obtain⟨so,ks,_,_,_,_,_,_,_,_,Ej⟩:=lj.JZ hok;have Ej:=Ej n hn;unfold oi.oU at Ej;rw[aJ]at Ej;have AM:=e8.rk Ej.1;rw[show jN.v life 0 999999=decide (0<=life/\life<=999999)from gH.gL _ _ _];cases hl:decide (0<=life/\life<=999999)with
  |false=>rfl
  |true=>
   generalize hg:({el p.fe n with sta:=2,li:=life,st:=p.now}:Lib.Fe)=g;have hk:g.k=(el p.fe n).k:=by rw[<-hg]
   have ht:g.t=(el p.fe n).t:=by rw[<-hg]
   have gl:g.li=life:=by rw[<-hg]
   have gs:g.st=p.now:=by rw[<-hg]
   have e3:=L6 p.fe n 0 [CV.s (el p.fe n).k,CV.s (el p.fe n).t,CV.i ar 2,CV.i ar life,CV.i ar p.now] g hn (by rw[<-hg];rfl);have n3:n<(p.fe.set n g).length:=by rw[dt];exact hn
   have h3:=qF.ok {p with fe:=p.fe.set n g} n 2 n3 (by rw[dt];omega) (by dsimp only;omega);dsimp only at h3;rw[qZ hn]at h3;have h4:=v_.ok (told p n g 2) (oT g) (rf (p.fe.set n g)) (rc (told p n g 2).cl) ((ve (lj.oY hok)).le (by omega)) so ks (by show g.k.size<=_;rw[hk];omega);unfold oT at h4;dsimp only[told]at h4;rw[gl,gs,hk,ht]at h4;unfold oT told;rw[ht]at h3;simp only[a9,az,aw,Lib.c9,Lib.dJ,gf,hn,aT,aL,bK,Lib.eK,Ru hn,Rv hn,wf2 hn,wf3 hn,wf4 hn,bS,bJ,e3,h3.1,h3.2,gl,gs,hk,ht];cases decide (life>0)with
   |true=>simp only[aw,h4.1,h4.2];subst hg;rfl
   |false=>subst hg;rfl
end Bb

namespace Bc
theorem ok(k:aq)(s l:ay)(b0:aq):c k s l b0=aj/\v k s l b0=i_.val k s l b0:=by
 refine out k s l b0 ?_;have hf:=e_.ok (jb.v k s l b0).1;unfold vo b i_.val;rw[hf.1,hf.2];unfold jb.v e_.val;by_cases h:ie.v k s l b0=aj
 ·have h1:=xN.vf h;have h2:=xN.D_ h;rw[ba h,ba h,ba (by dsimp only;omega)];rfl
 ·rw[a_ h,a_ h];rfl
end Bc

end Go.FG
