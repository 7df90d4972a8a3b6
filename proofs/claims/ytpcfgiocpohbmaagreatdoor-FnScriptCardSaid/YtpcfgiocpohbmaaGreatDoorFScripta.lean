/- What the functions come to, in plain numbers, texts and lists; last the law itself. No condition but those that each states. -/
import Derived.Test.YtpcfgiocpohbmaaGreatDoorPScriptb
set_option linter.all false
set_option maxRecDepth 100000
set_option autoImplicit true
set_option relaxedAutoImplicit true
open Array renaming toList_extract->iv,toList_append->jR,length_toList->dM,ext'->tw,getD_eq_getD_getElem?->eM
open BitVec renaming toNat->eg,xor->mi,ofInt->cu
open Bool renaming true->ao,false->aq,or_eq_true->dN,and_eq_true->aM,or_eq_false_iff->iG,and_self->aK,not_eq_true'->di,not_not->A6,true_and->bj,not_false->bH,not_eq_false'->iw,not_true->aY,and_assoc->nV,and_true->gE,false_or->oD,true_or->OK,false_eq_true->dq,cond_eq_ite->cy,false_and->lH
open ByteArray renaming ext->kQ,append_assoc->cY,mk->aw,toList->aF,data_extract->gl,data_append->gJ,size_extract->vQ,size_append->dL,empty_append->lO,empty->HY,append_empty->qQ,size->bf,extract->bx
open Classical renaming byContradiction->A7
open Decidable renaming decide->ah
open Go.ByteArray renaming toList_eq->kK
open Go.IntKind renaming u8->a8,i64->ak,wrap->bG,u32->eF
open Go.Op renaming bytesLess->cf
open Int renaming tdiv->cz,le_total->JT,tdiv_eq_ediv_of_nonneg->d',tmod->bQ,tmod_nonneg->DO,tmod_eq_emod_of_nonneg->dO,toNat->aP,neg->s9,pow_succ->vd,toNat_natCast->dX,natCast_zero->Vo,lt_irrefl->AE,le_trans->OR,emod_nonneg->FX,emod_lt_of_pos->Ba
open List renaming set->aC,length_cons->bT,size_toArray->Cr,mem_cons_self->cQ,mem_cons_of_mem->cK,take_succ_eq_append_getElem->cE,length_singleton->bz,length->bD,length_map->bK,length_filter_le->eD,nil_append->eR,length_append->bU,map_congr_left->Qh,mem_filter->dp,map_id->OT,append_assoc->cg,pairwise_append->vf,filter_sublist->jS,singleton_append->vg,pairwise_cons->qT,mem_append->a_,mem_singleton->a7,filter_cons_of_pos->dI,filter_cons_of_neg->cM,beq->cD,filter_append->jc,getElem_mem->bF,mem_or_eq_of_mem_set->rS,append_nil->d_,take_length->cR,drop_eq_nil_of_le->Ih,filter_eq_self->ka,getElem_of_mem->dW,getElem_take->ze,take->kO,drop->nc,drop_zero->gz,take_of_length_le->e8,all_eq_true->bE,pairwise_map->kM,mem_map->cU,filter_map->pj,map_map->jL,map_append->cT,filter_congr->ld,range->c7,getD->eC,pairwise_iff_getElem->dH,length_set->ch,length_drop->g_,drop_eq_getElem_cons->cJ,cons_append->gG,extract_eq_take_drop->fY,drop_drop->v8,length_take->dG,drop_append_of_le_length->BI,drop_of_length_le->kC,filter_filter->pV,takeWhile_map->OU,dropWhile_map->OS,find?_eq_none->V1,find?_eq_some_iff_getElem->Bb,find?_some->FY,takeWhile_cons_of_pos->qA,takeWhile_cons_of_neg->qz,foldl_cons->pk,length_nil->jU,drop_length->c_,foldl_nil->ve,mem_of_find?_eq_some->qS,length_pos_iff->Qg,getD_eq_getElem?_getD->dc,getElem?_eq_getElem->fC,ext_getElem->lP,getElem_set_self->kT,set_getElem_self->fc,set_set->pX,nodup_iff_pairwise_ne->pW,mem_append_left->bZ,length_tail->V2,mem_append_right->bR,any_eq_false->ZC,findIdx?_eq_none_iff->EC,findIdx?_eq_some_iff_getElem->yR,pairwise_singleton->H0,find?_cons_of_neg->Kg,foldl_append->nv,mem_range->lr,nodup_append->eK,nodup_cons->kU,mem_cons->cF,getElem_set->R1,all_eq_false->Vp,all_append->ph,all_cons->iS,all_nil->DY,getElem?_map->bJ,map_cons->fD,mem_of_mem_take->iK,take_zero->qB
open List.Pairwise renaming filter->BH,nil->hZ
open List.cons renaming inj->JU
open Nat renaming mod_lt->F0,pow_succ->JW,le_trans->ca,le_succ->iX,le_refl->bW,zero_le->bB,lt_irrefl->bg,sub_zero->H2,zero_add->bV,sub_self->qe,le_succ_of_le->nq,add_sub_cancel->Qi,add_zero->BJ,ble_eq_true_of_le->wc,mul_comm->Ii,lt_of_lt_of_le->jV,mul_le_mul_right->b9
open Option renaming some->ai,none->ay,map_some->jf
open Option.some renaming inj->aL
open Prod.mk renaming inj->bX
open UInt8 renaming ofNat->aj,lt_iff_toNat_lt->tB,toNat_inj->Cw,toNat_ofNat'->wL,toNat_lt->Ed
open _root_ renaming Nat->aN,List->aE,UInt8->eJ,ByteArray->ar,Int->az,Bool->aZ,Option->aG,cond_true->au,decide_eq_true->aA,decide_eq_false->aD,cond_false->ax,if_neg->bk,if_pos->bm,decide_eq_true_eq->ba,absurd->cO,decide_eq_false_iff_not->eZ,decide_true->aQ,decide_false->bc,congrArg->gu,decide_eq_decide->b7,of_decide_eq_true->cB,of_decide_eq_false->vz
namespace Go.FG
open _root_.Go.FG.Lib (Cl En Fe Fi Px GO all_congr j6 pA Cz qH eP beq_iff mz lT sV cw dB fG p6 cm dh G1 mR xW jz el e7 fM iY sn oY fi ox qK CS Nl yg iz gO fa gP uS mX eG ic lZ rc0 rc1 rc2 rc3 rc4 rc5 rc6 eQ rd Jv VG VH eA re dC fO ea h_ rf dV Qu sJ b6 rr J8 hJ rs VI p9 HC k9 Dy cj uA pc yJ dK FD oA DF yL rG rH uD nT iq vb sP u5 k_ c6 cG Qv wc1 wc2 wc3 YV YW YX wd0 wd1 wd2 rJ wG wH wI L5 J_ wf2 DI wf3 wf4)
variable {R:Type}
namespace pT
end pT
namespace gj
open pT (l5 r5 c v vo b out)
abbrev dd:aN->aE eJ:=_root_.Go.Lib.decDigits
def D(n:aN):ar:=⟨(dd n).toArray⟩
def it(n:az):ar:=⟨(_root_.Go.Lib.itoa n).toArray⟩
def dd1{u:aN}(h:u<10):dd u=[aj (48+u)]:=_root_.Go.Lib.decDigits_one h
def dd2{u:aN}(h:¬u<10):dd u=dd (u/10)++[aj (48+u%10)]:=by show _root_.Go.Lib.decDigits u=_;rw[_root_.Go.Lib.decDigits,dif_neg h]
def fg(x:aN):ar:=⟨#[aj (48+x)]⟩
def fig{x:aN}(h:x<10):bytesOf (aC (aR [Ck.i a8] 1) 0 [CV.i a8 (Vs.v (x:az))])=fg x:=by
 have key:∀y:Fin 10,bytesOf (aC (aR [Ck.i a8] 1) 0 [CV.i a8 (Vs.v ((y.val:aN):az))])=fg y.val:=by decide+kernel
 exact key ⟨x,h⟩
def D1{u:aN}(h:u<10):D u=fg u:=by unfold D fg;rw[dd1 h]
def D2{u:aN}(h:¬u<10):D u=D (u/10)++fg (u%10):=by unfold D fg;rw[dd2 h];apply kQ;simp
def G3(x:aN):(fg x).size=1:=rfl
def stp(K:az->aZ->ar->aG R)(i:aZ)(m:aN)(n:az)(t:ar)(h0:n≠0)(h1: -9223372036854775808<=n)(h2:n<=9223372036854775807)(j:t.size<=1000):
  l5 cw K (m+1) n i t=l5 cw K m (cz n 10) i (fg (n.natAbs%10)++t):=by
 have a1:(n !=0)=true:=by simp[h0]
 have hd: -9223372036854775808<=cz n 10/\cz n 10<=9223372036854775807:=by
  rcases JT 0 n with f|f
  ·rw[d' f];omega
  ·have:cz n 10= -((-n)/10):=by rw[<-d' (show 0<= -n by omega),Int.neg_tdiv];omega
   rw[this];omega
 rw[show l5 cw K (m+1) n i t=r5 cw (l5 cw K m) K n i t from rfl];unfold r5 kE;rw[a1,au,c6 hd.1 hd.2];have hm:n.natAbs%10<10:=F0 _ (by omega);by_cases d:bQ n 10<0
 ·have e:bA (0-bQ n 10)=((n.natAbs%10:aN):az):=by
   have f:n<0:=by
    rcases Int.lt_or_le n 0 with h|h
    ·exact h
    ·have:=DO (a:=n) 10 h;omega
   have:bQ n 10= -((-n)%10):=by rw[<-dO (show 0<= -n by omega),Int.neg_tmod];omega
   rw[this,c6 (by omega) (by omega)];omega
  rw[aA d,au,e,fig hm,G3,jz,au]
 ·have e:bQ n 10=((n.natAbs%10:aN):az):=by
   rcases JT 0 n with f|f
   ·rw[dO f];omega
   ·have:bQ n 10= -((-n)%10):=by rw[<-dO (show 0<= -n by omega),Int.neg_tmod];omega
    omega
  rw[aD d,ax,e,fig hm,G3,jz,au]
def Wb(n:az):(cz n 10).natAbs=n.natAbs/10:=by
 rcases JT 0 n with a|a
 ·rw[d' a];omega
 ·have:cz n 10= -((-n)/10):=by rw[<-d' (show 0<= -n by omega),Int.neg_tdiv];omega
  rw[this];omega
def run(K:az->aZ->ar->aG R)(a:aZ):∀(d:aN) (n:az) (t:ar) (m:aN),n.natAbs<10^d->n≠0-> -9223372036854775808<=n->n<=9223372036854775807->t.size+d<=1000->d<m->l5 cw K m n a t=K 0 a (D n.natAbs++t):=by
 intro d;induction d with
 |zero=>intro n t m h1 h2;omega
 |succ d ih=>
  intro n t m h1 h2 h3 h4 h h6;obtain⟨m,rfl⟩:∃k,m=k+1:=⟨m-1,by omega⟩
  rw[stp K a m n t h2 h3 h4 (by omega)];have e:=Wb n;by_cases hs:n.natAbs<10
  ·have f:cz n 10=0:=by omega
   obtain⟨m,rfl⟩:∃k,m=k+1:=⟨m-1,by omega⟩
   rw[f,D1 hs,Nat.mod_eq_of_lt hs];rfl
  ·rw[ih (cz n 10) _ m (by rw[e];rw[JW]at h1;omega) (by omega) (by omega) (by omega) (by rw[cj,G3];omega) (by omega),e,D2 hs];rw[cY]
def eq(n:az)(h0: -9223372036854775808<=n)(h1:n<=9223372036854775807):c n=ao/\v n=it n:=by
 refine out _ ?_;unfold vo b it bw;by_cases d:n=0
 ·subst d;rw[aA rfl,au];unfold _root_.Go.Lib.itoa;rw[bk (by omega),show aP 0=0 from rfl,_root_.Go.Lib.decDigits_one (show 0<10 by omega)]
 ·rw[aD d,ax,run _ _ 19 n _ _ (by omega) d h0 h1 (by decide) eG];have e:∀x:ar,x++(⟨#[]⟩:ar)=x:=λx=>by apply kQ;simp
  rw[e];by_cases a:n<0
  ·have hl:(D n.natAbs).size<=21:=by have:=_root_.Go.Lib.itoa_length_le n h0 h1;unfold _root_.Go.Lib.itoa at this;rw[bm a,bT]at this;show(dd n.natAbs).toArray.size<=21;rw[Cr];exact ca (iX _) this
   rw[aA a,au,show((aw #[aj 45]):ar).size=1 from rfl,jz,au];unfold _root_.Go.Lib.itoa;rw[bm a];unfold D;congr 1
  ·rw[aD a,ax];unfold _root_.Go.Lib.itoa D;rw[bk a,show n.natAbs=n.toNat by omega]
def jI(n:az)(h0: -9223372036854775808<=n)(h1:n<=9223372036854775807):(it n).size<=21:=by have:=_root_.Go.Lib.itoa_length_le n h0 h1;show(_root_.Go.Lib.itoa n).toArray.size<=21;rw[Cr];exact this
end gj
open gj (dd dd1 dd2)
namespace ed
open _root_.Go.FG.Lib (rc)
open gj (it)
def st(n:az):ar:=JY.v n
def pos(n:az):az:=if n<0 then 0 else n
abbrev sp:ar:=(aw #[aj 32])
abbrev Hj:ar:=(aw #[aj 10])
def ln(c:Cl):ar:=it (pos c.id)++sp++st c.sta++sp++it (pos c.age)++sp++c.got++Hj
def shown:aE Cl->ar
 |[]=>⟨#[]⟩|c::r=>ln c++shown r
def VF(n:az):Prop:= -9223372036854775808<=n/\n<=9223372036854775807
def Ee(c:Cl):Prop:=VF c.id/\VF c.age
def m_{n:az}(h:VF n):VF (pos n):=by unfold pos VF at*;split<;>omega
def ms(n:az):eE ao n 0=pos n:=by unfold eE pos;rw[au]
def dec(n:az)(h:VF n):tU.c n=ao/\tU.v n=it n:=by refine tU.out _ ?_;unfold tU.vo tU.b bw;rw[show U40.c n=ao from by unfold U40.c;rw[aA h.1,aA h.2];rfl,au];rfl
def num(n:az)(h:VF n):AG.c n=ao/\AG.v n=it (pos n):=by
 refine AG.out _ ?_;unfold AG.vo AG.b pos bw;have e:=gj.eq n h.1 h.2;by_cases a:n<0
 ·rw[aA a,au,bm a];have:it 0=(aw #[aj 48]):=by unfold it _root_.Go.Lib.itoa;rw[bk (by omega),show aP 0=0 from rfl,_root_.Go.Lib.decDigits_one (show 0<10 by omega)]
  rw[this]
 ·rw[aD a,ax,e.1,au,e.2,bk a]
def On(n:az):(st n).size<=6:=by unfold st JY.v;cases ah (n=1)<;>cases ah (n=2)<;>decide
def W7(c:Cl)(h:Ee c):(ln c).size<=c.got.size+60:=by have a1:=gj.jI _ (m_ h.1).1 (m_ h.1).2;have a2:=gj.jI _ (m_ h.2).1 (m_ h.2).2;have a3:=On c.sta;unfold ln;simp only[cj,show sp.size=1 from rfl,show Hj.size=1 from rfl];omega
def room:aE Cl->aN
 |[]=>0|c::r=>c.got.size+60+room r
def Dq:∀(l:aE Cl) (i:aN),i<l.length->(el l i).got.size<=room l
 |c::r,0,_=>by show c.got.size<=_;unfold room;omega
 |c::r,i+1,h=>by
  have:=Dq r i (by simpa using h);show(el r i).got.size<=_;unfold room;omega
def nF:∀(l:aE Cl),(∀c∈l,Ee c)->(shown l).size<=room l
 |[],_=>bW _
 |c::r,h=>by
  have a1:=W7 c (h c cQ);have a2:=nF r (λx a=>h x (cK _ a));unfold shown room;rw[cj];omega
def qh(x:ar):x++(⟨#[]⟩:ar)=x:=by apply kQ;simp
def yp(x:ar):(⟨#[]⟩:ar)++x=x:=by apply kQ;simp
def Dx:∀(l:aE Cl) (c:Cl),shown (l++[c])=shown l++ln c
 |[],c=>by show ln c++(⟨#[]⟩:ar)=⟨#[]⟩++ln c;rw[qh,yp]
 |d::r,c=>by
  show ln d++shown (r++[c])=ln d++shown r++ln c;rw[Dx r c,cY]
def take_succ(l:aE Cl)(i:aN)(h:i<l.length):shown (l.take (i+1))=shown (l.take i)++ln (el l i):=by rw[e7 h,cE h,Dx]
def Aj:∀(l:aE Cl) (i:aN),room (l.take i)<=room l
 |[],_=>by simp[room]
 |c::r,0=>bB _
 |c::r,i+1=>by
  have:=Aj r i;show c.got.size+60+room (r.take i)<=c.got.size+60+room r;omega
end ed
open ed (qh Ee yp Hj VF shown)
namespace fZ
def o8:∀x:aE eJ,cf x x=aq
 |[]=>rfl
 |a::x=>by
  have h:¬a<a:=by rw[tB];omega
  simp[cf,o8 x,h]
def pB:∀x y z:aE eJ,cf x y=ao->cf y z=ao->cf x z=ao
 |_,[],_,h,_=>by cases ‹aE eJ›<;>simp[cf]at h
 |_,_::_,[],_,h=>by simp[cf]at h
 |[],_::_,_::_,_,_=>by simp[cf]
 |a::x,b::y,c::z,h1,h2=>by
  simp only[cf,dN,aM,ba,beq_iff_eq]at h1 h2⊢;simp only[tB]at h1 h2⊢;rcases h1 with h1|⟨rfl,h1⟩
  ·rcases h2 with h2|⟨rfl,h2⟩
   ·left;omega
   ·left;exact h1
  ·rcases h2 with h2|⟨rfl,h2⟩
   ·left;exact h2
   ·right;exact⟨rfl,pB x y z h1 h2⟩
def Sf:∀x y:aE eJ,cf x y=aq->x≠y->cf y x=ao
 |[],[],_,h=>cO rfl h
 |[],_::_,h,_=>by simp[cf]at h
 |_::_,[],_,_=>by simp[cf]
 |a::x,b::y,h,f=>by
  simp only[cf,iG,Bool.and_eq_false_iff,eZ,beq_eq_false_iff_ne]at h;simp only[cf,dN,aM,ba,beq_iff_eq];obtain⟨h1,h2⟩:=h;by_cases d:a=b
  ·subst d;right;refine⟨rfl,Sf x y ?_ (λe=>f (by rw[e]))⟩
   rcases h2 with h2|h2
   ·exact cO rfl h2
   ·exact h2
  ·left;rw[tB]at h1⊢;have:a.toNat≠b.toNat:=λe=>d (Cw.1 e);omega
def key(y:aE CV):aE eJ:=aF (bn (y.getD 0 (.b aq)))
def lt(y z:aE CV):Prop:=cf (key y) (key z)=ao
def cr(y:aE CV):aE CV:=[CV.s (bn (y.getD 0 (.b aq))),CV.i ak (bO (y.getD 1 (.b aq))),CV.i ak (bO (y.getD 2 (.b aq))),CV.s (bn (y.getD 3 (.b aq)))]
def nw(k:ar)(s l:az)(b:ar):aE CV:=[CV.s k,CV.i ak s,CV.i ak l,CV.s b]
def pl(k:ar)(y:aE CV):aZ:=cf (key y) (aF k)
def pg(k:ar)(y:aE CV):aZ:= !(cf (key y) (aF k)||List.beq (key y) (aF k))
def val(r:Row)(k:ar)(s l:az)(b:ar):Row:=(r.filter (pl k)).map cr++[nw k s l b]++(r.filter (pg k)).map cr
def ok(r:Row)(k:ar)(s l:az)(j:ar)(hl:r.length<=1048576):c r k s l j=ao/\v r k s l j=val r k s l j:=by
 refine out r k s l j ?_;unfold vo;have hw:∀i,i<r.length->bA ((i:az)+1)=((i+1:aN):az):=λi h=>cG h (by omega)
 have y:=λ(f:Row) (B:f.length<=2000000)=>yg (pg k) cr r 2000000
  (λm (i:aN) (acc:Row)=>l9 cw (λ(_:Row) (_:az) (_:ar) (_ _:az) (_:ar) (d:Row)=>ai d) m r (i:az) k s l j acc) (λacc=>ai acc)
  (λm i acc h h2 hp=>by
   have a:(!(cf (aF (bn (av r i 0))) (aF k)||List.beq (aF (bn (av r i 0))) (aF k)))=true:=by rw[dB h];exact hp
   simp only[l9,r9,dh,h,aQ,cm,aK,au,dK,a,hw i h,gO,bz,b6 (n:=acc.length+1) (b:=48) (by omega) (by omega),bY,bw];have e:[CV.s (bn (av r i 0)),CV.i ak (bO (av r i 1)),CV.i ak (bO (av r i (1+1))),CV.s (bn (av r i (1+1+1)))]=cr r[i]:=by rw[dB h,dB h,dB h,dB h];rfl
   rw[e])
  (λm i acc h h2 hp=>by
   have a:(!(cf (aF (bn (av r i 0))) (aF k)||List.beq (aF (bn (av r i 0))) (aF k)))=false:=by rw[dB h];exact hp
   simp only[l9,r9,dh,h,aQ,cm,aK,au,dK,a,ax,hw i h,bY,bw])
  (λm acc=>by simp only[l9,r9,dh,bg,bc,ax,bY,bw]) cw f B eG
 have x:=yg (pl k) cr r 0
  (λm (i:aN) (acc:Row)=>l3 cw (λ(C:Row) (_:az) (A:ar) (o t:az) (u:ar) (z:Row)=>bif(b_ (bD z+bD (aC (aR [Ck.s,Ck.i ak,Ck.i ak,Ck.s] 1) 0 [CV.s A,CV.i ak o,CV.i ak t,CV.s u])) 48)then(l9 cw (λ(_:Row) (_:az) (_:ar) (_ _:az) (_:ar) (d:Row)=>ai d) cw C 0 A o t u (z++aC (aR [Ck.s,Ck.i ak,Ck.i ak,Ck.s] 1) 0 [CV.s A,CV.i ak o,CV.i ak t,CV.s u]))else(ay)) m r (i:az) k s l j acc)
  (λacc=>bif(b_ (bD acc+1) 48)then(l9 cw (λ(_:Row) (_:az) (_:ar) (_ _:az) (_:ar) (d:Row)=>ai d) cw r 0 k s l j (acc++[nw k s l j]))else ay)
  (λm i acc h h2 hp=>by
   have a:cf (aF (bn (av r i 0))) (aF k)=true:=by rw[dB h];exact hp
   simp only[l3,r3,dh,h,aQ,cm,aK,au,dK,a,hw i h,gO,bz,b6 (n:=acc.length+1) (b:=48) (by omega) (by omega),bY,bw];have e:[CV.s (bn (av r i 0)),CV.i ak (bO (av r i 1)),CV.i ak (bO (av r i (1+1))),CV.s (bn (av r i (1+1+1)))]=cr r[i]:=by rw[dB h,dB h,dB h,dB h];rfl
   rw[e])
  (λm i acc h h2 hp=>by
   have a:cf (aF (bn (av r i 0))) (aF k)=false:=by rw[dB h];exact hp
   simp only[l3,r3,dh,h,aQ,cm,aK,au,dK,a,ax,hw i h,bY,bw])
  (λm acc=>by simp only[l3,r3,dh,bg,bc,ax,bY,bw];rfl) cw [] (bW _) eG
 unfold b bw;refine x.trans ?_;have H:((r.filter (pl k)).map cr).length<=r.length:=by rw[bK];exact eD _ _
 rw[eR,b6 (by omega) (by omega),au];exact y _ (by rw[bU,bz];omega)
def Or(r:Row):Prop:=r.Pairwise lt/\∀y∈r,cr y=y
def Hh{r:Row}(h:∀y∈r,cr y=y)(q:aE CV->aZ):(r.filter q).map cr=r.filter q:=by have:=Qh (l:=r.filter q) (f:=cr) (g:=λz=>z) (λy a=>h y (dp.1 a).1);rw[this];exact OT _
def yl{r:Row}(h:Or r)(k:ar)(s l:az)(b:ar):Or (val r k s l b)/\(val r k s l b).length<=r.length+1:=by
 unfold val;rw[Hh h.2,Hh h.2];have hg:∀y,pg k y=ao->cf (aF k) (key y)=true:=by intro y a;unfold pg at a;simp only[di,iG]at a;refine Sf _ _ a.1 (λe=> ?_);have:=a.2;rw[e,lT]at this;cases this
 refine⟨⟨?_,?_⟩,?_⟩
 ·rw[cg,vf];refine⟨h.1.sublist jS,?_,?_⟩
  ·rw[vg,qT];exact⟨λy a=>hg y (dp.1 a).2,h.1.sublist jS⟩
  ·intro y a z i;have h1:cf (key y) (aF k)=true:=(dp.1 a).2;rcases a_.1 i with q|q
   ·rw[a7.1 q];exact h1
   ·exact pB _ _ _ h1 (hg z (dp.1 q).2)
 ·intro y a;rcases a_.1 a with q|q
  ·rcases a_.1 q with q|q
   ·exact h.2 y (dp.1 q).1
   ·rw[a7.1 q];rfl
  ·exact h.2 y (dp.1 q).1
 ·have d:∀r:Row,(r.filter (pl k)).length+(r.filter (pg k)).length<=r.length:=by
   intro r;induction r with
   |nil=>exact bW _
   |cons y r ih=>
    have f:pl k y=ao->pg k y=false:=by intro h;unfold pl at h;unfold pg;rw[h];rfl
    cases h1:pl k y with
    |true=>rw[dI h1,cM (by rw[f h1];simp)];simp only[bT];omega
    |false=>
     rw[cM (by simp[h1])];cases h2:pg k y with
     |true=>rw[dI h2];simp only[bT];omega
     |false=>rw[cM (by simp[h2])];simp only[bT];omega
  have:=d r;simp only[bU,bz];omega
end fZ
namespace vu
def p(s:Row)(k:ar)(i:aN):aZ:=cD (aF (bn (av s i 0))) (aF k)
def ok(d:Row)(n:ar)(hl:d.length<=4294967296):c d n=ao/\v d n=fi (p d n) d.length 0:=by
 refine out d n ?_;unfold vo b;refine ox (p d n) d.length (λm (i:aN)=>l2 cw (λ(_:Row) (_:ar) (a _ _:az)=>ai a) (λ(_:Row) (_:ar) (_ _ _:az)=>ai (-1)) m d n 0 (d.length:az) (i:az)) ai (λm i hi hp=> ?_) (λm i hi hp=> ?_) (λm=> ?_) cw eG
 ·unfold p at hp;simp only[l2,r2,dh,cm,dK,hi,aQ,aK,au,D5.v,hp,bY]
 ·unfold p at hp;simp only[l2,r2,dh,cm,dK,hi,aQ,aK,au,D5.v,hp,ax,cG hi (by omega:d.length<=9223372036854775807),bY]
 ·simp only[l2,r2,dh,bg,bc,ax,bY]
end vu
namespace nU
def ZT(q:aE CV->aZ){s:Row}{i:aN}(h:i<s.length):(s.take (i+1)).filter q=(s.take i).filter q++(bif q s[i]then [s[i]]else []):=by rw[cE h,jc];cases hk:q s[i]<;>simp[hk]
def run{R δ:Type}(F:aN->δ->az->az->Row->aG R)(A:Row->aG R)(d:δ)(q:aE CV->aZ)(cn:aE CV->aZ)(w:aN)(hw:∀y,cn y=ao->y.length=w)(a:Row)(M:∀y∈a,cn y=ao)
  (K:∀(m j i:aN) (x:Row) (h:i<x.length) (O:j<x.length),x.length=a.length->cn x[i]=ao->x[j].length=w->q x[i]=ao->F (m+1) d j i x=F m d ((j+1:aN):az) ((i+1:aN):az) (x.set j x[i]))
  (H:∀(m j i:aN) (x:Row) (h:i<x.length),x.length=a.length->q x[i]=aq->F (m+1) d j i x=F m d j ((i+1:aN):az) x)
  (hE:∀(m j:aN) (x:Row),x.length=a.length->j<=a.length->F (m+1) d j a.length x=A (x.take j)) (m j i:aN) (x:Row)
  (hi:j<i/\i<=a.length/\x.length=a.length/\(∀y∈x,y.length=w)/\x.take j=(a.take i).filter q/\x.drop i=a.drop i) (hm:a.length-i<m):
  F m d j i x=A (a.filter q):=by
 refine gP (λm (s:aN×aN×Row)=>F m d s.1 s.2.1 s.2.2) (λs=>a.length-s.2.1)
  (λs=>s.1<s.2.1/\s.2.1<=a.length/\s.2.2.length=a.length/\(∀y∈s.2.2,y.length=w)/\s.2.2.take s.1=(a.take s.2.1).filter q/\s.2.2.drop s.2.1=a.drop s.2.1)
  (λ_=>A (a.filter q)) (λm s hs=> ?_) m (j,i,x) hi hm
 obtain⟨j,i,x⟩:=s;obtain⟨h1,h2,h3,h4,t,h6⟩:=hs;simp only at h1 h2 h3 h4 t h6⊢;by_cases k:i<a.length
 ·right;have o:i<x.length:=by omega
  have r:j<x.length:=by omega
  have z:=mR o;have C:=mR k;rw[h6,C]at z;have B:x[i]=a[i]:=(JU z).1.symm;have hd:x.drop (i+1)=a.drop (i+1):=(JU z).2.symm;have f:=M _ (bF k);have u:=ZT q k;cases hk:q a[i]with
  |true=>
   refine⟨(j+1,i+1,x.set j a[i]),?_,by simp only;omega,trivial,?_⟩
   ·rw[hk,au,<-t]at u;refine⟨by simp only;omega,by simp only;omega,by simpa using h3,?_,?_,?_⟩
    ·intro y N;rcases rS N with h|h
     ·exact h4 y h
     ·rw[h];exact hw _ f
    ·rw[u];rw[cE (by simpa using r)];simp[List.take_set_of_le]
    ·simp only;rw[List.drop_set_of_lt (by omega)];exact hd
   ·rw[<-B]at f hk⊢;exact K m j i x o r h3 f (h4 _ (bF r)) hk
  |false=>
   refine⟨(j,i+1,x),?_,by simp only;omega,trivial,?_⟩
   ·rw[hk,ax,d_,<-t]at u;exact⟨by simp only;omega,by simp only;omega,h3,h4,u.symm,hd⟩
   ·rw[<-B]at hk;exact H m j i x o h3 hk
 ·left;have:i=a.length:=by omega
  subst this;rw[cR]at t;have e:=hE m j x h3 (by omega);rw[t]at e;exact e
def put{j w:aN}(h:j<x.length)(hl:x[j].length=w)(a:y.length=w):eH x j 0 y=x.set j y:=by rw[HC h];congr 1;unfold kG;simp[hl,a,Ih]
def first(a:Row)(q:aE CV->aZ)(p:aN->aZ)(hp:∀i (h:i<a.length),p i= !q a[i]):(fi p a.length 0= -1/\a.filter q=a)\/∃k:aN,fi p a.length 0=(k:az)/\k<a.length/\a.take k=(a.take (k+1)).filter q:=by
 rcases qK p a.length 0 with ⟨h,e⟩|⟨k,_,s,hk,j,f⟩
 ·refine .inl ⟨h,?_⟩;rw[ka];intro y o;obtain⟨i,hi,rfl⟩:=dW o;have:=e i (bB _) (by omega);rw[hp i hi]at this;simpa using this
 ·have d:k<a.length:=by omega
  refine .inr ⟨k,hk,d,?_⟩;rw[ZT q d];rw[hp k d]at j;have r:(a.take k).filter q=a.take k:=by
   rw[ka];intro y o;obtain⟨i,hi,rfl⟩:=dW o;have m:i<k:=by simp at hi;omega
   have:=f i (bB _) m;rw[hp i (by omega)]at this;rw[ze];simpa using this
  rw[r,show q a[k]=aq from by simpa using j,ax,d_]
def tail(a:Row->aG R)(d x:Row)(j:aN)(i:x.length=d.length)(h:j<=d.length):
  (bif gA (j:az) (x.length:az) (x.length:az)then(bif gA 0 (j:az) ((kO (aP (j:az)) x++aR ks (aP (x.length:az)-aP (j:az))++nc (aP (x.length:az)) x).length:az)then a (ez (kO (aP (j:az)) x++aR ks (aP (x.length:az)-aP (j:az))++nc (aP (x.length:az)) x) (aP 0) (aP (j:az)))else ay)else ay)=a (x.take j):=by
 have f:gA (j:az) (x.length:az) (x.length:az)=true:=by simp[gA];omega
 have e:kO j x++aR ks (x.length-j)++nc x.length x=kO j x++aR ks (x.length-j):=by rw[Ih (by omega),d_]
 have hl:(kO j x).length=j:=by simp;omega
 simp only[dK,f,au,e];rw[sV (by simp[gA];omega)];unfold ez;rw[show aP 0=0 from rfl,gz,H2,List.take_append_of_le_length (by omega),e8 (by omega)]
end nU
namespace pr
def cn(y:aE CV):aZ:=match y with|[.s _,.i ak _,.i ak _,.s _]=>ao|_=>aq
def cr(y:aE CV):aE CV:=[CV.s (bn (y.getD 0 (.b aq))),CV.i ak (bO (y.getD 1 (.b aq))),CV.i ak (bO (y.getD 2 (.b aq))),CV.s (bn (y.getD 3 (.b aq)))]
def t_(h:cn y=ao):cr y=y:=by
 unfold cn at h;split at h
 ·rfl
 ·cases h
def keep(d:ar)(y:aE CV):aZ:= !List.beq (aF (bn (y.getD 0 (.b aq)))) (aF d)
def ok(d:Row)(a:ar)(A:d.all cn=ao)(B:d.length<=4294967296):c d a=ao/\v d a=d.filter (keep a):=by
 refine out d a ?_;have z:=vu.ok d a B;have f:∀y∈d,cn y=true:=bE.1 A;have hl:∀y,cn y=ao->y.length=4:=λy h=>by rw[<-t_ h];rfl
 unfold vo b bw;rw[z.1,z.2,au];rcases nU.first d (keep a) (vu.p d a) (λi h=>by unfold vu.p keep;rw[dB h,A6])with ⟨h,e⟩|⟨k,h,hk,e⟩
 ·rw[h,e];rfl
 ·rw[h,aD (show¬(k:az)=s9 1 by show¬(k:az)= -1;omega),ax,cG hk (by omega)];refine nU.run (λm=>l5 cw _ m) ai a (keep a) cn 4 hl d f (λm j i x hi r t o hw hq=> ?_) (λm j i x hi t hq=> ?_) (λm j x t r=> ?_) _ k (k+1) d ⟨by omega,by omega,rfl,λy C=>hl y (f y C),e,rfl⟩ eG
  ·have u:D5.v (bn (av x i 0)) (bO (av x i 1)) (bO (av x i (1+1))) (bn (av x i (1+1+1))) a=false:=by rw[dB hi];exact(di _).mp hq
   have es:eH x j 0 [CV.s (bn (av x i 0)),CV.i ak (bO (av x i 1)),CV.i ak (bO (av x i (1+1))),CV.s (bn (av x i (1+1+1)))]=x.set j x[i]:=by simp only[dB hi];exact(gu (eH x j 0) (t_ o)).trans (nU.put r hw (hl _ o))
   simp only[l5,r5,dh,cm,dK,hi,r,aQ,bj,au,u,bH,es,cG hi (by omega),cG r (by omega),bY]
  ·have u:D5.v (bn (av x i 0)) (bO (av x i 1)) (bO (av x i (1+1))) (bn (av x i (1+1+1))) a=true:=by rw[dB hi];exact(iw _).mp hq
   simp only[l5,r5,dh,cm,dK,hi,aQ,bj,au,u,aY,ax,cG hi (by omega),bY]
  ·rw[<-t];simp only[l5,r5,dh,bg,bc,ax,bY];exact nU.tail ai d x j t r
end pr
namespace iB
def fU(x y:ar):aZ:=cf (aF x) (aF y)
def So(en:aE En):Prop:=en.Pairwise λx y=>fU x.k y.k=ao
def ik(en:aE En)(k:ar):aE En:=en.filter λx=> !decide (x.k=k)
def qO(en:aE En)(e:En):aE En:=en.filter (λx=>fU x.k e.k)++[e]++en.filter (λx=> !(fU x.k e.k||decide (x.k=e.k)))
def So.drop(h:So en)(k:ar):So (ik en k):=BH _ h
def ua(en:aE En)(k:ar):(ik en k).length<=en.length:=eD ..
def drop_nil(h:∀e∈en,1<=e.k.size):ik en ⟨#[]⟩=en:=by unfold ik;rw[ka];intro e d;have:=h e d;simp only[di,eZ];intro a;rw[a]at this;exact cO this (by decide)
def AY(h:So en):fZ.Or (re en):=by
 constructor
 ·unfold Lib.re;rw[kM];exact h
 ·intro y a;unfold Lib.re at a;obtain⟨z,_,rfl⟩:=cU.1 a;rfl
def sG(en:aE En)(e:En):fZ.val (re en) e.k e.st e.li e.bo=re (qO en e):=by
 unfold fZ.val qO Lib.re;rw[pj,pj,jL,jL,cT,cT];have a:(fZ.pl e.k∘En.row)=λx:En=>fU x.k e.k:=rfl;have d:(fZ.pg e.k∘En.row)=λx:En=> !(fU x.k e.k||decide (x.k=e.k)):=by funext x;show(!(cf (aF x.k) (aF e.k)||List.beq (aF x.k) (aF e.k)))=_;rw[eP];rfl
 rw[a,d];rfl
def BZ(en:aE En)(k:ar):(re en).filter (pr.keep k)=re (ik en k):=by unfold Lib.re ik;rw[pj];congr 1;apply ld;intro x _;show(!List.beq (aF x.k) (aF k))=_;rw[eP]
def M'(en:aE En):(re en).all pr.cn=true:=by rw[bE];intro y a;unfold Lib.re at a;obtain⟨z,_,rfl⟩:=cU.1 a;rfl
def sF(en:aE En)(e:En)(h:So en):(qO en e).length<=en.length+1:=by have:=(fZ.yl (AY h) e.k e.st e.li e.bo).2;rw[sG,dC,dC]at this;exact this
end iB
open iB (So M' ik ua drop_nil BZ fU AY qO sG)
namespace fT
def el(r:Row)(i:aN):aZ:=ah (1<=((bn (av r i 0)).size:az)/\((bn (av r i 0)).size:az)<=8)&&(!decide (((bn (av r i 1)).size:az)>20000)&&(ah (0<=bO (av r i 2)/\bO (av r i 2)<=((bn (av r i 1)).size:az))&&(i==0||Go.Op.bytesLess (aF (bn (av r (i-1) 0))) (aF (bn (av r i 0))))))
def val(r:Row):aZ:=ah (r.length<=30)&&(c7 r.length).all (el r)
def mW(n a b:az):kI.v n a b=ah (a<=n/\n<=b):=by unfold kI.v;by_cases h:a<=n<;>by_cases h2:n<=b<;>simp[h,h2]
def DH{i:aN}(h:0<i)(a:i<=9223372036854775807):bA ((i:az)-1)=((i-1:aN):az):=by rw[c6 (by omega) (by omega)];omega
def ok(r:Row)(hl:r.length<=4294967296):c r=ao/\v r=val r:=by
 refine out r ?_;unfold vo b val;by_cases e:(r.length:az)>30
 ·rw[aA e,au,aD (show¬r.length<=30 by omega)];rfl
 rw[aD e,ax,aA (show r.length<=30 by omega),bj]
 have key:=j6 (el r) r.length (λm (i:aN)=>l4 cw (λ(j:aZ) (_:az) (_:Row)=>ai j) (λ(_:aZ) (_:az) (_:Row)=>ai ao) m aq (i:az) r) (ai aq) (ai ao)
  (λm i hi hp=>by
   unfold el at hp;simp only[aM]at hp;obtain⟨h1,h2,h3,h4⟩:=hp;have h3:ah (0<=bO (av r i (1+1))/\bO (av r i (1+1))<=((bn (av r i 1)).size:az))=true:=h3;have h2:ah (((bn (av r i 1)).size:az)>20000)=false:=by simpa using h2
   by_cases h:0<i
   ·have d:ah ((i:az)>0)=true:=aA (by omega);have a:i-1<r.length:=by omega
    have f:cf (aF (bn (av r (i-1) 0))) (aF (bn (av r i 0)))=true:=by
     rcases dN _ _▸h4 with q|q
     ·have:i=0:=by simpa using q
      omega
     ·exact q
    simp only[l4,r4,dh,hi,a,aQ,cm,aK,au,ax,dK,wm.v,mW,h1,h2,h3,f,d,DH h (by omega),aY,cG hi (by omega:r.length<=9223372036854775807),bY]
   ·have d:ah ((i:az)>0)=false:=aD (by omega);simp only[l4,r4,dh,hi,aQ,cm,aK,au,ax,dK,wm.v,mW,h1,h2,h3,d,aY,cG hi (by omega:r.length<=9223372036854775807),bY])
  (λm i hi hp=>by
   unfold el at hp;cases h1:ah (1<=((bn (av r i 0)).size:az)/\((bn (av r i 0)).size:az)<=8)with
   |false=>simp only[l4,r4,dh,hi,aQ,cm,aK,au,ax,dK,wm.v,mW,h1,bH,bY]
   |true=>
   cases h2:ah (((bn (av r i 1)).size:az)>20000)with
   |true=>simp only[l4,r4,dh,hi,aQ,cm,aK,au,ax,dK,wm.v,mW,h1,h2,aY,bY]
   |false=>
   cases h3:ah (0<=bO (av r i (1+1))/\bO (av r i (1+1))<=((bn (av r i 1)).size:az))with
   |false=>simp only[l4,r4,dh,hi,aQ,cm,aK,au,ax,dK,wm.v,mW,h1,h2,h3,aY,bH,bY]
   |true=>
   rw[h1,h2,show ah (0<=bO (av r i 2)/\bO (av r i 2)<=((bn (av r i 1)).size:az))=ao from h3,bH,bj,bj,bj]at hp;rw[iG]at hp;obtain⟨h4,f⟩:=hp;have h:0<i:=by
    have:¬i=0:=by simpa using h4
    omega
   have d:ah ((i:az)>0)=true:=aA (by omega);have a:i-1<r.length:=by omega
   simp only[l4,r4,dh,hi,a,aQ,cm,aK,au,ax,dK,wm.v,mW,h1,h2,h3,f,d,DH h (by omega),aY,bH,bY])
  (λm=>by simp only[l4,r4,dh,bg,bc,ax,bY]) cw eG
 refine key.trans ?_;cases (c7 r.length).all (el r)<;>rfl
end fT
namespace oG
def p(s:Row)(k:ar)(i:aN):aZ:=cD (aF (bn (av s i 0))) (aF k)
def ok(d:Row)(n:ar)(hl:d.length<=4294967296):c d n=ao/\v d n=fi (p d n) d.length 0:=by
 refine out d n ?_;unfold vo b;refine ox (p d n) d.length (λm (i:aN)=>l2 cw (λ(_:Row) (_:ar) (a _ _:az)=>ai a) (λ(_:Row) (_:ar) (_ _ _:az)=>ai (-1)) m d n 0 (d.length:az) (i:az)) ai (λm i hi hp=> ?_) (λm i hi hp=> ?_) (λm=> ?_) cw eG
 ·unfold p at hp;simp only[l2,r2,dh,cm,dK,hi,aQ,aK,au,Eb.v,hp,bY]
 ·unfold p at hp;simp only[l2,r2,dh,cm,dK,hi,aQ,aK,au,Eb.v,hp,ax,cG hi (by omega:d.length<=9223372036854775807),bY]
 ·simp only[l2,r2,dh,bg,bc,ax,bY]
end oG
namespace xO
def cn(y:aE CV):aZ:=match y with|[.s _,.s _,.i ak _]=>ao|_=>aq
def cr(y:aE CV):aE CV:=[CV.s (bn (y.getD 0 (.b aq))),CV.s (bn (y.getD 1 (.b aq))),CV.i ak (bO (y.getD 2 (.b aq)))]
def t_(h:cn y=ao):cr y=y:=by
 unfold cn at h;split at h
 ·rfl
 ·cases h
def keep(d:ar)(y:aE CV):aZ:= !List.beq (aF (bn (y.getD 0 (.b aq)))) (aF d)
def ok(d:Row)(a:ar)(A:d.all cn=ao)(B:d.length<=4294967296):c d a=ao/\v d a=d.filter (keep a):=by
 refine out d a ?_;have z:=oG.ok d a B;have f:∀y∈d,cn y=true:=bE.1 A;have hl:∀y,cn y=ao->y.length=3:=λy h=>by rw[<-t_ h];rfl
 unfold vo b bw;rw[z.1,z.2,au];rcases nU.first d (keep a) (oG.p d a) (λi h=>by unfold oG.p keep;rw[dB h,A6])with ⟨h,e⟩|⟨k,h,hk,e⟩
 ·rw[h,e];rfl
 ·rw[h,aD (show¬(k:az)=s9 1 by show¬(k:az)= -1;omega),ax,cG hk (by omega)];refine nU.run (λm=>l5 cw _ m) ai a (keep a) cn 3 hl d f (λm j i x hi r t o hw hq=> ?_) (λm j i x hi t hq=> ?_) (λm j x t r=> ?_) _ k (k+1) d ⟨by omega,by omega,rfl,λy C=>hl y (f y C),e,rfl⟩ eG
  ·have u:Eb.v (bn (av x i 0)) (bn (av x i 1)) (bO (av x i (1+1))) a=false:=by rw[dB hi];exact(di _).mp hq
   have es:eH x j 0 [CV.s (bn (av x i 0)),CV.s (bn (av x i 1)),CV.i ak (bO (av x i (1+1)))]=x.set j x[i]:=by simp only[dB hi];exact(gu (eH x j 0) (t_ o)).trans (nU.put r hw (hl _ o))
   simp only[l5,r5,dh,cm,dK,hi,r,aQ,bj,au,u,bH,es,cG hi (by omega),cG r (by omega),bY]
  ·have u:Eb.v (bn (av x i 0)) (bn (av x i 1)) (bO (av x i (1+1))) a=true:=by rw[dB hi];exact(iw _).mp hq
   simp only[l5,r5,dh,cm,dK,hi,aQ,bj,au,u,aY,ax,cG hi (by omega),bY]
  ·rw[<-t];simp only[l5,r5,dh,bg,bc,ax,bY];exact nU.tail ai d x j t r
end xO
namespace dJ
def V6(l:aE Fi):Prop:=l.Pairwise λx y=>iB.fU x.n y.n=ao
def without(l:aE Fi)(n:ar):aE Fi:=l.filter λx=> !decide (x.n=n)
def put(l:aE Fi)(f:Fi):aE Fi:=l.filter (λx=>iB.fU x.n f.n)++[f]++l.filter (λx=> !(iB.fU x.n f.n||decide (x.n=f.n)))
def nN(f:Fi):aZ:=ah (1<=(f.n.size:az)/\(f.n.size:az)<=8)&&(!decide ((f.t.size:az)>20000)&&ah (0<=f.kp/\f.kp<=(f.t.size:az)))
def vO(l:aE Fi):aZ:=fT.val (rd l)
def irrefl(x:ar):iB.fU x x=false:=fZ.o8 _
def lB:vO l=ao↔l.length<=30/\(∀f∈l,nN f=ao)/\V6 l:=by
 unfold vO fT.val;rw[aM,ba,bE,eA];have e:∀i (h:i<l.length),fT.el (rd l) i=(nN l[i]&&(i==0||iB.fU (l.getD (i-1) default).n l[i].n)):=λi h=>by
  unfold fT.el nN iB.fU;rw[Jv h,VG h,show av (rd l) i 2=CV.i ak l[i].kp from VH h,Jv (show i-1<l.length by omega)];have m:l.getD (i-1) default=l[i-1]:=by simp[eC,show i-1<l.length by omega]
  rw[m];simp only[bn,bO,nV];rfl
 constructor
 ·rintro ⟨h1,h2⟩;have h3:∀i (h:i<l.length),nN l[i]=ao/\(i=0\/iB.fU (l.getD (i-1) default).n l[i].n=ao):=λi h=>by have:=h2 i (by simpa using h);rw[e i h,aM,dN]at this;exact⟨this.1,this.2.imp (λq=>by simpa using q) id⟩
  refine⟨h1,λf o=> ?_,?_⟩
  ·obtain⟨i,hi,rfl⟩:=dW o;exact(h3 i hi).1
  ·have k:∀d i (hi:i+d+1<l.length),iB.fU l[i].n l[i+d+1].n=true:=by
    intro d;induction d with
    |zero=>
     intro i hi;rcases(h3 (i+1) (by omega)).2 with q|q
     ·omega
     ·simpa [eC,show i<l.length by omega]using q
    |succ d ih=>
     intro i hi;have a:=ih i (by omega);rcases(h3 (i+d+1+1) (by omega)).2 with q|q
     ·omega
     ·have q:iB.fU l[i+d+1].n l[i+d+1+1].n=true:=by simpa [eC,show i+d+1<l.length by omega]using q
      exact fZ.pB _ _ _ a q
   unfold V6;rw[dH];intro i j hi t r;have:=k (j-i-1) i (by omega);simpa only[show i+(j-i-1)+1=j by omega]using this
 ·rintro ⟨h1,h2,h3⟩;refine⟨h1,λi hi=> ?_⟩
  have hi:i<l.length:=by simpa using hi
  rw[e i hi,h2 _ (bF hi),bj,dN];by_cases s:i=0
  ·left;simpa using s
  ·right;have:=dH.1 h3 (i-1) i (by omega) hi (by omega);simpa [eC,show i-1<l.length by omega]using this
def ahk(l:aE Fi):(rd l).all xO.cn=true:=by rw[bE];intro y a;unfold Lib.rd at a;obtain⟨z,_,rfl⟩:=cU.1 a;rfl
def akS(l:aE Fi)(n:ar):(rd l).filter (xO.keep n)=rd (without l n):=by unfold Lib.rd without;rw[pj];congr 1;apply ld;intro x _;show(!List.beq (aF x.n) (aF n))=_;rw[eP]
def L6(l:aE Fi)(n:ar):(without l n).length<=l.length:=eD ..
def acU(h:V6 l)(n:ar):V6 (without l n):=BH _ h
def sF(f:Fi):(put l f).length<=l.length+1:=by
 unfold put;have:∀r:aE Fi,(r.filter λx=>iB.fU x.n f.n).length+(r.filter λx=> !(iB.fU x.n f.n||decide (x.n=f.n))).length<=r.length:=by
  intro r;induction r with
  |nil=>exact bW _
  |cons y r ih=>
   cases h1:iB.fU y.n f.n with
   |true=>rw[dI (by simpa using h1),cM (by simp[h1])];simp only[bT];omega
   |false=>
    rw[cM (by simp[h1])];by_cases h2:y.n=f.n
    ·rw[cM (by simp[h2])];simp only[bT];omega
    ·rw[dI (by simp[h1,h2])];simp only[bT];omega
 have:=this l;simp only[bU,bz];omega
def qs:x∈put l f↔x=f\/(x∈l/\x.n≠f.n):=by
 unfold put;simp only[a_,dp,a7,di,iG,eZ];constructor
 ·rintro ((⟨h1,h2⟩|rfl)|⟨h1,h2⟩)
  ·refine .inr ⟨h1,λa=> ?_⟩;rw[a,irrefl]at h2;cases h2
  ·exact .inl rfl
  ·exact .inr ⟨h1,h2.2⟩
 ·rintro (rfl|⟨h1,h2⟩)
  ·exact .inl (.inr rfl)
  ·cases hl:iB.fU x.n f.n with
   |true=>exact .inl (.inl ⟨h1,rfl⟩)
   |false=>exact .inr ⟨h1,rfl,h2⟩
def Jk(l:aE Fi)(k:az)(n t o:ar):aG (aE Fi):=
 match l.find? λx=>ah (x.n=n)with
 |some f=>
  if k=1 then ai (put l ⟨f.n,f.t++t,f.kp⟩)
  else if k=2 then ai (put l ⟨f.n,f.t,f.t.size⟩)
  else if k=3 then(if f.kp≠f.t.size\/o=n then ay else ai (put (without l n) ⟨o,f.t,f.kp⟩))
  else ai (without l n)
 |none=>if k=1 then ai (put l ⟨n,t,0⟩)else ay
def km(k:az)(t o:ar):aZ:=ah (1<=k/\k<=4)&&((ah (t=⟨#[]⟩)||decide (k=1))&&(ah (o=⟨#[]⟩)||decide (k=3)))
def act(l:aE Fi)(k:az)(n t o:ar):aG (aE Fi):=
 bif vO l&&km k t o then(match Jk l k n t o with|some d=>bif vO d then ai d else ay|none=>ay)else ay
structure Ac where
 k:az
 n:ar
 t:ar
 o:ar
 deriving DecidableEq
instance:Inhabited Ac:=⟨⟨0,⟨#[]⟩,⟨#[]⟩,⟨#[]⟩⟩⟩
def Ac.row(e:Ac):aE CV:=[CV.i ak e.k,CV.s e.n,CV.s e.t,CV.s e.o]
def ra(l:aE Ac):Row:=l.map Ac.row
def sH(l):(ra l).length=l.length:=by unfold ra;simp
def wa0{i:aN}(h:i<l.length):av (ra l) i 0=CV.i ak (el l i).k:=fM _ l i 0 h
def wa1{i:aN}(h:i<l.length):av (ra l) i 1=CV.s (el l i).n:=fM _ l i 1 h
def wa2{i:aN}(h:i<l.length):av (ra l) i (1+1)=CV.s (el l i).t:=fM _ l i 2 h
def wa3{i:aN}(h:i<l.length):av (ra l) i (1+1+1)=CV.s (el l i).o:=fM _ l i 3 h
def ko:aE Fi->aN->aE Ac->aE Fi×aN
 |l,i,[]=>(l,i)
 |l,i,a::r=>match act l a.k a.n a.t a.o with|some d=>ko d (i+1) r|none=>(l,i)
def BQ{k:az}(h:act l k n t o=ai d):vO d=ao/\d.length<=30:=by
 unfold act at h;cases f:vO l&&km k t o with
 |false=>rw[f]at h;cases h
 |true=>
  rw[f,au]at h;split at h
  ·rename_i e _;cases a:vO e with
   |false=>rw[a]at h;cases h
   |true=>rw[a]at h;obtain rfl:=aL h;exact⟨a,(lB.1 a).1⟩
  ·cases h
end dJ
open dJ (Ac V6 BQ Jk vO lB ra sH wa0 wa1 wa2 wa3)
namespace pz
def size(x:az):(v x).size=4:=by unfold v;rw[Lib.ie];simp only[ch,fa]
end pz
namespace jT
def rd(x:az):az:=bif ah (bQ x 2=1)then(bG eF (↑(eg (mi (cu 32 (bG eF (cz x 2))) (cu 32 3558460437))):az))else(bG eF (cz x 2))
def pb:aN->az->az|0,x=>x|n+1,x=>pb n (rd x)
def in6(N:aN)(K:az->ar->az->az->aG R)(a:ar)(b:az):∀(d n i:aN) (x:az),d+i=8->d<n->l6 N K n x a b (i:az)=K (pb d x) a b 8:=by
 intro d;induction d with
 |zero=>
  intro n i x h1 h2;obtain⟨n,rfl⟩:∃m,n=m+1:=⟨n-1,by omega⟩
  have:i=8:=by omega
  subst this;rfl
 |succ d ih=>
  intro n i x h1 h2;obtain⟨n,rfl⟩:∃m,n=m+1:=⟨n-1,by omega⟩
  have e:bA ((i:az)+1)=((i+1:aN):az):=c6 (by omega) (by omega);rw[pb,<-ih n (i+1) (rd x) (by omega) (by omega)];simp only[l6,r6,aA (show(i:az)<8 by omega),au,e,rd];cases ah (bQ x 2=1)<;>rfl
def su(t:ar):aN->aN->az->az
 |0,_,s=>s
 |d+1,i,s=>su t d (i+1) (pb 8 (bG eF (↑(eg (mi (cu 32 s) (cu 32 (bG eF (↑(fJ t i):az))))):az)))
def run(s:az)(t:ar)(o:t.size<=4611686018427387904):vo s t=ai (su t t.size 0 s):=by
 unfold vo b;have key:∀(d n i:aN) (s:az),d+i=t.size->d<n->l2 cw (λ(a:az) (_:ar) (_:az)=>ai a) n s t (i:az)=ai (su t d i s):=by
  intro d;induction d with
  |zero=>
   intro n i s h1 h2;obtain⟨n,rfl⟩:∃m,n=m+1:=⟨n-1,by omega⟩
   simp only[l2,r2,dh,aD (show¬i<t.size by omega),ax,bw];rfl
  |succ d ih=>
   intro n i s h1 h2;obtain⟨n,rfl⟩:∃m,n=m+1:=⟨n-1,by omega⟩
   have f:bA ((i:az)+1)=((i+1:aN):az):=c6 (by omega) (by omega);simp only[l2,r2,dh,aA (show i<t.size by omega),cm,aK,au,dK,bw];have e:=in6 (R:=az) cw (λh j k _=>l2 cw (λa _ _=>ai a) n h j (bA (k+1))) t (i:az) 8 cw 0 (bG eF (↑(eg (mi (cu 32 s) (cu 32 (bG eF (↑(fJ t i):az))))):az)) rfl (by unfold cw;omega);refine e.trans ?_;rw[f,ih n (i+1) _ (by omega) (by omega)];rfl
 exact key t.size cw 0 s (by omega) eG
def ok(s:az)(t:ar)(a:t.size<=4611686018427387904):c s t=ao/\v s t=su t t.size 0 s:=out s t (run s t a)
end jT
namespace wk
def ok(t:ar)(a:t.size<=4611686018427387904):c t=ao/\v t=jT.su t t.size 0 4294967295:=by have h:=jT.ok 4294967295 t a;refine out t ?_;unfold vo b bw;rw[h.1,h.2];rfl
end wk
namespace fI
def fr(t:ar):ar:=bytesOf (vb t.size)++pz.v (jT.su t t.size 0 4294967295)++t
def val(t:ar):ar×aZ:=if 1<=t.size/\t.size<=9000 then(fr t,ao)else(⟨#[]⟩,aq)
def eL(n a b:az):kI.v n a b=ah (a<=n/\n<=b):=by unfold kI.v;by_cases h:a<=n<;>by_cases h2:n<=b<;>simp[h,h2]
def WD(h:t.size<=9000):(fr t).size<=t.size+68:=by unfold fr;have:=iq (x:=(t.size:az)) (by omega);rw[cj,cj,pz.size];omega
def ok(t:ar):c t=ao/\v t=val t:=by
 refine out t ?_;unfold vo b val bw kE;rw[eL];by_cases h:1<=t.size/\t.size<=9000
 ·have hs:=wk.ok t (by omega);have a:kL.c (t.size:az)=true:=aA (show(t.size:az)<=9223372036854775807 by omega);have d:(kL.v (t.size:az)).size<=64:=iq (x:=(t.size:az)) (by omega);rw[aA (show(1:az)<=(t.size:az)/\(t.size:az)<=9000 by omega),bm h,hs.1,hs.2];simp(disch:=omega) only[aY,ax,au,a,cj,pz.size,G1];rfl
 ·rw[aD (show¬((1:az)<=(t.size:az)/\(t.size:az)<=9000)by omega),bk h];rfl
end fI
namespace j5
def head{t:ar}{p:aN}{b:eJ}{r:aE eJ}(h:t.data.toList.drop p=b::r):p<t.size/\fJ t p=b.toNat/\t.data.toList.drop (p+1)=r:=by
 have hl:=gu bD h;rw[g_,bT]at hl;have hs:t.data.toList.length=t.size:=rfl;have hp:p<t.data.toList.length:=by omega
 have hd:=cJ hp;rw[hd]at h;injection h with h1 h2;refine⟨by omega,?_,h2⟩
 unfold fJ;have a:p<t.data.size:=hp;rw[show t.data.getD p 0=t.data[p]by unfold Array.getD;rw[dif_pos a];rfl];rw[<-h1];rfl
def CH(x:az)(r:Row):(bytesOf ([CV.i a8 x]::r)).data.toList=aj x.toNat::(bytesOf r).data.toList:=rfl
def Ui(t:ar)(a:aN)(rest:aE eJ):∀(f j:aN) (n y:az),0<=y->0<=n->n+y*128^j<=1000000000->y<=1000000000->(j>0->0<y)->t.data.toList.drop (a+j)=(bytesOf (vb y)).data.toList++rest->(vb y).length<=f->
  Lib.rv t a f j n=(n+y*128^j,((a+j+(vb y).length:aN):az),ao)/\t.data.toList.drop (a+j+(vb y).length)=rest
 |0,j,n,y,h0,M,H,O,K,hd,h=>by
  by_cases e:y>127
  ·rw[sP e]at h;simp at h
  ·rw[k_ e]at h;simp at h
 |f+1,j,n,y,h0,M,H,O,K,hd,h=>by
  by_cases e:y>127
  ·have x:bQ y 128=y%128:=dO (by omega);have z:cz y 128=y/128:=d' (by omega);have A:bA (y%128+128)=y%128+128:=c6 (by omega) (by omega);have k:bG a8 (y%128+128)=y%128+128:=by show(y%128+128)%256=_;omega
   have B:bA (y/128)=y/128:=c6 (by omega) (by omega);have d:vb y=[CV.i a8 (y%128+128)]::vb (y/128):=by rw[sP e,x,z,A,k,B]
   rw[d,CH,gG]at hd;obtain⟨o,r,s⟩:=head hd;have u:(fJ t (a+j):az)=y%128+128:=by rw[r,wL];omega
   rw[d,bT]at h;have C:y*128^j=y%128*128^j+y/128*128^(j+1):=by
    have m:y=y%128+128*(y/128):=by omega
    rw[vd];generalize (128:az)^j=P;conv=>lhs;rw[m]
    rw[Int.add_mul,Int.mul_comm P 128,<-Int.mul_assoc,Int.mul_comm (y/128) 128]
   have N:(0:az)<=y%128*128^j:=Int.mul_nonneg (by omega) (Int.le_of_lt (Int.pow_pos (by omega)));obtain⟨Q,S⟩:=Ui t a rest f (j+1) (n+y%128*128^j) (y/128) (by omega) (by omega) (by omega) (by omega) (by omega) (by rw[show a+(j+1)=a+j+1 by omega];exact s) (by omega);refine⟨?_,?_⟩
   ·unfold Lib.rv;rw[bm o,u,bm (by omega),show(y%128+128)%128=y%128 by omega,Q,C,d,bT];refine Prod.ext ?_ (Prod.ext ?_ rfl)
    ·dsimp only;omega
    ·dsimp only;omega
   ·rw[d,bT,show a+j+((vb (y/128)).length+1)=a+(j+1)+(vb (y/128)).length by omega];exact S
  ·have k:bG a8 y=y:=by show y%256=_;omega
   have d:vb y=[[CV.i a8 y]]:=by rw[k_ e,k]
   rw[d,CH,gG]at hd;obtain⟨o,r,s⟩:=head hd;have u:(fJ t (a+j):az)=y:=by rw[r,wL];omega
   refine⟨?_,by rw[d];exact s⟩
   unfold Lib.rv;rw[bm o,u,bk e,show y%128=y by omega,bk (by omega),d];rfl
def vb5{y:az}(h:y<=1000000000):(vb y).length<=5:=by
 have e:(128:az)^(4+1)=34359738368:=by decide
 exact u5 4 y (by rw[e];omega)
def mF(t:ar)(p:aN)(y:az)(rest:aE eJ)(h0:0<=y)(h1:y<=1000000000)(hd:t.data.toList.drop p=(bytesOf (vb y)).data.toList++rest):ea t p=(y,((p+(vb y).length:aN):az),ao)/\t.data.toList.drop (p+(vb y).length)=rest:=by
 have hl:=gu bD hd;have e:0<(vb y).length:=by
  by_cases a:y>127
  ·rw[sP a];simp
  ·rw[k_ a];simp
 have d:(bytesOf (vb y)).data.toList.length=(vb y).length:=Lib.ie _;rw[g_,bU,d]at hl;have hs:t.data.toList.length=t.size:=rfl;obtain⟨f,h⟩:=Ui t p rest 5 0 0 y h0 (by omega) (by simp;omega) h1 (by omega) (by simpa using hd) (vb5 h1);refine⟨?_,by simpa using h⟩
 unfold ea;rw[bm (by omega),show((p:aN):az).toNat=p from rfl,f];simp
def KL(t k:ar)(p:aN)(rest:aE eJ)(hd:t.data.toList.drop p=k.data.toList++rest):t.extract p (p+k.size)=k:=by apply qH;simp only[gl,iv,fY];rw[hd,show p+k.size-p=k.data.toList.length by show p+k.size-p=k.size;omega,List.take_left]
def enc(k:ar)(s l:az)(b:ar)(h:gU.v k s l b=ao):v (jN.tu k s l b)=(k,s,l,b,ao):=by
 obtain⟨⟨B,C⟩,⟨s1,H⟩,⟨l1,l2⟩,z⟩:=gU.DT h;generalize y:jN.tu k s l b=t;have r:t.data.toList=(bytesOf (vb k.size)).data.toList++(k.data.toList++((bytesOf (vb s)).data.toList++((bytesOf (vb l)).data.toList++b.data.toList))):=by rw[<-y];unfold jN.tu;simp only[gJ,jR,cg]
 have hs:t.data.toList.length=t.size:=rfl;have hk:k.data.toList.length=k.size:=rfl;obtain⟨a1,a2⟩:=mF t 0 (k.size:az) _ (by omega) (by omega) (by rw[gz];exact r);rw[bV]at a1 a2;generalize (vb (k.size:az)).length=a at a1 a2;have d:=gu bD a2;simp only[g_,bU,hk,hs]at d;have ek:=KL t k a _ a2;have a3:t.data.toList.drop (a+k.size)=(bytesOf (vb s)).data.toList++((bytesOf (vb l)).data.toList++b.data.toList):=by rw[<-v8,a2];exact List.drop_left' (by rw[hk])
 obtain⟨e,j⟩:=mF t (a+k.size) s _ (by omega) (by omega) a3;obtain⟨m,f⟩:=mF t (a+k.size+(vb s).length) l _ (by omega) (by omega) j;have x:fO t 0=(k,((a+k.size:aN):az),ao):=by unfold fO;rw[show(0:az)=((0:aN):az)from rfl,a1];dsimp only;rw[bm (by omega)];rw[show((a:aN):az).toNat=a from rfl,show((a:az)+(k.size:az)).toNat=a+k.size by omega,ek];rfl
 have o:t.extract (a+k.size+(vb s).length+(vb l).length) t.size=b:=by
  have i:=gu bD f;rw[g_,hs]at i;have u:b.data.toList.length=b.size:=rfl;by_cases A:b.size=0
  ·apply qH;simp only[gl,iv,fY];rw[f];exact e8 (by omega)
  ·apply qH;simp only[gl,iv,fY];rw[f];exact e8 (by omega)
 unfold v;rw[x];dsimp only;rw[e];dsimp only;rw[m];dsimp only;rw[show((a+k.size+(vb s).length+(vb l).length:aN):az).toNat=a+k.size+(vb s).length+(vb l).length from rfl,o,bm h]
end j5
namespace xN
def in6(N:aN)(K:az->ar->az->az->aG R)(a:ar)(b:az):∀(d n i:aN) (x:az),d+i=8->d<n->l6 N K n x a b (i:az)=K (jT.pb d x) a b 8:=by
 intro d;induction d with
 |zero=>
  intro n i x h1 h2;obtain⟨n,rfl⟩:∃m,n=m+1:=⟨n-1,by omega⟩
  have:i=8:=by omega
  subst this;rfl
 |succ d ih=>
  intro n i x h1 h2;obtain⟨n,rfl⟩:∃m,n=m+1:=⟨n-1,by omega⟩
  have e:bA ((i:az)+1)=((i+1:aN):az):=c6 (by omega) (by omega);rw[jT.pb,<-ih n (i+1) (jT.rd x) (by omega) (by omega)];simp only[l6,r6,aA (show(i:az)<8 by omega),au,e,jT.rd];cases ah (bQ x 2=1)<;>rfl
def run(s:az)(t:ar)(o:t.size<=4611686018427387904):vo s t=ai (jT.su t t.size 0 s):=by
 unfold vo b;have key:∀(d n i:aN) (s:az),d+i=t.size->d<n->l2 cw (λ(a:az) (_:ar) (_:az)=>ai a) n s t (i:az)=ai (jT.su t d i s):=by
  intro d;induction d with
  |zero=>
   intro n i s h1 h2;obtain⟨n,rfl⟩:∃m,n=m+1:=⟨n-1,by omega⟩
   simp only[l2,r2,dh,aD (show¬i<t.size by omega),ax,bw];rfl
  |succ d ih=>
   intro n i s h1 h2;obtain⟨n,rfl⟩:∃m,n=m+1:=⟨n-1,by omega⟩
   have f:bA ((i:az)+1)=((i+1:aN):az):=c6 (by omega) (by omega);simp only[l2,r2,dh,aA (show i<t.size by omega),cm,aK,au,dK,bw];have e:=in6 (R:=az) cw (λh j k _=>l2 cw (λa _ _=>ai a) n h j (bA (k+1))) t (i:az) 8 cw 0 (bG eF (↑(eg (mi (cu 32 s) (cu 32 (bG eF (↑(fJ t i):az))))):az)) rfl (by unfold cw;omega);refine e.trans ?_;rw[f,ih n (i+1) _ (by omega) (by omega)];rfl
 exact key t.size cw 0 s (by omega) eG
def ok(s:az)(t:ar)(a:t.size<=4611686018427387904):c s t=ao/\v s t=jT.su t t.size 0 s:=out s t (run s t a)
end xN
namespace vq
def ok(t:ar)(a:t.size<=4611686018427387904):c t=ao/\v t=jT.su t t.size 0 4294967295:=by have h:=xN.ok 4294967295 t a;refine out t ?_;unfold vo b bw;rw[h.1,h.2];rfl
end vq
namespace vr
def ok(t:ar)(a:t.size<=4611686018427387904):c t=ao/\v t=pz.v (jT.su t t.size 0 4294967295):=by have h:=vq.ok t a;refine out t ?_;unfold vo b bw;rw[h.1,h.2];rfl
end vr
namespace tg
def cut(a s d b:ar):cD (aF (a++s++b)) (aF (a++d++b))=cD (aF s) (aF d):=by
 rw[eP,eP,b7];constructor
 ·intro h;have h2:=gu (λx:ar=>x.data.toList) h;simp only[gJ,jR,cg]at h2;have h3:=List.append_cancel_right (List.append_cancel_left h2);exact qH h3
 ·intro h;rw[h]
def mH(n a b:az):kP.v n a b=ah (a<=n/\n<=b):=fI.eL n a b
def both(t:ar)(ht:t.size<=20000):∀(d:aN) (e:aN) (acc:Row) (n m:aN) (z:az),t.size-e<=d->e<=t.size->acc.length<=e->d<n->d<m->
  ∃R:Row×az,U152.l3 cw (λ(_:ar) (y4:az) (y5:Row)=>ai (y5,y4)) n t (e:az) acc=ai R/\l5 cw (λ(_:ar) (y5 _:az) (y7:Row)=>ai (y7,y5)) (λ(_:ar) (_ hb:az) (hc:Row)=>ai (hc,hb)) m t z (e:az) acc=ai R/\R.1.length<=20000:=by
 intro d;induction d with
 |zero=>
  intro e acc n m z h1 h2 h3 h4 h5;obtain⟨n,rfl⟩:∃n',n=n'+1:=⟨n-1,by omega⟩
  obtain⟨m,rfl⟩:∃m',m=m'+1:=⟨m-1,by omega⟩
  have i:ah ((e:az)<(t.size:az))=false:=aD (by omega);have k:(ea t (e:az)).2.2=false:=by
   cases h:ea t (e:az)with
   |mk a r=>
    obtain⟨x,o⟩:=r;cases o with
    |false=>rfl
    |true=>have:=h_ h;omega
  have K:∀a b,gq.v a b=ea a b:=λ_ _=>rfl;refine⟨(acc,(e:az)),?_,?_,by dsimp only;omega⟩
  ·simp only[U152.l3,U152.r3,K,k,aA (show(t.size:az)<=20000 by omega),au,bH,bw]
  ·simp only[l5,r5,i,ax,bw]
 |succ d ih=>
  intro e acc n m z h1 h2 h3 h4 h5;obtain⟨n,rfl⟩:∃n',n=n'+1:=⟨n-1,by omega⟩
  obtain⟨m,rfl⟩:∃m',m=m'+1:=⟨m-1,by omega⟩
  have K:∀a b,gq.v a b=ea a b:=λ_ _=>rfl;have P:∀a b,fX.v a b=ea a b:=λ_ _=>rfl;have u:ah ((t.size:az)<=20000)=true:=aA (by omega);cases k:ea t (e:az)with
  |mk N r=>
   obtain⟨f,o⟩:=r;cases o with
   |false=>
    refine⟨(acc,(e:az)),?_,?_,by dsimp only;omega⟩
    ·simp only[U152.l3,U152.r3,K,k,u,au,bH,bw]
    ·by_cases i:(e:az)<(t.size:az)
     ·simp only[l5,r5,P,k,aA i,au,bH,bw]
     ·simp only[l5,r5,aD i,ax,bw]
   |true=>
    obtain⟨q1,q2,q3,q4,q5,q6⟩:=h_ k;have i:ah ((e:az)<(t.size:az))=true:=aA (by omega);have w1:bA (N+4)=N+4:=c6 (by omega) (by omega);have M:bA ((t.size:az)-f)=(t.size:az)-f:=c6 (by omega) (by omega);have w3:bA ((t.size:az)-f-4)=(t.size:az)-f-4:=c6 (by omega) (by omega);have w4:bA (f+4)=f+4:=c6 (by omega) (by omega);have X:bA (f+4+N)=f+4+N:=c6 (by omega) (by omega);by_cases C:N+4>(t.size:az)-f
    ·have B:N>(t.size:az)-f-4:=by omega
     refine⟨(acc,(e:az)),?_,?_,by dsimp only;omega⟩
     ·cases A:ah (1<=N/\N<=9000)with
      |false=>simp only[U152.l3,U152.r3,K,k,u,mH,A,au,ax,aY,bH,bw]
      |true=>simp only[U152.l3,U152.r3,K,k,u,mH,A,w1,M,aA C,au,ax,aY,bw]
     ·simp only[l5,r5,P,k,i,M,w3,aA B,au,ax,aY,bw]
    ·have B:¬N>(t.size:az)-f-4:=by omega
     have V:gA (f+4) (f+4+N) (t.size:az)=true:=by simp[gA];omega
     have i2:gA f (f+4) (t.size:az)=true:=by simp[gA];omega
     have i3:gA (e:az) (f+4+N) (t.size:az)=true:=by simp[gA];omega
     have h9:(t.extract (f+4).toNat (f+4+N).toNat).size=N.toNat:=by rw[vQ];omega
     generalize y:t.extract (f+4).toNat (f+4+N).toNat=tx at h9;have O:=fI.ok tx;have Y:=vr.ok tx (by omega);by_cases A:1<=N/\N<=9000
     ·have H:fI.val tx=(fI.fr tx,ao):=by unfold fI.val;rw[bm (by omega)]
      have S:((tx.size:aN):az)=N:=by omega
      have h7:fI.fr tx=t.extract e f.toNat++pz.v (jT.su tx tx.size 0 4294967295)++tx:=by unfold fI.fr;rw[S,q6];rfl
      have ha:t.extract e (f+4+N).toNat=t.extract e f.toNat++t.extract f.toNat (f+4).toNat++tx:=by rw[<-y,oY t (by omega) (by omega),oY t (by omega) (by omega)]
      have j:cD (aF (fI.fr tx)) (aF (t.extract e (f+4+N).toNat))=cD (aF (pz.v (jT.su tx tx.size 0 4294967295))) (aF (t.extract f.toNat (f+4).toNat)):=by rw[h7,ha];exact cut _ _ _ _
      have U:b_ (acc.length+1) 16=true:=b6 (by omega) (by omega);cases hs:cD (aF (pz.v (jT.su tx tx.size 0 4294967295))) (aF (t.extract f.toNat (f+4).toNat))with
      |false=>
       rw[hs]at j;refine⟨(acc,(e:az)),?_,?_,by dsimp only;omega⟩
       ·simp only[U152.l3,U152.r3,K,k,u,mH,aA A,w1,M,w4,X,aD C,V,i2,y,Y.1,Y.2,hs,au,ax,aY,bH,bw]
       ·simp only[l5,r5,P,k,i,M,w3,w4,X,aD B,V,i3,y,O.1,O.2,H,dX,j,au,ax,aY,bH,bw]
      |true=>
       rw[hs]at j;obtain⟨a2,Q⟩:∃a2:aN,f+4+N=(a2:az):=⟨(f+4+N).toNat,by omega⟩
       obtain⟨R,g1,g2,g3⟩:=ih a2 (acc++[[CV.s tx]]) n m z (by omega) (by omega) (by rw[bU,bz];omega) (by omega) (by omega);refine⟨R,?_,?_,g3⟩
       ·simp only[U152.l3,U152.r3,K,k,u,mH,aA A,w1,M,w4,X,aD C,V,i2,y,Y.1,Y.2,hs,gO,bz,U,au,ax,aY,bw];rw[Q];exact g1
       ·simp only[l5,r5,P,k,i,M,w3,w4,X,aD B,V,i3,y,O.1,O.2,H,dX,j,gO,bz,U,au,ax,aY,bw];rw[Q];exact g2
     ·have H:fI.val tx=(⟨#[]⟩,aq):=by unfold fI.val;rw[bk (by omega)]
      refine⟨(acc,(e:az)),?_,?_,by dsimp only;omega⟩
      ·simp only[U152.l3,U152.r3,K,k,u,mH,aD A,au,ax,aY,bH,bw]
      ·simp only[l5,r5,P,k,i,M,w3,w4,X,aD B,V,y,O.1,O.2,H,au,ax,aY,bH,bw]
def same(t:ar):∃R:Row×az,(c t=ao/\v t=R)/\(U152.c t=ao/\U152.v t=R)/\R.1.length<=20000:=by
 by_cases f:t.size<=20000
 ·obtain⟨R,a,d,e⟩:=both t f t.size 0 [] cw cw 0 (by omega) (bB _) (bW _) eG eG;refine⟨R,out t ?_,U152.out t ?_,e⟩
  ·unfold vo b;rw[aD (show¬(t.size:az)>20000 by omega),ax];exact d
  ·unfold U152.vo U152.b;exact a
 ·refine⟨([],0),out t ?_,U152.out t ?_,bB _⟩
  ·unfold vo b;rw[aA (show(t.size:az)>20000 by omega)];rfl
  ·unfold U152.vo U152.b;have j:cw=18446744073709551615+1:=rfl;have:∀n,U152.l3 cw (λ(_:ar) (h:az) (i:Row)=>ai (i,h)) (n+1) t 0 (aR [Ck.s] 0)=ai ([],0):=by intro n;simp only[U152.l3,U152.r3,aD (show¬(t.size:az)<=20000 by omega),ax,bw];rfl
   exact this 18446744073709551615
end tg
namespace OH
def fs:aE ar->ar
 |[]=>⟨#[]⟩|x::r=>fI.fr x++fs r
def toL(a b:ar):(a++b).data.toList=a.data.toList++b.data.toList:=by simp[gJ]
def G8(x:ar):(fI.fr x).data.toList=(bytesOf (vb x.size)).data.toList++((pz.v (jT.su x x.size 0 4294967295)).data.toList++x.data.toList):=by unfold fI.fr;rw[toL,toL,cg]
def J9(x:ar):x.data.toList.length=x.size:=dM
def Stop(z:ar):Prop:=z=⟨#[]⟩\/∃(x:ar) (w:aE eJ),x.size<=9000/\(fI.fr x).data.toList=z.data.toList++w/\w≠[]
def o_(n:az):(pz.v n).size=4:=rfl
def vbl(n:az):(bytesOf (vb n)).data.toList.length=(vb n).length:=by rw[J9,Lib.ie]
def stop{t z:ar}{p:aN}(s:Stop z)(hp:p<=t.size)(hd:t.data.toList.drop p=z.data.toList){N a:az}(h:ea t p=(N,a,ao)):N+4>(t.size:az)-a:=by
 obtain⟨H,K,M,A,B,e⟩:=h_ h;have hl:t.size-p=z.size:=by have:=gu bD hd;rw[g_,J9,J9]at this;exact this
 rcases s with rfl|⟨x,w,C,i,hw⟩
 ·have:(⟨#[]⟩:ar).size=0:=rfl;omega
 ·-- the file's next bytes are the number's
  have f:(t.extract p a.toNat).data.toList=z.data.toList.take (a.toNat-p):=by rw[<-hd];simp[gl,iv,List.extract]
  rw[dX]at e;have u:a.toNat-p<=z.data.toList.length:=by rw[J9];omega
  have k:(fI.fr x).data.toList.drop 0=(bytesOf (vb N)).data.toList++(z.data.toList.drop (a.toNat-p)++w):=by rw[gz,i,e,f,<-cg,List.take_append_drop]
  have m:(fI.fr x).data.toList.drop 0=(bytesOf (vb x.size)).data.toList++((pz.v (jT.su x x.size 0 4294967295)).data.toList++x.data.toList):=by rw[gz,G8]
  have r1:=(j5.mF _ 0 N _ A B k).1;have r2:=(j5.mF _ 0 (x.size:az) _ (by omega) (by omega) m).1;rw[r1]at r2;obtain⟨o,hq⟩:=bX r2;have j:(vb N).length=a.toNat-p:=by have:=gu bD (gu (λy:ar=>y.data.toList) e);simp only[vbl,f,dG]at this;omega
  have d:=gu bD i;rw[G8,bU,bU,bU,vbl,J9,J9,J9,o_]at d;have r:1<=w.length:=by cases w with|nil=>exact cO rfl hw|cons=>simp
  subst o;omega
def go(t:ar)(ht:t.size<=20000)(z:ar)(hz:Stop z):∀(es:aE ar),(∀x∈es,1<=x.size/\x.size<=9000)->∀(p n:aN) (acc:Row),p<=t.size->acc.length<=p->t.data.toList.drop p=(fs es++z).data.toList->t.size-p<n->
  U152.l3 cw (λ(_:ar) (y4:az) (y5:Row)=>ai (y5,y4)) n t (p:az) acc=ai (acc++Lib.rs es,((p+(fs es).size:aN):az)):=by
 have B:∀a b,gq.v a b=ea a b:=λ_ _=>rfl;have d:ah ((t.size:az)<=20000)=true:=aA (by omega);intro es;induction es with
 |nil=>
  intro f p n acc hp ha hd hn;obtain⟨n,rfl⟩:∃O,n=O+1:=⟨n-1,by omega⟩
  have hd:t.data.toList.drop p=z.data.toList:=by rw[hd];unfold fs;rw[toL];rfl
  have V:acc++Lib.rs []=acc:=d_ _;have X:((p+(fs []).size:aN):az)=(p:az):=rfl;rw[V,X];cases h:ea t (p:az)with
  |mk N r=>
   obtain⟨S,o⟩:=r;cases o with
   |false=>simp only[U152.l3,U152.r3,B,h,d,au,bH,bw]
   |true=>
    have hs:=stop hz hp hd h;obtain⟨q1,q2,q3,q4,q5,q6⟩:=h_ h;have w1:bA (N+4)=N+4:=c6 (by omega) (by omega);have P:bA ((t.size:az)-S)=(t.size:az)-S:=c6 (by omega) (by omega);cases A:ah (1<=N/\N<=9000)with
    |false=>simp only[U152.l3,U152.r3,B,h,d,tg.mH,A,au,ax,aY,bH,bw]
    |true=>simp only[U152.l3,U152.r3,B,h,d,tg.mH,A,w1,P,aA hs,au,ax,aY,bw]
 |cons x es ih=>
  intro f p n acc hp ha hd hn;obtain⟨n,rfl⟩:∃O,n=O+1:=⟨n-1,by omega⟩
  have hx:=f x (by simp);have C:t.data.toList.drop p=(bytesOf (vb x.size)).data.toList++((pz.v (jT.su x x.size 0 4294967295)).data.toList++(x.data.toList++(fs es++z).data.toList)):=by rw[hd,show fs (x::es)=fI.fr x++fs es from rfl,toL,toL,G8,toL];simp only[cg]
  obtain⟨h,k⟩:=j5.mF t p (x.size:az) _ (by omega) (by omega) C;have K:(fI.fr x).size=(vb x.size).length+4+x.size:=by rw[<-J9,G8,bU,bU,vbl,J9,J9,o_];omega
  have e:=gu bD hd;rw[g_,J9,J9]at e;have j:(fs (x::es)++z).size=(fI.fr x).size+(fs es).size+z.size:=by rw[show fs (x::es)=fI.fr x++fs es from rfl,dL,dL]
  rw[j,K]at e;generalize hm:(vb (x.size:az)).length=m at*
  have x4:t.extract (p+m) (p+m+4)=pz.v (jT.su x x.size 0 4294967295):=by have:=j5.KL t _ (p+m) _ k;rwa[o_]at this
  have u:t.data.toList.drop (p+m+4)=x.data.toList++(fs es++z).data.toList:=by rw[<-v8,k,BI (by rw[J9,o_];omega),kC (by rw[J9,o_];omega),eR]
  have x5:t.extract (p+m+4) (p+m+4+x.size)=x:=j5.KL t x (p+m+4) _ u;have H:t.data.toList.drop (p+m+4+x.size)=(fs es++z).data.toList:=by rw[<-v8,u,BI (by rw[J9];omega),kC (by rw[J9];omega),eR]
  have i:=ih (λy hy=>f y (by simp[hy])) (p+m+4+x.size) n (acc++[[CV.s x]]) (by omega) (by simp;omega) H (by omega);have w1:bA ((x.size:az)+4)=(x.size:az)+4:=c6 (by omega) (by omega);have P:bA ((t.size:az)-((p+m:aN):az))=(t.size:az)-((p+m:aN):az):=c6 (by omega) (by omega);have w4:bA (((p+m:aN):az)+4)=((p+m+4:aN):az):=by rw[c6 (by omega) (by omega)];omega
  have w5:bA (((p+m+4:aN):az)+(x.size:az))=((p+m+4+x.size:aN):az):=by rw[c6 (by omega) (by omega)];omega
  have U:¬(x.size:az)+4>(t.size:az)-((p+m:aN):az):=by omega
  have i1:gA ((p+m+4:aN):az) ((p+m+4+x.size:aN):az) (t.size:az)=true:=by simp[gA];omega
  have i2:gA ((p+m:aN):az) ((p+m+4:aN):az) (t.size:az)=true:=by simp[gA];omega
  have Q:=vr.ok x (by omega);have M:b_ (acc.length+1) 16=true:=b6 (by omega) (by omega);simp only[U152.l3,U152.r3,B,h,d,tg.mH,aA (show 1<=(x.size:az)/\(x.size:az)<=9000 by omega),w1,P,w4,w5,aD U,i1,i2,dX,x4,x5,Q.1,Q.2,lT,gO,bz,M,au,ax,aY,bw];rw[i];have Y:acc++[[CV.s x]]++Lib.rs es=acc++Lib.rs (x::es):=by unfold Lib.rs;simp
  have e4:p+m+4+x.size+(fs es).size=p+(fs (x::es)).size:=by
   have:(fs (x::es)).size=(fI.fr x).size+(fs es).size:=by rw[show fs (x::es)=fI.fr x++fs es from rfl,dL]
   omega
  rw[Y,e4]
def ok(es:aE ar)(a:∀x∈es,1<=x.size/\x.size<=9000)(z:ar)(e:Stop z)(d:(fs es++z).size<=20000):
  (U152.c (fs es++z)=ao/\U152.v (fs es++z)=(Lib.rs es,((fs es).size:az)))/\(tg.c (fs es++z)=ao/\tg.v (fs es++z)=(Lib.rs es,((fs es).size:az))):=by
 have h1:=U152.out (fs es++z) (x:=(Lib.rs es,((fs es).size:az))) (by unfold U152.vo U152.b;have:=go (fs es++z) d z e es a 0 cw [] (bB _) (bB _) (by rw[gz]) eG;rw[bV,eR]at this;exact this);obtain⟨R,s1,f,_⟩:=tg.same (fs es++z);refine⟨h1,s1.1,?_⟩
 rw[s1.2,<-f.2,h1.2]
end OH
open OH (Stop)
namespace Cu
def wi(n a b:az):kP.v n a b=ah (a<=n/\n<=b):=fI.eL n a b
def ok(t:ar):c t=ao/\v t=fI.val t:=by
 refine out t ?_;unfold vo b fI.val bw kE;rw[wi];by_cases h:1<=t.size/\t.size<=9000
 ·have hs:=vr.ok t (by omega);have d:(bytesOf (vb (t.size:az))).size<=64:=iq (x:=(t.size:az)) (by omega);have a:n6.v (t.size:az)=(bytesOf (vb t.size),ao):=by unfold n6.v;rw[bm (by omega)]
  rw[aA (show(1:az)<=(t.size:az)/\(t.size:az)<=9000 by omega),bm h,hs.1,hs.2,a];simp(disch:=omega) only[aY,ax,au,cj,pz.size,G1];rfl
 ·rw[aD (show¬((1:az)<=(t.size:az)/\(t.size:az)<=9000)by omega),bk h];rfl
end Cu
namespace mP
def uC{k b:ar}{s l:az}(h:gU.v k s l b=ao):(jN.tu k s l b).size<=1000:=by have a:=gU.DT h;have d:(bytesOf (vb (k.size:az))).size<=64:=iq (x:=(k.size:az)) (by omega);have e:(bytesOf (vb s)).size<=64:=iq (x:=s) (by omega);have f:(bytesOf (vb l)).size<=64:=iq (x:=l) (by omega);unfold jN.tu;simp only[cj];omega
def Cc{k b:ar}{s l:az}(h:gU.v k s l b=ao):1<=(jN.tu k s l b).size:=by have a:=gU.DT h;unfold jN.tu;simp only[cj];omega
def val(k:ar)(s l:az)(b:ar):ar×aZ:=if gU.v k s l b=ao then(fI.fr (jN.tu k s l b),ao)else(⟨#[]⟩,aq)
def ok(k:ar)(s l:az)(a:ar):c k s l a=ao/\v k s l a=val k s l a:=by
 refine out k s l a ?_;have d:=Cu.ok (D9.v k s l a).1;unfold vo b val bw;rw[d.1,d.2];unfold D9.v jN.v fI.val;by_cases h:gU.v k s l a=ao
 ·have h1:=uC h;have h2:=Cc h;rw[bm h,bm h,bm (by dsimp only;omega)];rfl
 ·rw[bk h,bk h];rfl
end mP
namespace kV
def p(d:Row)(n:ar)(i:aN):aZ:=cD (aF (bn (av d i 0))) (aF n)
def ok(d:Row)(n:ar)(hl:d.length<=4294967296):c d n=ao/\v d n=fi (p d n) d.length 0:=by
 refine out d n ?_;unfold vo b;refine ox (p d n) d.length (λm (i:aN)=>l2 cw (λ(_:ar) (a _:az) (_:Row)=>ai a) (λ(_:ar) (_ _:az) (_:Row)=>ai (-1)) m n 0 (i:az) d) ai (λm i hi hp=> ?_) (λm i hi hp=> ?_) (λm=> ?_) cw eG
 ·unfold p at hp;simp only[l2,r2,dh,cm,dK,hi,aQ,aK,au,hp,bY]
 ·unfold p at hp;simp only[l2,r2,dh,cm,dK,hi,aQ,aK,au,hp,ax,cG hi (by omega:d.length<=9223372036854775807),bY]
 ·simp only[l2,r2,dh,bg,bc,ax,bY]
end kV
namespace ml
def val(d:Row)(n:ar):ar×aZ:=if fi (kV.p d n) d.length 0<0 then(⟨#[]⟩,aq)else(bn (av d (fi (kV.p d n) d.length 0).toNat 1),ao)
def DT(d:Row)(n:ar)(h:¬fi (kV.p d n) d.length 0<0):0<=fi (kV.p d n) d.length 0/\fi (kV.p d n) d.length 0<(d.length:az):=by
 rcases qK (kV.p d n) d.length 0 with ⟨h1,_⟩|⟨k,h1,h2,h3,_,_⟩
 ·rw[h1]at h;omega
 ·rw[h3];omega
def ok(d:Row)(n:ar)(hl:d.length<=4294967296):c d n=ao/\v d n=val d n:=by
 refine out d n ?_;have h:=kV.ok d n hl;unfold vo b val bY bw;rw[h.1,h.2,au];by_cases a:fi (kV.p d n) d.length 0<0
 ·rw[aA a,bm a];rfl
 ·have e:=DT d n a;rw[aD a,bk a,ax,aA e.1,aA e.2];rfl
end ml
namespace kj
def ok(r:Row)(hl:r.length<=4294967296):c r=ao/\v r=fT.val r:=by
 refine out r ?_;unfold vo b fT.val;have d:∀a b c,kP.v a b c=kI.v a b c:=λ_ _ _=>rfl
 have key:=j6 (fT.el r) r.length (λm (i:aN)=>l2 cw (λ(o:aZ) (_:Row) (_ _:az) (_:Row)=>ai o) (λ(_:aZ) (_:Row) (_ _:az) (k:Row)=>ai (ah ((k.length:az)<=30))) m aq r (r.length:az) (i:az) r) (ai aq) (ai (ah ((r.length:az)<=30)))
  (λm i hi hp=>by
   unfold fT.el at hp;simp only[aM]at hp;obtain⟨h1,h2,h3,h4⟩:=hp;have h3:ah (0<=bO (av r i (1+1))/\bO (av r i (1+1))<=((bn (av r i 1)).size:az))=true:=h3;have h2:ah (((bn (av r i 1)).size:az)>20000)=false:=by simpa using h2
   by_cases j:0<i
   ·have f:ah ((i:az)>0)=true:=aA (by omega);have e:i-1<r.length:=by omega
    have h:cf (aF (bn (av r (i-1) 0))) (aF (bn (av r i 0)))=true:=by
     rcases dN _ _▸h4 with q|q
     ·have:i=0:=by simpa using q
      omega
     ·exact q
    simp only[l2,r2,dh,hi,e,aQ,cm,aK,au,ax,dK,d,fT.mW,h1,h2,h3,h,f,fT.DH j (by omega),aY,cG hi (by omega:r.length<=9223372036854775807),bY]
   ·have f:ah ((i:az)>0)=false:=aD (by omega);simp only[l2,r2,dh,hi,aQ,cm,aK,au,ax,dK,d,fT.mW,h1,h2,h3,f,aY,cG hi (by omega:r.length<=9223372036854775807),bY])
  (λm i hi hp=>by
   unfold fT.el at hp;cases h1:ah (1<=((bn (av r i 0)).size:az)/\((bn (av r i 0)).size:az)<=8)with
   |false=>simp only[l2,r2,dh,hi,aQ,cm,aK,au,ax,dK,d,fT.mW,h1,bH,bY]
   |true=>
   cases h2:ah (((bn (av r i 1)).size:az)>20000)with
   |true=>simp only[l2,r2,dh,hi,aQ,cm,aK,au,ax,dK,d,fT.mW,h1,h2,aY,bY]
   |false=>
   cases h3:ah (0<=bO (av r i (1+1))/\bO (av r i (1+1))<=((bn (av r i 1)).size:az))with
   |false=>simp only[l2,r2,dh,hi,aQ,cm,aK,au,ax,dK,d,fT.mW,h1,h2,h3,aY,bH,bY]
   |true=>
   rw[h1,h2,show ah (0<=bO (av r i 2)/\bO (av r i 2)<=((bn (av r i 1)).size:az))=ao from h3,bH,bj,bj,bj]at hp;rw[iG]at hp;obtain⟨h4,h⟩:=hp;have j:0<i:=by
    have:¬i=0:=by simpa using h4
    omega
   have f:ah ((i:az)>0)=true:=aA (by omega);have e:i-1<r.length:=by omega
   simp only[l2,r2,dh,hi,e,aQ,cm,aK,au,ax,dK,d,fT.mW,h1,h2,h3,h,f,fT.DH j (by omega),aY,bH,bY])
  (λm=>by simp only[l2,r2,dh,bg,bc,ax,bY]) cw eG
 refine key.trans ?_;rw[show ah ((r.length:az)<=30)=ah (r.length<=30)from by rw[b7];omega];cases (c7 r.length).all (fT.el r)<;>cases ah (r.length<=30)<;>rfl
end kj
namespace sS
def ok(d:Row)(n:ar)(hl:d.length<=4294967296):c d n=ao/\v d n=fi (kV.p d n) d.length 0:=by
 refine out d n ?_;unfold vo b;refine ox (kV.p d n) d.length (λm (i:aN)=>l2 cw (λ(_:Row) (_:ar) (a _ _:az)=>ai a) (λ(_:Row) (_:ar) (_ _ _:az)=>ai (-1)) m d n 0 (d.length:az) (i:az)) ai (λm i hi hp=> ?_) (λm i hi hp=> ?_) (λm=> ?_) cw eG
 ·unfold kV.p at hp;simp only[l2,r2,dh,cm,dK,hi,aQ,aK,au,Kl.v,hp,bY]
 ·unfold kV.p at hp;simp only[l2,r2,dh,cm,dK,hi,aQ,aK,au,Kl.v,hp,ax,cG hi (by omega:d.length<=9223372036854775807),bY]
 ·simp only[l2,r2,dh,bg,bc,ax,bY]
end sS
namespace iy
def ok(d:Row)(n:ar)(hl:d.length<=4294967296):c d n=ao/\v d n=fi (kV.p d n) d.length 0:=by have h:=sS.ok d n hl;exact out d n (by unfold vo b bw;rw[h.1,h.2,au])
end iy
namespace tP
def ok(d:Row)(h:d.length<=1000000000):c d=ao/\v d=d:=by refine out d ?_;unfold vo b bw;rw[fa,b6 (by omega) (by omega)];rfl
end tP
namespace mQ
open dJ (without)
def ok(l:aE Fi)(n:ar)(hl:l.length<=1000000):c (rd l) n=ao/\v (rd l) n=rd (without l n):=by have h1:=tP.ok (rd l) (by rw[eA];omega);have h2:=xO.ok (rd l) n (dJ.ahk l) (by rw[eA];omega);exact out _ _ (by unfold vo b bw;rw[h1.1,h1.2,h2.1,h2.2,dJ.akS];rfl)
end mQ
namespace lu
open dJ (without put)
def nw(n t:ar)(k:az):aE CV:=[CV.s n,CV.s t,CV.i ak k]
def pn(n:ar)(y:aE CV):aZ:=cf (aF (bn (y.getD 0 (.b aq)))) (aF n)
def ok(l:aE Fi)(n t:ar)(k:az)(hs:V6 l)(hl:l.length<=1000000):c (rd l) n t k=ao/\v (rd l) n t k=rd (put l ⟨n,t,k⟩):=by
 refine out _ _ _ _ ?_;have hd:=mQ.ok l n hl;unfold vo b bw;rw[hd.1,hd.2,au];have f:=dJ.L6 l n;have H:(without l n).filter (λx=>iB.fU x.n n)=l.filter λx=>iB.fU x.n n:=by
  unfold without;rw[pV];apply ld;intro y _;by_cases h:y.n=n
  ·rw[h,dJ.irrefl];rfl
  ·rw[aD h];simp
 have K:(without l n).filter (λx=> !iB.fU x.n n)=l.filter λx=> !(iB.fU x.n n||decide (x.n=n)):=by unfold without;rw[pV];apply ld;intro y _;cases iB.fU y.n n<;>cases ah (y.n=n)<;>rfl
 have d:=Lib.Aw (λx:Fi=>iB.fU x.n n) (λx=> !iB.fU x.n n) (without l n) (λ_ _=>rfl) ((dJ.acU hs n).imp λ{y z} j O=>fZ.pB _ _ _ j O);rw[H,K]at d;generalize without l n=o at f d
 have:=uA (pn n) (rd o) (λm (i:aN)=>l3 cw (λ(r:az) (A B:ar) (C:az) (u:Row)=>bif(ah (0<=r)&&ah (r<=(↑(bD u):az))&&b_ (bD u+bD (aC (aR [Ck.s,Ck.s,Ck.i ak] 1) 0 [CV.s A,CV.s B,CV.i ak C])) 40)then(ai (Pu.uh u (aP r) (aC (aR [Ck.s,Ck.s,Ck.i ak] 1) 0 [CV.s A,CV.s B,CV.i ak C])))else(ay)) m (i:az) n t k (rd o))
  (λa=>bif ah ((a:az)<=((rd o).length:az))then ai (Pu.uh (rd o) a [nw n t k])else ay)
  (λm i h hp=>by
   have e:cf (aF (bn (av (rd o) i 0))) (aF n)=true:=by rw[dB h];exact hp
   simp only[l3,r3,dh,h,aQ,cm,aK,au,dK,e,cG h (by rw[eA];omega:(rd o).length<=9223372036854775807),bY])
  (λm i h hp=>by
   have e:cf (aF (bn (av (rd o) i 0))) (aF n)=false:=by rw[dB h];exact hp
   simp only[l3,r3,dh,h,aQ,cm,aK,bj,gE,au,ax,dK,e,gO,bz,b6 (n:=(rd o).length+1) (b:=40) (by rw[eA];omega) (by rw[eA];omega),bY,bw];rfl)
  (λm=>by simp only[l3,r3,dh,bg,bc,aQ,cm,aK,bj,gE,au,ax,dK,gO,bz,b6 (n:=(rd o).length+1) (b:=40) (by rw[eA];omega) (by rw[eA];omega),bY,bw];rfl) cw (mX (by rw[eA];omega))
 refine this.trans ?_;have N:=FD (pn n) (rd o);rw[jz,au];unfold Pu.uh;rw[yJ,xW];have M:pn n∘Fi.row=λx:Fi=>iB.fU x.n n:=rfl;unfold Lib.rd;rw[OU,OS,M,d.1,d.2];unfold put;rw[cT,cT];rfl
end lu
namespace sf
open dJ (without put act)
def res(o:aG (aE Fi)):Row×aZ:=match o with|some d=>(rd d,ao)|none=>([],aq)
def find(l:aE Fi)(n:ar):(fi (kV.p (rd l) n) l.length 0= -1/\l.find? (λx=>ah (x.n=n))=ay)\/∃i,i<l.length/\fi (kV.p (rd l) n) l.length 0=(i:az)/\l.find? (λx=>ah (x.n=n))=ai (el l i):=by
 have hq:∀i (hi:i<l.length),kV.p (rd l) n i=ah (l[i].n=n):=λi hi=>by unfold kV.p;rw[Jv hi];exact eP
 rcases qK (kV.p (rd l) n) l.length 0 with ⟨e,d⟩|⟨k,_,hk,e,hp,f⟩
 ·refine .inl ⟨e,V1.2 λx m=> ?_⟩;obtain⟨i,hi,rfl⟩:=dW m;rw[<-hq i hi,d i (by omega) (by omega)];simp
 ·have a:k<l.length:=by omega
  refine .inr ⟨k,a,e,?_⟩;rw[Bb];exact⟨by rw[e7 a,<-hq k a];exact hp,k,a,(e7 a).symm,λj h=>by rw[<-hq j (by omega),f j (by omega) h];rfl⟩
def Yt(d:aE Fi)(h:d.length<=1000000):kj.c (rd d)=ao/\kj.v (rd d)=vO d:=kj.ok (rd d) (by rw[eA];omega)
def R5(k:az)(n t o:ar):Kj.v k n t o=dJ.km k t o:=by
 unfold Kj.v dJ.km kP.v;rw[eP,eP];by_cases h1:1<=k
 ·by_cases h2:k<=4
  ·rw[aA h1,aA h2,aA (⟨h1,h2⟩:1<=k/\k<=4)];cases ah (t=⟨#[]⟩)<;>cases ah (o=⟨#[]⟩)<;>cases ah (k=1)<;>cases ah (k=3)<;>rfl
  ·rw[aA h1,aD h2,aD (show¬(1<=k/\k<=4)by omega)];rfl
 ·rw[aD h1,aD (show¬(1<=k/\k<=4)by omega)];rfl
def ok(l:aE Fi)(k:az)(n t o:ar)(hl:l.length<=1000)(Q:t.size<=2305843009213693952):c (rd l) k n t o=ao/\v (rd l) k n t o=res (act l k n t o):=by
 refine out _ _ _ _ _ ?_;unfold vo b h0 bw bY kE;have h1:=iy.ok (rd l) n (by rw[eA];omega);have h2:=Yt l (by omega);rw[h1.1,h1.2,h2.1,h2.2,R5,au,au,eA];unfold act;cases hk:vO l with
 |false=>rfl
 |true=>
 rw[aY,ax,bj];obtain⟨S,N,s⟩:=lB.1 hk;cases z:dJ.km k t o with
 |false=>rfl
 |true=>
 rw[aY,ax,au];have K:1<=k/\k<=4:=by unfold dJ.km at z;rw[aM]at z;exact cB z.1
 have x:=λ(m:aE Fi) (hm:V6 m) (M:m.length<=1000) (n t:ar) (k:az)=>lu.ok m n t k hm (by omega);have u:=mQ.ok l n (by omega);have O:=dJ.L6 l n;have pl:=λ(m:aE Fi) (f:Fi) (hm:m.length<=1000)=>Yt (put m f) (ca (dJ.sF f) (by omega));have fin:∀d:aE Fi,(bif !vO d then ai (([]:Row),aq)else ai (rd d,ao))=ai (res (bif vO d then ai d else ay)):=λd=>by cases vO d<;>rfl
 unfold Jk;rcases find l n with ⟨y,r⟩|⟨i,hi,y,r⟩
 ·rw[y,r];by_cases a:k=1
  ·subst a;have p:=x l s hl n (⟨#[]⟩++t) 0;have d:=pl l ⟨n,⟨#[]⟩++t,0⟩ hl;have C:(⟨#[]⟩:ar)++t=t:=lO;rw[show ah ((-1:az)<0)=ao from rfl,show ah ((-1:az)≥0)=aq from rfl,show((1:az) !=1)=aq from rfl,au,ax,ax,aA (show(1:az)=1 from rfl),au,aA (show(⟨#[]⟩:ar).size+t.size<=4611686018427387904 from by rw[show(⟨#[]⟩:ar).size=0 from rfl];omega),au,p.1,p.2,au,d.1,d.2,au,fin,C];rfl
  ·rw[show ah ((-1:az)<0)=ao from rfl,au,show(k !=1)=ao from bne_iff_ne.2 a,au,bk a];rfl
 ·have P:(el l i).n=n:=by have:=FY r;exact cB this
  have H:((el l i).t.size:az)<=20000:=by have:=N _ (iY hi);unfold dJ.nN at this;simp only[aM,ba,di,eZ]at this;omega
  rw[y,r,aD (show¬((i:aN):az)<0 by omega),aA (show((i:aN):az)≥0 by omega),ax,au];simp only[dh,hi,aQ,dK,wd0 hi,wd1 hi,wd2 hi,bn,bO,aK,bj,au];by_cases a:k=1
  ·subst a;have p:=x l s hl (el l i).n ((el l i).t++t) (el l i).kp;have d:=pl l ⟨(el l i).n,(el l i).t++t,(el l i).kp⟩ hl;rw[aA (show(1:az)=1 from rfl),au,aA (show(el l i).t.size+t.size<=4611686018427387904 by omega),au,p.1,p.2,au,d.1,d.2,au,fin];rfl
  rw[aD a,ax,bk a];by_cases A:k=2
  ·subst A;have p:=x l s hl (el l i).n (el l i).t ((el l i).t.size:az);have d:=pl l ⟨(el l i).n,(el l i).t,((el l i).t.size:az)⟩ hl;rw[aA (show(2:az)=2 from rfl),au,p.1,p.2,au,d.1,d.2,au,fin];rfl
  rw[aD A,ax,bk A];by_cases B:k=3
  ·subst B;rw[aA (show(3:az)=3 from rfl),au,bm rfl];by_cases e:(el l i).kp=((el l i).t.size:az)
   ·rw[show((el l i).kp !=((el l i).t.size:az))=aq from by simp[e],ax,eP];by_cases j:o=n
    ·rw[aA j,au,bm (.inr j)];rfl
    ·have p:=x (without l n) (dJ.acU s n) (by omega) o (el l i).t (el l i).kp;have d:=pl (without l n) ⟨o,(el l i).t,(el l i).kp⟩ (by omega);rw[aD j,ax,u.1,u.2,au,p.1,p.2,au,d.1,d.2,au,fin,bk (by rintro (h|h);exact h e;exact j h)]
   ·rw[show((el l i).kp !=((el l i).t.size:az))=ao from bne_iff_ne.2 e,au,bm (.inl e)];rfl
  rw[aD B,ax,bk B];have d:=Yt (without l n) (by omega);rw[u.1,u.2,au,d.1,d.2,au,fin]
end sf
namespace xG
def ok(l:Row)(hl:l.length<=4294967296):c l=ao/\v l=l:=by refine out l ?_;unfold vo b bw;rw[show bD (aR [Ck.s,Ck.i ak,Ck.i ak,Ck.s] 0)+l.length=l.length by simp[aR],b6 (by omega) (by omega)];rfl
end xG
namespace DQ
def ok(l:Row)(k:ar)(a:l.all pr.cn=ao)(hl:l.length<=4294967296):c l k=ao/\v l k=l.filter (pr.keep k):=by have h1:=xG.ok l hl;have h2:=pr.ok l k a hl;exact out l k (by unfold vo b bw;rw[h1.1,h1.2,h2.1,h2.2,au,au])
end DQ
namespace vk
def Aw(p q:aE CV->aZ):∀r:Row,(∀y∈r,q y= !p y)->r.Pairwise (λy z=>p z=ao->p y=ao)->r.takeWhile p=r.filter p/\r.dropWhile p=r.filter q
 |[],_,_=>⟨rfl,rfl⟩
 |y::r,hq,h=>by
  rw[qT]at h;have e:=hq y (by simp);cases hp:p y with
  |true=>rw[hp]at e;obtain⟨j,k⟩:=Aw p q r (λz a=>hq z (by simp[a])) h.2;rw[qA hp,dI hp,List.dropWhile_cons_of_pos hp,cM (by rw[e];simp),j,k];exact⟨rfl,rfl⟩
  |false=>
   rw[hp]at e;have d:¬p y=true:=by rw[hp];simp
   have i:∀z∈r,p z=false:=λz a=>by
    cases f:p z with
    |false=>rfl
    |true=>exact cO (h.1 z a f) d
   rw[qz d,cM d,List.dropWhile_cons_of_neg d,dI (by rw[e];rfl)];refine⟨?_,?_⟩
   ·symm;rw[List.filter_eq_nil_iff];intro z a;rw[i z a];simp
   ·congr 1;symm;rw[ka];intro z a;rw[hq z (by simp[a]),i z a];rfl
def adG{r:Row}(h:∀y∈r,fZ.cr y=y):r.all pr.cn=true:=by rw[bE];intro y a;rw[<-h y a];rfl
def ok(r:Row)(k:ar)(s l:az)(t:ar)(x:fZ.Or r)(hl:r.length<=1048576):c r k s l t=ao/\v r k s l t=fZ.val r k s l t:=by
 refine out r k s l t ?_;have hd:=DQ.ok r k (adG x.2) (by omega);unfold vo b bw;rw[hd.1,au,hd.2];have A:(r.filter (pr.keep k)).length<=r.length:=eD _ _;have d:∀y,pr.keep k y= !List.beq (fZ.key y) (aF k):=λ_=>rfl;have f:=Aw (fZ.pl k) (fZ.pg k) (r.filter (pr.keep k)) (λy Q=>by
  have h2:=(dp.1 Q).2;rw[d]at h2;have h3:cD (fZ.key y) (aF k)=false:=by simpa using h2
  unfold fZ.pg fZ.pl;rw[h3,Bool.or_false]) ((x.1.sublist jS).imp (λ{y z} B S=>fZ.pB _ _ _ B S))
 have H:(r.filter (pr.keep k)).filter (fZ.pl k)=r.filter (fZ.pl k):=by
  rw[pV];apply ld;intro y _;cases h:fZ.pl k y with
  |false=>rfl
  |true=>
   rw[d,bj];cases h2:cD (fZ.key y) (aF k)with
   |false=>rfl
   |true=>exfalso;have h3:=beq_iff.1 h2;unfold fZ.pl at h;rw[h3,fZ.o8]at h;cases h
 have K:(r.filter (pr.keep k)).filter (fZ.pg k)=r.filter (fZ.pg k):=by rw[pV];apply ld;intro y _;rw[d];unfold fZ.pg;cases cD (fZ.key y) (aF k)<;>cases cf (fZ.key y) (aF k)<;>rfl
 generalize r.filter (pr.keep k)=o at A f H K
 have:=uA (fZ.pl k) o (λm (i:aN)=>l3 cw (λ(C:az) (M:ar) (N O:az) (u:ar) (j:Row)=>bif(ah (0<=C)&&ah (C<=(↑(bD j):az))&&b_ (bD j+bD (aC (aR [Ck.s,Ck.i ak,Ck.i ak,Ck.s] 1) 0 [CV.s M,CV.i ak N,CV.i ak O,CV.s u])) 48)then(ai (Pu.uh j (aP C) (aC (aR [Ck.s,Ck.i ak,Ck.i ak,Ck.s] 1) 0 [CV.s M,CV.i ak N,CV.i ak O,CV.s u])))else(ay)) m (i:az) k s l t o)
  (λa=>bif ah ((a:az)<=(o.length:az))then ai (Pu.uh o a [fZ.nw k s l t])else ay)
  (λm i h hp=>by
   have e:cf (aF (bn (av o i 0))) (aF k)=true:=by rw[dB h];exact hp
   simp only[l3,r3,dh,h,aQ,cm,aK,au,dK,e,cG h (by omega:o.length<=9223372036854775807),bY])
  (λm i h hp=>by
   have e:cf (aF (bn (av o i 0))) (aF k)=false:=by rw[dB h];exact hp
   simp only[l3,r3,dh,h,aQ,cm,aK,bj,gE,au,ax,dK,e,gO,bz,b6 (n:=o.length+1) (b:=48) (by omega) (by omega),bY,bw];rfl)
  (λm=>by simp only[l3,r3,dh,bg,bc,aQ,cm,aK,bj,gE,au,ax,dK,gO,bz,b6 (n:=o.length+1) (b:=48) (by omega) (by omega),bY,bw];rfl) cw eG
 refine this.trans ?_;have P:=FD (fZ.pl k) o;rw[jz,au];unfold Pu.uh fZ.val;rw[yJ,xW,f.1,f.2,H,K,fZ.Hh x.2,fZ.Hh x.2]
end vk
namespace vj
def ok(d:Row)(n:ar)(hl:d.length<=4294967296):c d n=ao/\v d n=ml.val d n:=by
 refine out d n ?_;have h:=iy.ok d n hl;unfold vo b ml.val bY bw;rw[h.1,h.2,au];by_cases a:fi (kV.p d n) d.length 0<0
 ·rw[aA a,bm a];rfl
 ·have e:=ml.DT d n a;rw[aD a,bk a,ax,aA e.1,aA e.2];rfl
end vj
namespace tf
def nm:ar:=(aw #[aj 107,aj 101,aj 112,aj 116])
def both(a:Row)(K:a.length<=20000):∀(d i:aN) (o:Row) (n m:aN),a.length-i<=d->i<=a.length->fZ.Or o->o.length<=i->d<n->d<m->
  ∃L:Row,U101.l7 cw (λ(_ _:az) (H:Row) (_:Row)=>ai H) n (a.length:az) (i:az) o a=ai L/\l7 cw (λ(_:az) (C _:Row)=>ai C) m (i:az) o a=ai L/\fZ.Or L/\L.length<=20000:=by
 have x:∀t,wh.v t=j5.v t:=λ_=>rfl;intro d;induction d with
 |zero=>
  intro i o n m h1 h2 h h3 h4 A;obtain⟨n,rfl⟩:∃u,n=u+1:=⟨n-1,by omega⟩
  obtain⟨m,rfl⟩:∃s,m=s+1:=⟨m-1,by omega⟩
  have e:ah ((i:az)<(a.length:az))=false:=aD (by omega);exact⟨o,by simp only[U101.l7,U101.r7,e,ax,bY,bw,cq,p8],by simp only[l7,r7,e,ax,bY,bw,cq,p8],h,by omega⟩
 |succ d ih=>
  intro i o n m h1 h2 h h3 h4 A;obtain⟨n,rfl⟩:∃u,n=u+1:=⟨n-1,by omega⟩
  obtain⟨m,rfl⟩:∃s,m=s+1:=⟨m-1,by omega⟩
  by_cases hi:i<a.length
  ·have hw:bA ((i:az)+1)=((i+1:aN):az):=c6 (by omega) (by omega);cases f:(j5.v (bn (av a i 0))).2.2.2.2 with
   |false=>
    obtain⟨L,j,k,r,g4⟩:=ih (i+1) o n m (by omega) hi h (by omega) (by omega) (by omega);refine⟨L,?_,?_,r,g4⟩
    ·simp only[U101.l7,U101.r7,dh,hi,aQ,cm,aK,au,dK,x,f,ax,hw,bY,bw,cq,p8];exact j
    ·simp only[l7,r7,dh,hi,aQ,cm,aK,au,dK,f,ax,hw,bY,bw,cq,p8];exact k
   |true=>
    have y:=fZ.ok o (j5.v (bn (av a i 0))).1 (j5.v (bn (av a i 0))).2.1 (j5.v (bn (av a i 0))).2.2.1 (j5.v (bn (av a i 0))).2.2.2.1 (by omega);have z:=vk.ok o (j5.v (bn (av a i 0))).1 (j5.v (bn (av a i 0))).2.1 (j5.v (bn (av a i 0))).2.2.1 (j5.v (bn (av a i 0))).2.2.2.1 h (by omega);have B:=fZ.yl h (j5.v (bn (av a i 0))).1 (j5.v (bn (av a i 0))).2.1 (j5.v (bn (av a i 0))).2.2.1 (j5.v (bn (av a i 0))).2.2.2.1;obtain⟨L,j,k,r,g4⟩:=ih (i+1) _ n m (by omega) hi B.1 (by omega) (by omega) (by omega);refine⟨L,?_,?_,r,g4⟩
    ·simp only[U101.l7,U101.r7,dh,hi,aQ,cm,aK,au,dK,x,f,z.1,z.2,hw,bY,bw,cq,p8];exact j
    ·simp only[l7,r7,dh,hi,aQ,cm,aK,au,dK,f,y.1,y.2,hw,bY,bw,cq,p8];exact k
  ·have e:ah ((i:az)<(a.length:az))=false:=aD (by omega);exact⟨o,by simp only[U101.l7,U101.r7,e,ax,bY,bw,cq,p8],by simp only[l7,r7,e,ax,bY,bw,cq,p8],h,by omega⟩
def same(d:Row)(hd:d.length<=1048576):∃L:Row,(c d=ao/\v d=L)/\(U101.c d=ao/\U101.v d=L)/\(∀y∈L,y.length=4)/\L.length<=20000:=by
 have f:=fT.ok d (by omega);have h:=kj.ok d (by omega);cases e:fT.val d with
 |false=>
  refine⟨[],out d ?_,U101.out d ?_,λy a=>(by cases a),bB _⟩
  ·unfold vo b bw;rw[f.1,f.2,e];rfl
  ·unfold U101.vo U101.b bw;rw[h.1,h.2,e];rfl
 |true=>
  have i:=ml.ok d nm (by omega);have k4:=vj.ok d nm (by omega);obtain⟨R,j,k,s⟩:=tg.same (ml.val d nm).1;obtain⟨L,m,o,r,g4⟩:=both R.1 s R.1.length 0 [] cw cw (by omega) (bB _) ⟨hZ,λy a=>(by cases a)⟩ (bB _) eG eG;refine⟨L,out d ?_,U101.out d ?_,λy a=>(by rw[<-r.2 y a];rfl),g4⟩
  ·unfold nm at i j;unfold vo b bw;rw[f.1,f.2,e,au,aY,ax,i.1,au,i.2,j.1,au,j.2];exact o
  ·unfold nm at k4 k;unfold U101.vo U101.b bw;rw[h.1,h.2,e,au,aY,ax,k4.1,au,k4.2,k.1,au,k.2];exact m
end tf
namespace J6
def kept:ar:=(aw #[aj 107,aj 101,aj 112,aj 116])
def ko(f:ar):Row:=[[CV.i ak 1,CV.s kept,CV.s f,CV.s (aw #[])],[CV.i ak 2,CV.s kept,CV.s (aw #[]),CV.s (aw #[])]]
def val(k:ar)(s l:az)(b:ar):Row×aZ:=if gU.v k s l b=ao then(ko (fI.fr (jN.tu k s l b)),ao)else([],aq)
def ok(k:ar)(s l:az)(a:ar):c k s l a=ao/\v k s l a=val k s l a:=by
 refine out k s l a ?_;have d:=mP.ok k s l a;unfold vo b val bw;rw[d.1,d.2];unfold mP.val;by_cases h:gU.v k s l a=ao
 ·rw[bm h,bm h];rfl
 ·rw[bk h,bk h];rfl
end J6
namespace iV
open dJ (act ko put without nN)
open OH (fs)
abbrev ru:ar:=(aw #[aj 107,aj 101,aj 112,aj 116])
def tu(e:En):ar:=jN.tu e.k e.st e.li e.bo
def H7(e:En):aZ:=gU.v e.k e.st e.li e.bo
def I6(e:En):ar:=fI.fr (tu e)
def tx(es:aE En):ar:=fs (es.map tu)
def kp(es:aE En):aE En:=es.foldl qO []
def adT(a b:aE ar):fs (a++b)=fs a++fs b:=by
 induction a with
 |nil=>exact lO.symm
 |cons x a ih=>rw[gG];show fI.fr x++fs (a++b)=fI.fr x++fs a++fs b;rw[ih,cY]
def YS(es:aE En)(e:En):tx (es++[e])=tx es++I6 e:=by unfold tx;rw[cT,adT];show fs (es.map tu)++(fI.fr (tu e)++⟨#[]⟩)=_;rw[show(⟨#[]⟩:ar)=HY from rfl,qQ];rfl
def YT(h:H7 e=ao):1<=(tu e).size/\(tu e).size<=1000:=⟨mP.Cc h,mP.uC h⟩
def Ar(h:So en)(e:En):So (qO en e):=by have:=(fZ.yl (iB.AY h) e.k e.st e.li e.bo).1.1;rw[iB.sG]at this;unfold Lib.re at this;rw[kM]at this;exact this
def qs:x∈qO en e↔x=e\/(x∈en/\x.k≠e.k):=by
 unfold qO;simp only[a_,dp,a7,di,iG,eZ];constructor
 ·rintro ((⟨h1,h2⟩|rfl)|⟨h1,h2⟩)
  ·refine .inr ⟨h1,λa=> ?_⟩;rw[a]at h2;unfold fU at h2;rw[fZ.o8]at h2;cases h2
  ·exact .inl rfl
  ·exact .inr ⟨h1,h2.2⟩
 ·rintro (rfl|⟨h1,h2⟩)
  ·exact .inl (.inr rfl)
  ·cases hl:fU x.k e.k with
   |true=>exact .inl (.inl ⟨h1,rfl⟩)
   |false=>exact .inr ⟨h1,rfl,h2⟩
def aec(h:x∈kp es):x∈es:=by
 have:∀(es o:aE En),x∈es.foldl qO o->x∈o\/x∈es:=by
  intro es;induction es with
  |nil=>intro o h;exact .inl h
  |cons e es ih=>
   intro o h;rcases ih _ h with h|h
   ·rcases qs.1 h with rfl|h
    ·exact .inr (by simp)
    ·exact .inl h.1
   ·exact .inr (by simp[h])
 rcases this es [] h with h|h
 ·cases h
 ·exact h
def K_(es:aE En):(kp es).length<=es.length:=by
 have:∀(es o:aE En),So o->(es.foldl qO o).length<=o.length+es.length:=by
  intro es;induction es with
  |nil=>intro o h;exact bW _
  |cons e es ih=>intro o h;have:=ih _ (Ar h e);have:=iB.sF o e h;simp only[pk,bT];omega
 have:=this es [] hZ;rw[jU,bV]at this;exact this
def fileAt(d:aE Fi)(n:ar):ml.val (rd d) n=match d.find? (λx=>ah (x.n=n))with|some f=>(f.t,ao)|none=>(⟨#[]⟩,aq):=by
 unfold ml.val;rw[eA];rcases sf.find d n with ⟨a,e⟩|⟨i,hi,a,e⟩
 ·rw[a,e];rfl
 ·rw[a,e,bk (by omega),dX,wd1 hi];rfl
def aoc(es:aE En)(r:∀e∈es,H7 e=ao)(hl:es.length<=20000):∀(d i n:aN) (o:aE En),es.length-i<=d->i<=es.length->So o->o.length<=i->d<n->
  U101.l7 cw (λ(_ _:az) (u:Row) (_:Row)=>ai u) n (es.length:az) (i:az) (re o) (rs (es.map tu))=ai (re ((es.drop i).foldl qO o)):=by
 have j:∀t,wh.v t=j5.v t:=λ_=>rfl;intro d;induction d with
 |zero=>
  intro i n o h1 h2 a h3 m;obtain⟨n,rfl⟩:∃h,n=h+1:=⟨n-1,by omega⟩
  have:i=es.length:=by omega
  subst this;simp only[U101.l7,U101.r7,dh,bg,bc,ax,c_,ve,bY,bw,cq,p8]
 |succ d ih=>
  intro i n o h1 h2 a h3 m;obtain⟨n,rfl⟩:∃h,n=h+1:=⟨n-1,by omega⟩
  by_cases hi:i<es.length
  ·have f:i<(es.map tu).length:=by simpa using hi
   have hk:=r _ (bF hi);have s:j5.v (tu es[i])=(es[i].k,es[i].st,es[i].li,es[i].bo,ao):=j5.enc _ _ _ _ hk;have hp:=vk.ok (re o) es[i].k es[i].st es[i].li es[i].bo (iB.AY a) (by rw[dC];omega);rw[iB.sG o es[i]]at hp;have hg:(es.map tu)[i]=tu es[i]:=by simp
   simp only[U101.l7,U101.r7,dh,hi,Lib.cL,bK,aQ,cm,aK,au,dK,VI f,hg,bn,j,s,hp.1,hp.2,cG hi (by omega:es.length<=9223372036854775807),bY,bw,cq,p8];rw[cJ hi,pk];exact ih (i+1) n _ (by omega) hi (Ar a _) (by have:=iB.sF o es[i] a;omega) (by omega)
  ·have:i=es.length:=by omega
   subst this;simp only[U101.l7,U101.r7,dh,bg,bc,ax,c_,ve,bY,bw,cq,p8]
def fk(d:aE Fi)(es:aE En)(z:ar)(hd:vO d=ao)(j:(ml.val (rd d) ru).1=tx es++z)(i:∀e∈es,H7 e=ao)(o:Stop z):
  (U101.c (rd d)=ao/\U101.v (rd d)=re (kp es))/\(tf.c (rd d)=ao/\tf.v (rd d)=re (kp es)):=by
 obtain⟨y,r,A⟩:=lB.1 hd;have hs:(tx es++z).size<=20000:=by
  rw[<-j,fileAt];cases h:d.find? (λx=>ah (x.n=ru))with
  |none=>exact bB _
  |some f=>have:=r f (qS h);unfold nN at this;simp only[aM,ba,di,eZ]at this;show f.t.size<=20000;omega
 have hl:es.length<=20000:=by
  have:∀es:aE En,es.length<=(tx es).size:=by
   intro es;induction es with
   |nil=>exact bW _
   |cons e es ih=>
    have:(tx (e::es)).size=(I6 e).size+(tx es).size:=dL;have h2:4<=(I6 e).size:=by unfold I6 fI.fr;rw[dL,dL,OH.o_];omega
    rw[this,bT];omega
  have h2:=this es;rw[dL]at hs;omega
 have u:=OH.ok (es.map tu) (λx m=>by obtain⟨e,h,rfl⟩:=cU.1 m;have:=YT (i e h);omega) z o hs;have k:=sf.Yt d (by omega);have k4:=vj.ok (rd d) ru (by rw[eA];omega);have h1:=U101.out (rd d) (x:=re (kp es)) (by unfold U101.vo U101.b bw;rw[k.1,k.2,hd,au,aY,ax,k4.1,au,k4.2,j];have a:=u.1;rw[show fs (es.map tu)=tx es from rfl]at a;rw[a.1,au,a.2];dsimp only;rw[Lib.cL,bK];have:=aoc es i hl es.length 0 cw [] (by omega) (bB _) hZ (bB _) eG;rw[gz]at this;exact this);obtain⟨L,s1,s,_⟩:=tf.same (rd d) (by rw[eA];omega);refine⟨h1,s1.1,?_⟩
 rw[s1.2,<-s.2,h1.2]
def base:aG ar->aE Fi
 |none=>[]|some t=>[⟨ru,t,t.size⟩]
def bt:aG ar->ar|none=>⟨#[]⟩|some t=>t
def rk(f:ar):aE Ac:=[⟨1,ru,f,⟨#[]⟩⟩,⟨2,ru,⟨#[]⟩,⟨#[]⟩⟩]
def ok1(f:Fi):vO [f]=nN f:=by
 cases h:nN f with
 |true=>exact lB.2 ⟨by simp,λg hg=>by rw[a7.1 hg];exact h,by unfold dJ.V6;simp⟩
 |false=>
  cases h2:vO [f]with
  |false=>rfl
  |true=>have:=(lB.1 h2).2.1 f (by simp);rw[h]at this;cases this
def adS(t:ar)(k:az)(h1:t.size<=20000)(h2:0<=k/\k<=(t.size:az)):nN ⟨ru,t,k⟩=true:=by unfold nN;have:((ru.size:aN):az)=4:=rfl;rw[this,jz,aA h2,aD (by dsimp only;omega)];rfl
def uN(h:(bt o).size<=20000):vO (base o)=true:=by
 cases o with
 |none=>exact lB.2 ⟨bB _,⟨λf a=>(by cases a),hZ⟩⟩
 |some t=>exact(ok1 _).trans (adS t _ h ⟨by omega,by omega⟩)
def yr(h:g.n=f.n):put [g] f=[f]:=by unfold put;rw[cM (by rw[h,dJ.irrefl];simp),cM (by simp[h])];rfl
def adp(h:(bt o).size+f.size<=20000):act (base o) 1 ru f ⟨#[]⟩=ai [⟨ru,bt o++f,(bt o).size⟩]:=by
 unfold act;rw[uN (by omega),show dJ.km 1 f ⟨#[]⟩=ao from by unfold dJ.km;simp,aK,au];have hs:(bt o++f).size<=20000:=by rw[dL];omega
 have a:Jk (base o) 1 ru f ⟨#[]⟩=ai [⟨ru,bt o++f,(bt o).size⟩]:=by
  cases o with
  |none=>unfold Jk;show(if(1:az)=1 then ai (put [] ⟨ru,f,0⟩)else ay)=_;rw[bm rfl];show ai [(⟨ru,f,0⟩:Fi)]=ai [⟨ru,(⟨#[]⟩:ar)++f,((⟨#[]⟩:ar).size:az)⟩];rw[show(⟨#[]⟩:ar)++f=f from lO];rfl
  |some t=>unfold Jk;rw[show(base (ai t)).find? (λx=>ah (x.n=ru))=ai ⟨ru,t,t.size⟩from by unfold base;simp];dsimp only;rw[bm rfl];exact gu ai (yr rfl)
 rw[a];dsimp only;rw[ok1,adS _ _ hs ⟨by omega,by rw[dL];omega⟩];rfl
def W3{k:az}(h:t.size<=20000)(hk:0<=k/\k<=(t.size:az)):act [⟨ru,t,k⟩] 2 ru ⟨#[]⟩ ⟨#[]⟩=ai (base (ai t)):=by
 unfold act;rw[ok1,adS _ _ h hk,show dJ.km 2 ⟨#[]⟩ ⟨#[]⟩=ao from by unfold dJ.km;simp,aK,au];have a:Jk [⟨ru,t,k⟩] 2 ru ⟨#[]⟩ ⟨#[]⟩=ai (base (ai t)):=by unfold Jk;rw[show([⟨ru,t,k⟩]:aE Fi).find? (λx=>ah (x.n=ru))=ai ⟨ru,t,k⟩from by simp];dsimp only;rw[bk (by omega),bm rfl];exact gu ai (yr rfl)
 rw[a];dsimp only;rw[uN (o:=ai t) h];rfl
def S8(h:(bt o).size+f.size<=20000):ko (base o) 0 (rk f)=(base (ai (bt o++f)),2):=by have hs:(bt o++f).size=(bt o).size+f.size:=dL;unfold rk ko;dsimp only;rw[adp h];dsimp only;unfold ko;dsimp only;rw[W3 (by omega) ⟨by omega,by omega⟩];rfl
def OZ(o:aG ar):(ml.val (rd (base o)) ru).1=bt o:=by
 rw[fileAt];cases o with
 |none=>rfl
 |some t=>rw[show(base (ai t)).find? (λx=>ah (x.n=ru))=ai ⟨ru,t,t.size⟩from by unfold base;simp];rfl
def kd(es:aE En):aE Fi:=base (match es with|[]=>ay|_=>ai (tx es))
def ah4(es:aE En):∃o,kd es=base o/\bt o=tx es:=by
 cases es with
 |nil=>exact⟨ay,rfl,rfl⟩
 |cons e es=>exact⟨ai (tx (e::es)),rfl,rfl⟩
end iV
open iV (H7 I6 ah4 rk kp ru)
namespace eV
def has(l:aE ar)(k:ar):aZ:=l.any λx=>ah (x=k)
def without(l:aE ar)(k:ar):aE ar:=l.filter λx=> !decide (x=k)
def jH:has l k=ao↔k∈l:=by unfold has;simp
def pK:has l k=aq↔k∉l:=by rw[<-jH];cases has l k<;>simp
def wJ(h:has l k=aq):without l k=l:=by unfold without;rw[ka];intro x a;have:=pK.1 h;simp;intro e;subst e;exact this a
def ir:(without l k).length<=l.length:=eD ..
def pP(h:has l k=ao):(without l k).length<l.length:=by unfold without;refine List.length_filter_lt_length_iff_exists.2 ⟨k,jH.1 h,by simp⟩
def ok(l:aE ar)(k:ar)(hl:l.length<=4294967296):c (Lib.rs l) k=ao/\v (Lib.rs l) k=has l k:=by
 refine out _ _ ?_;unfold vo b
 have:=Cz l (λx=>ah (x=k)) (λm (i:aN)=>l2 cw (λ(_:Row) (_:ar) (a:aZ) (_:az)=>ai a) (λ(_:Row) (_:ar) (_:aZ) (_:az)=>ai aq) m (Lib.rs l) k aq (i:az)) (ai ao) (ai aq)
  (λm i h hp=>by simp only[l2,r2,Lib.cL,dh,h,aQ,cm,aK,au,dK,VI h,bn,eP,hp,bY])
  (λm i h hp=>by simp only[l2,r2,Lib.cL,dh,h,aQ,cm,aK,au,dK,VI h,bn,eP,hp,ax,cG h (by omega:l.length<=9223372036854775807),bY])
  (λm=>by simp only[l2,r2,Lib.cL,dh,bg,bc,ax,bY]) cw eG
 refine this.trans ?_;unfold has;cases l.any λx=>ah (x=k)<;>rfl
end eV
open eV (jH pK ir pP wJ)
namespace wj
def ok(l:Row)(hl:l.length<=4294967296):c l=ao/\v l=l:=by refine out l ?_;unfold vo b bw;rw[show bD (aR [Ck.i ak] 0)+l.length=l.length by simp[aR],b6 (by omega) (by omega)];rfl
end wj
namespace jr
def oZ(s:aE (aE az)):Prop:=s.length<=1048576/\∀q∈s,q.length<=1048576
def run(N:aN)(K0:Row->az->az->az->az->aG R)(K1:Row->az->az->az->az->Row->aG R)(s:aE (aE az))(z a:az)(j:oZ s)(m:aN)(hm:s.length+1<m)(f:Row->aG R)
  (h0:s=[]->K0 (rr s) 0 0 z a=f []) (h1:K1 (rr s) s.length s.length z a (rr s)=f (rr s)):l3 N K0 K1 m (rr s) (s.length:az) 0 z a=f (rr s):=by
 obtain⟨m,rfl⟩:∃o,m=o+1:=⟨m-1,by omega⟩
 have d:∀i (h:i<s.length),wj.c (Lib.ri s[i])=ao/\wj.v (Lib.ri s[i])=Lib.ri s[i]:=λi h=>wj.ok _ (by rw[Lib.fj];have:=j.2 _ (bF h);omega);by_cases hs:s=[]
 ·subst hs;simp only[l3,r3,jU,Vo,AE,bc,ax,bY,bw];exact h0 rfl
 ·have hp:0<s.length:=Qg.2 hs;have key:=iz (R:=R) s.length (λm i (x:Row)=>oJ N K0 K1 m (rr s) (s.length:az) (i:az) z a x) (λi=>rr (s.take i)) (f (rr s)) (λm i h=>by
   have hl:=j.1;simp only[oJ,vC,dh,h,aQ,au,cm,bj,hJ,dK,J8 h,jd,(d i h).1,(d i h).2,p9,bz,bY,bw];rw[b6 (by rw[dG];omega) (by rw[dG];omega),au,cG h (by omega)];have:=pc (λq=>[CV.l 3 (Lib.ri q)]) s i h;unfold rr;rw[<-this]) (λm=>by
   simp only[oJ,vC,dh,bg,bc,ax,cR,bY,bw];exact h1) m 1 hp (by omega)
  simp only[l3,r3,aA (show(0:az)<(s.length:az)by omega),au,aK,hJ,show ah ((0:az)<=0)=ao from rfl,bY,bw];have e:=d 0 hp;have k:=J8 (l:=s) hp;simp only[show aP 0=0 from rfl,k,jd,e.1,e.2,au,p9,eR];rw[show bA (0+1)=((1:aN):az)from rfl];refine Eq.trans ?_ key;have:=pc (λq=>[CV.l 3 (Lib.ri q)]) s 0 hp;unfold rr;rw[show(0+1)=1 from rfl]at this;rw[<-this];rfl
def ok(s:aE (aE az))(a:az)(f:oZ s):c (rr s) a=ao/\v (rr s) a=(rr s,a):=by refine out _ _ ?_;unfold vo b;rw[hJ];exact run cw (λ_ _ _ _ y=>ai ([],y)) (λ_ _ _ _ d e=>ai (e,d)) s 0 a f cw (mX (by have:=f.1;omega)) (λx=>ai (x,a)) (λ_=>rfl) rfl
end jr
namespace fE
def Le(n:az):aZ:=ah (0<=n/\n<=15)
def rD(q:aE az):aZ:=ah (q.length=16)&&q.all Le
def od(s:aE (aE az))(a:az):aZ:=ah (s.length=3)&&(ah (0<=a/\a<=63)&&s.all rD)
def eL(n a b:az):kI.v n a b=ah (a<=n/\n<=b):=by
 unfold kI.v;by_cases h1:a<=n
 ·rw[aA (show n≥a from h1),au];by_cases h2:n<=b<;>simp[h1,h2]
 ·rw[aD (show¬n≥a from h1),ax];simp[h1]
def ok(s:aE (aE az))(a:az)(r:jr.oZ s):c (rr s) a=ao/\v (rr s) a=od s a:=by
 refine out _ _ ?_;unfold vo b od;rw[hJ];by_cases h3:¬s.length=3
 ·rw[show((s.length:az) !=3)=ao by simp;omega,aD h3];rfl
 have h3:s.length=3:=Decidable.not_not.1 h3;rw[show((s.length:az) !=3)=aq by simp;omega,aA h3,ax,eL];cases h4:ah (0<=a/\a<=63)with
 |false=>rfl
 |true=>
  rw[aY,ax,bj,bj];have d:∀i (h:i<s.length) (K0 K1:aZ->az->az->Row->az->aG aZ) (f k:aG aZ) (h0:∀j:az,K0 aq i j (rr s) a=f) (h1:∀j:az,K1 aq i j (rr s) a=k),l9 cw K0 K1 cw aq (i:az) 0 (rr s) a=bif(s[i]).all Le then k else f:=λi h K0 K1 f k h0 h1=>
   pA (s[i]) Le (λm (j:aN)=>l9 cw K0 K1 m aq (i:az) (j:az) (rr s) a) f k
    (λm j e hp=>by have hl:=r.2 _ (bF h);unfold Le at hp;simp only[l9,r9,hJ,dh,h,aQ,cm,aK,au,dK,J8 h,jd,Lib.fj,e,Qu e,bO,eL,hp,aY,ax,cG e (by omega:s[i].length<=9223372036854775807),bY])
    (λm j e hp=>by unfold Le at hp;simp only[l9,r9,hJ,dh,h,aQ,cm,aK,au,dK,J8 h,jd,Lib.fj,e,Qu e,bO,eL,hp,bH,h0,bY])
    (λm=>by simp only[l9,r9,hJ,dh,h,aQ,cm,aK,au,dK,J8 h,jd,Lib.fj,bg,bc,ax,h1,bY]) cw (mX (by have:=r.2 _ (bF h);omega))
  have key:=pA s rD (λm (i:aN)=>l4 cw (λ(o:aZ) (_:az) (_:Row) (_:az)=>ai o) (λ(_:aZ) (_:az) (_:Row) (_:az)=>ai ao) m aq (i:az) (rr s) a) (ai aq) (ai ao)
   (λm i h hp=>by unfold rD at hp;rw[aM]at hp;have hl:=cB hp.1;simp only[l4,r4,hJ,dh,h,aQ,cm,aK,au,dK,J8 h,jd,Lib.fj,hl,show(((16:aN):az) !=16)=aq from rfl,ax,bY];rw[d i h _ _ _ _ (λ_=>rfl) (λ_=>rfl),hp.2,au,cG h (by omega)])
   (λm i h hp=>by
    unfold rD at hp;by_cases hl:s[i].length=16
    ·rw[aA hl,bj]at hp;simp only[l4,r4,hJ,dh,h,aQ,cm,aK,au,dK,J8 h,jd,Lib.fj,hl,show(((16:aN):az) !=16)=aq from rfl,ax,bY];rw[d i h _ _ _ _ (λ_=>rfl) (λ_=>rfl),hp,ax]
    ·simp only[l4,r4,hJ,dh,h,aQ,cm,aK,au,dK,J8 h,jd,Lib.fj,show((s[i].length:az) !=16)=ao by simp;omega,bY])
   (λm=>by simp only[l4,r4,hJ,dh,bg,bc,ax,bY]) cw eG
  refine key.trans ?_;cases s.all rD<;>rfl
end fE
open fE (Le rD od)
namespace nA
open eV (has without)
def gf(k:ar):aZ:=ah (1<=(k.size:az)/\(k.size:az)<=30)
def NI(l:aE ar)(i:aN):aZ:=gf (l.getD i ⟨#[]⟩)&& !has (l.take i) (l.getD i ⟨#[]⟩)
def pM(l:aE ar):aZ:=(c7 l.length).all (NI l)
def yW(w m:aE ar)(s:aE (aE az))(a:az):aZ:=pM (w++m)&&(ah (w.length<=2)&&(ah (m.length<=4)&&fE.od s a))
def iQ(k:ar):tQ.v k=gf k:=fE.eL _ _ _
def u6(l:aE ar)(i:aN):ez (Lib.rs l) (aP 0) i=Lib.rs (l.take i):=by unfold ez Lib.rs;rw[show aP 0=0 from rfl,gz,H2,List.map_take]
def ok(w m:aE ar)(s:aE (aE az))(a:az)(hw:w.length<=1048576)(hm:m.length<=1048576)(t:jr.oZ s):c (rs w) (rs m) (rr s) a=ao/\v (rs w) (rs m) (rr s) a=yW w m s a:=by
 refine out _ _ _ _ ?_;have h2:=fE.ok s a t;unfold vo b bw;have r1:b_ (bD (aR [Ck.s] 0)+bD (rs w)) 16=true:=b6 (by simp[aR,Lib.cL];omega) (by simp[aR,Lib.cL];omega);have r2:b_ (bD (aR [Ck.s] 0++rs w)+bD (rs m)) 16=true:=b6 (by simp[aR,Lib.cL];omega) (by simp[aR,Lib.cL];omega);have e:aR [Ck.s] 0++rs w++rs m=rs (w++m):=by rw[show aR [Ck.s] 0++rs w=rs w from rfl];unfold Lib.rs;rw[cT]
 rw[r1,r2,au,au,e];have hl:(w++m).length<=2097152:=by rw[bU];omega
 have d:∀i,i<(w++m).length->eV.c (rs ((w++m).take i)) ((w++m).getD i ⟨#[]⟩)=ao/\eV.v (rs ((w++m).take i)) ((w++m).getD i ⟨#[]⟩)=has ((w++m).take i) ((w++m).getD i ⟨#[]⟩):=λi hi=>eV.ok _ _ (by rw[dG];omega);have hk:∀i (hi:i<(w++m).length),bn (av (rs (w++m)) i 0)=(w++m).getD i ⟨#[]⟩:=λi hi=>by rw[VI hi,show(w++m).getD i ⟨#[]⟩=(w++m)[i]by rw[dc,fC hi];rfl];rfl
 generalize r:w++m=L at hl d hk
 have key:=j6 (NI L) L.length (λn (i:aN)=>l3 cw (λ(u:aZ) (_:az) (_ _ _:Row) (_:az) (_:Row)=>ai u) (λ(_:aZ) (_:az) (k o f:Row) (h:az) (_:Row)=>bif(ah ((↑(bD k):az)<=2))then(bif(ah ((↑(bD o):az)<=4))then(bif(fE.c f h)then(ai (fE.v f h))else(ay))else(ai aq))else(ai aq)) n aq (i:az) (rs w) (rs m) (rr s) a (rs L)) (ai aq) (ai (ah (w.length<=2)&&(ah (m.length<=4)&&fE.od s a)))
  (λn i hi hp=>by
   unfold NI at hp;rw[aM,di]at hp;have j:gA 0 (i:az) (L.length:az)=true:=by simp[gA];omega
   simp only[l3,r3,Lib.cL,dh,hi,aQ,cm,aK,au,dK,hk i hi,iQ,hp.1,aY,ax,j,u6,(d i hi).1,(d i hi).2,hp.2,cG hi (by omega:L.length<=9223372036854775807),bY,bw])
  (λn i hi hp=>by
   have j:gA 0 (i:az) (L.length:az)=true:=by simp[gA];omega
   unfold NI at hp;cases h1:gf (L.getD i ⟨#[]⟩)with
   |false=>simp only[l3,r3,Lib.cL,dh,hi,aQ,cm,aK,au,dK,hk i hi,iQ,h1,bH,bY,bw]
   |true=>rw[h1,bj,iw]at hp;simp only[l3,r3,Lib.cL,dh,hi,aQ,cm,aK,au,dK,hk i hi,iQ,h1,aY,ax,j,u6,(d i hi).1,(d i hi).2,hp,bY,bw])
  (λn=>by simp only[l3,r3,Lib.cL,dh,bg,bc,ax,h2.1,h2.2,au,bY,bw];rw[show ah ((w.length:az)<=2)=ah (w.length<=2)by rw[b7];omega,show ah ((m.length:az)<=4)=ah (m.length<=4)by rw[b7];omega];cases ah (w.length<=2)<;>cases ah (m.length<=4)<;>rfl) cw eG
 refine key.trans ?_;unfold yW pM;rw[r];cases (c7 L.length).all (NI L)<;>rfl
end nA
open nA (NI gf pM yW u6)
namespace tW
open eV (has)
def ok(w m:aE ar)(s:Row)(a:az)(k:ar)(hw:w.length<=1048576)(hm:m.length<=1048576):c (rs w) (rs m) s a k=ao/\v (rs w) (rs m) s a k=(has w k||has m k):=by have h1:=eV.ok w k (by omega);have h2:=eV.ok m k (by omega);exact out _ _ _ _ _ (by unfold vo b bw;rw[h1.1,h1.2,h2.1,h2.2,au,au];cases has w k<;>rfl)
end tW
namespace qE
open eV (has)
def zW(e:En):aZ:=gU.v e.k e.st e.li e.bo
def H6(en:aE En)(w m:aE ar)(i:aN):aZ:=
 zW (el en i)&&((ah (i=0)||Go.Op.bytesLess (aF (el en (i-1)).k) (aF (el en i).k))&&(has w (el en i).k||has m (el en i).k))
def Qs(en:aE En)(w m:aE ar)(s:aE (aE az))(a:az):aZ:=(c7 en.length).all (H6 en w m)&&(yW w m s a&&ah (w.length+m.length=en.length))
def ok(i0:az)(en:aE En)(w m:aE ar)(s:aE (aE az))(a:az)(r6 r7:Row)(u:az)(C:en.length<=1048576)(hw:w.length<=1048576)(hm:m.length<=1048576)(B:jr.oZ s):
  c i0 (re en) (rs w) (rs m) (rr s) a r6 r7 u=ao/\v i0 (re en) (rs w) (rs m) (rr s) a r6 r7 u=Qs en w m s a:=by
 refine out _ _ _ _ _ _ _ _ _ ?_;have h1:=nA.ok w m s a hw hm B;have h2:=λk=>tW.ok w m (rr s) a k hw hm;unfold vo b bw
 have key:=j6 (H6 en w m) en.length (λn (i:aN)=>l2 cw (λ(y:aZ) (_ _:az) (_ _ _ _:Row) (_:az) (_ _:Row) (_:az)=>ai y) (λ(_:aZ) (_ _:az) (z f h r:Row) (t:az) (_ _:Row) (_:az)=>bif(nA.c f h r t)then(bif(nA.v f h r t)then(ai (ah ((↑(bD z):az)=bA ((↑(bD f):az)+(↑(bD h):az)))))else(ai aq))else(ay)) n aq (i:az) i0 (re en) (rs w) (rs m) (rr s) a r6 r7 u) (ai aq) (ai (yW w m s a&&ah (w.length+m.length=en.length)))
  (λn i hi hp=>by
   unfold H6 zW at hp;rw[aM,aM]at hp;obtain⟨e,j,A⟩:=hp;by_cases o:i=0
   ·subst o;simp only[l2,r2,dC,dh,hi,aQ,cm,aK,au,dK,rJ hi,wG hi,wH hi,wI hi,bn,bO,e,aY,ax,aD (show¬(((0:aN):az)>0)by omega),(h2 _).1,(h2 _).2,A,cG hi (by omega:en.length<=9223372036854775807),bY,bw]
   ·rw[aD o,oD]at j;have d:i-1<en.length:=by omega
    simp only[l2,r2,dC,dh,hi,aQ,cm,aK,au,dK,rJ hi,wG hi,wH hi,wI hi,bn,bO,e,aY,ax,aA (show(i:az)>0 by omega),lZ (show 0<i by omega) (by omega),d,rJ d,j,(h2 _).1,(h2 _).2,A,cG hi (by omega:en.length<=9223372036854775807),bY,bw])
  (λn i hi hp=>by
   unfold H6 zW at hp;cases e:gU.v (el en i).k (el en i).st (el en i).li (el en i).bo with
   |false=>simp only[l2,r2,dC,dh,hi,aQ,cm,aK,au,dK,rJ hi,wG hi,wH hi,wI hi,bn,bO,e,bH,bY,bw]
   |true=>
    rw[e,bj]at hp;by_cases o:i=0
    ·subst o;rw[aA rfl,OK,bj]at hp;simp only[l2,r2,dC,dh,hi,aQ,cm,aK,au,dK,rJ hi,wG hi,wH hi,wI hi,bn,bO,e,aY,bH,ax,aD (show¬(((0:aN):az)>0)by omega),(h2 _).1,(h2 _).2,hp,bY,bw]
    ·rw[aD o,oD]at hp;have d:i-1<en.length:=by omega
     cases j:cf (aF (el en (i-1)).k) (aF (el en i).k)with
     |false=>simp only[l2,r2,dC,dh,hi,aQ,cm,aK,au,dK,rJ hi,wG hi,wH hi,wI hi,bn,bO,e,aY,bH,ax,aA (show(i:az)>0 by omega),lZ (show 0<i by omega) (by omega),d,rJ d,j,bY,bw]
     |true=>rw[j,bj]at hp;simp only[l2,r2,dC,dh,hi,aQ,cm,aK,au,dK,rJ hi,wG hi,wH hi,wI hi,bn,bO,e,aY,bH,ax,aA (show(i:az)>0 by omega),lZ (show 0<i by omega) (by omega),d,rJ d,j,(h2 _).1,(h2 _).2,hp,bY,bw])
  (λn=>by simp only[l2,r2,dC,dh,bg,bc,ax,h1.1,h1.2,au,Lib.cL,bY,bw];rw[c6 (x:=(w.length:az)+(m.length:az)) (by omega) (by omega),show ah ((en.length:az)=(w.length:az)+(m.length:az))=ah (w.length+m.length=en.length)by rw[b7];omega];cases yW w m s a<;>rfl) cw eG
 refine key.trans ?_;unfold Qs;cases (c7 en.length).all (H6 en w m)<;>rfl
end qE
open qE (H6 Qs zW)
namespace nz
def nN(now:az)(f:Fe):aZ:=gf f.k&&(ah ((f.t.size:az)<=400)&&(ah (1<=f.sta/\f.sta<=3)&&(ah (0<=f.li/\f.li<=999999)&&ah (0<=f.st/\f.st<=now))))
def oK(f g:Fe):aZ:=ah (f.sta=1)&&(ah (g.sta=1)&&ah (f.k=g.k))
def apart(fe:aE Fe)(i:aN):aZ:=(c7 i).all λj=> !oK (el fe i) (el fe j)
def eL(n a b:az):kI.v n a b=ah (a<=n/\n<=b):=fE.eL n a b
def ok(i0:az)(r1 r2 r3 r4:Row)(f:az)(fe:aE Fe)(r7:Row)(h:az)(i:aN)(hi:i<fe.length)(o:fe.length<=1048576):
  c i0 r1 r2 r3 r4 f (rf fe) r7 h (i:az)=ao/\v i0 r1 r2 r3 r4 f (rf fe) r7 h (i:az)=(nN i0 (el fe i)&&apart fe i):=by
 refine out _ _ _ _ _ _ _ _ _ _ ?_;unfold vo b bY
 have key:=j6 (λj=> !oK (el fe i) (el fe j)) i (λn (j:aN)=>l5 cw (λ(_:az) (m:aZ) (_ _:az) (_ _ _ _:Row) (_:az) (_ _:Row) (_:az) (_ _:ar) (_ _ _:az)=>ai m) (λ(_:az) (_:aZ) (_ _:az) (_ _ _ _:Row) (_:az) (_ _:Row) (_:az) (_ _:ar) (_ _ _:az)=>ai ao) n (i:az) aq (j:az) i0 r1 r2 r3 r4 f (rf fe) r7 h (el fe i).k (el fe i).t (el fe i).sta (el fe i).li (el fe i).st) (ai aq) (ai ao)
  (λn j d hp=>by
   have a:j<fe.length:=by omega
   rw[di]at hp;unfold oK at hp;have e:ah ((el fe j).k=(el fe i).k)=ah ((el fe i).k=(el fe j).k):=by rw[b7];exact eq_comm
   simp only[l5,r5,dh,d,aQ,cm,aK,au,dK,dV,a,L5 a,DI a,bn,bO,eP,e,cG d (by omega:i<=9223372036854775807),bY];revert hp;cases ah ((el fe i).k=(el fe j).k)<;>cases ah ((el fe j).sta=1)<;>cases ah ((el fe i).sta=1)<;>intro hp<;>first|rfl|cases hp)
  (λn j d hp=>by
   have a:j<fe.length:=by omega
   rw[iw]at hp;unfold oK at hp;rw[aM,aM]at hp;have e:ah ((el fe j).k=(el fe i).k)=ah ((el fe i).k=(el fe j).k):=by rw[b7];exact eq_comm
   simp only[l5,r5,dh,d,aQ,cm,aK,au,dK,dV,a,L5 a,DI a,bn,bO,eP,e,hp.1,hp.2.1,hp.2.2,bY])
  (λn=>by simp only[l5,r5,dh,bg,bc,ax,bY]) cw eG
 simp only[dV,dh,hi,aQ,cm,aK,au,dK,L5 hi,J_ hi,wf2 hi,wf3 hi,wf4 hi,bn,bO,eL,nA.iQ];rw[show l5 cw _ _ cw (i:az) aq 0 i0 r1 r2 r3 r4 f (rf fe) r7 h (el fe i).k (el fe i).t (el fe i).sta (el fe i).li (el fe i).st=_ from key];unfold nN apart;rw[show ah (((el fe i).t.size:az)>400)= !decide (((el fe i).t.size:az)<=400)by rw[<-decide_not,b7];omega];cases gf (el fe i).k<;>cases ah (((el fe i).t.size:az)<=400)<;>cases ah (1<=(el fe i).sta/\(el fe i).sta<=3)<;>cases ah (0<=(el fe i).li/\(el fe i).li<=999999)<;>cases ah (0<=(el fe i).st/\(el fe i).st<=i0)<;>cases (c7 i).all (λj=> !oK (el fe i) (el fe j))<;>rfl
end nz
open nz (apart oK)
namespace mj
open _root_.Go.FG.Lib (rc)
open nz (nN eL)
def ID(now:az)(a:aN)(cl:aE Cl)(i:aN):aZ:=
 decide (1<=(el cl i).id/\(el cl i).id<=9)&&((ah (i=0)||decide ((el cl (i-1)).id<(el cl i).id))&&(gf (el cl i).k&&(ah (1<=(el cl i).sta/\(el cl i).sta<=3)&&(ah (0<=(el cl i).fe/\(el cl i).fe<=(a:az))&&(ah (((el cl i).got.size:az)<=400)&&(ah (0<=(el cl i).fr/\(el cl i).fr<=now)&&ah (0<=(el cl i).age)))))))
def lC(p:Px):aZ:=
 decide (1<=p.now/\p.now<=1000000000)&&(Qs p.en p.w p.m p.s p.a&&(ah (p.fe.length<=20)&&(ah (p.cl.length<=6)&&(ah (0<=p.hits/\p.hits<=1000000000)&&((c7 p.fe.length).all (λi=>nN p.now (el p.fe i)&&apart p.fe i)&&(c7 p.cl.length).all (ID p.now p.fe.length p.cl))))))
def step(N:aN)(g t x:aZ->az->az->Row->Row->Row->Row->az->Row->Row->az->aG R)(i0:az)(f h j m:Row)(d:az)(fe:aE Fe)(cl:aE Cl)(e:az)(i:aN)(hi:i<cl.length)(hl:cl.length<=1048576):
  r9 N g t x aq (i:az) i0 f h j m d (rf fe) (rc cl) e=bif ID i0 fe.length cl i then g aq ((i+1:aN):az) i0 f h j m d (rf fe) (rc cl) e else t aq (i:az) i0 f h j m d (rf fe) (rc cl) e:=by
 unfold ID;have o:ah (((el cl i).got.size:az)>400)= !decide (((el cl i).got.size:az)<=400):=by rw[<-decide_not,b7];omega
 have r:ah ((el cl i).age<0)= !decide (0<=(el cl i).age):=by rw[<-decide_not,b7];omega
 by_cases s:i=0
 ·subst s;simp only[r9,eQ,dV,dh,hi,aQ,cm,aK,au,dK,Qv hi,wc1 hi,wc2 hi,wc3 hi,YV hi,YW hi,YX hi,bn,bO,eL,nA.iQ,aD (show¬(((0:aN):az)>0)by omega),ax,o,r,cG hi (by omega:cl.length<=9223372036854775807),OK,bj,bY];cases ah (1<=(el cl 0).id/\(el cl 0).id<=9)<;>cases gf (el cl 0).k<;>cases ah (1<=(el cl 0).sta/\(el cl 0).sta<=3)<;>cases ah (0<=(el cl 0).fe/\(el cl 0).fe<=(fe.length:az))<;>cases ah (((el cl 0).got.size:az)<=400)<;>cases ah (0<=(el cl 0).fr/\(el cl 0).fr<=i0)<;>cases ah (0<=(el cl 0).age)<;>rfl
 ·have a:i-1<cl.length:=by omega
  have u:ah ((el cl (i-1)).id≥(el cl i).id)= !decide ((el cl (i-1)).id<(el cl i).id):=by rw[<-decide_not,b7];omega
  simp only[r9,eQ,dV,dh,hi,aQ,cm,aK,au,dK,Qv hi,wc1 hi,wc2 hi,wc3 hi,YV hi,YW hi,YX hi,bn,bO,eL,nA.iQ,aA (show(i:az)>0 by omega),lZ (show 0<i by omega) (by omega),a,Qv a,ax,o,r,u,cG hi (by omega:cl.length<=9223372036854775807),aD s,oD,bY];cases ah (1<=(el cl i).id/\(el cl i).id<=9)<;>cases ah ((el cl (i-1)).id<(el cl i).id)<;>cases gf (el cl i).k<;>cases ah (1<=(el cl i).sta/\(el cl i).sta<=3)<;>cases ah (0<=(el cl i).fe/\(el cl i).fe<=(fe.length:az))<;>cases ah (((el cl i).got.size:az)<=400)<;>cases ah (0<=(el cl i).fr/\(el cl i).fr<=i0)<;>cases ah (0<=(el cl i).age)<;>rfl
def ok(p:Px)(hp:p.Fit 1048576):c p.now (re p.en) (rs p.w) (rs p.m) (rr p.s) p.a (rf p.fe) (rc p.cl) p.hits=ao/\v p.now (re p.en) (rs p.w) (rs p.m) (rr p.s) p.a (rf p.fe) (rc p.cl) p.hits=lC p:=by
 refine out _ _ _ _ _ _ _ _ _ ?_;have h1:=qE.ok p.now p.en p.w p.m p.s p.a (rf p.fe) (rc p.cl) p.hits hp.en hp.w hp.m ⟨hp.s.1,hp.s.2.1⟩;have f:=hp.fe;have e:=hp.cl;unfold vo b bw;have h2:=λi hi=>nz.ok p.now (re p.en) (rs p.w) (rs p.m) (rr p.s) p.a p.fe (rc p.cl) p.hits i hi f
 have C:=λ(n:aN) (B:p.cl.length<n)=>j6 (ID p.now p.fe.length p.cl) p.cl.length (λn (i:aN)=>l9 cw (λ(d:aZ) (_ _:az) (_ _ _ _:Row) (_:az) (_ _:Row) (_:az)=>ai d) (λ(_:aZ) (_ _:az) (_ _ _ _:Row) (_:az) (_ _:Row) (_:az)=>ai ao) n aq (i:az) p.now (re p.en) (rs p.w) (rs p.m) (rr p.s) p.a (rf p.fe) (rc p.cl) p.hits) (ai aq) (ai ao)
  (λn i hi hq=>by simp only[l9];rw[step _ _ _ _ _ _ _ _ _ _ _ _ _ i hi e,hq];rfl)
  (λn i hi hq=>by simp only[l9];rw[step _ _ _ _ _ _ _ _ _ _ _ _ _ i hi e,hq];rfl)
  (λn=>by simp only[l9,r9,eQ,dh,bg,bc,ax,bY]) n B
 have H:=j6 (λi=>nN p.now (el p.fe i)&&apart p.fe i) p.fe.length (λn (i:aN)=>l4 cw (λ(h:aZ) (_ _:az) (_ _ _ _:Row) (_:az) (_ _:Row) (_:az)=>ai h) (λ(j:aZ) (_ k:az) (o r t u:Row) (x:az) (y z:Row) (A:az)=>l9 cw (λ(d:aZ) (_ _:az) (_ _ _ _:Row) (_:az) (_ _:Row) (_:az)=>ai d) (λ(_:aZ) (_ _:az) (_ _ _ _:Row) (_:az) (_ _:Row) (_:az)=>ai ao) cw j 0 k o r t u x y z A) n aq (i:az) p.now (re p.en) (rs p.w) (rs p.m) (rr p.s) p.a (rf p.fe) (rc p.cl) p.hits) (ai aq) (ai ((c7 p.cl.length).all (ID p.now p.fe.length p.cl)))
  (λn i hi hq=>by simp only[l4,r4,dV,dh,hi,aQ,au,(h2 i hi).1,(h2 i hi).2,hq,aY,ax,cG hi (by omega:p.fe.length<=9223372036854775807),bw])
  (λn i hi hq=>by simp only[l4,r4,dV,dh,hi,aQ,au,(h2 i hi).1,(h2 i hi).2,hq,bH,bw])
  (λn=>by simp only[l4,r4,dV,dh,bg,bc,ax,bw];refine(C cw eG).trans ?_;cases (c7 p.cl.length).all (ID p.now p.fe.length p.cl)<;>rfl) cw eG
 rw[eL,eL,h1.1,h1.2,au,dV,eQ];rw[show l4 cw _ _ cw aq 0 p.now (re p.en) (rs p.w) (rs p.m) (rr p.s) p.a (rf p.fe) (rc p.cl) p.hits=_ from H];unfold lC;rw[show ah ((p.fe.length:az)>20)= !decide (p.fe.length<=20)by rw[<-decide_not,b7];omega,show ah ((p.cl.length:az)>6)= !decide (p.cl.length<=6)by rw[<-decide_not,b7];omega];cases ah (1<=p.now/\p.now<=1000000000)<;>cases Qs p.en p.w p.m p.s p.a<;>cases ah (p.fe.length<=20)<;>cases ah (p.cl.length<=6)<;>cases ah (0<=p.hits/\p.hits<=1000000000)<;>cases (c7 p.fe.length).all (λi=>nN p.now (el p.fe i)&&apart p.fe i)<;>cases (c7 p.cl.length).all (ID p.now p.fe.length p.cl)<;>rfl
end mj
open mj (ID lC)
namespace wN
def ec(f:aN)(st:az)(t:ar)(c:Cl):Cl:=bif ah (c.fe=(f:az)+1)&&ah (c.sta=1)then{c with sta:=st,got:=t}else c
def qk(cl:aE Cl)(f:aN)(st:az)(t:ar):aE Cl:=cl.map (ec f st t)
def mY(l:aE α)(g:α->α):l.mapIdx (λ_ c=>g c)=l.map g:=by apply lP<;>simp
end wN
open wN (ec qk mY)
namespace fA
def yV(p:Px)(f:az):aZ:=lC p&&(ah (0<=f/\f<=(p.fe.length:az)-1)&&ah ((el p.fe f.toNat).sta=1))
def told(p:Px)(f:aN)(g:Fe)(st:az):Px:={p with fe:=p.fe.set f g,cl:=qk p.cl f st g.t}
def nQ{f:az}(h:yV p f=ao):∃n:aN,f=(n:az)/\n<p.fe.length/\lC p=ao/\(el p.fe n).sta=1:=by unfold yV at h;simp only[aM,ba]at h;obtain⟨h1,h2,h3⟩:=h;exact⟨f.toNat,by omega,by omega,h1,h3⟩
def yK{n f:aN}{st:az}(h:p.Fit n):(told p f g st).Fit n:=by
 refine⟨h.en,h.w,h.m,h.s,?_,?_⟩
 ·show(p.fe.set f g).length<=n;rw[ch];exact h.fe
 ·show(qk p.cl f st g.t).length<=n;unfold wN.qk;rw[bK];exact h.cl
def GW(p:Px)(f:az):Px×aZ:=bif yV p f then(told p f.toNat {el p.fe f.toNat with sta:=3} 3,ao)else(p,aq)
def Ht(p:Px)(f:az)(t:ar):Px×aZ:=
 bif yV p f&&(ah (1<=t.size/\t.size<=40)&&ah ((el p.fe f.toNat).t.size+t.size<=400))then(told p f.toNat {el p.fe f.toNat with t:=(el p.fe f.toNat).t++t} 1,ao)else(p,aq)
def mm{l:aE Fe}{n:aN}{g:Fe}(h:n<l.length):el (l.set n g) n=g:=by rw[e7 (by rw[ch];exact h),kT]
def Es(l:aE Fe)(n j:aN)(a:aE CV)(g:Fe)(h:n<l.length)(hs:kG (Fe.row (el l n)) j a=Fe.row g):eH (Lib.rf l) n j a=Lib.rf (l.set n g):=by rw[e7 h]at hs;exact k9 Fe.row l n j a g h hs
def ZR(h:lC p=ao)(i:aN)(hi:i<p.fe.length):nz.nN p.now (el p.fe i)=true:=by unfold mj.lC at h;simp only[aM,ba]at h;obtain⟨_,_,_,_,_,h6,_⟩:=h;rw[bE]at h6;have:=h6 i (by simpa using hi);rw[aM]at this;exact this.1
end fA
open fA (GW mm yV nQ Ht Es yK)
namespace gV
def akT(x:az):0<=bG eF x/\bG eF x<4294967296:=by have e:bG eF x=x%4294967296:=rfl;rw[e];omega
def ae2(x:az):0<=jT.rd x/\jT.rd x<4294967296:=by unfold jT.rd;cases ah (bQ x 2=1)<;>exact akT _
def NZ:∀(n:aN) (x:az),0<=x/\x<4294967296->0<=jT.pb n x/\jT.pb n x<4294967296
 |0,_,h=>h
 |n+1,x,_=>NZ n _ (ae2 x)
def U2(t:ar):∀(d i:aN) (s:az),0<=s/\s<4294967296->0<=jT.su t d i s/\jT.su t d i s<4294967296
 |0,_,_,h=>h
 |d+1,i,s,h=>U2 t d (i+1) _ (NZ 8 _ (akT _))
def keyed(i:aN)(key:ar):ar:=key++bytesOf [[CV.i a8 (i:az)]]
def sm(i:aN)(key:ar):az:=jT.su (keyed i key) (keyed i key).size 0 4294967295
def pl(i:aN)(key:ar):aN:=(bQ (sm i key) 16).toNat
def LK(i:aN)(key:ar):0<=sm i key/\sm i key<4294967296:=U2 _ _ _ _ (by omega)
def pl_int(i:aN)(key:ar):bQ (sm i key) 16=(pl i key:az):=by have:=LK i key;have h:0<=bQ (sm i key) 16:=DO _ this.1;unfold pl;omega
def Dl(i:aN)(key:ar):pl i key<16:=by have:=LK i key;have h:=Int.tmod_lt_of_pos (sm i key) (show(0:az)<16 by omega);have h2:0<=bQ (sm i key) 16:=DO _ this.1;unfold pl;omega
def Dz(i:aN)(key:ar):(keyed i key).size=key.size+1:=by unfold keyed;rw[dL,Dy]
def ok(i:aN)(key:ar)(hi:i<3)(hk:key.size<=140737488355328):c (i:az) key=ao/\v (i:az) key=(pl i key:az):=by
 refine out _ _ ?_;unfold vo b bw kE;have e:(key++bytesOf (aC (aR [Ck.i a8] 1) 0 [CV.i a8 (bG a8 (i:az))]))=keyed i key:=by
  unfold keyed;match i,hi with
  |0,_=>rfl
  |1,_=>rfl
  |2,_=>rfl
 have hs:=Dz i key;have h:=wk.ok (keyed i key) (by omega);have a:bf key+bf (bytesOf (aC (aR [Ck.i a8] 1) 0 [CV.i a8 (bG a8 (i:az))]))=key.size+1:=by rw[p9,Dy]
 rw[a,e,jz,au,h.1,h.2,au];have hp:=pl_int i key;have hl:=Dl i key;unfold sm at hp;rw[hp,c6 (by omega) (by omega)]
end gV
namespace oq
def run(N:aN)(K0:az->Row->az->az->az->aG R)(K1:az->Row->az->az->az->Row->aG R)(s:aE (aE az))(z y a:az)(j:jr.oZ s)(m:aN)(hm:s.length+1<m)(f:Row->aG R)
  (h0:s=[]->K0 0 (rr s) z y a=f []) (h1:K1 s.length (rr s) z y a (rr s)=f (rr s)):l3 N K0 K1 m 0 (rr s) z y a=f (rr s):=by
 obtain⟨m,rfl⟩:∃r,m=r+1:=⟨m-1,by omega⟩
 have k:∀q:Row,aR [Ck.i ak] 0++q=q:=λq=>rfl;have d:∀i (h:i<s.length),b_ (bD (aR [Ck.i ak] 0)+bD (Lib.ri s[i])) 8=true:=λi h=>by have:=j.2 _ (bF h);exact b6 (by rw[Lib.fj];simp[aR];omega) (by rw[Lib.fj];simp[aR];omega)
 by_cases hs:s=[]
 ·subst hs;simp only[l3,r3,hJ,jU,Vo,AE,bc,ax,bY,bw];exact h0 rfl
 ·have hp:0<s.length:=Qg.2 hs;have key:=iz (R:=R) s.length (λm i (x:Row)=>oJ N K0 K1 m (i:az) (rr s) z y a x) (λi=>rr (s.take i)) (f (rr s)) (λm i h=>by
   have hl:=j.1;simp only[oJ,vC,hJ,dh,h,aQ,au,cm,bj,dK,J8 h,jd,d i h,k,p9,bz,bY,bw];rw[b6 (by rw[dG];omega) (by rw[dG];omega),au,cG h (by omega)];have:=pc (λq=>[CV.l 3 (Lib.ri q)]) s i h;unfold rr;rw[<-this]) (λm=>by
   simp only[oJ,vC,hJ,dh,bg,bc,ax,cR,bY,bw];exact h1) m 1 hp (by omega)
  have e:=d 0 hp;have o:=J8 (l:=s) hp;simp only[l3,r3,aA (show(0:az)<(s.length:az)by omega),au,aK,hJ,show ah ((0:az)<=0)=ao from rfl,show aP 0=0 from rfl,o,jd,e,k,au,p9,eR,bY,bw];rw[show bA (0+1)=((1:aN):az)from rfl];refine Eq.trans ?_ key;have:=pc (λq=>[CV.l 3 (Lib.ri q)]) s 0 hp;unfold rr;rw[show(0+1)=1 from rfl]at this;rw[<-this];rfl
def ok(s:aE (aE az))(a:az)(f:jr.oZ s):c (rr s) a=ao/\v (rr s) a=(rr s,a):=by refine out _ _ ?_;unfold vo b;exact run cw (λ_ _ _ _ y=>ai ([],y)) (λ_ _ _ _ d e=>ai (e,d)) s a 0 a f cw (mX (by have:=f.1;omega)) (λx=>ai (x,a)) (λ_=>rfl) rfl
end oq
namespace dy
open _root_.Go.FG.Lib (ri)
def bq(p:aN)(q:aE az):aE az:=q.set p (bif ah (q.getD p 0<15)then q.getD p 0+1 else q.getD p 0)
def CG(s:aE (aE az))(key:ar):aE (aE az):=s.mapIdx λi q=>bq (gV.pl i key) q
def half(s:aE (aE az)):aE (aE az):=s.map λq=>q.map λn=>cz n 2
def val(s:aE (aE az))(a:az)(key:ar):aE (aE az)×az:=
 bif fE.od s a then(bif ah (a+1=64)then(half (CG s key),0)else(CG s key,a+1))else(s,a)
def fR(q:aE az):aE CV:=[CV.l 3 (ri q)]
def LH(q:aE az)(p:aN)(x:az)(h:p<q.length):eH (ri q) p 0 [CV.i ak x]=ri (q.set p x):=k9 (λn=>[CV.i ak n]) q p 0 _ x h rfl
def LI(L:aE (aE az))(i:aN)(q:aE az)(h:i<L.length):eH (L.map fR) i 0 [CV.l 3 (ri q)]=(L.set i q).map fR:=k9 fR L i 0 _ q h rfl
def AJ(L:aE (aE az))(i:aN)(h:i<L.length):av (L.map fR) i 0=CV.l 3 (ri L[i]):=fG fR L i 0 h
def sC{a:az}(h:fE.od s a=ao):s.length=3/\(0<=a/\a<=63)/\∀q∈s,q.length=16/\∀n∈q,0<=n/\n<=15:=by
 unfold fE.od at h;rw[aM,aM]at h;refine⟨cB h.1,cB h.2.1,λq hq=> ?_⟩
 have:=bE.1 h.2.2 q hq;unfold fE.rD at this;rw[aM]at this;refine⟨cB this.1,λn d=> ?_⟩
 have:=bE.1 this.2 n d;unfold fE.Le at this;exact cB this
def o0{q:aE az}{p:aN}(h:p<q.length):q.getD p 0=q[p]:=by simp[eC,h]
def ae8(K:ar->az->az->az->Row->aG R)(s:aE (aE az))(key:ar)(y a:az)(hs:s.length=3)(hq:∀q∈s,q.length=16/\∀n∈q,0<=n/\n<=15)(hk:key.size<=140737488355328):
  l5 cw K cw key 0 y a (rr s)=K key 3 y a (rr (CG s key)):=by
 refine(nT fR s (λi q=>bq (gV.pl i key) q) (λm (i:aN) x=>l5 cw K m key (i:az) y a x) (λx=>K key 3 y a x) (λm i L h h2 k d=> ?_) (λm L k=> ?_) cw eG)
 ·have hp:=gV.ok i key (by omega) hk;have j:=gV.Dl i key;obtain⟨f,r⟩:=hq _ (bF h);have o:av (L.map fR) i 0=CV.l 3 (ri s[i]):=by rw[AJ L i h2,d]
  have e:gV.pl i key<s[i].length:=by omega
  have t:=r _ (bF e);simp only[l5,r5,bK,dh,h2,aQ,au,hp.1,hp.2,cm,aK,dK,o,jd,Lib.fj,f,j,Qu e,bO,bY,bw];unfold bq;rw[o0 e];cases hd:ah (s[i][gV.pl i key]<15)with
  |true=>have:=cB hd;rw[au,au,c6 (x:=s[i][gV.pl i key]+1) (by omega) (by omega),LH _ _ _ e,LI _ _ _ h2,cG h2 (by omega)]
  |false=>rw[ax,ax,cG h2 (by omega),fc,<-d,fc]
 ·simp only[l5,r5,bK,dh,k,bg,bc,ax,hs,bY,bw];rfl
def qY{s:aE (aE az)}{key:ar}(hs:s.length=3)(hq:∀q∈s,q.length=16/\∀n∈q,0<=n/\n<=15):(CG s key).length=3/\∀q∈CG s key,q.length=16/\∀n∈q,0<=n/\n<=15:=by
 unfold CG;refine⟨by simp[hs],λq hm=> ?_⟩
 obtain⟨i,hi,rfl⟩:=List.mem_mapIdx.1 hm;obtain⟨a,e⟩:=hq _ (bF hi);unfold bq;have d:gV.pl i key<s[i].length:=by have:=gV.Dl i key;omega
 refine⟨by rw[ch];exact a,λn h=> ?_⟩
 rcases rS h with h|h
 ·exact e n h
 ·rw[o0 d]at h;have f:=e _ (bF d);rw[h];cases hd:ah (s[i][gV.pl i key]<15)with
  |true=>have:=cB hd;rw[au];omega
  |false=>rw[ax];exact f
def ajT(K:az->az->az->az->Row->aG R)(L:aE (aE az))(i:aN)(h:i<L.length)(y a:az)(hl:L.length<=1048576)(hq:L[i].length=16)(t:∀n∈L[i],0<=n/\n<=15):
  l17 cw K cw (i:az) 0 y a (L.map fR)=K i 16 y a ((L.set i (L[i].map λn=>cz n 2)).map fR):=by
 have e:L[i].mapIdx (λ_ n=>cz n 2)=L[i].map λn=>cz n 2:=by apply lP<;>simp
 have key:=iz (L[i].length) (λm (k:aN) x=>l17 cw K m (i:az) (k:az) y a x) (λk=>(L.set i (oA L[i] (λ_ n=>cz n 2) k)).map fR) (K i 16 y a ((L.set i (L[i].map λn=>cz n 2)).map fR)) (λm k hk=> ?_) (λm=> ?_) cw 0 (bB _) eG
 ·rw[DF,fc]at key;exact key
 ·have z:=rH L[i] (λ_ n=>cz n 2) k (by omega);generalize s:oA L[i] (λ_ n=>cz n 2) k=U at z;have d:k<U.length:=by omega
  have o:U[k]=L[i][k]:=by subst s;exact yL _ _ _ hk _
  have f:U.set k (cz L[i][k] 2)=oA L[i] (λ_ n=>cz n 2) (k+1):=by subst s;exact uD L[i] (λ_ n=>cz n 2) k hk
  have h2:i<(L.set i U).length:=by simpa using h
  have j:av ((L.set i U).map fR) i 0=CV.l 3 (ri U):=by rw[AJ _ _ h2,kT]
  have r:=t _ (bF hk);have A:0<=cz L[i][k] 2:=Int.tdiv_nonneg r.1 (by omega);have u:cz L[i][k] 2<=15:=OR (Int.tdiv_le_self _ r.1) r.2;simp only[l17,r17,bK,ch,dh,h,d,aQ,au,cm,aK,dK,j,jd,Lib.fj,Qu d,bO,o,bY];rw[c6 (x:=cz L[i][k] 2) (by omega) (by omega),LH _ _ _ d,LI _ _ _ h2,f,pX,cG hk (by omega)]
 ·have j:av ((L.set i (oA L[i] (λ_ n=>cz n 2) L[i].length)).map fR) i 0=CV.l 3 (ri (L[i].map λn=>cz n 2)):=by rw[AJ _ _ (by simpa using h),kT,rG,e]
  simp only[l17,r17,bK,ch,dh,h,aQ,au,cm,aK,dK,j,jd,Lib.fj,bg,bc,ax,bY];rw[rG,e,hq];rfl
def ajR(K:az->az->az->Row->aG R)(s:aE (aE az))(y a:az)(hs:s.length=3)(hq:∀q∈s,q.length=16/\∀n∈q,0<=n/\n<=15):
  l14 cw K cw 0 y a (rr s)=K 3 y a (rr (half s)):=by
 have f:s.mapIdx (λ_ q=>q.map λn=>cz n 2)=half s:=by unfold half;apply lP<;>simp
 rw[<-f];refine(nT fR s (λ_ q=>q.map λn=>cz n 2) (λm (i:aN) x=>l14 cw K m (i:az) y a x) (λx=>K 3 y a x) (λm i L h h2 j d=> ?_) (λm L j=> ?_) cw eG)
 ·obtain⟨e,k⟩:=hq _ (bF h);simp only[l14,r14,bK,dh,h2,aQ,au];rw[ajT _ L i h2 y a (by omega) (by rw[d];exact e) (by rw[d];exact k),cG h2 (by omega),d]
 ·simp only[l14,r14,bK,dh,j,bg,bc,ax,hs];rfl
def ok(s:aE (aE az))(a:az)(key:ar)(e:jr.oZ s)(hk:key.size<=140737488355328):c (rr s) a key=ao/\v (rr s) a key=(rr (val s a key).1,(val s a key).2):=by
 refine out _ _ _ ?_;have h1:=oq.ok s a e;have h2:=fE.ok s a e;unfold vo b val bw;rw[h1.1,h1.2,h2.1,h2.2,au,au];cases d:fE.od s a with
 |false=>rfl
 |true=>
  obtain⟨hs,i,hq⟩:=sC d;obtain⟨f,h⟩:=qY (key:=key) hs hq;rw[aY,ax,au,ae8 _ s key _ _ hs hq hk,c6 (x:=a+1) (by omega) (by omega)];cases hd:ah (a+1=64)with
  |false=>rfl
  |true=>rw[au,au,ajR _ _ _ _ f h]
end dy
open dy (CG qY AJ fR half sC LH LI)
namespace lS
open _root_.Go.FG.Lib (ri)
def gs(key:ar):aN->aE (aE az)->az->az
 |_,[],x=>x
 |i,q::r,x=>gs key (i+1) r (bif ah (q.getD (gV.pl i key) 0<x)then q.getD (gV.pl i key) 0 else x)
def val(s:aE (aE az))(a:az)(key:ar):az:=bif fE.od s a then gs key 0 s 15 else 0
def B5(key:ar)(s:aE (aE az))(i:aN)(h:i<s.length)(x:az):gs key i (s.drop i) x=gs key (i+1) (s.drop (i+1)) (bif ah (s[i].getD (gV.pl i key) 0<x)then s[i].getD (gV.pl i key) 0 else x):=by rw[cJ h];rfl
def ok(s:aE (aE az))(a:az)(key:ar)(k:jr.oZ s)(hk:key.size<=140737488355328):c (rr s) a key=ao/\v (rr s) a key=val s a key:=by
 refine out _ _ _ ?_;have h2:=fE.ok s a k;unfold vo b val bw;rw[h2.1,h2.2,au];cases e:fE.od s a with
 |false=>rfl
 |true=>
  obtain⟨hs,u,hq⟩:=dy.sC e;rw[aY,ax,au];have:=gP (λm (t:aN×az)=>l5 cw (λ(_:ar) (r _:az) (_:Row) (_:az)=>ai r) m key t.2 (t.1:az) (rr s) a) (λt=>s.length-t.1) (λt=>t.1<=s.length) (λt=>ai (gs key t.1 (s.drop t.1) t.2)) (λm t o=>by
   obtain⟨i,x⟩:=t;dsimp only at o⊢;by_cases h:i<s.length
   ·right;have hp:=gV.ok i key (by omega) hk;have f:=gV.Dl i key;obtain⟨d,y⟩:=hq _ (bF h);have j:gV.pl i key<s[i].length:=by omega
    refine⟨(i+1,bif ah (s[i].getD (gV.pl i key) 0<x)then s[i].getD (gV.pl i key) 0 else x),by dsimp only;omega,by dsimp only;omega,by rw[<-B5 key s i h x],?_⟩
    simp only[l5,r5,hJ,dh,h,aQ,au,hp.1,hp.2,cm,aK,dK,J8 h,jd,Lib.fj,d,f,Qu j,bO,cG h (by omega:s.length<=9223372036854775807),bY,bw];rw[dy.o0 j];cases ah (s[i][gV.pl i key]<x)<;>rfl
   ·left;have:i=s.length:=by omega
    subst this;simp only[l5,r5,hJ,dh,bg,bc,ax,c_,gs,bY,bw]) cw (0,15) (bB _) (mX (by dsimp only;omega))
  simpa using this
end lS
open lS (B5)
namespace gi
def ok(w m:aE ar)(s:aE (aE az))(a:az)(hw:w.length<=1048576)(hm:m.length<=1048576)(d:jr.oZ s):c (rs w) (rs m) (rr s) a=ao/\v (rs w) (rs m) (rr s) a=(rs w,rs m,rr s,a):=by have h3:=oq.ok s a d;have r1:b_ (bD (aR [Ck.s] 0)+bD (rs w)) 16=true:=b6 (by simp[aR,Lib.cL];omega) (by simp[aR,Lib.cL];omega);have r2:b_ (bD (aR [Ck.s] 0)+bD (rs m)) 16=true:=b6 (by simp[aR,Lib.cL];omega) (by simp[aR,Lib.cL];omega);exact out _ _ _ _ (by unfold vo b bw;rw[r1,r2,h3.1,h3.2,au,au,au];rfl)
end gi
namespace py
def ok(l:aE ar)(k:ar)(hl:l.length<=1048576):c (Lib.rs l) k=ao/\v (Lib.rs l) k=Lib.rs (eV.without l k):=by
 refine out _ _ ?_;unfold vo b;have key:=iz l.length (λm (i:aN) (x:Row)=>l3 cw (λ(_:Row) (_:ar) (_:az) (d:Row)=>ai d) m (Lib.rs l) k (i:az) x) (λi=>Lib.rs (eV.without (l.take i) k)) (ai (Lib.rs (eV.without l k))) (λm i h=>by
  have a:=eV.ir (l:=l.take i) (k:=k);rw[dG]at a;simp only[l3,r3,Lib.cL,dh,h,aQ,cm,aK,au,dK,VI h,bn,eP,p9,bz,cG h (by omega:l.length<=9223372036854775807),bY,bw];rw[b6 (by omega) (by omega),au];have e:eV.without (l.take (i+1)) k=eV.without (l.take i) k++(bif !decide (l[i]=k)then [l[i]]else []):=by unfold eV.without;rw[cE h,jc];cases hd:ah (l[i]=k)<;>simp[hd]
  rw[e];cases hd:ah (l[i]=k)with
  |true=>rw[aY,ax,ax,d_]
  |false=>rw[bH,au,au];unfold Lib.rs;rw[cT];rfl) (λm=>by
  simp only[l3,r3,Lib.cL,dh,bg,bc,ax,cR,bY,bw]) cw 0 (bB _) eG
 exact key
end py
namespace eO
open eV (has without)
open nA (iQ)
def val(w m:aE ar)(s:aE (aE az))(a:az)(key:ar):aE ar×aE ar×aE (aE az)×az×ar:=
 bif yW w m s a&&gf key then
  bif has w key then(without w key++[key],m,(dy.val s a key).1,(dy.val s a key).2,⟨#[]⟩)
  else bif has m key then(w,without m key++[key],(dy.val s a key).1,(dy.val s a key).2,⟨#[]⟩)
  else bif ah ((w++[key]).length<=2)then(w++[key],m,(dy.val s a key).1,(dy.val s a key).2,⟨#[]⟩)
  else bif ah (m.length<4)then((w++[key]).tail,m++[(w++[key]).getD 0 ⟨#[]⟩],(dy.val s a key).1,(dy.val s a key).2,⟨#[]⟩)
  else bif ah (lS.val (dy.val s a key).1 (dy.val s a key).2 ((w++[key]).getD 0 ⟨#[]⟩)>lS.val (dy.val s a key).1 (dy.val s a key).2 (m.getD 0 ⟨#[]⟩))then
   ((w++[key]).tail,m.tail++[(w++[key]).getD 0 ⟨#[]⟩],(dy.val s a key).1,(dy.val s a key).2,m.getD 0 ⟨#[]⟩)
  else((w++[key]).tail,m,(dy.val s a key).1,(dy.val s a key).2,(w++[key]).getD 0 ⟨#[]⟩)
 else(w,m,s,a,⟨#[]⟩)
def A2(l:aE ar)(k:ar):rs l++[[CV.s k]]=rs (l++[k]):=by unfold Lib.rs;rw[cT];rfl
def zer(l:aE ar):aR [Ck.s] 0++rs l=rs l:=rfl
def Nx(l:aE ar):bn (av (rs l) (aP 0) 0)=l.getD 0 ⟨#[]⟩:=by cases l<;>rfl
def Oo(l:aE ar):ez (rs l) (aP 1) (aP (l.length:az))=rs l.tail:=by unfold ez Lib.rs;rw[show aP 1=1 from rfl,dK,List.drop_one,<-List.map_tail,e8 (by simp)]
def mo(h:pM l=ao)(hk:k∈l):gf k=true:=by
 unfold pM at h;rw[bE]at h;obtain⟨i,hi,rfl⟩:=dW hk;have:=h i (by simpa using hi);unfold NI at this;rw[aM]at this;have e:l.getD i ⟨#[]⟩=l[i]:=by simp[eC,hi]
 rw[e]at this;exact this.1
def sq:pM l=ao↔(∀k∈l,gf k=ao)/\l.Nodup:=by
 constructor
 ·intro h;refine⟨λk hk=>mo h hk,?_⟩
  rw[pW,dH];intro i j hi a f d;unfold pM at h;rw[bE]at h;have h2:=h j (by simpa using a);unfold NI at h2;have e:l.getD j ⟨#[]⟩=l[j]:=by simp[eC,a]
  rw[e,aM,di,pK]at h2;refine h2.2 ?_;rw[<-d];have:(l.take j)[i]'(by rw[dG];omega)=l[i]:=ze ..;rw[<-this];exact bF _
 ·intro h;unfold pM;rw[bE];intro j a;have a:j<l.length:=by simpa using a
  unfold NI;have e:l.getD j ⟨#[]⟩=l[j]:=by simp[eC,a]
  rw[e,aM,di,pK];refine⟨h.1 _ (bF a),λhm=> ?_⟩
  obtain⟨i,hi,d⟩:=dW hm;rw[dG]at hi;rw[ze]at d;have h2:=h.2;rw[pW,dH]at h2;exact h2 i j (by omega) a (by omega) d
def kr(h:gf k=ao):1<=k.size/\k.size<=30:=by unfold gf at h;have:=cB h;omega
def HD{a:az}(h:jr.oZ s):jr.oZ (dy.val s a key).1:=by
 unfold dy.val;cases d:fE.od s a with
 |false=>exact h
 |true=>
  obtain⟨hs,_,hq⟩:=dy.sC d;obtain⟨j,f⟩:=dy.qY (key:=key) hs hq;rw[au];cases ah (a+1=64)with
  |false=>exact⟨by rw[ax];dsimp only;omega,λq h=>by have:=(f q h).1;omega⟩
  |true=>
   rw[au];dsimp only;unfold dy.half;refine⟨by rw[bK];omega,λq h=> ?_⟩
   obtain⟨i,e,rfl⟩:=cU.1 h;rw[bK];have:=(f i e).1;omega
def q_{l:aE ar}(h:0<l.length):l.getD 0 ⟨#[]⟩∈l:=by
 cases l with
 |nil=>simp at h
 |cons x r=>exact cQ ..
def Ah{a:az}(h:yW w m s a=ao):pM (w++m)=ao/\w.length<=2/\m.length<=4/\fE.od s a=true:=by unfold yW at h;simp only[aM,ba]at h;exact⟨h.1,h.2.1,h.2.2.1,h.2.2.2⟩
def ok(w m:aE ar)(s:aE (aE az))(a:az)(key:ar)(hw:w.length<=1048576)(hm:m.length<=1048576)(e:jr.oZ s)(hk:key.size<=140737488355328):
  c (rs w) (rs m) (rr s) a key=ao/\v (rs w) (rs m) (rr s) a key=(rs (val w m s a key).1,rs (val w m s a key).2.1,rr (val w m s a key).2.2.1,(val w m s a key).2.2.2.1,(val w m s a key).2.2.2.2):=by
 refine out _ _ _ _ _ ?_;have h1:=gi.ok w m s a hw hm e;have h2:=nA.ok w m s a hw hm e;have h3:=dy.ok s a key e hk;have h4:=eV.ok w key (by omega);have y:=eV.ok m key (by omega);have h6:=py.ok w key hw;have z:=py.ok m key hm;have C:=HD (a:=a) (key:=key) e;unfold vo b bw dt;simp only[ic,h1.1,h1.2,h2.1,h2.2,au];unfold val;cases hp:yW w m s a with
 |false=>rfl
 |true=>
  obtain⟨B,X,Y,p4⟩:=Ah hp;rw[iQ,bj];cases i:gf key with
  |false=>rfl
  |true=>
   have j:=kr i;have l6:=ir (l:=w) (k:=key);have l7:=ir (l:=m) (k:=key);simp only[aY,ax,au,h3.1,h3.2,h4.1,h4.2,y.1,y.2,h6.1,h6.2,z.1,z.2,A2,zer,Lib.cL,p9,bz];rw[b6 (n:=(without w key).length+1) (by omega) (by omega),b6 (n:=(without m key).length+1) (by omega) (by omega),b6 (n:=w.length+1) (by omega) (by omega)];simp only[au];cases U:has w key with
   |true=>rfl
   |false=>
    cases V:has m key with
    |true=>rfl
    |false=>
     simp only[ax];rw[show ah (((w++[key]).length:az)<=2)=ah ((w++[key]).length<=2)by rw[b7];omega];cases H:ah ((w++[key]).length<=2)with
     |true=>rfl
     |false=>
      have o:(w++[key]).length=3:=by have:=vz H;rw[bU,bz]at this⊢;omega
      have f:(w++[key]).getD 0 ⟨#[]⟩∈w++[key]:=q_ (by omega);have M:((w++[key]).getD 0 ⟨#[]⟩).size<=30:=by
       rcases a_.1 f with h|h
       ·exact(kr (mo B (bZ _ h))).2
       ·rw[a7]at h;rw[h];exact j.2
      have u:=lS.ok (dy.val s a key).1 (dy.val s a key).2 ((w++[key]).getD 0 ⟨#[]⟩) C (by omega);have P:gA 1 ((w++[key]).length:az) ((w++[key]).length:az)=true:=by rw[o];rfl
      have A:(w++[key]).tail.length=2:=by rw[V2];omega
      have S:b_ (bD (aR [Ck.s] 0)+(w++[key]).tail.length) 16=true:=b6 (by rw[A];decide) (by rw[A];decide);simp only[ax,aA (show(0:az)<((w++[key]).length:az)by omega),P,au,Nx,Oo,S,zer,A2,Lib.cL,b6 (n:=m.length+1) (b:=16) (by omega) (by omega),u.1,u.2,bw,dt];rw[show ah ((m.length:az)<4)=ah (m.length<4)by rw[b7];omega];cases K:ah (m.length<4)with
      |true=>rfl
      |false=>
       have N:m.length=4:=by have:=vz K;omega
       have r:m.getD 0 ⟨#[]⟩∈m:=q_ (by omega);have O:=(kr (mo B (bR _ r))).2;have x:=lS.ok (dy.val s a key).1 (dy.val s a key).2 (m.getD 0 ⟨#[]⟩) C (by omega);have Q:gA 1 (m.length:az) (m.length:az)=true:=by simp[gA];omega
       have d:m.tail.length=3:=by rw[V2];omega
       have t:b_ (bD (aR [Ck.s] 0)+m.tail.length) 16=true:=b6 (by rw[d];decide) (by rw[d];decide);simp only[ax,aA (show(0:az)<(m.length:az)by omega),Q,au,t,A2,b6 (n:=m.tail.length+1) (b:=16) (by omega) (by omega),x.1,x.2,bw,dt];cases ah (lS.val (dy.val s a key).1 (dy.val s a key).2 ((w++[key]).getD 0 ⟨#[]⟩)>lS.val (dy.val s a key).1 (dy.val s a key).2 (m.getD 0 ⟨#[]⟩))<;>rfl
def lens(s:aE (aE az)):aE aN:=s.map bD
def Fh(s:aE (aE az))(key:ar):lens (dy.CG s key)=lens s:=by
 unfold lens dy.CG;apply lP
 ·simp
 ·intro i h1 h2;simp[dy.bq]
def PB(s:aE (aE az)):lens (dy.half s)=lens s:=by unfold lens dy.half;rw[jL];apply Qh;intro q _;simp
def W6(s:aE (aE az))(a:az)(key:ar):lens (dy.val s a key).1=lens s:=by
 unfold dy.val;cases fE.od s a with
 |false=>rfl
 |true=>
  cases ah (a+1=64)with
  |false=>exact Fh s key
  |true=>exact(PB _).trans (Fh s key)
def LW(w m:aE ar)(s:aE (aE az))(a:az)(key:ar):(val w m s a key).1.length<=w.length+1/\(val w m s a key).2.1.length<=m.length+1/\lens (val w m s a key).2.2.1=lens s:=by
 have hw:=ir (l:=w) (k:=key);have hm:=ir (l:=m) (k:=key);have hs:=W6 s a key;unfold val;cases yW w m s a&&gf key with
 |false=>exact⟨by rw[ax];exact iX _,by rw[ax];exact iX _,rfl⟩
 |true=>
  rw[au];cases has w key with
  |true=>refine⟨?_,?_,hs⟩<;>(simp only[au];simp;try omega)
  |false=>
   cases has m key with
   |true=>refine⟨?_,?_,hs⟩<;>(simp only[au,ax];simp;try omega)
   |false=>
    cases ah ((w++[key]).length<=2)with
    |true=>refine⟨?_,?_,hs⟩<;>(simp only[au,ax];simp;try omega)
    |false=>
     cases ah (m.length<4)with
     |true=>refine⟨?_,?_,hs⟩<;>(simp only[au,ax];simp;try omega)
     |false=>
      cases ah (lS.val (dy.val s a key).1 (dy.val s a key).2 ((w++[key]).getD 0 ⟨#[]⟩)>lS.val (dy.val s a key).1 (dy.val s a key).2 (m.getD 0 ⟨#[]⟩))with
      |true=>refine⟨?_,?_,hs⟩<;>(simp only[au,ax];simp;try omega)
      |false=>refine⟨?_,?_,hs⟩<;>(simp only[au,ax];simp;try omega)
end eO
open eO (q_ Nx kr sq mo Ah HD A2 Oo zer)
namespace oM
open _root_.Go.FG.Lib (rc)
open eV (has)
open iB (sF)
def HI(p:Px)(e:En):Px:=
 {p with
  w:=(eO.val p.w p.m p.s p.a e.k).1
  m:=(eO.val p.w p.m p.s p.a e.k).2.1
  s:=(eO.val p.w p.m p.s p.a e.k).2.2.1
  a:=(eO.val p.w p.m p.s p.a e.k).2.2.2.1
  en:=bif has (eO.val p.w p.m p.s p.a e.k).1 e.k||has (eO.val p.w p.m p.s p.a e.k).2.1 e.k then qO (ik p.en (eO.val p.w p.m p.s p.a e.k).2.2.2.2) e else ik p.en (eO.val p.w p.m p.s p.a e.k).2.2.2.2}
def ajX(h:(c7 en.length).all (qE.H6 en w m)=ao):So en/\∀e∈en,1<=e.k.size:=by
 rw[bE]at h;have h1:∀i (hi:i<en.length),qE.H6 en w m i=true:=λi hi=>h i (by simpa using hi);constructor
 ·have f:∀d i (hi:i+d+1<en.length),fU (el en i).k (el en (i+d+1)).k=true:=by
   intro d;induction d with
   |zero=>
    intro i hi;have:=h1 (i+1) (by omega);unfold qE.H6 at this;rw[aM,aM,dN]at this;rcases this.2.1 with h|h
    ·have:=cB h;omega
    ·exact h
   |succ d ih=>
    intro i hi;have a:=ih i (by omega);have:=h1 (i+d+1+1) (by omega);unfold qE.H6 at this;rw[aM,aM,dN]at this;rcases this.2.1 with h|h
    ·have:=cB h;omega
    ·exact fZ.pB _ _ _ a h
  unfold So;rw[dH];intro i j hi s r;have:=f (j-i-1) i (by omega);rw[show i+(j-i-1)+1=j by omega,e7 hi,e7 s]at this;exact this
 ·intro e o;obtain⟨i,hi,rfl⟩:=dW o;have:=h1 i hi;unfold qE.H6 qE.zW at this;rw[aM,e7 hi]at this;exact(gU.DT this.1).1.1
def Hv(h:mj.lC p=ao):So p.en/\(∀e∈p.en,1<=e.k.size)/\p.en.length<=6/\p.w.length<=2/\p.m.length<=4/\p.fe.length<=20/\p.cl.length<=6/\(1<=p.now/\p.now<=1000000000)/\(0<=p.hits/\p.hits<=1000000000)/\nA.yW p.w p.m p.s p.a=ao/\(∀i,i<p.fe.length->nz.nN p.now (el p.fe i)=ao):=by
 unfold mj.lC at h;simp only[aM,ba]at h;obtain⟨h1,h2,h3,h4,j,h6,x⟩:=h;unfold qE.Qs at h2;simp only[aM,ba]at h2;obtain⟨f,d,u⟩:=h2;obtain⟨s1,t⟩:=ajX f;obtain⟨_,o,r,_⟩:=eO.Ah d;refine⟨s1,t,by omega,o,r,h3,h4,h1,j,d,λi hi=> ?_⟩
 rw[bE]at h6;have:=h6 i (by simpa using hi);rw[aM]at this;exact this.1
def jQ(h:mj.lC p=ao):p.Fit 48:=by
 obtain⟨_,_,a1,a2,a3,a4,a5,_,_,hp,_⟩:=Hv h;obtain⟨_,_,_,hs⟩:=eO.Ah hp;unfold fE.od at hs;simp only[aM,ba,bE]at hs;obtain⟨s1,_,s3⟩:=hs;have a:∀q∈p.s,q.length=16:=λq hq=>by have:=s3 q hq;unfold fE.rD at this;rw[aM,ba]at this;exact this.1
 refine⟨by omega,by omega,by omega,⟨by omega,λq hq=>by rw[a q hq];omega,?_⟩,by omega,by omega⟩
 have:p.s.map bD=List.replicate 3 16:=by
  rw[List.eq_replicate_iff];refine⟨by rw[bK,s1],λx d=> ?_⟩
  obtain⟨q,hq,rfl⟩:=cU.1 d;exact a q hq
 rw[this];decide
end oM
open oM (HI)
namespace wM
open fA (told)
def mS(f:Fe):En:=⟨f.k,f.st,f.li,f.t⟩
def cls(p:Px)(f:az)(life:az):Px×aZ:=
 bif yV p f&&ah (0<=life/\life<=999999)then
  (bif ah (life>0)then oM.HI (told p f.toNat {el p.fe f.toNat with sta:=2,li:=life,st:=p.now} 2) (mS {el p.fe f.toNat with sta:=2,li:=life,st:=p.now})
   else told p f.toNat {el p.fe f.toNat with sta:=2,li:=life,st:=p.now} 2,ao)
 else(p,aq)
def IK{f life:az}:(cls p f life).1.now=p.now/\(cls p f life).1.hits=p.hits:=by
 unfold cls;cases yV p f&&ah (0<=life/\life<=999999)with
 |false=>exact⟨rfl,rfl⟩
 |true=>cases ah (life>0)<;>exact⟨rfl,rfl⟩
end wM
open wM (cls mS)
namespace gH
open _root_.Go.FG.Lib (rc)
open eV (has without)
def tC(e:En)(now:az):aZ:=EJ.v e.k e.st e.li e.bo now
def jn(l:aE Cl)(c:Cl):aE Cl:=l.filter (λx=>ah (x.id<c.id))++[c]++l.filter (λx=>ah (x.id>c.id))
def oc(l:aE Cl)(id:az):aZ:=l.any λx=>ah (x.id=id)
def KK(l:aE En)(key:ar):aG En:=l.find? λe=>ah (e.k=key)
def Jo(key:ar)(f:Fe):aZ:=ah (f.k=key)&&ah (f.sta=1)
def Qt(l:aE Fe)(key:ar):aG aN:=l.findIdx? (Jo key)
def wx(key:ar):Fe:=⟨key,⟨#[]⟩,1,0,0⟩
def put(p:Px)(id:az)(key:ar)(h:aZ)(fe:aE Fe)(i:aN):Px:=
 {p with en:=bif h then ik p.en key else p.en,w:=bif h then without p.w key else p.w,m:=bif h then without p.m key else p.m,s:=(dy.val p.s p.a key).1,a:=(dy.val p.s p.a key).2,fe:=fe,cl:=jn p.cl ⟨id,key,(i:az)+1,0,1,(el fe i).t,0⟩}
def lN(p:Px)(id:az)(key:ar)(h:aZ):Px×az:=
 match Qt p.fe key with
 |some i=>(put p id key h p.fe i,0)
 |none=>bif ah (p.fe.length<20)then(put p id key h (p.fe++[wx key]) p.fe.length,0)else(p,2)
def hit(p:Px)(id:az)(key:ar)(e:En):Px:=
 {p with w:=(eO.val p.w p.m p.s p.a key).1,m:=(eO.val p.w p.m p.s p.a key).2.1,s:=(eO.val p.w p.m p.s p.a key).2.2.1,a:=(eO.val p.w p.m p.s p.a key).2.2.2.1,cl:=jn p.cl ⟨id,key,0,e.st,2,e.bo,p.now-e.st⟩,hits:=bif ah (p.hits<1000000000)then p.hits+1 else p.hits}
def ask(p:Px)(id:az)(key:ar):Px×az:=
 bif lC p&&(ah (1<=id/\id<=9)&&(gf key&&(!oc p.cl id&&ah (p.cl.length<6))))then
  match KK p.en key with
  |some e=>bif tC e p.now then(hit p id key e,0)else lN p id key ao
  |none=>lN p id key aq
 else(p,1)
def KP(l:aE α)(q:α->aZ)(p:aN->aZ)(h:∀i (hi:i<l.length),p i=q l[i]):ah (fi p l.length 0≥0)=l.any q:=by
 rcases qK p l.length 0 with ⟨e,a⟩|⟨k,_,hk,e,hp,_⟩
 ·rw[e,p6];symm;rw[ZC];intro x d;obtain⟨i,hi,rfl⟩:=dW d;rw[<-h i hi,a i (by omega) (by omega)];simp
 ·rw[e,jz];symm;rw[List.any_eq_true];exact⟨_,bF (by omega:k<l.length),by rw[<-h k (by omega)];exact hp⟩
def ye[Inhabited α](l:aE α)(q:α->aZ)(p:aN->aZ)(h:∀i (hi:i<l.length),p i=q l[i]):
  (fi p l.length 0= -1/\l.find? q=ay/\l.findIdx? q=ay)\/∃i,i<l.length/\fi p l.length 0=(i:az)/\l.find? q=ai (el l i)/\l.findIdx? q=ai i:=by
 rcases qK p l.length 0 with ⟨e,s⟩|⟨k,_,hk,e,hp,o⟩
 ·have r:∀x∈l,q x=false:=λx m=>by obtain⟨i,hi,rfl⟩:=dW m;rw[<-h i hi,s i (by omega) (by omega)]
  refine .inl ⟨e,V1.2 λx m=>by rw[r x m];simp,EC.2 r⟩
 ·have a:k<l.length:=by omega
  have f:l.findIdx? q=ai k:=yR.2 ⟨a,by rw[<-h k a];exact hp,λj d=>by rw[<-h j (by omega),o j (by omega) d];simp⟩;refine .inr ⟨k,a,e,?_,f⟩;rw[Bb];exact⟨by rw[e7 a,<-h k a];exact hp,k,a,(e7 a).symm,λj d=>by rw[<-h j (by omega),o j (by omega) d];rfl⟩
def lid(id:az)(y:aE CV):aZ:=ah (bO (y.getD 0 (.b aq))<id)
def K5(cs:l.Pairwise λa b=>a.id<b.id)(d:oc l c.id=aq):
  (rc l).take ((rc l).takeWhile (lid c.id)).length++[Cl.row c]++(rc l).drop ((rc l).takeWhile (lid c.id)).length=rc (jn l c):=by
 rw[yJ,xW];have f:∀y∈l,y.id≠c.id:=λy i e=>by unfold oc at d;rw[ZC]at d;exact d y i (aA e)
 obtain⟨k,m⟩:=Lib.Aw (λx:Cl=>ah (x.id<c.id)) (λx=>ah (x.id>c.id)) l (λy i=>by
  have:=f y i;by_cases h:y.id<c.id
  ·rw[aA h,p6];rfl
  ·rw[aD h,jz];rfl) (cs.imp λ{a b} j h=>aA (by have:=cB h;omega))
 unfold Lib.rc;rw[OU,OS];have e:lid c.id∘Cl.row=λx:Cl=>ah (x.id<c.id):=rfl;rw[e,k,m];unfold jn;rw[cT,cT];rfl
end gH
open gH (KK ye oc hit jn K5 lid wx Qt Jo)
namespace xD
def kN(left:Row)(i:aN)(f:Fi):az:=bif ah (i<left.length)then eE ao f.kp (eE aq (bO (av left i 0)) (f.t.size:az))else f.kp
def KF(left:Row)(i:aN)(f:Fi):Fi:=⟨f.n,f.t.extract 0 (kN left i f).toNat,kN left i f⟩
def Lb(d:aE Fi)(left:Row):aG (aE Fi):=bif vO d then ai (d.mapIdx (KF left))else ay
def Hd(left:Row)(i:aN)(h:0<=f.kp/\f.kp<=(f.t.size:az)):f.kp<=kN left i f/\kN left i f<=(f.t.size:az):=by
 unfold kN eE;cases ah (i<left.length)with
 |false=>rw[ax];omega
 |true=>simp only[au,ax];split<;>split<;>omega
def ok(d:aE Fi)(left:Row)(hd:d.length<=1000):c (rd d) left=ao/\v (rd d) left=sf.res (Lb d left):=by
 refine out _ _ ?_;unfold vo b Lb bw;have h1:=sf.Yt d (by omega);have h2:=tP.ok (rd d) (by rw[eA];omega);rw[h1.1,h1.2,au];cases hk:vO d with
 |false=>rfl
 |true=>
 rw[aY,ax,h2.1,h2.2,au,au,eA];obtain⟨H,A,K⟩:=lB.1 hk;have o:∀f∈d,0<=f.kp/\f.kp<=(f.t.size:az):=λf y=>by have:=A f y;unfold dJ.nN at this;simp only[aM,ba,di,eZ]at this;exact this.2.2
 refine nT Fi.row d (KF left) (λm (i:aN) (x:Row)=>l5 cw (λ(_ _:Row) (_ _:az) (B:Row)=>ai (B,ao)) m left (rd d) (d.length:az) (i:az) x) (λx=>ai (x,ao)) (λm i L h h2 hl u=> ?_) (λm L hl=> ?_) cw eG
 ·have C:=Hd left i (o _ (bF h));have h0:=(o _ (bF h)).1;have a:(L.map Fi.row).length=L.length:=bK ..;have hs:∀n:az,n=kN left i d[i]->eH (L.map Fi.row) i 0 [CV.s d[i].n,CV.s (d[i].t.extract (aP 0) n.toNat),CV.i ak n]=(L.set i (KF left i d[i])).map Fi.row:=λn z=>by subst z;exact k9 Fi.row L i 0 _ (KF left i d[i]) h2 (by rw[u];rfl)
  have r:∀k n,bO (CV.i k n)=n:=λ_ _=>rfl;have cs:∀x,bn (CV.s x)=x:=λ_=>rfl;by_cases hi:i<left.length
  ·have e:kN left i d[i]=eE ao d[i].kp (eE aq (bO (av left i 0)) (d[i].t.size:az)):=by unfold kN;rw[aA hi];rfl
   have j:gA 0 (eE ao d[i].kp (eE aq (bO (av left i 0)) (d[i].t.size:az))) (d[i].t.size:az)=true:=by rw[<-e];simp[gA];omega
   simp only[l5,r5,dh,h,hi,h2,a,eA,aQ,cm,aK,au,dK,Jv h,VG h,VH h,cs,r,j,hs _ e.symm,cG h (by omega:d.length<=9223372036854775807),bY,bw]
  ·have e:kN left i d[i]=d[i].kp:=by unfold kN;rw[aD hi];rfl
   have j:gA 0 d[i].kp (d[i].t.size:az)=true:=by have:=o _ (bF h);simp[gA];omega
   simp only[l5,r5,dh,h,hi,h2,a,eA,aQ,bc,cm,aK,au,ax,dK,Jv h,VG h,VH h,cs,r,j,hs _ e.symm,cG h (by omega:d.length<=9223372036854775807),bY,bw]
 ·simp only[l5,r5,dh,bg,bc,ax,bY,bw]
end xD
open xD (KF kN Hd Lb)
namespace jM
def eo(l:Row)(i:aN):aZ:=gU.v (bn (av l i 0)) (bO (av l i 1)) (bO (av l i 2)) (bn (av l i 3))
def tx(l:Row)(i:aN):ar:=jN.tu (bn (av l i 0)) (bO (av l i 1)) (bO (av l i 2)) (bn (av l i 3))
def fs(l:Row):aN->aN->ar->aG ar
 |0,_,acc=>ai acc
 |d+1,i,acc=>if eo l i=ao then fs l d (i+1) (acc++fI.fr (tx l i))else ay
def G_(l:Row)(d i:aN)(acc:ar):fs l (d+1) i acc=if eo l i=ao then fs l d (i+1) (acc++fI.fr (tx l i))else none:=rfl
def fin(o:aG ar)(a:aG R)(d:ar->aG R):aG R:=match o with|some x=>d x|none=>a
def M9(l:Row)(hl:l.length<=1048576)(F:aN->aN->ar->aG R)(d:aG R)(f:ar->aG R)
  (k:∀m i acc,i<l.length->acc.size<=2000*i->(fI.fr (tx l i)).size<=2000->eo l i=ao->F (m+1) i acc=F m (i+1) (acc++fI.fr (tx l i)))
  (j:∀m i acc,i<l.length->eo l i=aq->F (m+1) i acc=d) (hE:∀m acc,F (m+1) l.length acc=f acc):F cw 0 ⟨#[]⟩=fin (fs l l.length 0 ⟨#[]⟩) d f:=by
 have:=gP (λn (z:aN×ar)=>F n z.1 z.2) (λz=>l.length-z.1) (λz=>z.1<=l.length/\z.2.size<=2000*z.1) (λz=>fin (fs l (l.length-z.1) z.1 z.2) d f) (λm z r=>by
  obtain⟨i,acc⟩:=z;obtain⟨h1,h2⟩:=r;dsimp only at h1 h2⊢;by_cases h:i<l.length
  ·have e:l.length-i=(l.length-(i+1))+1:=by omega
   cases a:eo l i with
   |true=>
    right;have hs:=mP.uC a;have o:(fI.fr (tx l i)).size<=2000:=by have:=fI.WD (t:=tx l i) (by unfold tx;omega);unfold tx at this⊢;omega
    exact⟨(i+1,acc++fI.fr (tx l i)),⟨h,by dsimp only;rw[cj];omega⟩,by dsimp only;omega,by dsimp only;rw[e,G_,bm a],k m i acc h h2 o a⟩
   |false=>left;rw[j m i acc h a,e,G_,bk (by simp[a])];rfl
  ·left;have:i=l.length:=by omega
   subst this;rw[hE,qe];rfl) cw (0,⟨#[]⟩) ⟨bB _,bB _⟩ (mX (by dsimp only;omega))
 simpa using this
def nm:ar:=(aw #[aj 110,aj 101,aj 119])
def ko(has:aZ)(x:ar):Row:=(if has=ao then [[CV.i ak 4,CV.s nm,CV.s (aw #[]),CV.s (aw #[])]]else [])++[[CV.i ak 1,CV.s nm,CV.s x,CV.s (aw #[])],[CV.i ak 2,CV.s nm,CV.s (aw #[]),CV.s (aw #[])],[CV.i ak 3,CV.s nm,CV.s (aw #[]),CV.s (aw #[aj 107,aj 101,aj 112,aj 116])]]
def val(d l:Row):Row×aZ:=bif fT.val d then(match fs l l.length 0 ⟨#[]⟩with|some x=>(ko (ml.val d nm).2 x,ao)|none=>([],aq))else([],aq)
def ok(d l:Row)(hd:d.length<=1048576)(hl:l.length<=1048576):c d l=ao/\v d l=val d l:=by
 refine out d l ?_;have r:=fT.ok d (by omega);have s:=ml.ok d (aw #[aj 110,aj 101,aj 119]) (by omega);have u:ml.val d (aw #[aj 110,aj 101,aj 119])=ml.val d nm:=rfl;unfold vo b val bw;rw[r.1,r.2,au];cases fT.val d with
 |false=>rfl
 |true=>
  rw[aY,ax,au,s.1,au,s.2,u];have t:∀(K0:Row->aZ->ar->az->Row->Row->aG (Row×aZ)) (K1:Row->aZ->ar->az->Row->aG (Row×aZ)) (base:Row) (f:ar->aG (Row×aZ)) (h0:∀x i,K0 l aq x i [] base=ai ([],aq)) (h1:∀x i,K1 l aq x i base=f x),l9 cw K0 K1 cw l aq ⟨#[]⟩ 0 base=fin (fs l l.length 0 ⟨#[]⟩) (ai ([],aq)) f:=by
   intro K0 K1 base f h0 h1;refine M9 l hl (λm i acc=>l9 cw K0 K1 m l aq acc (i:az) base) _ f (λm i acc hi B C a=> ?_) (λm i acc hi a=> ?_) (λm acc=> ?_)
   ·have j:bA ((i:az)+1)=((i+1:aN):az):=c6 (by omega) (by omega);have k:jN.v (bn (av l i 0)) (bO (av l i 1)) (bO (av l i (1+1))) (bn (av l i (1+1+1)))=(tx l i,ao):=by unfold jN.v;exact bm a
    have e:=fI.ok (tx l i);have y:fI.val (tx l i)=(fI.fr (tx l i),ao):=by unfold fI.val;have z:=mP.Cc a;have A:=mP.uC a;rw[bm ⟨z,ca A (by omega)⟩]
    simp only[l9,r9,dh,cm,dK,hi,aQ,aK,au,ax,k,e.1,e.2,y,aY,aA (show acc.size+(fI.fr (tx l i)).size<=4611686018427387904 by omega),j,bY,bw]
   ·have k:jN.v (bn (av l i 0)) (bO (av l i 1)) (bO (av l i (1+1))) (bn (av l i (1+1+1)))=(⟨#[]⟩,aq):=by unfold jN.v;rw[bk (by intro h;have o:eo l i=true:=h;rw[a]at o;cases o)]
    have e:=fI.ok ⟨#[]⟩;simp only[l9,r9,dh,cm,dK,hi,aQ,aK,au,k,e.1,bH,bY,bw];exact h0 acc i
   ·simp only[l9,r9,dh,bg,bc,ax,bY,bw];exact h1 acc _
  cases H:(ml.val d nm).2 with
  |true=>rw[au];refine(t _ _ _ (λx=>ai (ko ao x,ao)) (λ_ _=>rfl) (λ_ _=>rfl)).trans ?_;cases fs l l.length 0 ⟨#[]⟩<;>rfl
  |false=>rw[ax];refine(t _ _ _ (λx=>ai (ko aq x,ao)) (λ_ _=>rfl) (λ_ _=>rfl)).trans ?_;cases fs l l.length 0 ⟨#[]⟩<;>rfl
end jM
namespace pe
open iV (kd tx base bt)
open dJ (ko act nN put without)
abbrev rM:ar:=(aw #[aj 110,aj 101,aj 119])
def sU(x:ar):aE Ac:=[⟨1,rM,x,⟨#[]⟩⟩,⟨2,rM,⟨#[]⟩,⟨#[]⟩⟩,⟨3,rM,⟨#[]⟩,ru⟩]
def Su(T:ar):T.extract 0 T.size=T:=sn T
def PC(h:vO d=ao)(hk:∀f∈d,f.kp=(f.t.size:az))(left:Row):Lb d left=ai d:=by
 unfold Lb;rw[h,au];congr 1;apply lP (by simp);intro i h1 h2;rw[List.getElem_mapIdx];have a:=hk _ (bF h2);have j:=Hd left i (f:=d[i]) ⟨by omega,by omega⟩;have e:kN left i d[i]=(d[i].t.size:az):=by omega
 unfold KF;rw[e,dX,Su];cases hd:d[i];rw[hd]at a;dsimp only at a⊢;rw[a]
def O0(o:aG ar):∀f∈base o,f.kp=(f.t.size:az):=λf a=>by
 cases o with
 |none=>cases a
 |some t=>rw[a7.1 a]
def less:fU ru rM=true:=by unfold fU;rw[kK,kK];rfl
def amP(t:ar)(k:az)(h1:t.size<=20000)(h2:0<=k/\k<=(t.size:az)):nN ⟨rM,t,k⟩=true:=by unfold nN;have:((rM.size:aN):az)=3:=rfl;rw[this,jz,aA h2,aD (by dsimp only;omega)];rfl
def HR{k:az}(h:(bt o).size<=20000)(d:x.size<=20000)(hk:0<=k/\k<=(x.size:az)):vO (base o++[⟨rM,x,k⟩])=true:=by
 refine dJ.lB.2 ⟨?_,λf a=> ?_,?_⟩
 ·cases o<;>simp[base]
 ·rcases a_.1 a with a|a
  ·exact(dJ.lB.1 (iV.uN h)).2.1 f a
  ·rw[a7.1 a];exact amP x k d hk
 ·cases o with
  |none=>exact H0 ..
  |some t=>exact qT.2 ⟨λy e=>by rw[a7.1 e];exact less,H0 ..⟩
def nKN:ru≠rM:=by decide
def Sx(o:aG ar)(x:ar)(k:az):(base o++[(⟨rM,x,k⟩:Fi)]).find? (λy=>ah (y.n=rM))=ai ⟨rM,x,k⟩:=by
 cases o with
 |none=>rfl
 |some t=>rw[show base (ai t)++[(⟨rM,x,k⟩:Fi)]=[⟨ru,t,t.size⟩,⟨rM,x,k⟩]from rfl,Kg (by simp[nKN]),List.find?_cons_of_pos (by simp)]
def ah'(o:aG ar):(base o).find? (λy=>ah (y.n=rM))=none:=by
 cases o with
 |none=>rfl
 |some t=>rw[show base (ai t)=[⟨ru,t,t.size⟩]from rfl,Kg (by simp[nKN]),List.find?_nil]
def ajO(o:aG ar)(x:ar)(k:az):put (base o) ⟨rM,x,k⟩=base o++[⟨rM,x,k⟩]:=by
 cases o with
 |none=>rfl
 |some t=>unfold put;rw[show base (ai t)=[⟨ru,t,t.size⟩]from rfl,dI (by simpa using less),cM (by simp[less])];rfl
def ae0(o:aG ar)(x y:ar)(k m:az):put (base o++[⟨rM,y,m⟩]) ⟨rM,x,k⟩=base o++[⟨rM,x,k⟩]:=by
 cases o with
 |none=>exact iV.yr rfl
 |some t=>unfold put;rw[show base (ai t)++[(⟨rM,y,m⟩:Fi)]=[⟨ru,t,t.size⟩,⟨rM,y,m⟩]from rfl,dI (by simpa using less),cM (by rw[dJ.irrefl];simp),cM (by simp[less]),cM (by simp)];rfl
def mov(o:aG ar)(x:ar)(k:az):put (without (base o++[⟨rM,x,k⟩]) rM) ⟨ru,x,k⟩=[⟨ru,x,k⟩]:=by
 have:without (base o++[⟨rM,x,k⟩]) rM=base o:=by
  unfold without;rw[jc,cM (by simp),List.filter_nil,d_,ka];intro f a;cases o with
  |none=>cases a
  |some t=>rw[a7.1 a];simp[nKN]
 rw[this];cases o with
 |none=>rfl
 |some t=>exact iV.yr rfl
def a1(h:(bt o).size<=20000)(d:x.size<=20000):act (base o) 1 rM x ⟨#[]⟩=ai (base o++[⟨rM,x,0⟩]):=by
 unfold act;rw[iV.uN h,show dJ.km 1 x ⟨#[]⟩=ao from by unfold dJ.km;simp,aK,au];have a:Jk (base o) 1 rM x ⟨#[]⟩=ai (base o++[⟨rM,x,0⟩]):=by unfold Jk;rw[ah'];dsimp only;rw[bm rfl,ajO]
 rw[a];dsimp only;rw[HR h d ⟨by omega,by omega⟩];rfl
def a2(h:(bt o).size<=20000)(a:x.size<=20000):act (base o++[⟨rM,x,0⟩]) 2 rM ⟨#[]⟩ ⟨#[]⟩=ai (base o++[⟨rM,x,x.size⟩]):=by
 unfold act;rw[HR h a ⟨by omega,by omega⟩,show dJ.km 2 ⟨#[]⟩ ⟨#[]⟩=ao from by unfold dJ.km;simp,aK,au];have d:Jk (base o++[⟨rM,x,0⟩]) 2 rM ⟨#[]⟩ ⟨#[]⟩=ai (base o++[⟨rM,x,x.size⟩]):=by unfold Jk;rw[Sx];dsimp only;rw[bk (by omega),bm rfl,ae0]
 rw[d];dsimp only;rw[HR h a ⟨by omega,by omega⟩];rfl
def a3(h:(bt o).size<=20000)(a:x.size<=20000):act (base o++[⟨rM,x,x.size⟩]) 3 rM ⟨#[]⟩ ru=ai (base (ai x)):=by
 unfold act;rw[HR h a ⟨by omega,by omega⟩,show dJ.km 3 ⟨#[]⟩ ru=ao from by unfold dJ.km;simp,aK,au];have d:Jk (base o++[⟨rM,x,x.size⟩]) 3 rM ⟨#[]⟩ ru=ai (base (ai x)):=by unfold Jk;rw[Sx];dsimp only;rw[bk (by omega),bk (by omega),bm rfl,bk (by rintro (h|h);exact h rfl;exact nKN h),mov];rfl
 rw[d];dsimp only;rw[iV.uN (o:=ai x) a];rfl
def amG(h:(bt o).size<=20000)(a:x.size<=20000):ko (base o) 0 (sU x)=(base (ai x),3):=by unfold sU ko;dsimp only;rw[a1 h a];dsimp only;unfold ko;dsimp only;rw[a2 h a];dsimp only;unfold ko;dsimp only;rw[a3 h a];rfl
def adU(l:aE En)(a:∀x∈l,H7 x=ao):∀(d i:aN) (acc:ar),d+i=l.length->jM.fs (re l) d i acc=ai (acc++tx (l.drop i)):=by
 intro d;induction d with
 |zero=>
  intro i acc h;have:i=l.length:=by omega
  subst this;rw[c_];exact gu ai (qQ).symm
 |succ d ih=>
  intro i acc h;have hi:i<l.length:=by omega
  have h0:jM.eo (re l) i=true:=by unfold jM.eo;rw[rJ hi,wG hi,show av (re l) i 2=CV.i ak (el l i).li from wH hi,show av (re l) i 3=CV.s (el l i).bo from wI hi];exact a _ (iY hi)
  have h1:jM.tx (re l) i=iV.tu l[i]:=by unfold jM.tx;rw[rJ hi,wG hi,show av (re l) i 2=CV.i ak (el l i).li from wH hi,show av (re l) i 3=CV.s (el l i).bo from wI hi,e7 hi];rfl
  rw[jM.G_,bm h0,h1,ih (i+1) _ (by omega),cJ hi,cY];rfl
end pe
open pe (sU)
namespace lj
open _root_.Go.FG.Lib (rc)
open dJ (ko)
open iV (tu tx base bt)
def dk(o:aG (aE En)):aE Fi:=base (o.map tx)
def es(o:aG (aE En)):aE En:=o.getD []
def IB(o:aG (aE En)):bt (o.map tx)=tx (es o):=by cases o<;>rfl
def CL(o:aG (aE En)):(dk o).length<=1:=by cases o<;>simp[dk,base]
def IP(h:(tx (es o)).size<=20000):vO (dk o)=true:=iV.uN (by rw[IB];exact h)
def Wp(h:(tx (es o)).size<=20000)(left:Row):Lb (dk o) left=ai (dk o):=pe.PC (IP h) (pe.O0 _) left
def ZP(h:(tx (es o)).size<=20000)(a:∀e∈es o,H7 e=ao):(U101.c (rd (dk o))=ao/\U101.v (rd (dk o))=re (kp (es o)))/\(tf.c (rd (dk o))=ao/\tf.v (rd (dk o))=re (kp (es o))):=by refine iV.fk (dk o) (es o) ⟨#[]⟩ (IP h) ?_ a (.inl rfl);unfold dk;rw[iV.OZ,IB];exact(qQ).symm
def Nd(h:(tx (es o)).size+(I6 e).size<=20000):ko (dk o) 0 (rk (I6 e))=(dk (ai (es o++[e])),2):=by unfold dk;rw[iV.S8 (by rw[IB];exact h),IB,jf,iV.YS]
def Nc(h:(tx (es o)).size<=20000)(hl:(tx l).size<=20000):ko (dk o) 0 (sU (tx l))=(dk (ai l),3):=pe.amG (by rw[IB];exact h) hl
def ZO(hs:(tx (es o)).size<=20000)(a:∀x∈l,H7 x=ao):jM.val (rd (dk o)) (re l)=(ra (sU (tx l)),ao):=by
 unfold jM.val;rw[show fT.val (rd (dk o))=ao from IP hs,au,dC,pe.adU l a l.length 0 ⟨#[]⟩ (by omega),gz];have d:(ml.val (rd (dk o)) jM.nm).2=false:=by unfold dk;rw[iV.fileAt,show jM.nm=pe.rM from rfl,pe.ah']
 dsimp only;rw[d,show(⟨#[]⟩:ar)++tx l=tx l from lO];rfl
end lj
namespace fV
open _root_.Go.FG.Lib (rc)
def JR:aE az:=[0,0,0,0,0,0,0,0,0,0,0,0,0,0,0,0]
def p0(now:az):Px:=⟨now,[],[],[],[JR,JR,JR],0,[],[],0⟩
def tC(e:En)(now:az):aZ:=EJ.v e.k e.st e.li e.bo now
def one(now:az)(p:Px)(e:En):Px:=bif tC e now then HI p e else p
def tD(now:az)(l:aE En):Px:=l.foldl (one now) (p0 now)
structure Inv (now:az) (i:aN) (p:Px):Prop where
 so:So p.en
 ks:∀e∈p.en,1<=e.k.size
 en:p.en.length<=i
 w:p.w.length<=i
 m:p.m.length<=i
 s:eO.lens p.s=[16,16,16]
 fe:p.fe=[]
 cl:p.cl=[]
 now:p.now=now
 hits:p.hits=0
def am5(now:az):Inv now 0 (p0 now):=⟨hZ,λe h=>(nomatch h),bW _,bW _,bW _,rfl,rfl,rfl,rfl,rfl⟩
def Ta(h:eO.lens s=[16,16,16]):s.length=3/\(∀q∈s,q.length=16)/\(s.map bD).sum=48:=by
 refine⟨?_,λq hq=> ?_,?_⟩
 ·have:=gu bD h;unfold eO.lens at this;simpa using this
 ·have:q.length∈eO.lens s:=cU.2 ⟨q,hq,rfl⟩;rw[h]at this;simpa using this
 ·rw[show s.map bD=[16,16,16]from h];rfl
def Inv.fit{now:az}{i:aN}{p:Px}(h:Inv now i p){n:aN}(d:i<=n)(e:48<=n):p.Fit n:=by
 obtain⟨a,b,c⟩:=Ta h.s;have hq:∀q∈p.s,q.length<=n:=λq hq=>by have:=b q hq;omega
 exact⟨ca h.en d,ca h.w d,ca h.m d,⟨by omega,hq,by omega⟩,by rw[h.fe];exact bB _,by rw[h.cl];exact bB _⟩
def Inv.up{now:az}{i:aN}{p:Px}(h:Inv now i p):Inv now (i+1) p:=⟨h.so,h.ks,nq h.en,nq h.w,nq h.m,h.s,h.fe,h.cl,h.now,h.hits⟩
def Ar(h:So en)(e:En):So (qO en e):=by have:=(fZ.yl (iB.AY h) e.k e.st e.li e.bo).1.1;rw[iB.sG]at this;unfold Lib.re at this;rw[kM]at this;exact this
def Inv.store{now:az}{i:aN}{p:Px}(h:Inv now i p)(e:En)(t:1<=e.k.size):Inv now (i+1) (HI p e):=by
 obtain⟨j,o,r⟩:=eO.LW p.w p.m p.s p.a e.k;have hw:=h.w;have hm:=h.m;have u:=h.en;refine⟨?_,?_,?_,ca j (by omega),ca o (by omega),r.trans h.s,h.fe,h.cl,h.now,h.hits⟩
 ·show So (bif _ then qO (ik p.en _) e else ik p.en _);cases eV.has (eO.val p.w p.m p.s p.a e.k).1 e.k||eV.has (eO.val p.w p.m p.s p.a e.k).2.1 e.k with
  |true=>exact Ar (h.so.drop _) e
  |false=>exact h.so.drop _
 ·show∀x∈(bif _ then qO (ik p.en _) e else ik p.en _),1<=x.k.size;have hd:∀x∈ik p.en (eO.val p.w p.m p.s p.a e.k).2.2.2.2,1<=x.k.size:=λx f=>h.ks x (dp.1 f).1;cases eV.has (eO.val p.w p.m p.s p.a e.k).1 e.k||eV.has (eO.val p.w p.m p.s p.a e.k).2.1 e.k with
  |true=>
   intro x f;rw[au]at f;unfold qO at f;rcases a_.1 f with f|f
   ·rcases a_.1 f with f|f
    ·exact hd x (dp.1 f).1
    ·rw[a7]at f;rw[f];exact t
   ·exact hd x (dp.1 f).1
  |false=>exact hd
 ·show(bif _ then qO (ik p.en _) e else ik p.en _).length<=i+1;have d:=iB.ua p.en (eO.val p.w p.m p.s p.a e.k).2.2.2.2;have q:=iB.sF (ik p.en (eO.val p.w p.m p.s p.a e.k).2.2.2.2) e (h.so.drop _);cases eV.has (eO.val p.w p.m p.s p.a e.k).1 e.k||eV.has (eO.val p.w p.m p.s p.a e.k).2.1 e.k with
  |true=>rw[au];omega
  |false=>rw[ax];omega
def zZ{now:az}(h:tC e now=ao):gU.v e.k e.st e.li e.bo=true:=by
 unfold tC EJ.v at h;cases hq:gU.v e.k e.st e.li e.bo with
 |true=>rfl
 |false=>rw[show xH.v e.k e.st e.li e.bo=aq from hq]at h;cases h
def ui(now:az)(l:aE En):∀i,i<=l.length->Inv now i (tD now (l.take i)):=by
 intro i;induction i with
 |zero=>intro _;exact am5 now
 |succ i ih=>
  intro hi;have h:=ih (by omega);have e:tD now (l.take (i+1))=one now (tD now (l.take i)) l[i]:=by unfold tD;rw[cE (by omega),nv];rfl
  rw[e];unfold one;cases a:tC l[i] now with
  |true=>exact h.store _ (gU.DT (zZ a)).1.1
  |false=>exact h.up
def yz(now:az)(l:aE En)(i:aN)(h:i<l.length):tD now (l.take (i+1))=one now (tD now (l.take i)) (el l i):=by unfold tD;rw[cE h,nv,e7 h];rfl
end fV
open fV (zZ ui p0 tD yz)
namespace lh
open _root_.Go.FG.Lib (rc)
def ok(p:Px)(hp:p.Fit 1048576):c p.now (re p.en) (rs p.w) (rs p.m) (rr p.s) p.a (rf p.fe) (rc p.cl) p.hits=ao/\v p.now (re p.en) (rs p.w) (rs p.m) (rr p.s) p.a (rf p.fe) (rc p.cl) p.hits=(p.now,re p.en,rs p.w,rs p.m,rr p.s,p.a,rf p.fe,rc p.cl,p.hits):=by have e:=hp.en;have f:=hp.fe;have d:=hp.cl;have h2:=gi.ok p.w p.m p.s p.a hp.w hp.m ⟨hp.s.1,hp.s.2.1⟩;exact out _ _ _ _ _ _ _ _ _ (by unfold vo b bw dt;rw[h2.1,h2.2,au,b6 (b:=48) (by simp[aR,dC];omega) (by simp[aR,dC];omega),b6 (b:=56) (by simp[aR,dV];omega) (by simp[aR,dV];omega),b6 (b:=72) (by simp[aR,eQ];omega) (by simp[aR,eQ];omega)];rfl)
end lh
namespace se
open _root_.Go.FG.Lib (rc)
def later(now n:az):az:=bif ah (now>1000000000-n%1000)then 1000000000 else bA (now+n%1000)
def val(p:Px)(n:az):Px:={p with now:=later p.now n}
def tm(n:az):(0<=bQ n 1000->bQ n 1000=n%1000)/\(bQ n 1000<0->bQ n 1000+1000=n%1000):=by
 rw[Int.tmod_eq_emod];by_cases h:0<=n\/(1000:az)∣n
 ·rw[bm h];constructor<;>omega
 ·rw[bk h];have hd:¬(1000:az)∣n:=λx=>h (.inr x);have:n%1000≠0:=λe=>hd (Int.dvd_of_emod_eq_zero e);constructor<;>simp<;>omega
def ok(p:Px)(n:az)(hp:p.Fit 1048576):c p.now (re p.en) (rs p.w) (rs p.m) (rr p.s) p.a (rf p.fe) (rc p.cl) p.hits n=ao/\v p.now (re p.en) (rs p.w) (rs p.m) (rr p.s) p.a (rf p.fe) (rc p.cl) p.hits n=((val p n).now,re p.en,rs p.w,rs p.m,rr p.s,p.a,rf p.fe,rc p.cl,p.hits):=by
 have h:=lh.ok p hp;refine out _ _ _ _ _ _ _ _ _ _ ?_;have t:=tm n;unfold vo b val later bw cq db du cC dm dP;simp only[ic,h.1,h.2,au];by_cases d:bQ n 1000<0
 ·have e:=t.2 d;rw[aA d,au,e,c6 (x:=n%1000) (by omega) (by omega),c6 (x:=1000000000-n%1000) (by omega) (by omega)];cases ah (p.now>1000000000-n%1000)<;>rfl
 ·have e:=t.1 (by omega);rw[aD d,ax,e,c6 (x:=1000000000-n%1000) (by omega) (by omega)];cases ah (p.now>1000000000-n%1000)<;>rfl
end se
open se (later tm)
namespace vi
open _root_.Go.FG.Lib (rc)
def val(p:Px)(id:az):Px:={p with cl:=p.cl.filter λc=> !decide (c.id=id)}
def ok(p:Px)(id:az)(hp:p.Fit 1048576):c p.now (re p.en) (rs p.w) (rs p.m) (rr p.s) p.a (rf p.fe) (rc p.cl) p.hits id=ao/\v p.now (re p.en) (rs p.w) (rs p.m) (rr p.s) p.a (rf p.fe) (rc p.cl) p.hits id=(p.now,re p.en,rs p.w,rs p.m,rr p.s,p.a,rf p.fe,rc (val p id).cl,p.hits):=by
 have h:=lh.ok p hp;have A:=hp.cl;refine out _ _ _ _ _ _ _ _ _ _ ?_;unfold vo b bw cq db du cC dP;simp only[ic,h.1,h.2,au];have key:=iz p.cl.length (λn (i:aN) (x:Row)=>l4 cw (λ(_ _ _:az) (_ _ _ _:Row) (_:az) (_ _:Row) (_ _ _ _ d f j:az) (k o r t u y:Row)=>ai (d,k,o,r,t,f,u,y,j)) n id (i:az) p.now (re p.en) (rs p.w) (rs p.m) (rr p.s) p.a (rf p.fe) (rc p.cl) p.hits 0 0 0 p.now p.a p.hits (re p.en) (rs p.w) (rs p.m) (rr p.s) (rf p.fe) x) (λi=>rc ((p.cl.take i).filter λc=> !decide (c.id=id))) (ai (p.now,re p.en,rs p.w,rs p.m,rr p.s,p.a,rf p.fe,rc (val p id).cl,p.hits)) (λn i hi=>by
  have z:((p.cl.take i).filter λc=> !decide (c.id=id)).length<=i:=by refine ca (eD ..) ?_;rw[dG];omega
  have e:(p.cl.take (i+1)).filter (λc=> !decide (c.id=id))=(p.cl.take i).filter (λc=> !decide (c.id=id))++(bif !decide ((el p.cl i).id=id)then [el p.cl i]else []):=by rw[cE hi,jc,e7 hi];cases hd:ah (p.cl[i].id=id)<;>simp[hd]
  rw[e];simp only[l4,r4,eQ,dh,hi,aQ,cm,aK,au,dK,Qv hi,wc1 hi,wc2 hi,wc3 hi,YV hi,YW hi,YX hi,bn,bO,p9,bz,cG hi (by omega:p.cl.length<=9223372036854775807),bY,bw];rw[b6 (by omega) (by omega),au,show((el p.cl i).id !=id)= !decide ((el p.cl i).id=id)from rfl];cases ah ((el p.cl i).id=id)with
  |true=>rw[aY,ax,ax,d_]
  |false=>rw[bH,au,au];unfold Lib.rc;rw[cT];rfl) (λn=>by
  simp only[l4,r4,eQ,dh,bg,bc,ax,cR,bY,bw];rfl) cw 0 (bB _) eG
 exact key
end vi
namespace iN
open lj (dk es)
structure Wo where
 p:Px
 o:aG (aE En)
 cd:aE az
 bd:aE En
structure Ev where
 k:az
 id:az
 t:ar
 n:az
 l:Row
def flag(b:aZ):az:=bif b then 0 else 1
def oa(w:Wo):aE En:=(kp (es w.o)).filter λe=>fV.tC e w.p.now
def closed(w:Wo)(id life:az):Wo×az:=
 let q:=cls w.p id life
 (bif q.2&&ah (life>0)then{w with p:=q.1,o:=ai (es w.o++[mS (el q.1.fe id.toNat)]),bd:=w.bd++[mS (el q.1.fe id.toNat)]}else{w with p:=q.1},flag q.2)
def I0(w:Wo):Wo:={w with p:=fV.tD w.p.now (oa w),o:=ai (oa w)}
def act(w:Wo)(e:Ev):Wo×az:=
 bif ah (e.k=1)then({w with p:=(gH.ask w.p e.id e.t).1},(gH.ask w.p e.id e.t).2)
 else bif ah (e.k=2)then({w with p:=(Ht w.p e.id e.t).1},flag (Ht w.p e.id e.t).2)
 else bif ah (e.k=3)then closed w e.id (e.n%1000000)
 else bif ah (e.k=4)then({w with p:=(GW w.p e.id).1},flag (GW w.p e.id).2)
 else bif ah (e.k=5)then({w with p:=se.val w.p e.n},0)
 else bif ah (e.k=6)then({w with p:=vi.val w.p e.id},flag (oc w.p.cl e.id))
 else(I0 w,0)
def step(w:Wo)(e:Ev):Wo:={(act w e).1 with cd:=w.cd++[(act w e).2]}
def il(e:Ev):aZ:=ah (1<=e.k/\e.k<=7)&&(ah (0<=e.id/\e.id<=30)&&(ah (e.t.size<=60)&&(ah (0<=e.n)&&ah (e.l.length<=4))))
end iN
open iN (Ev Wo closed il I0 flag oa)
namespace H9
open eV (has)
open nz (nN)
def Kx(now:az)(a:aN)(c:Cl):aZ:=
 decide (1<=c.id/\c.id<=9)&&(gf c.k&&(ah (1<=c.sta/\c.sta<=3)&&(ah (0<=c.fe/\c.fe<=(a:az))&&(ah ((c.got.size:az)<=400)&&(ah (0<=c.fr/\c.fr<=now)&&ah (0<=c.age))))))
structure ja (p:Px):Prop where
 now:1<=p.now/\p.now<=1000000000
 en:∀e∈p.en,zW e=ao
 so:So p.en
 ek:∀e∈p.en,e.k∈p.w\/e.k∈p.m
 pol:yW p.w p.m p.s p.a=ao
 len:p.w.length+p.m.length=p.en.length
 fl:p.fe.length<=20
 fe:∀f∈p.fe,nN p.now f=ao
 ap:p.fe.Pairwise λf g=>oK g f=aq
 cll:p.cl.length<=6
 cl:∀c∈p.cl,Kx p.now p.fe.length c=ao
 cs:p.cl.Pairwise λc d=>c.id<d.id
 hits:0<=p.hits/\p.hits<=1000000000
def T9(R:α->α->Prop)(f:∀x y z,R x y->R y z->R x z)(l:aE α)(h:∀i (hi:i+1<l.length),R (l[i]) (l[i+1])):l.Pairwise R:=by
 rw[dH];have a:∀d i (hi:i+d+1<l.length),R (l[i]) (l[i+d+1]):=by
  intro d;induction d with
  |zero=>intro i hi;exact h i hi
  |succ d ih=>intro i hi;exact f _ _ _ (ih i (by omega)) (h (i+d+1) (by omega))
 intro i j hi k e;have:=a (j-i-1) i (by omega);simp only[show i+(j-i-1)+1=j by omega]at this;exact this
def La(x y z:ar)(a:fU x y=ao)(b:fU y z=ao):fU x z=true:=fZ.pB _ _ _ a b
def ajC(h:lC p=ao):ja p:=by
 obtain⟨h1,h2,h3,h4,K,h6,M⟩:_/\_/\_/\_/\_/\_/\_:=by unfold lC at h;simpa only[aM,ba,bE,lr]using h
 obtain⟨B,C,H⟩:_/\_/\_:=by unfold Qs at h2;simpa only[aM,ba,bE,lr]using h2
 have r:∀i (hi:i<p.en.length),zW p.en[i]=ao/\(0<i->fU (el p.en (i-1)).k p.en[i].k=ao)/\(p.en[i].k∈p.w\/p.en[i].k∈p.m):=λi hi=>by have:=B i hi;unfold H6 at this;simp only[aM,dN,ba,e7 hi,jH]at this;exact⟨this.1,λh0=>this.2.1.resolve_left (by omega),this.2.2⟩
 have u:∀i (hi:i<p.cl.length),Kx p.now p.fe.length p.cl[i]=ao/\(0<i->(el p.cl (i-1)).id<p.cl[i].id):=λi hi=>by have:=M i hi;unfold ID at this;unfold Kx;simp only[aM,dN,ba,e7 hi]at this⊢;exact⟨⟨this.1,this.2.2⟩,λh0=>this.2.1.resolve_left (by omega)⟩
 have A:∀i (hi:i<p.fe.length),nN p.now p.fe[i]=ao/\∀j (o:j<i),oK p.fe[i] (p.fe[j]'(by omega))=false:=λi hi=>by
  have:=h6 i hi;unfold apart at this;simp only[bE,lr,e7 hi]at this;refine⟨this.1,λj o=> ?_⟩
  have h:=this.2 j o;rw[e7 (show j<p.fe.length by omega)]at h;simpa using h
 refine⟨h1,λe s=> ?_,?_,λe s=> ?_,C,H,h3,λf O=> ?_,?_,h4,λc N=> ?_,?_,K⟩
 ·obtain⟨i,hi,rfl⟩:=dW s;exact(r i hi).1
 ·refine T9 (λx y:En=>fU x.k y.k=ao) (λx y z a b=>La _ _ _ a b) p.en λi hi=> ?_;have:=(r (i+1) hi).2.1 (by omega);rw[Qi,e7 (show i<p.en.length by omega)]at this;exact this
 ·obtain⟨i,hi,rfl⟩:=dW s;exact(r i hi).2.2
 ·obtain⟨i,hi,rfl⟩:=dW O;exact(A i hi).1
 ·rw[dH];intro i j hi o t;exact(A j o).2 i t
 ·obtain⟨i,hi,rfl⟩:=dW N;exact(u i hi).1
 ·refine T9 (λc d:Cl=>c.id<d.id) (λx y z a b=>Int.lt_trans a b) p.cl λi hi=> ?_;have:=(u (i+1) hi).2 (by omega);rw[Qi,e7 (show i<p.cl.length by omega)]at this;exact this
def aib(h:ja p):lC p=true:=by
 unfold lC Qs;simp only[aM,ba,bE,lr];refine⟨h.now,⟨λi hi=> ?_,h.pol,h.len⟩,h.fl,h.cll,h.hits,λi hi=>⟨?_,?_⟩,λi hi=> ?_⟩
 ·unfold H6;simp only[aM,dN,ba,e7 hi,jH];refine⟨h.en _ (bF hi),?_,h.ek _ (bF hi)⟩
  by_cases h0:i=0
  ·exact .inl h0
  ·right;rw[e7 (show i-1<p.en.length by omega)];exact dH.1 h.so (i-1) i (by omega) hi (by omega)
 ·rw[e7 hi];exact h.fe _ (bF hi)
 ·unfold apart;simp only[bE,lr];intro j d;rw[e7 hi,e7 (show j<p.fe.length by omega),dH.1 h.ap j i (by omega) hi d];rfl
 ·have a:=h.cl _ (bF hi);unfold Kx at a;unfold ID;simp only[aM,dN,ba,e7 hi]at a⊢;refine⟨a.1,?_,a.2⟩
  by_cases h0:i=0
  ·exact .inl h0
  ·right;rw[e7 (show i-1<p.cl.length by omega)];exact dH.1 h.cs (i-1) i (by omega) hi (by omega)
def Da:lC p=ao↔ja p:=⟨ajC,aib⟩
end H9
open H9 (ja Kx Da)
namespace H_
open eV (has without)
def jJ{a:az}:yW w m s a=ao↔((∀k∈w++m,gf k=ao)/\(w++m).Nodup)/\w.length<=2/\m.length<=4/\od s a=true:=by unfold yW;rw[aM,aM,aM,ba,ba,eO.sq]
def HE{a:az}:od s a=ao↔s.length=3/\(0<=a/\a<=63)/\∀q∈s,q.length=16/\∀n∈q,0<=n/\n<=15:=by unfold od rD Le;simp only[aM,ba,bE]
def HF{a:az}(key:ar)(h:od s a=ao):od (dy.val s a key).1 (dy.val s a key).2=true:=by
 unfold dy.val;rw[h,au];obtain⟨h1,h2,h3⟩:=HE.1 h;obtain⟨e,d⟩:=dy.qY (key:=key) h1 h3;by_cases f:a+1=64
 ·rw[aA f,au,HE];unfold dy.half;refine⟨by rw[bK];exact e,by omega,λq hq=> ?_⟩
  obtain⟨r,i,rfl⟩:=cU.1 hq;refine⟨by rw[bK];exact(d r i).1,λn j=> ?_⟩
  obtain⟨k,hk,rfl⟩:=cU.1 j;have:=(d r i).2 k hk;rw[d' this.1];omega
 ·rw[aD f,ax,HE];exact⟨e,by omega,d⟩
def C8(h:gf k=ao):k≠⟨#[]⟩:=by intro e;rw[e]at h;exact cO h (by decide)
def uB{a:az}(h:yW w m s a=ao)(hk:gf key=ao):
  yW (eO.val w m s a key).1 (eO.val w m s a key).2.1 (eO.val w m s a key).2.2.1 (eO.val w m s a key).2.2.2.1=ao
  /\∀x,x∈(eO.val w m s a key).1\/x∈(eO.val w m s a key).2.1↔(x∈w\/x∈m\/x=key)/\x≠(eO.val w m s a key).2.2.2.2:=by
 obtain⟨⟨o,nd⟩,l1,l2,hs⟩:=jJ.1 h;have f:=HF key hs;have kn:=C8 hk;have wn:∀x,x∈w\/x∈m->x≠⟨#[]⟩:=λx d=>C8 (o x (a_.2 d));unfold eO.val;rw[h,hk,aK,au];generalize dy.val s a key=V at f;obtain⟨S,A⟩:=V;dsimp only at f⊢;rw[eK]at nd;obtain⟨U,N,n3⟩:=nd;have B:∀l:aE ar,l.Nodup->(without l key).Nodup/\(∀x,x∈without l key↔x∈l/\x≠key):=λl hl=>by unfold without;exact⟨hl.sublist jS,λx=>by simp⟩
 cases h1:has w key with
 |true=>
  have hm:=jH.1 h1;obtain⟨X,r⟩:=B w U;have Y:=eV.pP h1;dsimp only[au];refine⟨jJ.2 ⟨⟨λk d=> ?_,?_⟩,by simp;omega,l2,f⟩,λx=> ?_⟩
  ·simp only[a_,a7,r]at d;rcases d with (d|rfl)|d
   ·exact o _ (a_.2 (.inl d.1))
   ·exact hk
   ·exact o _ (a_.2 (.inr d))
  ·simp only[eK,a_,a7,r];grind
  ·simp only[a_,a7,r];grind
 |false=>
  rw[ax];have hw:=pK.1 h1;cases h2:has m key with
  |true=>
   have hm:=jH.1 h2;obtain⟨X,r⟩:=B m N;have Y:=eV.pP h2;dsimp only[au];refine⟨jJ.2 ⟨⟨λk d=> ?_,?_⟩,l1,by simp;omega,f⟩,λx=> ?_⟩
   ·simp only[a_,a7,r]at d;rcases d with d|d|rfl
    ·exact o _ (a_.2 (.inl d))
    ·exact o _ (a_.2 (.inr d.1))
    ·exact hk
   ·simp only[eK,a_,a7,r];grind
   ·simp only[a_,a7,r];grind
  |false=>
   rw[ax];have P:=pK.1 h2;have e:∀x,x∈w++[key]\/x∈m↔x∈w\/x∈m\/x=key:=λx=>by simp only[a_,a7];grind
   have i:∀x,x∈w++[key]\/x∈m->gf x=true:=λx d=>by
    rcases(e x).1 d with d|d|rfl
    ·exact o _ (a_.2 (.inl d))
    ·exact o _ (a_.2 (.inr d))
    ·exact hk
   have z:(w++[key]).Nodup/\∀x∈w++[key],x∉m:=by simp only[eK,a_,a7];grind
   have j:(w++[key]).length=w.length+1:=by simp
   generalize w++[key]=W at e i z j;obtain⟨O,y⟩:=z;by_cases h3:W.length<=2
   ·rw[aA h3,au];refine⟨jJ.2 ⟨⟨λk d=>i k (a_.1 d),?_⟩,h3,l2,f⟩,λx=> ?_⟩
    ·simp only[eK];grind
    ·dsimp only;rw[e];grind
   ·rw[aD h3,ax];cases W with
    |nil=>simp at j
    |cons C t=>
     rw[kU]at O;rw[bT]at j;have hg:(C::t).getD 0 ⟨#[]⟩=C:=rfl;have Q:(C::t).tail=t:=rfl;rw[hg,Q];by_cases h4:m.length<4
     ·rw[aA h4,au];refine⟨jJ.2 ⟨⟨λk d=>i k ?_,?_⟩,by dsimp only;omega,by simp;omega,f⟩,λx=> ?_⟩
      ·simp only[a_,a7,cF]at d⊢;grind
      ·simp only[eK,a_,a7,cF]at y⊢;grind
      ·dsimp only;rw[<-e];simp only[a_,a7,cF];grind
     ·rw[aD h4,ax];cases m with
      |nil=>simp at h4
      |cons H u=>
       rw[kU]at N;rw[bT]at l2 h4;have K:(H::u).getD 0 ⟨#[]⟩=H:=rfl;have M:(H::u).tail=u:=rfl;rw[K,M];cases ah (lS.val S A C>lS.val S A H)with
       |true=>
        rw[au];refine⟨jJ.2 ⟨⟨λk d=>i k ?_,?_⟩,by dsimp only;omega,by simp;omega,f⟩,λx=> ?_⟩
        ·simp only[a_,a7,cF]at d⊢;grind
        ·simp only[eK,a_,a7,cF]at y⊢;grind
        ·dsimp only;rw[<-e];simp only[a_,a7,cF]at y⊢;grind
       |false=>
        rw[ax];refine⟨jJ.2 ⟨⟨λk d=>i k ?_,?_⟩,by dsimp only;omega,by simp;omega,f⟩,λx=> ?_⟩
        ·simp only[a_,cF]at d⊢;grind
        ·simp only[eK,kU,cF]at y⊢;grind
        ·dsimp only;rw[<-e];simp only[cF]at y⊢;grind
end H_
open H_ (C8 jJ HF uB)
namespace L9
open eV (has without)
open nz (nN)
open fA (told)
def Sb(h:ja p){n:az}(h1:p.now<=n)(h2:n<=1000000000):ja {p with now:=n}:=by
 have:=h.now;refine⟨⟨by dsimp only;omega,h2⟩,h.en,h.so,h.ek,h.pol,h.len,h.fl,λf d=> ?_,h.ap,h.cll,λc a=> ?_,h.cs,h.hits⟩
 ·have:=h.fe f d;unfold nN at this⊢;simp only[aM,ba]at this⊢;exact⟨this.1,this.2.1,this.2.2.1,this.2.2.2.1,this.2.2.2.2.1,OR this.2.2.2.2.2 h1⟩
 ·have:=h.cl c a;unfold Kx at this⊢;simp only[aM,ba]at this⊢;exact⟨this.1,this.2.1,this.2.2.1,this.2.2.2.1,this.2.2.2.2.1,⟨this.2.2.2.2.2.1.1,OR this.2.2.2.2.2.1.2 h1⟩,this.2.2.2.2.2.2⟩
def o4{n:aN}{st:az}(h:ja p)(B:n<p.fe.length)(hk:g.k=(el p.fe n).k)(hg:nN p.now g=ao)(hs:g.sta=1->(el p.fe n).sta=1)(h1:1<=st/\st<=3):ja (told p n g st):=by
 rw[e7 B]at hk hs;refine⟨h.now,h.en,h.so,h.ek,h.pol,h.len,?_,λf A=> ?_,?_,?_,λc z=> ?_,?_,h.hits⟩
 ·show(p.fe.set n g).length<=20;rw[ch];exact h.fl
 ·rcases rS A with q|rfl
  ·exact h.fe f q
  ·exact hg
 ·show(p.fe.set n g).Pairwise _;rw[dH];intro i j hi y x;rw[ch]at hi y;have:=dH.1 h.ap i j hi y x;rw[R1,R1];unfold oK at this⊢;by_cases s:n=i
  ·by_cases r:n=j
   ·omega
   ·subst s;simp only[if_true,r,if_false];rw[hk];by_cases m:g.sta=1
    ·rw[hs m]at this;rw[m];exact this
    ·rw[aD m];simp
  ·by_cases r:n=j
   ·subst r;simp only[s,if_true,if_false];rw[hk];by_cases m:g.sta=1
    ·rw[hs m]at this;rw[m];exact this
    ·rw[aD m];simp
   ·simp only[s,r,if_false];exact this
 ·show(wN.qk p.cl n st g.t).length<=6;unfold wN.qk;rw[bK];exact h.cll
 ·have o:c∈wN.qk p.cl n st g.t:=z;unfold wN.qk at o;obtain⟨d,hd,rfl⟩:=cU.1 o;have h2:=h.cl d hd;show Kx p.now (p.fe.set n g).length _=ao;rw[ch];unfold wN.ec;cases ah (d.fe=(n:az)+1)&&ah (d.sta=1)with
  |false=>exact h2
  |true=>rw[au];unfold Kx at h2⊢;unfold nN at hg;simp only[aM,ba]at h2 hg⊢;exact⟨h2.1,h2.2.1,h1,h2.2.2.2.1,hg.2.1,h2.2.2.2.2.2⟩
 ·show(wN.qk p.cl n st g.t).Pairwise _;unfold wN.qk;rw[kM];refine h.cs.imp λ{a b} u=> ?_;have e:∀d:Cl,(wN.ec n st g.t d).id=d.id:=λd=>by unfold wN.ec;cases ah (d.fe=(n:az)+1)&&ah (d.sta=1)<;>rfl
  rw[e,e];exact u
def IZ(h:ja p){n:aN}(a:n<p.fe.length):gf (el p.fe n).k=ao/\((el p.fe n).t.size:az)<=400/\(1<=(el p.fe n).sta/\(el p.fe n).sta<=3)/\(0<=(el p.fe n).li/\(el p.fe n).li<=999999)/\0<=(el p.fe n).st/\(el p.fe n).st<=p.now:=by have:=h.fe _ (iY a);unfold nN at this;simpa only[aM,ba]using this
def Kw(f:az)(h:ja p):ja (GW p f).1:=by
 unfold GW;cases k:yV p f with
 |false=>exact h
 |true=>obtain⟨n,rfl,a,_,h1⟩:=nQ k;obtain⟨d,i,m,g4,j⟩:=IZ h a;refine o4 h a rfl ?_ (λe=>cO e (by dsimp only;omega)) (by omega);unfold nN;simp only[aM,ba];exact⟨d,i,by omega,g4,j⟩
def Lx(f:az)(t:ar)(h:ja p):ja (Ht p f t).1:=by
 unfold Ht;cases a:yV p f&&(ah (1<=t.size/\t.size<=40)&&ah ((el p.fe f.toNat).t.size+t.size<=400))with
 |false=>exact h
 |true=>
  simp only[aM,ba]at a;obtain⟨n,rfl,d,_,h1⟩:=nQ a.1;obtain⟨e,k,i,g4,j⟩:=IZ h d;rw[dX]at a;refine o4 h d rfl ?_ (λ_=>h1) (by omega);unfold nN;simp only[aM,ba];refine⟨e,?_,i,g4,j⟩
  show((((el p.fe n).t++t).size:aN):az)<=400;rw[dL];omega
def Same(en:aE En)(w m:aE ar):Prop:=∀k,k∈w\/k∈m↔∃e∈en,e.k=k
def JI(h:So en):(en.map λe=>e.k).Nodup:=by rw[pW,kM];refine h.imp λ{a b} d e=> ?_;rw[e]at d;unfold fU at d;rw[fZ.o8]at d;cases d
def yE(h:ja p):Same p.en p.w p.m:=by
 obtain⟨⟨_,nd⟩,_⟩:=jJ.1 h.pol;have ne:=JI h.so;have sub:(p.en.map λe=>e.k)⊆p.w++p.m:=λx a=>by obtain⟨e,d,rfl⟩:=cU.1 a;exact a_.2 (h.ek e d)
 intro k;constructor
 ·intro hk;have hk:k∈p.w++p.m:=a_.2 hk;refine A7 λf=> ?_;have nn:(k::p.en.map λe=>e.k).Nodup:=kU.2 ⟨λa=>f (by obtain⟨e,d,q⟩:=cU.1 a;exact⟨e,d,q⟩),ne⟩;have:=nn.length_le_of_subset (l₂:=p.w++p.m) (λx a=>by
   rcases cF.1 a with rfl|a
   ·exact hk
   ·exact sub a)
  have hl:=h.len;simp only[bT,bK,bU]at this;omega
 ·rintro ⟨e,d,rfl⟩;exact h.ek e d
def of_same{a:az}(h:Same en w m)(so:So en)(hp:yW w m s a=ao):(∀e∈en,e.k∈w\/e.k∈m)/\w.length+m.length=en.length:=by
 obtain⟨⟨_,nd⟩,_⟩:=jJ.1 hp;refine⟨λe d=>(h _).2 ⟨e,d,rfl⟩,?_⟩
 have:=((List.perm_ext_iff_of_nodup nd (JI so)).2 λx=>by rw[a_,h x,cU]).length_eq;rw[bU,bK]at this;exact this
def lV:e∈ik en k↔e∈en/\e.k≠k:=by unfold ik;simp
def qs:x∈qO en e↔x=e\/(x∈en/\x.k≠e.k):=by
 unfold qO;simp only[a_,dp,a7,di,iG,eZ];constructor
 ·rintro ((⟨h1,h2⟩|rfl)|⟨h1,h2⟩)
  ·refine .inr ⟨h1,λa=> ?_⟩;rw[a]at h2;unfold fU at h2;rw[fZ.o8]at h2;cases h2
  ·exact .inl rfl
  ·exact .inr ⟨h1,h2.2⟩
 ·rintro (rfl|⟨h1,h2⟩)
  ·exact .inl (.inr rfl)
  ·cases hl:fU x.k e.k with
   |true=>exact .inl (.inl ⟨h1,rfl⟩)
   |false=>exact .inr ⟨h1,rfl,h2⟩
def Ar(h:So en)(e:En):So (qO en e):=by have:=(fZ.yl (iB.AY h) e.k e.st e.li e.bo).1.1;rw[iB.sG]at this;unfold Lib.re at this;rw[kM]at this;exact this
def HJ(h:ja p)(H:zW e=ao):ja (HI p e):=by
 have hk:gf e.k=true:=by have:=(gU.DT H).1;unfold gf;exact aA (by omega)
 obtain⟨u,r⟩:=uB h.pol hk;have sm:=yE h;unfold HI;generalize eO.val p.w p.m p.s p.a e.k=V at u r;obtain⟨W,M,S,A,G⟩:=V;dsimp only at u r⊢;have key:∀d,So d->(∀x∈d,zW x=ao)->Same d W M->ja ⟨p.now,d,W,M,S,A,p.fe,p.cl,p.hits⟩:=λd N O P=>by obtain⟨t,i⟩:=of_same P N u;exact⟨h.now,O,N,t,u,i,h.fl,h.fe,h.ap,h.cll,h.cl,h.cs,h.hits⟩
 have B:So (ik p.en G):=h.so.drop G;have C:∀x∈ik p.en G,zW x=true:=λx f=>h.en x (lV.1 f).1;cases K:has W e.k||has M e.k with
 |true=>
  rw[au];have j:e.k∈W\/e.k∈M:=by rwa[dN,jH,jH]at K
  refine key _ (Ar B e) (λx f=> ?_) λk=> ?_
  ·rcases qs.1 f with rfl|q
   ·exact H
   ·exact C x q.1
  ·rw[r k];have hg:=((r e.k).1 j).2;constructor
   ·rintro ⟨q,o⟩;by_cases y:k=e.k
    ·exact⟨e,qs.2 (.inl rfl),y.symm⟩
    ·have i:k∈p.w\/k∈p.m:=q.elim .inl λq=>q.elim .inr λq=>cO q y;obtain⟨x,f,rfl⟩:=(sm k).1 i;exact⟨x,qs.2 (.inr ⟨lV.2 ⟨f,o⟩,y⟩),rfl⟩
   ·rintro ⟨x,f,rfl⟩;rcases qs.1 f with rfl|q
    ·exact⟨.inr (.inr rfl),hg⟩
    ·obtain⟨t,i⟩:=lV.1 q.1;exact⟨((sm x.k).2 ⟨x,t,rfl⟩).elim .inl λz=>.inr (.inl z),i⟩
 |false=>
  rw[ax];have j:¬(e.k∈W\/e.k∈M):=by rw[<-jH,<-jH,<-dN,K];simp
  have hg:e.k=G:=A7 λo=>j ((r e.k).2 ⟨.inr (.inr rfl),o⟩);refine key _ B C λk=> ?_;rw[r k];constructor
  ·rintro ⟨q,o⟩;have i:k∈p.w\/k∈p.m:=q.elim .inl λq=>q.elim .inr λq=>cO (q.trans hg) o;obtain⟨x,f,rfl⟩:=(sm k).1 i;exact⟨x,lV.2 ⟨f,o⟩,rfl⟩
  ·rintro ⟨x,f,rfl⟩;obtain⟨t,i⟩:=lV.1 f;exact⟨((sm x.k).2 ⟨x,t,rfl⟩).elim .inl λz=>.inr (.inl z),i⟩
end L9
open L9 (Same Sb Kw lV IZ of_same Lx yE HJ)
namespace L8
def fv(k:ar)(s l:az)(b:ar)(n:az):aZ:=bif gU.v k s l b then bif kI.v n s 1000000000 then ah (bA (n-s)<l)else aq else aq
def eq(k:ar)(s l:az)(b:ar)(n:az):EJ.v k s l b n=fv k s l b n:=by
 have e:xH.v k s l b=gU.v k s l b:=rfl;unfold EJ.v fv;rw[e];cases h:gU.v k s l b with
 |false=>rfl
 |true=>
  have hs:(0<=s/\s<=1000000000)/\1<=l/\l<=999999:=by unfold gU.v at h;cases h1:tQ.v k<;>rw[h1]at h<;>simp only[au,ax,dq]at h;cases h2:kI.v s 0 1000000000<;>rw[h2]at h<;>simp only[au,ax,dq]at h;cases h3:kI.v l 1 999999<;>rw[h3]at h<;>simp only[au,ax,dq]at h;simp[kI.v]at h2 h3;omega
  simp only[au,Ct.v,kP.v,kI.v,cy,ba];by_cases h1:0<=n/\n<=1000000000
  ·rw[iE (x:=n-s) (by omega) (by omega),iE (x:=s+l) (by omega) (by omega),iE (x:=s+l-1) (by omega) (by omega)];by_cases h2:s<=n<;>by_cases h3:n-s<l<;>simp[h1,h2,h3]<;>omega
  ·by_cases h2:s<=n<;>by_cases h3:0<=n<;>by_cases h4:n<=1000000000<;>simp[h2,h3,h4]<;>omega
end L8
namespace Ka
open eV (has without)
open nz (nN)
open gH (lN put tC)
def YR(l:aE Cl)(n:az):(l.filter λx=>ah (x.id<n)).length+(l.filter λx=>ah (x.id>n)).length<=l.length:=by
 induction l with
 |nil=>exact bW _
 |cons y l ih=>
  simp only[List.filter_cons];by_cases h1:y.id<n
  ·rw[aA h1,aD (show¬y.id>n by omega)];simp only[if_true,dq,if_false,bT];omega
  ·rw[aD h1];by_cases h2:y.id>n
   ·rw[aA h2];simp only[if_true,dq,if_false,bT];omega
   ·rw[aD h2];simp only[dq,if_false,bT];omega
def aaI(cs:l.Pairwise λa b=>a.id<b.id):(jn l c).length<=l.length+1/\((jn l c).Pairwise λa b=>a.id<b.id)/\∀x∈jn l c,x=c\/x∈l:=by
 unfold jn;refine⟨?_,?_,λx e=> ?_⟩
 ·have:=YR l c.id;simp only[bU,bT,jU];omega
 ·rw[cg,vf];refine⟨cs.filter _,?_,λa f b d=> ?_⟩
  ·rw[vg,qT];exact⟨λb d=>cB (dp.1 d).2,cs.filter _⟩
  ·have f:=cB (dp.1 f).2;rcases a_.1 d with d|d
   ·rw[a7]at d;rw[d];exact f
   ·have d:=cB (dp.1 d).2;omega
 ·rcases a_.1 e with e|e
  ·rcases a_.1 e with e|e
   ·exact .inr (dp.1 e).1
   ·exact .inl (a7.1 e)
  ·exact .inr (dp.1 e).1
def YQ{a:az}(h:key∈w\/key∈m):(eO.val w m s a key).2.2.2.2=⟨#[]⟩:=by
 unfold eO.val;cases yW w m s a&&gf key with
 |false=>rfl
 |true=>
  rw[au];cases h1:has w key with
  |true=>rfl
  |false=>have h2:has m key=true:=jH.2 (h.resolve_left (pK.1 h1));rw[h2];rfl
def U_{a:az}(h:yW w m s a=ao)(hk:gf key=ao):(has (eO.val w m s a key).1 key||has (eO.val w m s a key).2.1 key)=true:=by
 obtain⟨⟨f,nd⟩,l1,l2,hs⟩:=jJ.1 h;rw[dN,jH,jH];refine((uB h hk).2 key).2 ⟨.inr (.inr rfl),?_⟩;have kn:=C8 hk;unfold eO.val;rw[h,hk,aK,au];cases h1:has w key with
 |true=>exact kn
 |false=>
  rw[ax];have hw:=pK.1 h1;cases h2:has m key with
  |true=>exact kn
  |false=>
   rw[ax];have hm:=pK.1 h2;by_cases h3:(w++[key]).length<=2
   ·rw[aA h3];exact kn
   ·rw[aD h3,ax];have d:(w++[key]).getD 0 ⟨#[]⟩≠key:=by
     cases w with
     |nil=>simp at h3
     |cons x w=>intro e;exact hw (by rw[<-e];simp)
    by_cases h4:m.length<4
    ·rw[aA h4];exact kn
    ·rw[aD h4,ax];cases ah (lS.val (dy.val s a key).1 (dy.val s a key).2 ((w++[key]).getD 0 ⟨#[]⟩)>lS.val (dy.val s a key).1 (dy.val s a key).2 (m.getD 0 ⟨#[]⟩))with
     |true=>
      intro e;cases m with
      |nil=>simp at h4
      |cons x m=>exact hm (by rw[e];simp)
     |false=>exact λe=>d e.symm
def adW{p:Px}{id:az}{key:ar}{e:En}(h:ja p)(hid:1<=id/\id<=9)(hk:gf key=ao)(hl:p.cl.length<6)(y:e∈p.en)(j:e.k=key)(o:e.st<=p.now):ja (hit p id key e):=by
 have d:key∈p.w\/key∈p.m:=by rw[<-j];exact h.ek e y
 obtain⟨f,t⟩:=uB h.pol hk;have u:=YQ (s:=p.s) (a:=p.a) d;have sm:=yE h;have O:=gU.DT (h.en e y);obtain⟨P,C,H⟩:=aaI (c:=⟨id,key,0,e.st,2,e.bo,p.now-e.st⟩) h.cs;unfold hit;generalize eO.val p.w p.m p.s p.a key=V at f t u;obtain⟨W,M,S,A,G⟩:=V;dsimp only at f t u⊢;subst u;have r:Same p.en W M:=λk=>by
  rw[t k];refine Iff.trans ?_ (sm k);constructor
  ·rintro ⟨q|q|rfl,_⟩
   ·exact .inl q
   ·exact .inr q
   ·exact d
  ·intro q;refine⟨q.elim .inl λq=>.inr (.inl q),?_⟩
   obtain⟨x,B,rfl⟩:=(sm k).1 q;have:=(gU.DT (h.en x B)).1;intro e;rw[e]at this;exact cO this.1 (by decide)
 obtain⟨K,N⟩:=of_same r h.so f;refine⟨h.now,h.en,h.so,K,f,N,h.fl,h.fe,h.ap,by dsimp only;omega,λc i=> ?_,C,?_⟩
 ·rcases H c i with rfl|i
  ·unfold Kx;simp only[aM,ba];exact⟨hid,hk,by omega,⟨by omega,by omega⟩,by omega,⟨by omega,o⟩,by omega⟩
  ·exact h.cl c i
 ·have:=h.hits;dsimp only;by_cases z:p.hits<1000000000
  ·rw[aA z,au];omega
  ·rw[aD z,ax];exact this
def HU:x∈without l k↔x∈l/\x≠k:=by unfold without;simp
def Hu{p:Px}{id:az}{key:ar}{h:aZ}{fe:aE Fe}{i:aN}(d:ja p)(hid:1<=id/\id<=9)(hk:gf key=ao)(hl:p.cl.length<6)(U:p.fe.length<=fe.length)(y:fe.length<=20)(H:∀f∈fe,nN p.now f=ao)(z:fe.Pairwise λf g=>oK g f=aq)(hi:i<fe.length)(hp:h=aq->True):ja (put p id key h fe i):=by
 obtain⟨⟨K,nd⟩,l1,l2,hs⟩:=jJ.1 d.pol;have B:=HF key hs;have sm:=yE d;obtain⟨V,N,P⟩:=aaI (c:=⟨id,key,(i:az)+1,0,1,(el fe i).t,0⟩) d.cs;have r:=H _ (iY hi);have A:∀c∈jn p.cl ⟨id,key,(i:az)+1,0,1,(el fe i).t,0⟩,Kx p.now fe.length c=true:=λc C=>by
  rcases P c C with rfl|C
  ·unfold nN at r;unfold Kx;simp only[aM,ba]at r⊢;have:=d.now;exact⟨hid,hk,by omega,⟨by omega,by omega⟩,r.2.1,⟨by omega,by omega⟩,by omega⟩
  ·have:=d.cl c C;unfold Kx at this⊢;simp only[aM,ba]at this⊢;exact⟨this.1,this.2.1,this.2.2.1,⟨this.2.2.2.1.1,by omega⟩,this.2.2.2.2⟩
 unfold put;cases h with
 |false=>have j:yW p.w p.m (dy.val p.s p.a key).1 (dy.val p.s p.a key).2=true:=jJ.2 ⟨⟨K,nd⟩,l1,l2,B⟩;exact⟨d.now,d.en,d.so,d.ek,j,d.len,y,H,z,by dsimp only;omega,A,N,d.hits⟩
 |true=>
  have j:yW (without p.w key) (without p.m key) (dy.val p.s p.a key).1 (dy.val p.s p.a key).2=true:=by
   refine jJ.2 ⟨⟨λk u=> ?_,?_⟩,ca eV.ir l1,ca eV.ir l2,B⟩
   ·rcases a_.1 u with q|q
    ·exact K k (a_.2 (.inl (HU.1 q).1))
    ·exact K k (a_.2 (.inr (HU.1 q).1))
   ·have:without p.w key++without p.m key=(p.w++p.m).filter λx=> !decide (x=key):=by unfold without;rw[jc]
    rw[this];exact nd.sublist jS
  have M:Same (ik p.en key) (without p.w key) (without p.m key):=λk=>by
   rw[HU,HU];constructor
   ·intro q;have o:k≠key:=q.elim (·.2) (·.2);obtain⟨x,u,rfl⟩:=(sm k).1 (q.elim (λq=>.inl q.1) (λq=>.inr q.1));exact⟨x,lV.2 ⟨u,o⟩,rfl⟩
   ·rintro ⟨x,u,rfl⟩;obtain⟨u,o⟩:=lV.1 u;exact((sm x.k).2 ⟨x,u,rfl⟩).elim (λq=>.inl ⟨q,o⟩) (λq=>.inr ⟨q,o⟩)
  have so:=d.so.drop key;obtain⟨Q,S⟩:=of_same M so j;exact⟨d.now,λe O=>d.en e (lV.1 O).1,so,Q,j,S,y,H,z,by dsimp only;omega,A,N,d.hits⟩
def NK{p:Px}{id:az}{key:ar}{h:aZ}(d:ja p)(hid:1<=id/\id<=9)(hk:gf key=ao)(hl:p.cl.length<6):ja (lN p id key h).1:=by
 unfold lN;cases j:Qt p.fe key with
 |some i=>have hi:i<p.fe.length:=(yR.1 j).1;exact Hu d hid hk hl (bW _) d.fl d.fe d.ap hi (λ_=>trivial)
 |none=>
  dsimp only;by_cases e:p.fe.length<20
  ·rw[aA e,au];have o:∀f∈p.fe,Jo key f=false:=λf m=>by have:=EC.1 j f m;simpa using this
   have s:=d.now;refine Hu d hid hk hl (by simp) (by simp;omega) (λf m=> ?_) ?_ (by simp) (λ_=>trivial)
   ·rcases a_.1 m with q|q
    ·exact d.fe f q
    ·rw[a7]at q;subst q;unfold nN wx;simp only[aM,ba];exact⟨hk,by show((0:aN):az)<=400;omega,by omega,by omega,by omega,by omega⟩
   ·rw[vf];refine⟨d.ap,by simp,λa t b r=> ?_⟩
    rw[a7]at r;subst r;have:=o a t;unfold Jo at this;unfold oK wx;dsimp only;revert this;rw[show ah (key=a.k)=ah (a.k=key)from by rw[b7];exact eq_comm];cases ah (a.k=key)<;>cases ah (a.sta=1)<;>simp
  ·rw[aD e];exact d
def adw(id:az)(key:ar)(h:ja p):ja (gH.ask p id key).1:=by
 unfold gH.ask;cases hg:lC p&&(ah (1<=id/\id<=9)&&(gf key&&(!oc p.cl id&&ah (p.cl.length<6))))with
 |false=>exact h
 |true=>
  simp only[aM,ba]at hg;obtain⟨_,hid,hk,_,hl⟩:=hg;rw[au];cases d:KK p.en key with
  |none=>exact NK h hid hk hl
  |some e=>
   dsimp only;cases a:tC e p.now with
   |false=>exact NK h hid hk hl
   |true=>
    unfold KK at d;have h1:=qS d;have h2:=FY d;refine adW h hid hk hl h1 (cB h2) ?_;unfold tC at a;rw[L8.eq]at a;unfold L8.fv at a;rw[show gU.v e.k e.st e.li e.bo=ao from h.en e h1,au,show kI.v p.now e.st 1000000000=ah (e.st<=p.now/\p.now<=1000000000)from fE.eL _ _ _]at a;cases hd:ah (e.st<=p.now/\p.now<=1000000000)with
    |true=>exact(cB hd).1
    |false=>rw[hd]at a;cases a
end Ka
namespace Kb
def Fg{now n:az}(h:1<=now/\now<=1000000000):now<=se.later now n/\se.later now n<=1000000000:=by
 unfold se.later;have:=FX n (show(1000:az)≠0 by omega);have:=Ba n (show(0:az)<1000 by omega);by_cases a:now>1000000000-n%1000
 ·rw[aA a,au];omega
 ·rw[aD a,ax,c6 (by omega) (by omega)];omega
def Yy(n:az)(h:ja p):ja (se.val p n):=Sb h (Fg h.now).1 (Fg h.now).2
def S'(id:az)(h:ja p):ja (vi.val p id):=
 ⟨h.now,h.en,h.so,h.ek,h.pol,h.len,h.fl,h.fe,h.ap,ca (eD _ _) h.cll,λc a=>h.cl c (dp.1 a).1,h.cs.sublist jS,h.hits⟩
end Kb
namespace mh
open eV (has)
open nz (nN)
open fA (told)
open iV (tx tu)
open lj (dk es)
open L9 (o4)
def on(l:aE Fe):aN:=l.countP λf=>ah (f.sta=1)
def vb5{x:az}(h:x<=1000000000):(bytesOf (vb x)).size<=5:=by rw[Lib.ie];exact u5 4 x (by have e:(128:az)^5=34359738368:=(by decide);omega)
def KV(h:H7 e=ao):(I6 e).size<=460:=by
 have a:=gU.DT h;have f:=vb5 (x:=(e.k.size:az)) (by omega);have i:=vb5 (x:=e.st) (by omega);have j:=vb5 (x:=e.li) (by omega);have d:(tu e).size<=445:=by unfold tu jN.tu;simp only[cj];omega
 have m:=vb5 (x:=((tu e).size:az)) (by omega);unfold I6 fI.fr;rw[cj,cj,pz.size];omega
def U'(l:aE En)(h:∀e∈l,H7 e=ao):(tx l).size<=460*l.length:=by
 induction l with
 |nil=>exact bW _
 |cons e l ih=>have h1:=KV (h e (by simp));have h2:=ih λx a=>h x (by simp[a]);have:(tx (e::l)).size=(I6 e).size+(tx l).size:=dL;rw[this,bT];omega
structure Bk (i:aN) (w:Wo):Prop where
 px:ja w.p
 eo:∀e∈es w.o,H7 e=ao
 ct:2*(es w.o).length+on w.p.fe<=i
 cd:w.cd.length=i
 bd:w.bd.length<=i
 bo:∀e∈w.bd,H7 e=ao
def Bk.len{i:aN}(h:Bk i w)(hi:i<=71):(es w.o).length<=35:=by have:=h.ct;omega
def Bk.tx{i:aN}(h:Bk i w)(hi:i<=71):(tx (es w.o)).size<=16100:=by have:=U' _ h.eo;have:=h.len hi;omega
def Ll{n:aN}(d:n<l.length):on (l.set n g)+(if(el l n).sta=1 then 1 else 0)=on l+(if g.sta=1 then 1 else 0):=by
 unfold on;rw[List.countP_set d,e7 d];have a:l[n].sta=1->1<=l.countP λf=>ah (f.sta=1):=λh=>List.countP_pos_iff.2 ⟨_,bF d,aA h⟩;generalize l.countP (λf=>ah (f.sta=1))=m at a;by_cases h1:l[n].sta=1
 ·have:=a h1;by_cases h2:g.sta=1
  ·rw[bm h1,bm h2,bm (aA h1),bm (aA h2)];omega
  ·rw[bm h1,bk h2,bm (aA h1),bk (by rw[aD h2];simp)];omega
 ·by_cases h2:g.sta=1
  ·rw[bk h1,bm h2,bk (by rw[aD h1];simp),bm (aA h2)];omega
  ·rw[bk h1,bk h2,bk (by rw[aD h1];simp),bk (by rw[aD h2];simp)];omega
def Ue{now:az}(a:1<=now/\now<=1000000000)(l:aE En):ja (fV.tD now l):=by
 have key:∀(l:aE En) (p:Px),ja p->ja (l.foldl (fV.one now) p):=by
  intro l;induction l with
  |nil=>intro p h;exact h
  |cons e l ih=>
   intro p h;rw[pk];refine ih _ ?_;unfold fV.one;cases d:fV.tC e now with
   |true=>exact HJ h (fV.zZ d)
   |false=>exact h
 refine key l _ ⟨a,λe h=>(by cases h),hZ,λe h=>(by cases h),?_,rfl,bB _,λf h=>(by cases h),hZ,bB _,λc h=>(by cases h),hZ,by show(0:az)<=0/\(0:az)<=1000000000;omega⟩;refine H_.jJ.2 ⟨⟨λk h=>(by cases h),List.nodup_nil⟩,bB _,bB _,H_.HE.2 ⟨rfl,by show(0:az)<=0/\(0:az)<=63;omega,λq hq=> ?_⟩⟩;have:q=fV.JR:=by change q∈[fV.JR,fV.JR,fV.JR]at hq;simp at hq;exact hq
 subst this;refine⟨rfl,λn a=> ?_⟩
 unfold fV.JR at a;simp at a;omega
def KE{f life:az}(h:ja p)(hl:0<=life/\life<=999999):
  ja (cls p f life).1/\(((cls p f life).2=aq/\(cls p f life).1=p)\/((cls p f life).2=ao/\∃n:aN,f=(n:az)/\n<p.fe.length/\(cls p f life).1.fe=p.fe.set n {el p.fe n with sta:=2,li:=life,st:=p.now}/\(el p.fe n).sta=1/\
   (life>0->H7 (mS {el p.fe n with sta:=2,li:=life,st:=p.now})=ao/\(has (cls p f life).1.w (el p.fe n).k||has (cls p f life).1.m (el p.fe n).k)=ao))):=by
 unfold cls;cases u:yV p f&&ah (0<=life/\life<=999999)with
 |false=>exact⟨h,.inl ⟨rfl,rfl⟩⟩
 |true=>
  rw[aM]at u;obtain⟨n,rfl,d,_,h1⟩:=nQ u.1;obtain⟨i,r,x,g4,y⟩:=IZ h d;have t:=h.now;rw[au,dX];have o:ja (told p n {el p.fe n with sta:=2,li:=life,st:=p.now} 2):=by refine o4 h d rfl ?_ (λe=>cO e (by dsimp only;omega)) (by omega);unfold nN;simp only[aM,ba];exact⟨i,r,by omega,hl,by omega,by omega⟩
  have s:life>0->H7 (mS {el p.fe n with sta:=2,li:=life,st:=p.now})=true:=λa=>by unfold H7 mS gU.v;dsimp only;rw[nA.iQ,i,au,show kI.v p.now 0 1000000000=ah (0<=p.now/\p.now<=1000000000)from fE.eL _ _ _,aA (show 0<=p.now/\p.now<=1000000000 by omega),au,show kI.v life 1 999999=ah (1<=life/\life<=999999)from fE.eL _ _ _,aA (show 1<=life/\life<=999999 by omega),au];exact aA r
  by_cases a:life>0
  ·rw[aA a,au];have j:=Ka.U_ (key:=(el p.fe n).k) o.pol i;exact⟨HJ o (s a),.inr ⟨rfl,n,rfl,d,rfl,h1,λ_=>⟨s a,j⟩⟩⟩
  ·rw[aD a,ax];exact⟨o,.inr ⟨rfl,n,rfl,d,rfl,h1,λh=>cO h a⟩⟩
def adx(p:Px)(id:az)(key:ar):on (gH.ask p id key).1.fe<=on p.fe+1:=by
 have hm:∀h,on (gH.lN p id key h).1.fe<=on p.fe+1:=λh=>by
  unfold gH.lN;cases gH.Qt p.fe key with
  |some i=>exact iX _
  |none=>
   dsimp only;cases ah (p.fe.length<20)with
   |true=>show on (p.fe++[gH.wx key])<=_;unfold on;rw[List.countP_append];exact bW _
   |false=>exact iX _
 unfold gH.ask;cases lC p&&(ah (1<=id/\id<=9)&&(gf key&&(!gH.oc p.cl id&&ah (p.cl.length<6))))with
 |false=>exact iX _
 |true=>
  rw[au];cases gH.KK p.en key with
  |none=>exact hm _
  |some e=>
   dsimp only;cases gH.tC e p.now with
   |false=>exact hm _
   |true=>exact iX _
def CX(w:Wo):(oa w).length<=(es w.o).length:=ca (eD ..) (iV.K_ _)
def G9(h:∀e∈es w.o,H7 e=ao):∀e∈oa w,H7 e=true:=λe a=>h e (iV.aec (dp.1 a).1)
def Cb{i:aN}(h:Bk i w)(x:il e=ao):Bk (i+1) (iN.step w e):=by
 unfold il at x;simp only[aM,ba]at x;obtain⟨hk,hid,V,s,hl⟩:=x;have Q:=h.ct;have P:=h.bd;have m:∀n:az,(w.cd++[n]).length=i+1:=λn=>by rw[bU,h.cd];rfl
 have a:∀(p:Px) (n:az),ja p->on p.fe<=on w.p.fe+1->Bk (i+1) {{w with p:=p}with cd:=w.cd++[n]}:=λp n hp u=>⟨hp,h.eo,by dsimp only;omega,m n,nq h.bd,h.bo⟩
 unfold iN.step iN.act;by_cases C:e.k=1
 ·rw[aA C,au];exact a _ _ (Ka.adw _ _ h.px) (adx ..)
 rw[aD C,ax];by_cases H:e.k=2
 ·rw[aA H,au];refine a _ _ (Lx _ _ h.px) ?_;unfold Ht;cases u:yV w.p e.id&&(ah (1<=e.t.size/\e.t.size<=40)&&ah ((el w.p.fe e.id.toNat).t.size+e.t.size<=400))with
  |false=>exact iX _
  |true=>
   rw[aM]at u;obtain⟨n,en,s,_,h1⟩:=nQ u.1;rw[en,dX];have q:∀g:Fe,g.sta=(el w.p.fe n).sta->on (w.p.fe.set n g)<=on w.p.fe+1:=λg hg=>by have:=Ll (g:=g) s;rw[hg]at this;omega
   exact q _ rfl
 rw[aD H,ax];by_cases K:e.k=3
 ·rw[aA K,au];have z:0<=e.n%1000000/\e.n%1000000<=999999:=by omega
  obtain⟨A,U⟩:=KE (f:=e.id) h.px z;unfold closed;dsimp only;rcases U with ⟨r1,r2⟩|⟨r1,n,O,s,rf,rs,rl⟩
  ·rw[r1,lH,ax];exact a _ _ A (by rw[r2];exact iX _)
  ·have:=Ll (g:={el w.p.fe n with sta:=2,li:=e.n%1000000,st:=w.p.now}) s;rw[bm rs,bk (show¬(2:az)=1 by omega)]at this;have u:on (cls w.p e.id (e.n%1000000)).1.fe+1=on w.p.fe:=by rw[rf];exact this
   rw[r1,bj];by_cases r:e.n%1000000>0
   ·rw[aA r,au];obtain⟨s1,X⟩:=rl r;have B:H7 (mS (el (cls w.p e.id (e.n%1000000)).1.fe e.id.toNat))=true:=by rw[O,dX,<-O,rf,fA.mm s];exact s1
    refine⟨A,λy d=> ?_,?_,m _,?_,λy d=> ?_⟩
    ·rcases a_.1 d with d|d
     ·exact h.eo y d
     ·rw[a7]at d;rw[d];exact B
    ·show 2*(es w.o++[_]).length+on (cls w.p e.id (e.n%1000000)).1.fe<=i+1;rw[bU,bz];omega
    ·show(w.bd++[_]).length<=i+1;rw[bU,bz];omega
    ·rcases a_.1 d with d|d
     ·exact h.bo y d
     ·rw[a7]at d;rw[d];exact B
   ·rw[aD r,ax];exact a _ _ A (by omega)
 rw[aD K,ax];by_cases k4:e.k=4
 ·rw[aA k4,au];refine a _ _ (Kw _ h.px) ?_;unfold GW;cases u:yV w.p e.id with
  |false=>exact iX _
  |true=>
   obtain⟨n,en,s,_,h1⟩:=nQ u;rw[en,dX];have q:∀g:Fe,g.sta=3->on (w.p.fe.set n g)<=on w.p.fe+1:=λg hg=>by have:=Ll (g:=g) s;rw[bm h1,bk (show¬g.sta=1 by omega)]at this;omega
   exact q _ rfl
 rw[aD k4,ax];by_cases M:e.k=5
 ·rw[aA M,au];exact a _ _ (Kb.Yy _ h.px) (iX _)
 rw[aD M,ax];by_cases N:e.k=6
 ·rw[aA N,au];exact a _ _ (Kb.S' _ h.px) (iX _)
 rw[aD N,ax];have S:=CX w;have j:=fV.ui w.p.now (oa w) (oa w).length (bW _);rw[cR]at j;refine⟨Ue h.px.now _,G9 h.eo,?_,m _,nq h.bd,h.bo⟩
 show 2*(oa w).length+on (fV.tD w.p.now (oa w)).fe<=i+1;rw[j.fe];show 2*(oa w).length+0<=i+1;omega
end mh
open mh (Bk)
namespace dY
open _root_.Go.FG.Lib (rc)
open lj (dk es)
def ri(l:aE az):Row:=l.map λn=>[CV.i ak n]
def fj(l:aE az):(ri l).length=l.length:=by unfold ri;simp
def Cx(w:Wo):az×Row×Row×Row×Row×az×Row×Row×az×Row×Row×Row:=(w.p.now,re w.p.en,rs w.p.w,rs w.p.m,rr w.p.s,w.p.a,rf w.p.fe,rc w.p.cl,w.p.hits,rd (dk w.o),ri w.cd,re w.bd)
def FA(l:aE En)(e:En):re l++aC (aR [Ck.s,Ck.i ak,Ck.i ak,Ck.s] 1) 0 [CV.s e.k,CV.i ak e.st,CV.i ak e.li,CV.s e.bo]=re (l++[e]):=by unfold Lib.re;rw[cT];rfl
def aby(l:aE az)(n:az):ri l++aC (aR [Ck.i ak] 1) 0 [CV.i ak n]=ri (l++[n]):=by unfold ri;rw[cT];rfl
def aoo(l:aE En):aR [Ck.s,Ck.i ak,Ck.i ak,Ck.s] 0++re l=re l:=rfl
def aop(l:aE az):aR [Ck.i ak] 0++ri l=ri l:=rfl
def nP(ks:aE Ck)(y:aE CV):(aC (aR ks 1) 0 y).length=1:=rfl
def jQ(h:H9.ja p):p.Fit 1048576:=(oM.jQ (H9.Da.2 h)).le (by omega)
def lt_eq(x:α)(f:α->β):ic x f=f x:=by have h:∀y,y=ic x f->y=f x:=λy a=>a.trans (Eq.refl _);exact h _ (Eq.refl _)
end dY
open dY (Cx FA)
namespace iF
open _root_.Go.FG.Lib (rc)
open lj (dk es)
open dY (ri)
instance:Inhabited Ev:=⟨⟨0,0,⟨#[]⟩,0,[]⟩⟩
def Evr(e:Ev):aE CV:=[CV.i ak e.k,CV.i ak e.id,CV.s e.t,CV.i ak e.n,CV.l 3 e.l]
def rv(l:aE Ev):Row:=l.map Evr
def j_(l):(rv l).length=l.length:=by unfold rv;simp
def wv0{i:aN}(h:i<l.length):av (rv l) i 0=CV.i ak (el l i).k:=fM _ l i 0 h
def wv1{i:aN}(h:i<l.length):av (rv l) i 1=CV.i ak (el l i).id:=fM _ l i 1 h
def wv2{i:aN}(h:i<l.length):av (rv l) i (1+1)=CV.s (el l i).t:=fM _ l i 2 h
def wv3{i:aN}(h:i<l.length):av (rv l) i (1+1+1)=CV.i ak (el l i).n:=fM _ l i 3 h
def wv4{i:aN}(h:i<l.length):av (rv l) i (1+1+1+1)=CV.l 3 (el l i).l:=fM _ l i 4 h
def B_(e:Ev):MV.v e.k e.id e.t e.n e.l=il e:=by unfold MV.v il;rw[show kP.v e.k 1 7=ah (1<=e.k/\e.k<=7)from fE.eL _ _ _,show kP.v e.id 0 30=ah (0<=e.id/\e.id<=30)from fE.eL _ _ _,show ah (((e.t.size:aN):az)<=60)=ah (e.t.size<=60)from by rw[b7];omega,show ah (e.n≥0)=ah (0<=e.n)from rfl,show ah (((e.l.length:aN):az)<=4)=ah (e.l.length<=4)from by rw[b7];omega];cases ah (1<=e.k/\e.k<=7)<;>cases ah (0<=e.id/\e.id<=30)<;>cases ah (e.t.size<=60)<;>cases ah (0<=e.n)<;>rfl
def NV(e:Ev):ZG.v e.k e.id e.t e.n e.l=il e:=B_ e
def w0:Wo:=⟨fV.p0 1,ay,[],[]⟩
def run(l:aE Ev):Wo:=l.foldl iN.step w0
def rE(l:aE Ev)(i:aN)(h:i<l.length):run (l.take (i+1))=iN.step (run (l.take i)) (el l i):=by unfold run;rw[cE h,nv,e7 h];rfl
def akN:Bk 0 w0:=by refine⟨mh.Ue (now:=1) (by omega) [],λe h=>(by cases h),bW _,rfl,bW _,λe h=>(by cases h)⟩
def Al{l:aE Ev}(h:∀e∈l,il e=ao):∀i,i<=l.length->Bk i (run (l.take i)):=by
 intro i;induction i with
 |zero=>intro _;exact akN
 |succ i ih=>intro hi;rw[rE l i hi];exact mh.Cb (ih (by omega)) (h _ (iY hi))
def Am{l:aE Ev}(h:∀e∈l,il e=ao):Bk l.length (run l):=by have:=Al h l.length (bW _);rwa[cR]at this
def Wa(w:Wo)(b:aZ):az×Row×Row×Row×Row×az×Row×Row×az×Row×Row×Row×aZ:=(w.p.now,re w.p.en,rs w.p.w,rs w.p.m,rr w.p.s,w.p.a,rf w.p.fe,rc w.p.cl,w.p.hits,rd (dk w.o),ri w.cd,re w.bd,b)
def Ei(l:aE Ev):aZ:=ah (l.length<=70)&&(c7 l.length).all λi=>il (el l i)
def life(l:aE Ev):az×Row×Row×Row×Row×az×Row×Row×az×Row×Row×Row×aZ:=bif Ei l then Wa (run l) ao else(0,[],[],[],[],0,[],[],0,[],[],[],aq)
def pJ:Ei l=ao↔l.length<=70/\∀e∈l,il e=true:=by unfold Ei;rw[aM,ba,bE];refine and_congr Iff.rfl ⟨λh e a=> ?_,λh i hi=>h _ (iY (lr.1 hi))⟩;obtain⟨i,hi,rfl⟩:=dW a;have:=h i (lr.2 hi);rwa[e7 hi]at this
end iF
open iF (Evr Wa Ei pJ Al Am rE j_ wv0 wv1 wv2 wv3 wv4)
namespace tE
def sp(c:eJ):aE eJ->aE eJ->aE (aE eJ)
 |a,[]=>[a]
 |a,b::r=>if b=c then a::sp c [] r else sp c (a++[b]) r
def acH:∀(l a:aE eJ),c∉l->sp c a l=[a++l]
 |[],a,_=>by simp[sp]
 |b::r,a,h=>by
  have h1:b≠c:=λe=>h (e▸cQ);have h2:c∉r:=λe=>h (cK _ e);rw[sp,bk h1,acH r _ h2];simp
def UZ:∀(a d r:aE eJ),c∉a->sp c d (a++c::r)=(d++a)::sp c [] r
 |[],d,r,_=>by simp[sp]
 |b::a,d,r,h=>by
  have h1:b≠c:=λe=>h (e▸cQ);have h2:c∉a:=λe=>h (cK _ e);rw[gG,sp,bk h1,UZ a _ r h2];simp
def aoa(c b:eJ)(l:aE eJ):[c].isPrefixOf (b::l)=(c==b):=by simp[List.isPrefixOf]
def ix(c:eJ):∀l:aE eJ,(_root_.Go.Lib.index l [c]= -1/\c∉l)\/∃i:aN,_root_.Go.Lib.index l [c]=i/\i<l.length/\l=l.take i++c::l.drop (i+1)/\c∉l.take i
 |[]=>.inl ⟨rfl,by simp⟩
 |b::l=>by
  unfold _root_.Go.Lib.index;rw[aoa];by_cases a:c=b
  ·subst a;right;exact⟨0,by simp,by simp,by simp,by simp⟩
  ·have:(c==b)=false:=by simp[a]
   rw[this];rcases ix c l with ⟨h1,h2⟩|⟨i,h1,h2,h3,h4⟩
   ·left;rw[h1];exact⟨rfl,by simp[a,h2]⟩
   ·right;have e:(_root_.Go.Lib.index l [c]== -1)=false:=by rw[h1];simp
    refine⟨i+1,by rw[e];simp[h1],by simp[h2],?_,by simp[a,h4]⟩
    rw[List.take_succ_cons,List.drop_succ_cons,gG,<-h3]
def JN(c:eJ):∀(k:aN) (l:aE eJ),_root_.Go.Lib.count l [c]=k->_root_.Go.Lib.splitK [c] 0 k l=sp c [] l
 |0,l,hk=>by
  rcases ix c l with ⟨h1,h2⟩|⟨i,h1,_⟩
  ·rw[acH l [] h2];rfl
  ·have:=_root_.Go.Lib.count_hit (s:=l) (sub:=[c]) (i:=i) (by simp) h1;omega
 |k+1,l,hk=>by
  rcases ix c l with ⟨h1,h2⟩|⟨i,h1,h2,h3,h4⟩
  ·rw[_root_.Go.Lib.count_miss h1]at hk;omega
  ·have a:=_root_.Go.Lib.count_hit (s:=l) (sub:=[c]) (i:=i) (by simp) h1;have e:(_root_.Go.Lib.index l [c]== -1)=false:=by rw[h1];simp
   rw[_root_.Go.Lib.splitK,e,h1];have ih:=JN c k (l.drop (i+1)) (by rw[show([c]:aE eJ).length=1 from rfl]at a;omega);have hs:=UZ (l.take i) [] (l.drop (i+1)) h4;rw[<-h3]at hs;rw[hs];simp only[dq,if_false,dX,BJ,eR,show([c]:aE eJ).length=1 from rfl,ih]
def mk(l:aE eJ):ar:=⟨l.toArray⟩
def B9(l:aE eJ):(mk l).size=l.length:=rfl
def Lw(c:eJ)(s:ar):aE ar:=(sp c [] s.data.toList).map mk
def amK(c:eJ)(s:ar):_root_.Go.Lib.splitB ⟨#[c]⟩ 0 (_root_.Go.Lib.countB s ⟨#[c]⟩) s=Lw c s:=by have h:=_root_.Go.Lib.splitB_data ⟨#[c]⟩ 0 (_root_.Go.Lib.countB s ⟨#[c]⟩) s;have e:_root_.Go.Lib.countB s ⟨#[c]⟩=_root_.Go.Lib.count s.data.toList [c]:=rfl;unfold Lw;rw[<-JN c _ s.data.toList rfl,<-e];rw[show([c]:aE eJ)=(⟨#[c]⟩:ar).data.toList from rfl,<-h,jL];exact(OT _).symm
def Ol(c:eJ)(s:ar):AF.v s ⟨#[c]⟩=rs (Lw c s):=by unfold AF.v;rw[amK];rfl
def Oj(c:eJ)(s:ar)(h:s.size<=4000000000):AF.c s ⟨#[c]⟩=true:=by unfold AF.c;rw[aM,Nat.ble_eq];exact⟨h,rfl⟩
def uc(s:ar)(b i:aN):s.extract b i=mk ((s.data.toList.drop b).take (i-b)):=by apply kQ;unfold mk;apply tw;simp[fY]
def sz(s:ar):s.data.toList.length=s.size:=rfl
def xV{l:aE eJ}{b i:aN}(a:b<=i)(hi:i<l.length):(l.drop b).take (i+1-b)=(l.drop b).take (i-b)++[l[i]]:=by rw[show i+1-b=(i-b)+1 by omega,cE (by simp;omega)];simp[show b+(i-b)=i by omega]
def bt{i:aN}(h:i<s.size):fJ s i=(s.data.toList[i]'(by rw[sz];exact h)).toNat:=by unfold fJ;rw[eM,Array.getElem?_eq_getElem (show i<s.data.size from h)];rfl
end tE
open tE (xV uc B9 Lw)
namespace nf
open tE (sp mk bt sz)
def ne(x:ar):aZ:=x.size !=0
def HT(c:eJ):aZ:=ah (32<=c.toNat)&&ah (c.toNat<=126)
def F(a r:aE eJ):aE ar:=((sp 32 a r).map mk).filter ne
def W(s:ar):aE ar:=(Lw 32 s).filter ne
def ahg(s:ar):W s=F [] s.data.toList:=rfl
def parts(s:ar):aE ar×aZ:=
 bif ah (s.size<=600)&&s.data.toList.all HT&&ah ((W s).length<=10)then(W s,ao)else([],aq)
def Mc(d:aE eJ):F d []=if d=[]then []else [mk d]:=by
 unfold F sp ne;cases d with
 |nil=>rfl
 |cons a r=>simp[B9]
def QE(a r:aE eJ):F a (32::r)=(if a=[]then []else [mk a])++F [] r:=by
 have e:F a (32::r)=(([a]++sp 32 [] r).map mk).filter ne:=by unfold F;rw[show sp 32 a (32::r)=[a]++sp 32 [] r from by rw[sp,bm rfl];rfl]
 rw[e,cT,jc,<-Mc];rfl
def adb(h:c≠32)(a r:aE eJ):F a (c::r)=F (a++[c]) r:=by unfold F;rw[sp,bk h]
def LQ(c:eJ):∀(r a:aE eJ),(sp c a r).length<=r.length+1
 |[],_=>by simp[sp]
 |b::r,a=>by
  rw[sp];split
  ·have:=LQ c r [];simp;omega
  ·have:=LQ c r (a++[b]);simp;omega
def Hr(c:eJ)(s:ar):(Lw c s).length<=s.size+1:=by unfold tE.Lw;rw[bK];exact LQ c _ _
def HH(c:eJ):∀(r a:aE eJ),∀x∈sp c a r,x.length<=a.length+r.length
 |[],a,x,h=>by
  simp[sp]at h;subst h;simp
 |b::r,a,x,h=>by
  rw[sp]at h;split at h
  ·rcases cF.1 h with rfl|h
   ·simp
   ·have:=HH c r [] x h;simp at this⊢;omega
  ·have:=HH c r (a++[b]) x h;simp at this⊢;omega
def T5(c:eJ)(s:ar):∀x∈Lw c s,x.size<=s.size:=by intro x h;unfold tE.Lw at h;obtain⟨l,hl,rfl⟩:=cU.1 h;have:=HH c _ _ l hl;simp at this;exact this
def R4(s:ar):∀x∈W s,0<x.size/\x.size<=s.size:=by
 intro x h;obtain⟨h1,h2⟩:=dp.1 h;have:x.size≠0:=by simpa [ne]using h2
 exact⟨by omega,T5 32 s x h1⟩
def within(a b c:az):kP.v a b c=(ah (b<=a)&&ah (a<=c)):=by unfold kP.v;cases h:ah (a≥b)<;>rfl
def bad(h:c∈s.data.toList)(a:HT c=aq):parts s=([],aq):=by
 unfold parts;have:s.data.toList.all HT=false:=by rw[Vp];exact⟨c,h,by rw[a];simp⟩
 rw[this];simp
def Iz{l:aE eJ}{i:aN}(h:i<l.length)(a:(l.take i).all HT=ao)(d:HT l[i]=ao):(l.take (i+1)).all HT=true:=by rw[cE h,ph,a,iS,d];rfl
end nf
open nf (QE Mc adb ahg parts HT within)
namespace FK
open gj (it)
def vl(a:aN)(l:aE eJ):aN:=l.foldl (λa c=>a*10+(c.toNat-48)) a
def J7(c:eJ):aZ:=ah (48<=c.toNat)&&ah (c.toNat<=57)
def qj:J7 c=ao↔48<=c.toNat/\c.toNat<=57:=by unfold J7;simp
def Fl{x:aN}(h:x<10):(aj (48+x)).toNat=48+x:=by rw[wL];omega
def G0:∀(m u:aN),u<=m->vl 0 (dd u)=u/\(dd u).all J7=ao
 |m,u,h=>by
  by_cases a:u<10
  ·rw[dd1 a];have e:=Fl a;refine⟨?_,?_⟩
   ·simp only[vl,pk,ve,e];omega
   ·simp only[iS,DY,gE,qj,e];omega
  ·match m with
   |0=>omega
   |m+1=>
    obtain⟨h1,h2⟩:=G0 m (u/10) (by omega);rw[dd2 a];have e:=Fl (x:=u%10) (by omega);refine⟨?_,?_⟩
    ·unfold vl at h1⊢;rw[nv,h1];simp only[pk,ve,e];omega
    ·rw[ph,h2];simp only[iS,DY,gE,bj,qj,e];omega
def GZ:∀(k u:aN),u<10^(k+1)->(dd u).length<=k+1
 |0,u,h=>by rw[dd1 (by omega)];simp
 |k+1,u,h=>by
  by_cases a:u<10
  ·rw[dd1 a];simp
  ·rw[dd2 a,bU,bz];have:=GZ k (u/10) (by rw[JW]at h;omega);omega
def acM:∀(l:aE eJ) (a:aN),a<=vl a l
 |[],a=>bW _
 |c::l,a=>by
  have:=acM l (a*10+(c.toNat-48));show a<=vl (a*10+(c.toNat-48)) l;omega
def prs:∀(l:aE eJ) (a:aN),l.all J7=ao->vl a l<9223372036854775808->_root_.Go.Lib.parseUint10 a l=.ok (vl a l)
 |[],a,_,_=>rfl
 |c::l,a,h,d=>by
  rw[iS,aM,qj]at h;have hg:=acM l (a*10+(c.toNat-48));have d:vl (a*10+(c.toNat-48)) l<9223372036854775808:=d;rw[_root_.Go.Lib.parseUint10,bm h.1,bk (by omega),bk (by omega)];exact prs l _ h.2 d
def i6(s:ar):az×aZ:=
 bif s.data.toList.all J7&&ah (s.size<=10)&&ah (vl 0 s.data.toList<=1000000000)&&(dd (vl 0 s.data.toList)==s.data.toList)then((vl 0 s.data.toList:aN),ao)else(0,aq)
def ady(l:aE eJ)(h1:l≠[])(h2:l.all J7=ao)(h3:vl 0 l<=1000000000):_root_.Go.Lib.atoiAll l=.ok ((vl 0 l:aN):az):=by
 have hp:=prs l 0 h2 (by omega);match l,h1 with
 |c::r,_=>
  have e:=(aM _ _▸(iS▸h2)).1;rw[qj]at e;unfold _root_.Go.Lib.atoiAll;have a:¬c.toNat=43:=by omega
  have d:¬c.toNat=45:=by omega
  simp only[a,d,or_self,if_false,false_and,not_false_eq_true,true_and];unfold _root_.Go.Lib.parseMag;rw[bk (by simp),hp];dsimp only;rw[bk (by omega)]
def adY(s:ar):yT.v s=i6 s:=by
 unfold i6;cases a:(s.data.toList.all J7&&ah (s.size<=10)&&ah (vl 0 s.data.toList<=1000000000)&&(dd (vl 0 s.data.toList)==s.data.toList))with
 |true=>
  simp only[aM,ba,beq_iff_eq]at a;obtain⟨⟨⟨h1,h2⟩,h3⟩,h4⟩:=a;have f:s.data.toList≠[]:=by intro e;rw[e]at h4;rw[show vl 0 []=0 from rfl,dd1 (by omega)]at h4;cases h4
  unfold yT.v;rw[ady _ f h1 h3];have e:(_root_.Go.Lib.itoa ((vl 0 s.data.toList:aN):az)==s.data.toList)=true:=by rw[_root_.Go.Lib.itoa_nonneg];exact beq_iff_eq.2 h4
  simp only[e,gE,aA (show(0:az)<=((vl 0 s.data.toList:aN):az)by omega),aA (show((vl 0 s.data.toList:aN):az)<=1000000000 by omega),au]
 |false=>
  unfold yT.v;cases j:_root_.Go.Lib.atoiAll s.data.toList with
  |range=>rfl
  |ok n=>
   dsimp only;cases hd:(ah (0<=n)&&ah (n<=1000000000)&&(_root_.Go.Lib.itoa n==s.data.toList))with
   |false=>rfl
   |true=>exfalso;simp only[aM,ba,beq_iff_eq]at hd;obtain⟨⟨h1,h2⟩,h3⟩:=hd;obtain⟨u,rfl⟩:=Int.eq_ofNat_of_zero_le h1;rw[_root_.Go.Lib.itoa_nonneg]at h3;have h3:dd u=s.data.toList:=h3;obtain⟨h,i⟩:=G0 u u (bW _);have d:=GZ 9 u (by omega);rw[h3]at h i d;have d:s.size<=10:=d;rw[h,i,h3,aA d,aA (show u<=1000000000 by omega)]at a;simp at a
  |_=>rfl
end FK
open FK (GZ G0 J7 qj i6 vl)
namespace kf
def WL:aE ar:=[⟨#[97,115,107]⟩,⟨#[112,97,114,116]⟩,⟨#[99,108,111,115,101]⟩,⟨#[98,114,101,97,107]⟩,⟨#[112,97,115,115]⟩,⟨#[108,101,97,118,101]⟩,⟨#[102,97,108,108]⟩]
def wd(i:aN):ar:=WL.getD i ⟨#[]⟩
def SL:aE az:=[3,3,3,2,2,2,0]
def res(e:Ev)(b:aZ):aG Ev:=bif b&&il e then ai e else ay
def fz:aE ar->Row->Row×aZ
 |[],acc=>(acc,ao)
 |x::r,acc=>bif(i6 x).2 then fz r (acc++[[CV.i ak (i6 x).1]])else(acc++[[CV.i ak (i6 x).1]],aq)
def E(p:aE ar):aG Ev:=
 let w:=p.getD 0 ⟨#[]⟩
 let a:=i6 (p.getD 1 ⟨#[]⟩)
 let t:=p.getD 2 ⟨#[]⟩
 if w=wd 0 then(if p.length=3 then res ⟨1,a.1,t,0,[]⟩ a.2 else ay)
 else if w=wd 1 then(if p.length=3 then res ⟨2,a.1,t,0,[]⟩ a.2 else ay)
 else if w=wd 2 then(if p.length=3 then res ⟨3,a.1,⟨#[]⟩,(i6 t).1,[]⟩ (a.2&&(i6 t).2)else ay)
 else if w=wd 3 then(if p.length=2 then res ⟨4,a.1,⟨#[]⟩,0,[]⟩ a.2 else ay)
 else if w=wd 4 then(if p.length=2 then res ⟨5,0,⟨#[]⟩,a.1,[]⟩ a.2 else ay)
 else if w=wd 5 then(if p.length=2 then res ⟨6,a.1,⟨#[]⟩,0,[]⟩ a.2 else ay)
 else if w=wd 6 then res ⟨7,0,⟨#[]⟩,0,(fz (p.drop 1) []).1⟩ (fz (p.drop 1) []).2
 else ay
def zR(a b:ar):cD a.toList b.toList=ah (a=b):=by
 rw[_root_.Go.Lib.toList_data,_root_.Go.Lib.toList_data];show(a.data.toList==b.data.toList)=_;by_cases h:a=b
 ·subst h;simp
 ·rw[aD h];refine beq_eq_false_iff_ne.2 λe=>h ?_;have:=gu List.toArray e;exact kQ (by simpa using this)
def amL:∀j k:Fin 7,wd j.val=wd k.val->j=k:=by decide+kernel
def jX{j k:aN}(a:j<7)(hk:k<7)(h:j≠k):wd j≠wd k:=λe=>h (gu Fin.val (amL ⟨j,a⟩ ⟨k,hk⟩ e))
def cS(p:aE ar)(i:aN):bn (av (rs p) i 0)=p.getD i ⟨#[]⟩:=by unfold av Lib.rs;simp only[dc,bJ];cases p[i]? <;>rfl
def cL(p:aE ar):(rs p).length=p.length:=by simp[Lib.rs]
def ri1(n:az):aC (aR [Ck.i ak] 1) 0 [CV.i ak n]=[[CV.i ak n]]:=rfl
def SE:∀(l:aE ar) (acc:Row),(∀y∈acc,y.length=1)->∀y∈(fz l acc).1,y.length=1
 |[],acc,h=>h
 |x::r,acc,h=>by
  have h2:∀y∈acc++[[CV.i ak (i6 x).1]],y.length=1:=by
   intro y a;rcases a_.1 a with a|a
   ·exact h y a
   ·rw[a7.1 a];rfl
  rw[fz];cases (i6 x).2 with
  |false=>exact h2
  |true=>exact SE r _ h2
def ae3{b:aZ}(h:res e b=ai x):x=e/\il e=true:=by
 unfold res at h;cases a:(b&&il e)with
 |false=>rw[a]at h;cases h
 |true=>rw[a]at h;rw[aM]at a;exact⟨(aL h).symm,a.2⟩
def amz(h:E p=ai x):il x=ao/\∀y∈x.l,y.length=1:=by
 have nil:∀(y:aE CV),y∈([]:Row)->y.length=1:=λy h=>by cases h
 have one:∀{e:Ev} {b:aZ},res e b=ai x->(∀y∈e.l,y.length=1)->il x=ao/\∀y∈x.l,y.length=1:=λh hl=>by obtain⟨rfl,h2⟩:=ae3 h;exact⟨h2,hl⟩
 unfold E at h;dsimp only at h;repeat' split at h
 all_goals first|(cases h;done)|exact one h nil|exact one h (SE _ _ nil)
def E0(h:p.getD 0 ⟨#[]⟩=wd 0):E p=(if p.length=3 then res ⟨1,(i6 (p.getD 1 ⟨#[]⟩)).1,p.getD 2 ⟨#[]⟩,0,[]⟩ (i6 (p.getD 1 ⟨#[]⟩)).2 else ay):=by unfold E;dsimp only;rw[h,bm rfl]
def E1(h:p.getD 0 ⟨#[]⟩=wd 1):E p=(if p.length=3 then res ⟨2,(i6 (p.getD 1 ⟨#[]⟩)).1,p.getD 2 ⟨#[]⟩,0,[]⟩ (i6 (p.getD 1 ⟨#[]⟩)).2 else ay):=by unfold E;dsimp only;rw[h,bk (jX (by omega) (by omega) (by omega)),bm rfl]
def E2(h:p.getD 0 ⟨#[]⟩=wd 2):E p=(if p.length=3 then res ⟨3,(i6 (p.getD 1 ⟨#[]⟩)).1,⟨#[]⟩,(i6 (p.getD 2 ⟨#[]⟩)).1,[]⟩ ((i6 (p.getD 1 ⟨#[]⟩)).2&&(i6 (p.getD 2 ⟨#[]⟩)).2)else ay):=by unfold E;dsimp only;rw[h,bk (jX (by omega) (by omega) (by omega)),bk (jX (by omega) (by omega) (by omega)),bm rfl]
def E3(h:p.getD 0 ⟨#[]⟩=wd 3):E p=(if p.length=2 then res ⟨4,(i6 (p.getD 1 ⟨#[]⟩)).1,⟨#[]⟩,0,[]⟩ (i6 (p.getD 1 ⟨#[]⟩)).2 else ay):=by unfold E;dsimp only;rw[h,bk (jX (by omega) (by omega) (by omega)),bk (jX (by omega) (by omega) (by omega)),bk (jX (by omega) (by omega) (by omega)),bm rfl]
def E4(h:p.getD 0 ⟨#[]⟩=wd 4):E p=(if p.length=2 then res ⟨5,0,⟨#[]⟩,(i6 (p.getD 1 ⟨#[]⟩)).1,[]⟩ (i6 (p.getD 1 ⟨#[]⟩)).2 else ay):=by unfold E;dsimp only;rw[h,bk (jX (by omega) (by omega) (by omega)),bk (jX (by omega) (by omega) (by omega)),bk (jX (by omega) (by omega) (by omega)),bk (jX (by omega) (by omega) (by omega)),bm rfl]
def E5(h:p.getD 0 ⟨#[]⟩=wd 5):E p=(if p.length=2 then res ⟨6,(i6 (p.getD 1 ⟨#[]⟩)).1,⟨#[]⟩,0,[]⟩ (i6 (p.getD 1 ⟨#[]⟩)).2 else ay):=by unfold E;dsimp only;rw[h,bk (jX (by omega) (by omega) (by omega)),bk (jX (by omega) (by omega) (by omega)),bk (jX (by omega) (by omega) (by omega)),bk (jX (by omega) (by omega) (by omega)),bk (jX (by omega) (by omega) (by omega)),bm rfl]
def E6(h:p.getD 0 ⟨#[]⟩=wd 6):E p=res ⟨7,0,⟨#[]⟩,0,(fz (p.drop 1) []).1⟩ (fz (p.drop 1) []).2:=by unfold E;dsimp only;rw[h,bk (jX (by omega) (by omega) (by omega)),bk (jX (by omega) (by omega) (by omega)),bk (jX (by omega) (by omega) (by omega)),bk (jX (by omega) (by omega) (by omega)),bk (jX (by omega) (by omega) (by omega)),bk (jX (by omega) (by omega) (by omega)),bm rfl]
def En(h:∀j,j<7->p.getD 0 ⟨#[]⟩≠wd j):E p=none:=by unfold E;dsimp only;rw[bk (h 0 (by omega)),bk (h 1 (by omega)),bk (h 2 (by omega)),bk (h 3 (by omega)),bk (h 4 (by omega)),bk (h 5 (by omega)),bk (h 6 (by omega))]
end kf
open kf (SL WL zR cS ri1 wd jX)
namespace H8
open tE (sp mk)
def DR:aE eJ->aE eJ->aE (aE eJ)
 |a,[]=>if a=[]then []else [a]
 |a,b::r=>if b=10 then a::DR [] r else DR (a++[b]) r
def lines(s:ar):aE ar:=(DR [] s.data.toList).map mk
def two:∀(r d:aE eJ),∃a z,sp 10 d r=a++[z]/\DR d r=(if z=[]then a else a++[z])
 |[],d=>⟨[],d,rfl,by rw[DR];rfl⟩
 |b::r,d=>by
  rw[sp,DR];by_cases h:b=10
  ·rw[bm h,bm h];obtain⟨a,z,h1,h2⟩:=two r [];refine⟨d::a,z,by rw[h1];rfl,?_⟩
   rw[h2];split<;>rfl
  ·rw[bk h,bk h];exact two r _
def Fk(s:ar):∃(A:aE ar) (Z:ar),Lw 10 s=A++[Z]/\lines s=(if Z.size=0 then A else A++[Z]):=by
 obtain⟨a,z,h1,h2⟩:=two s.data.toList [];refine⟨a.map mk,mk z,by unfold tE.Lw;rw[h1];simp,?_⟩
 unfold lines;rw[h2];cases z with
 |nil=>rfl
 |cons x t=>simp[B9]
def Fj(s:ar):(lines s).length<=s.size+1:=by
 obtain⟨A,Z,h1,h2⟩:=Fk s;have:=nf.Hr 10 s;rw[h1,bU,bz]at this;rw[h2];split
 ·omega
 ·rw[bU,bz];omega
end H8
open H8 (lines Fj DR)
namespace wO
open iF (rv)
open nf (W)
open kf (E)
def kJ(w:ar):aZ:=ah (fJ w 0=35)
def idle:aE ar->aZ
 |[]=>ao
 |w::_=>kJ w
def uz:aN->aE ar->aE Ev->aE Ev×az
 |_,[],acc=>(acc,0)
 |i,x::r,acc=>
  bif(parts x).2 then(bif idle (parts x).1 then uz (i+1) r acc else
   match E (parts x).1 with
   |none=>([],((i+1:aN):az))
   |some e=>bif ah (acc.length=70)then([],((i+1:aN):az))else uz (i+1) r (acc++[e]))
  else([],((i+1:aN):az))
def dE(s:ar):aE Ev×az:=
 bif ah (s.size<=3000)&&ah ((lines s).length<=90)then uz 0 (lines s) []else([],-1)
def rB(h:(parts s).2=ao):(parts s).1.length<=10/\∀x∈(parts s).1,0<x.size/\x.size<=600:=by
 unfold nf.parts at h⊢;cases a:(ah (s.size<=600)&&s.data.toList.all nf.HT&&ah ((W s).length<=10))with
 |false=>rw[a]at h;cases h
 |true=>rw[au];simp only[aM,ba]at a;exact⟨a.2,λx d=>⟨(nf.R4 s x d).1,ca (nf.R4 s x d).2 a.1.1⟩⟩
def LG:∀(l:aE ar) (i:aN) (acc:aE Ev),acc.length<=70->(∀e∈acc,il e=ao/\∀y∈e.l,y.length=1)->(uz i l acc).1.length<=70/\∀e∈(uz i l acc).1,il e=ao/\∀y∈e.l,y.length=1
 |[],i,acc,h1,h2=>⟨h1,h2⟩
 |x::r,i,acc,h1,h2=>by
  have nil:([]:aE Ev).length<=70/\∀e∈([]:aE Ev),il e=ao/\∀y∈e.l,y.length=1:=⟨by simp,λe h=>by cases h⟩
  rw[uz];cases (parts x).2 with
  |false=>exact nil
  |true=>
   rw[au];cases idle (parts x).1 with
   |true=>exact LG r _ acc h1 h2
   |false=>
    rw[ax];cases hE:E (parts x).1 with
    |none=>exact nil
    |some e=>
     dsimp only;by_cases a:acc.length=70
     ·rw[aA a];exact nil
     ·rw[aD a,ax];refine LG r _ _ (by simp;omega) (λy d=> ?_);rcases a_.1 d with d|d
      ·exact h2 y d
      ·rw[a7.1 d];exact kf.amz hE
def Ao(s:ar):(dE s).1.length<=70/\∀e∈(dE s).1,il e=ao/\∀y∈e.l,y.length=1:=by
 unfold dE;cases (ah (s.size<=3000)&&ah ((lines s).length<=90))with
 |false=>exact⟨by simp,λe h=>by cases h⟩
 |true=>exact LG _ _ _ (by simp) (λe h=>by cases h)
def sL(acc:aE Ev)(e:Ev):rv acc++aC (aR [Ck.i ak,Ck.i ak,Ck.s,Ck.i ak,Ck.l 3] 1) 0 [CV.i ak e.k,CV.i ak e.id,CV.s e.t,CV.i ak e.n,CV.l 3 e.l]=rv (acc++[e]):=by unfold iF.rv;rw[cT];rfl
def rh(w:ar):ah (((fJ w 0:aN):az)=35)=kJ w:=by unfold kJ;rw[b7];omega
end wO
open wO (rh kJ idle rB uz dE)
namespace fP
open ed (sp room)
open gj (it)
open fA (told)
open iF (run)
def tl:aE ar->ar
 |[]=>⟨#[]⟩|x::r=>sp++x++tl r
def jo:aE ar->ar
 |[]=>⟨#[]⟩|x::r=>x++tl r
def HN(x:ar):∀l:aE ar,tl (l++[x])=tl l++sp++x
 |[]=>by show sp++x++⟨#[]⟩=⟨#[]⟩++sp++x;rw[qh,yp]
 |y::r=>by
  show sp++y++tl (r++[x])=sp++y++tl r++sp++x;rw[HN x r];simp only[cY]
def WX(x:ar):∀{l:aE ar},l≠[]->jo (l++[x])=jo l++sp++x
 |[],h=>cO rfl h
 |y::r,_=>by
  show y++tl (r++[x])=y++tl r++sp++x;rw[HN];simp only[cY]
def HM(B:aN):∀l:aE ar,(∀x∈l,x.size<=B)->(tl l).size<=(B+1)*l.length
 |[],_=>bW _
 |x::r,h=>by
  have h1:=h x cQ;have h2:=HM B r λy a=>h y (cK _ a);unfold tl;rw[cj,cj,bT,Nat.mul_succ,show sp.size=1 from rfl];omega
def WW(B:aN)(l:aE ar)(h:∀x∈l,x.size<=B):(jo l).size<=(B+1)*l.length:=by
 cases l with
 |nil=>exact bW _
 |cons x r=>have h1:=h x cQ;have h2:=HM B r λy a=>h y (cK _ a);unfold jo;rw[cj,bT,Nat.mul_succ];omega
def join_eq(l:aE ar):(⟨(_root_.Go.Lib.join (l.map (·.data.toList)) [aj 32]).toArray⟩:ar)=jo l:=by
 cases l with
 |nil=>rfl
 |cons x r=>
  have e:∀r:aE ar,_root_.Go.Lib.joinTail [aj 32] (r.map (·.data.toList))=(tl r).data.toList:=by
   intro r;induction r with
   |nil=>rfl
   |cons y r ih=>rw[show(tl (y::r)).data.toList=[aj 32]++y.data.toList++(tl r).data.toList from by rw[show tl (y::r)=sp++y++tl r from rfl];simp,<-ih];rfl
  rw[fD,_root_.Go.Lib.join_cons,e];apply kQ;unfold jo;simp
def ad6(n:az):1<=(it n).size:=by
 have d:∀u,1<=(gj.D u).size:=λu=>by
  by_cases h:u<10
  ·rw[gj.D1 h];exact bW _
  ·rw[gj.D2 h,cj];exact Nat.le_add_left _ _
 unfold gj.it _root_.Go.Lib.itoa;split
 ·exact Nat.succ_le_succ (bB _)
 ·exact d _
def ahS(h:l≠[]):jo (l.map it)≠⟨#[]⟩:=by
 cases l with
 |nil=>exact cO rfl h
 |cons n r=>intro e;have e:=gu bf e;have:=ad6 n;rw[show jo ((n::r).map it)=it n++tl (r.map it)from rfl,cj]at e;have:(⟨#[]⟩:ar).size=0:=rfl;omega
def Ag(p:Px):Prop:=∀c∈p.cl,c.age<=1000000000
def HO{n:aN}{st:az}(h:Ag p):Ag (told p n g st):=λc a=>by
 obtain⟨x,d,rfl⟩:=cU.1 a;unfold wN.ec;cases ah (x.fe=(n:az)+1)&&ah (x.sta=1)<;>exact h x d
def S5(h:Ag p)(d:c.age<=1000000000)(e:q.cl=gH.jn p.cl c):Ag q:=λx a=>by
 rw[e]at a;unfold gH.jn at a;rcases a_.1 a with a|a
 ·rcases a_.1 a with a|a
  ·exact h x (dp.1 a).1
  ·rw[a7.1 a];exact d
 ·exact h x (dp.1 a).1
def zT(n:az):Prop:=0<=n/\n<=2
def vK(b:aZ):zT (iN.flag b):=by cases b<;>exact⟨by decide,by decide⟩
def NJ{p:Px}{id:az}{key:ar}{b:aZ}(h:Ag p):Ag (gH.lN p id key b).1/\zT (gH.lN p id key b).2:=by
 unfold gH.lN;cases gH.Qt p.fe key with
 |some i=>exact⟨S5 h (by show(0:az)<=_;omega) rfl,vK ao⟩
 |none=>
  dsimp only;cases ah (p.fe.length<20)with
  |true=>exact⟨S5 h (by show(0:az)<=_;omega) rfl,vK ao⟩
  |false=>exact⟨h,by show(0:az)<=2;decide,by show(2:az)<=2;decide⟩
def adv(id:az)(key:ar)(d:ja p)(h:Ag p):Ag (gH.ask p id key).1/\zT (gH.ask p id key).2:=by
 unfold gH.ask;cases (mj.lC p&&(ah (1<=id/\id<=9)&&(nA.gf key&&(!gH.oc p.cl id&&ah (p.cl.length<6)))))with
 |false=>exact⟨h,vK aq⟩
 |true=>
  rw[au];cases a:gH.KK p.en key with
  |none=>exact NJ h
  |some e=>
   dsimp only;cases gH.tC e p.now with
   |false=>exact NJ h
   |true=>unfold gH.KK at a;have h1:=d.now.2;have h2:=gU.DT (d.en e (qS a));exact⟨S5 h (by show p.now-e.st<=_;omega) rfl,vK ao⟩
def adn(o:ja w.p)(h:Ag w.p):Ag (iN.act w e).1.p/\zT (iN.act w e).2:=by
 unfold iN.act;by_cases d:e.k=1
 ·rw[aA d];exact adv _ _ o h
 rw[aD d,ax];by_cases f:e.k=2
 ·rw[aA f];refine⟨?_,vK _⟩
  show Ag (fA.Ht w.p e.id e.t).1;unfold fA.Ht;cases (fA.yV w.p e.id&&(ah (1<=e.t.size/\e.t.size<=40)&&ah ((el w.p.fe e.id.toNat).t.size+e.t.size<=400)))with
  |false=>exact h
  |true=>exact HO h
 rw[aD f,ax];by_cases i:e.k=3
 ·rw[aA i,au];have a:Ag (wM.cls w.p e.id (e.n%1000000)).1:=by
   unfold wM.cls;cases (fA.yV w.p e.id&&ah (0<=e.n%1000000/\e.n%1000000<=999999))with
   |false=>exact h
   |true=>rw[au];cases ah (e.n%1000000>0)<;>exact HO h
  refine⟨?_,vK _⟩
  unfold iN.closed;dsimp only;cases (wM.cls w.p e.id (e.n%1000000)).2&&ah (e.n%1000000>0)<;>exact a
 rw[aD i,ax];by_cases k4:e.k=4
 ·rw[aA k4];refine⟨?_,vK _⟩
  show Ag (fA.GW w.p e.id).1;unfold fA.GW;cases fA.yV w.p e.id with
  |false=>exact h
  |true=>exact HO h
 rw[aD k4,ax];by_cases j:e.k=5
 ·rw[aA j];exact⟨h,vK ao⟩
 rw[aD j,ax];by_cases m:e.k=6
 ·rw[aA m];exact⟨λc a=>h c (dp.1 a).1,vK _⟩
 rw[aD m,ax];refine⟨λc a=> ?_,vK ao⟩
 have:=fV.ui w.p.now (iN.oa w) _ (bW _);rw[cR]at this;rw[show(iN.I0 w).p.cl=[]from this.cl]at a;cases a
def ae9{l:aE Ev}(h:∀e∈l,il e=ao):∀i,i<=l.length->Ag (run (l.take i)).p/\∀n∈(run (l.take i)).cd,zT n:=by
 intro i;induction i with
 |zero=>exact λ_=>⟨λc f=>(by cases f),λn d=>(by cases d)⟩
 |succ i ih=>
  intro hi;obtain⟨a,b⟩:=ih (by omega);rw[iF.rE l i hi];have:=adn (e:=el l i) (iF.Al h i (by omega)).px a;refine⟨this.1,λn d=> ?_⟩
  rcases a_.1 d with d|d
  ·exact b n d
  ·rw[a7.1 d];exact this.2
structure Tel (w:Wo):Prop where
 px:ja w.p
 cd:∀n∈w.cd,zT n
 cl:∀c∈w.p.cl,Ee c
 rm:room w.p.cl<=3000
 ln:w.cd.length<=70
 en:w.p.en.length<=1048576
 ks:∀e∈w.p.en,e.k.size<=30
def tel{l:aE Ev}(hl:l.length<=70)(h:∀e∈l,il e=ao):Tel (run l):=by
 have W:=iF.Am h;have A:=ae9 h l.length (bW _);rw[cR]at A;have C:=λc (a:c∈(run l).p.cl)=>W.px.cl c a;unfold H9.Kx at C;simp only[aM,ba]at C;refine⟨W.px,A.2,λc a=> ?_,?_,by rw[W.cd];exact hl,(dY.jQ W.px).en,λe d=> ?_⟩
 ·have h1:=C c a;have h2:=A.1 c a;unfold ed.Ee ed.VF;omega
 ·have rm:∀q:aE Cl,(∀c∈q,c.got.size<=400)->room q<=460*q.length:=by
   intro q hq;induction q with
   |nil=>exact bW _
   |cons c r ih=>
    have h1:=hq c cQ;have h2:=ih λx f=>hq x (cK _ f);show c.got.size+60+room r<=460*(r.length+1)
    omega
  have:=rm _ λc a=>by have:=C c a;omega
  have:=W.px.cll;omega
 ·have:=gU.DT (W.px.en e d);omega
def am0:ar:=(aw #[aj 104,aj 105,aj 116,aj 115,aj 32])
def anl:ar:=(aw #[aj 32,aj 107,aj 101,aj 112,aj 116])
def amN:ar:=(aw #[aj 102,aj 97,aj 117,aj 108,aj 116,aj 32])
def hd(l:aE az):ar:=if l=[]then⟨#[]⟩else jo (l.map it)++Hj
def wtx(w:Wo):ar:=hd w.cd++(shown w.p.cl++(am0++(it w.p.hits++(anl++(tl (w.p.en.map (·.k))++Hj)))))
def yU(s:ar):ar:=if(dE s).2=0 then wtx (run (dE s).1)else amN++(it (dE s).2++Hj)
def N2:∀(l:aE ar) (i:aN) (acc:aE Ev),0<=(uz i l acc).2/\(uz i l acc).2<=i+l.length
 |[],i,acc=>by show(0:az)<=0/\(0:az)<=_;omega
 |x::r,i,acc=>by
  have h:=λa=>N2 r (i+1) a;have no:(0:az)<=((i+1:aN):az)/\((i+1:aN):az)<=(i:az)+((x::r).length:aN):=by simp only[bT];omega
  have go:∀a,0<=(uz (i+1) r a).2/\(uz (i+1) r a).2<=(i:az)+((x::r).length:aN):=λa=>by have:=h a;simp only[bT];omega
  rw[uz];cases (nf.parts x).2 with
  |false=>exact no
  |true=>
   rw[au];cases wO.idle (nf.parts x).1 with
   |true=>exact go _
   |false=>
    rw[ax];cases kf.E (nf.parts x).1 with
    |none=>exact no
    |some e=>
     dsimp only;cases ah (acc.length=70)with
     |true=>exact no
     |false=>exact go _
def CR(s:ar): -1<=(dE s).2/\(dE s).2<=90:=by
 unfold wO.dE;cases h:(ah (s.size<=3000)&&ah ((H8.lines s).length<=90))with
 |false=>exact⟨by show(-1:az)<= -1;decide,by show(-1:az)<=90;decide⟩
 |true=>rw[aM,ba,ba]at h;have:=N2 (H8.lines s) 0 [];rw[au];omega
def U5(l:aE En)(i:aN)(h:i<l.length):tl ((l.take (i+1)).map (·.k))=tl ((l.take i).map (·.k))++sp++(el l i).k:=by rw[e7 h,cE h,cT];exact HN _ _
def LS(l:aE az)(i:aN)(h:i<l.length):(l.take (i+1)).map it=(l.take i).map it++[it (el l i)]:=by rw[e7 h,cE h,cT];rfl
def akK(l:aE az)(i:aN)(h:i<l.length)(h0:0<i):jo ((l.take (i+1)).map it)=jo ((l.take i).map it)++sp++it (el l i):=by rw[LS l i h];refine WX _ λe=> ?_;have:=gu bD e;rw[bK,dG,jU]at this;omega
def aaH{n:az}(h:zT n):(it n).size<=21:=gj.jI _ (by have:=h.1;omega) (by have:=h.2;omega)
def NH{l:aE az}(hl:l.length<=70)(a:∀n∈l,zT n)(i:aN):(jo ((l.take i).map it)).size<=1540:=by
 have:=WW 21 ((l.take i).map it) λx e=>by obtain⟨n,d,rfl⟩:=cU.1 e;exact aaH (a n (iK d))
 rw[bK,dG]at this;omega
def FC{l:aE En}(hl:l.length<=1048576)(hk:∀e∈l,e.k.size<=30)(i:aN):(tl ((l.take i).map (·.k))).size<=32505856:=by
 have:=HM 30 ((l.take i).map (·.k)) λx d=>by obtain⟨e,a,rfl⟩:=cU.1 d;exact hk e (iK a)
 rw[bK,dG]at this;omega
def w1{n:aN}(h:n<=4000000000):ah (n<=4611686018427387904)=true:=aA (by omega)
def YD(l:aE ar)(x:ar):rs l++aC (aR [Ck.s] 1) 0 [CV.s x]=rs (l++[x]):=by unfold Lib.rs;rw[cT];rfl
def WY(l:aE ar)(hl:l.length<=1000)(hs:(jo l).size<=100000):D_.c (rs l) sp=ao/\D_.v (rs l) sp=jo l:=by
 have t:D_.tx (rs l)=l:=by unfold D_.tx Lib.rs;rw[jL];exact OT l
 have e:D_.v (rs l) sp=jo l:=by unfold D_.v;rw[t];exact join_eq l
 refine⟨?_,e⟩
 have n:=gu bf e;unfold D_.v at n;rw[show∀x:aE eJ,(⟨x.toArray⟩:ar).size=x.length from λx=>by show x.toArray.size=_;simp]at n;unfold D_.c;rw[Lib.cL,wc (by omega),wc (by omega)];rfl
end fP
open fP (Tel zT yU jo tl wtx)
namespace yX
open tE (mk)
abbrev P0:ar:=(aw #[aj 35,aj 32,aj 115,aj 97,aj 105,aj 100,aj 10,aj 32,aj 32,aj 32,aj 10])
abbrev P3:ar:=(aw #[aj 32,aj 32,aj 35,aj 32,aj 109,aj 111,aj 114,aj 101,aj 10])
abbrev L0:ar:=⟨#[35,32,115,97,105,100]⟩
abbrev L1:ar:=⟨#[32,32,32]⟩
abbrev L3:ar:=⟨#[32,32,35,32,109,111,114,101]⟩
def rem(x:ar):aZ:=(parts x).2&&idle (parts x).1
def r0:rem L0=true:=by decide+kernel
def r1:rem L1=true:=by decide+kernel
def r3:rem L3=true:=by decide+kernel
def yF(h:rem x=ao)(i:aN)(r:aE ar)(acc:aE Ev):uz i (x::r) acc=uz (i+1) r acc:=by unfold rem at h;rw[aM]at h;rw[uz,h.1,au,h.2,au]
def no{n:aN}{P:Prop}(h:(((n+1:aN):az))=0):P:=by omega
def HB:∀(l:aE ar) (i j:aN) (acc:aE Ev),(uz i l acc).2=0->uz j l acc=uz i l acc
 |[],_,_,_,_=>rfl
 |x::r,i,j,acc,h=>by
  rw[uz]at h⊢;rw[uz];cases hp:(parts x).2 with
  |false=>rw[hp]at h;exact no h
  |true=>
   rw[hp,au]at h;rw[au,au];cases hi:idle (parts x).1 with
   |true=>rw[hi]at h;exact HB r _ _ _ h
   |false=>
    rw[hi,ax]at h;rw[ax,ax];cases hE:kf.E (parts x).1 with
    |none=>rw[hE]at h;exact no h
    |some e=>
     rw[hE]at h;dsimp only at h⊢;cases a:ah (acc.length=70)with
     |true=>rw[a]at h;exact no h
     |false=>rw[a]at h;exact HB r _ _ _ h
def HA(a:rem y=ao):∀(l:aE ar) (i:aN) (acc:aE Ev),(uz i l acc).2=0->uz i (l++[y]) acc=uz i l acc
 |[],i,acc,_=>yF a i [] acc
 |x::r,i,acc,h=>by
  rw[gG];rw[uz]at h⊢;rw[uz];cases hp:(parts x).2 with
  |false=>rfl
  |true=>
   rw[hp,au]at h;rw[au,au];cases hi:idle (parts x).1 with
   |true=>rw[hi]at h;exact HA a r _ _ h
   |false=>
    rw[hi,ax]at h;rw[ax,ax];cases hE:kf.E (parts x).1 with
    |none=>rfl
    |some e=>
     rw[hE]at h;dsimp only at h⊢;cases d:ah (acc.length=70)with
     |true=>rfl
     |false=>rw[d]at h;exact HA a r _ _ h
def Ny(h:(dE s).2≠ -1):dE s=uz 0 (lines s) []:=by
 unfold wO.dE at h⊢;cases a:ah (s.size<=3000)&&ah ((lines s).length<=90)with
 |false=>rw[a]at h;exact cO rfl h
 |true=>rfl
def Sm(h:dE s=dE t):yU s=yU t:=by unfold fP.yU;rw[h]
def cut:∀(a d r:aE eJ),DR d (a++10::r)=DR d (a++[10])++DR [] r
 |[],d,r=>by simp[DR]
 |b::a,d,r=>by
  rw[gG,gG,DR,DR];by_cases h:b=10
  ·rw[bm h,bm h,cut a [] r];rfl
  ·rw[bk h,bk h,cut a _ r]
def pre(t:ar):lines (P0++t)=L0::L1::lines t:=by unfold H8.lines;rw[gJ,jR];have e:∀r:aE eJ,DR [] (P0.data.toList++r)=[35,32,115,97,105,100]::[32,32,32]::DR [] r:=λr=>rfl;rw[e];rfl
def suf(t:ar)(a:aE eJ)(h:t.data.toList=a++[10]):lines (t++P3)=lines t++[L3]:=by unfold H8.lines;rw[gJ,jR,h,cg];rw[show [10]++P3.data.toList=10::P3.data.toList from rfl,cut,cT];rfl
def ah7(t:ar)(h:(dE t).2=0)(hM:(dE (P0++t)).2≠ -1):yU (P0++t)=yU t:=by have a:=Ny (s:=t) (by rw[h];decide);rw[a]at h;refine Sm ?_;rw[Ny hM,a,pre,yF r0,yF r1];exact HB _ _ _ _ h
def ah8(t:ar)(a:aE eJ)(f:t.data.toList=a++[10])(h:(dE t).2=0)(hM:(dE (P0++t++P3)).2≠ -1):yU (P0++t++P3)=yU t:=by have d:=Ny (s:=t) (by rw[h];decide);rw[d]at h;refine Sm ?_;rw[Ny hM,d,suf (P0++t) (P0.data.toList++a) (by rw[gJ,jR,f,cg]),pre,gG,gG,yF r0,yF r1];have e:=HB (lines t) 0 2 [] h;rw[HA r3 _ _ _ (by rw[show(0+1+1:aN)=2 from rfl,e];exact h)];exact e
def last(h:0<t.size)(d:((fJ t (t.size-1):aN):az)=10):∃a,t.data.toList=a++[10]:=by
 obtain⟨⟨l⟩⟩:=t;rcases List.eq_nil_or_concat l with rfl|⟨L,b,rfl⟩
 ·exact cO h (bg 0)
 ·refine⟨L,?_⟩
  have e:fJ ⟨⟨L++[b]⟩⟩ ((⟨⟨L++[b]⟩⟩:ar).size-1)=b.toNat:=by
   show((L++[b]).toArray.getD ((L++[b]).length-1) 0).toNat=b.toNat
   simp
  rw[List.concat_eq_append]at d⊢;rw[e]at d;have:b=10:=Cw.1 (by show b.toNat=10;omega);rw[this]
end yX
open yX (P0 P3)
namespace nL
open tE (sp mk bt sz)
open nf (W ne F)
def Kq(acc:aE ar)(x:ar):rs acc++aC (aR [Ck.s] 1) 0 [CV.s x]=rs (acc++[x]):=by simp[Lib.rs];rfl
def run(s:ar)(hs:s.size<=600)(K0:ar->aZ->az->az->Row->Row->aG (Row×aZ))(K1:ar->aZ->az->az->Row->aG (Row×aZ))(u:∀a b c d e f,K0 a b c d e f=ai (e,b))
  (y:s.data.toList.all HT=ao->∀a b,K1 s aq a b (rs (W s))=ai (rs (parts s).1,(parts s).2)):
  ∀(m i b:aN) (acc:aE ar),i<=s.size->s.size+1-i<m->b<=i->(s.data.toList.take i).all HT=ao->acc.length<=i->acc++F ((s.data.toList.drop b).take (i-b)) (s.data.toList.drop i)=W s->
   l6 cw K0 K1 m s aq (b:az) (i:az) (rs acc)=ai (rs (parts s).1,(parts s).2):=by
 intro m;induction m with
 |zero=>intro i b acc _ h;omega
 |succ m ih=>
  intro i b acc hi hm M hd S hw;have z:(rs acc).length=acc.length:=by simp[Lib.rs]
  have room:∀x:ar,b_ (bD (rs acc)+bD (aC (aR [Ck.s] 1) 0 [CV.s x])) 16=true:=λx=>
   b6 (by rw[ch,fa,z];omega) (by rw[ch,fa,z];omega)
  have r:gA (b:az) (i:az) (s.size:az)=true:=by unfold gA;simp;omega
  have N:bx s b i=mk ((s.data.toList.drop b).take (i-b)):=uc s b i;have j:ah ((i:az)<=(s.size:az))=true:=aA (by omega);by_cases h:i<s.size
  ·have o:=bt h;have hl:i<s.data.toList.length:=by rw[sz];exact h
   have U:(s.data.toList[i]).toNat<256:=Ed _;have bd:HT s.data.toList[i]=(ah (32<=(s.data.toList[i]).toNat)&&ah ((s.data.toList[i]).toNat<=126)):=rfl;have kX:s.data.toList.drop i=s.data.toList[i]::s.data.toList.drop (i+1):=cJ hl;have bad:HT s.data.toList[i]=aq->ai (aR [Ck.s] 0,aq)=ai (rs (parts s).1,(parts s).2):=λM=>by rw[nf.bad (bF hl) M];rfl
   by_cases h1:(s.data.toList[i]).toNat<32
   ·simp only[l6,r6,j,dh,h,aQ,cm,aK,au,dK,o,bw];rw[jz,au,u];exact bad (by rw[bd,p6];rfl)
   ·by_cases h2:(s.data.toList[i]).toNat>126
    ·simp only[l6,r6,j,dh,h,aQ,cm,aK,au,dK,o,bw];rw[p6,ax,jz,au,u];exact bad (by rw[bd,aD (show¬_<=126 by omega)];simp)
    ·have P:HT s.data.toList[i]=true:=by rw[bd,jz,jz];rfl
     have C:ah ((((s.data.toList[i]).toNat:aN):az)<32)=false:=aD (by omega);have H:ah ((((s.data.toList[i]).toNat:aN):az)>126)=false:=aD (by omega);have k:=nf.Iz hl hd P;have wi:=cG h (show s.size<=9223372036854775807 by omega);by_cases h3:s.data.toList[i]=32
     ·have B:((((s.data.toList[i]).toNat:aN):az) !=32)=false:=by rw[h3];rfl
      rw[kX,h3,QE]at hw;by_cases h4:b<i
      ·have t:¬(s.data.toList.drop b).take (i-b)=[]:=by intro e;have:=gu bD e;simp at this;omega
       simp only[l6,r6,j,dh,h,h4,aQ,cm,aK,au,ax,dK,o,C,H,B,r,room,wi,Kq,N,bw];refine ih (i+1) (i+1) _ h (by omega) (bW _) k (by simp;omega) ?_;rw[bk t]at hw;rw[qe,qB,cg];exact hw
      ·have K:i=b:=by omega
       have O:(s.data.toList.drop b).take (i-b)=[]:=by rw[K,qe,qB]
       simp only[l6,r6,j,dh,h,h4,aQ,bc,cm,aK,au,ax,dK,o,C,H,B,r,room,wi,Kq,N,bw];refine ih (i+1) (i+1) _ h (by omega) (bW _) k (by omega) ?_;rw[bm O,eR]at hw;rw[qe,qB];exact hw
     ·have B:((((s.data.toList[i]).toNat:aN):az) !=32)=true:=by simp only[bne_iff_ne,ne_eq];intro e;exact h3 (Cw.1 (by show _=32;omega))
      simp only[l6,r6,j,dh,h,aQ,cm,aK,au,ax,dK,o,C,H,B,wi,bw];refine ih (i+1) b acc h (by omega) (by omega) k (by omega) ?_;rw[kX,adb h3,<-xV M hl]at hw;exact hw
  ·have K:i=s.size:=by omega
   subst K;rw[e8 (by rw[sz];omega)]at hd;rw[kC (show s.data.toList.length<=s.size by rw[sz];omega),Mc]at hw;obtain⟨m,rfl⟩:∃Q,m=Q+1:=⟨m-1,by omega⟩
   have wi:bA ((s.size:az)+1)=((s.size+1:aN):az):=c6 (by omega) (by omega);have A:ah (((s.size+1:aN):az)<=(s.size:az))=false:=aD (by omega);by_cases h4:b<s.size
   ·have t:¬(s.data.toList.drop b).take (s.size-b)=[]:=by intro e;have:=gu bD e;simp at this;omega
    rw[bk t,<-N]at hw;simp only[l6,r6,j,A,dh,bg,h4,aQ,bc,cm,aK,au,ax,dK,r,room,wi,Kq,hw,bw];exact y hd _ _
   ·have O:(s.data.toList.drop b).take (s.size-b)=[]:=by rw[show s.size-b=0 by omega,qB]
    rw[bm O,d_]at hw;simp only[l6,r6,j,A,dh,bg,h4,aQ,bc,cm,aK,au,ax,dK,r,room,wi,Kq,hw,bw];exact y hd _ _
def ok(s:ar):c s=ao/\v s=(rs (parts s).1,(parts s).2):=by
 refine out _ ?_;unfold vo b;by_cases hs:(s.size:az)>600
 ·rw[aA hs,au];unfold nf.parts;rw[aD (show¬s.size<=600 by omega)];rfl
 ·rw[aD hs,ax];have hs:s.size<=600:=by omega
  refine run s hs _ _ (λ_ _ _ _ _ _=>rfl) (λhd a b=> ?_) cw 0 0 [] (bB _) eG (bW _) rfl (bW _) rfl;dsimp only;unfold nf.parts;rw[aA hs,hd,show(rs (W s)).length=(W s).length from by simp[Lib.rs]];by_cases d:(W s).length<=10
  ·rw[p6,aA d];rfl
  ·rw[jz,aD d];rfl
end nL
namespace kl
open tE (bt sz)
def YU(l:aE eJ)(c:eJ):vl 0 (l++[c])=vl 0 l*10+(c.toNat-48):=by unfold FK.vl;rw[nv];rfl
def Vc:∀(l:aE eJ) (a:aN),l.all J7=ao->vl a l<(a+1)*10^l.length
 |[],a,_=>by simp[FK.vl]
 |c::l,a,h=>by
  rw[iS,aM,qj]at h;have h1:=Vc l (a*10+(c.toNat-48)) h.2;rw[bT,JW,Ii (10^l.length) 10,<-Nat.mul_assoc];exact jV h1 (b9 _ (by omega))
def acN(l:aE eJ)(k:aN)(h:l.all J7=ao)(hk:l.length<=k):vl 0 l<10^k:=by have h1:=Vc l 0 h;have h2:=Nat.pow_le_pow_right (n:=10) (by omega) hk;omega
def ok(s:ar):c s=ao/\v s=i6 s:=by
 refine out _ ?_;unfold vo b bw;by_cases hs:(s.size:az)>10
 ·rw[aA hs,au];unfold FK.i6;rw[aD (show¬s.size<=10 by omega)];simp
 ·rw[aD hs,ax];have hs:s.size<=10:=by omega
  have key:∀(m i:aN),i<=s.size->s.size-i<m->(s.data.toList.take i).all J7=ao->∀K0 K1:ar->az->aZ->az->az->aG (az×aZ),(∀a b c d e,K0 a b c d e=ai (b,c))->
    (s.data.toList.all J7=ao->K1 s 0 aq ((vl 0 s.data.toList:aN):az) (s.size:az)=ai (i6 s))->
    l5 cw K0 K1 m s 0 aq ((vl 0 (s.data.toList.take i):aN):az) (i:az)=ai (i6 s):=by
   intro m
   induction m with
   |zero=>intro i _ h;omega
   |succ m ih=>
    intro i hi hm hd K0 K1 f j;by_cases h:i<s.size
    ·have k:=bt h;have hl:i<s.data.toList.length:=by rw[sz];exact h
     have o:=acN _ 10 hd (by rw[dG];omega);rw[show((10:aN)^10:aN)=10000000000 by decide]at o;have r:s.data.toList.take (i+1)=s.data.toList.take i++[s.data.toList[i]]:=cE hl;have z:(s.data.toList[i]).toNat<256:=Ed _;have bad:J7 s.data.toList[i]=aq->ai ((0:az),aq)=ai (i6 s):=by
      intro k;unfold FK.i6;have:s.data.toList.all J7=false:=by rw[Vp];exact⟨_,bF hl,by rw[k];simp⟩
      rw[this];simp
     have bd:J7 s.data.toList[i]=(ah (48<=(s.data.toList[i]).toNat)&&ah ((s.data.toList[i]).toNat<=57)):=rfl;simp only[l5,r5,dh,h,aQ,cm,aK,au,dK,k,bw];by_cases h1:(s.data.toList[i]).toNat<48
     ·rw[jz,au,f];exact bad (by rw[bd,p6];rfl)
     ·rw[p6,ax];by_cases h2:(s.data.toList[i]).toNat>57
      ·rw[jz,au,f];exact bad (by rw[bd,aD (show¬_<=57 by omega)];simp)
      ·rw[p6,ax,cG h (by omega)];have e:bA (bA (bA (10*((vl 0 (s.data.toList.take i):aN):az))+bA (((s.data.toList[i]).toNat:aN):az))-48)=((vl 0 (s.data.toList.take (i+1)):aN):az):=by rw[r,YU,c6 (x:=10*_) (by omega) (by omega),c6 (x:=(((s.data.toList[i]).toNat:aN):az)) (by omega) (by omega),c6 (x:=_+_) (by omega) (by omega),c6 (by omega) (by omega)];omega
       rw[e];exact ih (i+1) h (by omega) (by rw[r,ph,hd];simp only[iS,DY,gE,bj,qj];omega) K0 K1 f j
    ·have:i=s.size:=by omega
     subst this;rw[e8 (by rw[sz];omega)]at hd⊢;simp only[l5,r5,dh,bg,bc,ax,bw];exact j hd
  refine key cw 0 (bB _) eG rfl _ _ (λ_ _ _ _ _=>rfl) (λhd=> ?_);dsimp only;have o:=acN _ 10 hd (by rw[sz];exact hs);rw[show((10:aN)^10:aN)=10000000000 by decide]at o;unfold FK.i6;rw[hd,aA hs];by_cases t:((vl 0 s.data.toList:aN):az)>1000000000
  ·rw[aA t,au,aD (show¬vl 0 s.data.toList<=1000000000 by omega)];simp
  ·rw[aD t,ax,aA (show vl 0 s.data.toList<=1000000000 by omega)];obtain⟨u,y⟩:=gj.eq ((vl 0 s.data.toList:aN):az) (by omega) (by omega);rw[u,y,au];unfold gj.it;rw[_root_.Go.Lib.toList_data,_root_.Go.Lib.toList_data,_root_.Go.Lib.itoa_nonneg];show(bif !(gj.dd (vl 0 s.data.toList)==s.data.toList)then _ else _)=_;cases (gj.dd (vl 0 s.data.toList)==s.data.toList)<;>rfl
end kl
end Go.FG
