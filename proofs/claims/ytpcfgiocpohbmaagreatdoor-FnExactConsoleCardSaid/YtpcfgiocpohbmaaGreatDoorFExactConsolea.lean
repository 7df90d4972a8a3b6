/- What the functions come to, in plain numbers, texts and lists; last the law itself. No condition but those that each states. -/
import Derived.Test.YtpcfgiocpohbmaaGreatDoorPExactConsoleb
set_option linter.unusedVariables false
set_option linter.unusedSimpArgs false
set_option maxRecDepth 100000
set_option autoImplicit true
set_option relaxedAutoImplicit true
open Array renaming toList_extract->gX,toList_append->uJ,length_toList->dn,ext'->sb,getD_eq_getD_getElem?->eu
open BitVec renaming toNat->ij,xor->oz,ofInt->di
open Bool renaming true->ao,false->aq,or_eq_true->dC,and_eq_true->aM,or_eq_false_iff->h_,and_self->aL,not_eq_true'->dt,true_and->bj,not_false->bG,not_true->aZ,and_assoc->nc,and_true->gh,not_eq_false'->p6,false_or->nO,true_or->Mn,false_eq_true->db,cond_eq_ite->cj,false_and->kQ
open ByteArray renaming ext->j6,append_assoc->c_,mk->az,toList->aG,data_extract->fY,data_append->lP,size_extract->wV,size_append->dA,empty_append->k8,empty->Gf,append_empty->pX,size->bC,extract->bx
open Classical renaming byContradiction->zn
open Decidable renaming decide->ah
open Go.ByteArray renaming toList_eq->jY
open Go.IntKind renaming u8->ba,i64->ak,wrap->bF,u32->eg
open Go.Op renaming bytesLess->b7
open Int renaming tdiv->cK,le_total->HX,tdiv_eq_ediv_of_nonneg->dJ,tmod->cx,tmod_nonneg->Ch,tmod_eq_emod_of_nonneg->eN,toNat->aR,neg->Ij,pow_succ->t_,toNat_natCast->dG,natCast_zero->S4,le_trans->Ms
open List renaming set->aP,length_cons->bR,size_toArray->AQ,mem_cons_self->cD,mem_cons_of_mem->cu,take_succ_eq_append_getElem->bO,length_singleton->bu,length->bB,length_map->bJ,length_filter_le->d_,nil_append->eJ,length_append->bW,map_congr_left->NM,mem_filter->da,map_id->Mu,append_assoc->ca,pairwise_append->ub,filter_sublist->jv,singleton_append->uc,pairwise_cons->p8,mem_append->bc,mem_singleton->a_,filter_cons_of_pos->dy,filter_cons_of_neg->cC,beq->cQ,filter_append->fy,all_eq_true->bz,getElem_mem->bw,mem_or_eq_of_mem_set->jl,take_set_of_le->vG,drop_set_of_lt->vF,drop_eq_nil_of_le->gy,append_nil->cZ,take_length->cE,filter_eq_self->eh,getElem_of_mem->c7,take->gG,drop->mE,drop_zero->eK,take_append_of_le_length->oG,take_of_length_le->dH,getElem_take->mJ,pairwise_map->j3,mem_map->cN,filter_map->oE,map_map->jk,map_append->cO,filter_congr->kr,range->cT,getD->dZ,pairwise_iff_getElem->dx,length_set->b9,length_drop->gz,drop_eq_getElem_cons->cq,cons_append->nD,extract_eq_take_drop->fJ,drop_drop->uR,length_take->du,drop_append_of_le_length->zP,drop_of_length_le->jU,filter_filter->o8,takeWhile_map->Mv,dropWhile_map->Mt,find?_eq_none->TP,find?_eq_some_iff_getElem->zp,find?_some->D',takeWhile_cons_of_pos->pI,takeWhile_cons_of_neg->pH,foldl_cons->oF,length_nil->jz,drop_length->cX,foldl_nil->ua,mem_of_find?_eq_some->p7,length_pos_iff->NL,getD_eq_getElem?_getD->dK,getElem?_eq_getElem->e8,ext_getElem->la,getElem_set_self->j9,set_getElem_self->eZ,set_set->o_,nodup_iff_pairwise_ne->o9,mem_append_left->bY,length_tail->TQ,mem_append_right->bS,any_eq_false->Xk,findIdx?_eq_none_iff->C4,findIdx?_eq_some_iff_getElem->wW,pairwise_singleton->Gh,find?_cons_of_neg->Ik,foldl_append->mz,mem_range->kE,nodup_append->ej,nodup_cons->j_,mem_cons->cm,getElem_set->PH,all_eq_false->S5,all_append->oD,all_cons->jc,all_nil->Cv,getElem?_map->bI,map_cons->e9,mem_of_mem_take->ia,take_zero->pJ
open List.Pairwise renaming filter->zO,nil->gH
open List.cons renaming inj->jW
open Nat renaming mod_lt->Ea,pow_succ->HZ,le_trans->cf,le_succ->iG,le_refl->bT,zero_le->bA,lt_irrefl->bk,sub_zero->og,zero_add->bV,sub_self->pf,le_succ_of_le->mF,add_sub_cancel->NN,add_zero->zQ,ble_eq_true_of_le->uV,mul_comm->Gv,lt_of_lt_of_le->iB,mul_le_mul_right->b5
open Option renaming some->ai,none->aj,map_some->hJ
open Option.some renaming inj->aJ
open Prod.mk renaming inj->bU
open UInt8 renaming ofNat->ar,lt_iff_toNat_lt->se,toNat_inj->Tj,toNat_ofNat'->vq,toNat_lt->CG
open _root_ renaming Nat->aN,List->aE,UInt8->eE,ByteArray->au,Int->ay,Bool->aY,Option->aA,cond_true->aw,decide_eq_true->aC,decide_eq_false->aF,cond_false->ax,if_neg->bh,if_pos->bm,decide_eq_true_eq->bf,absurd->cJ,decide_eq_false_iff_not->eR,decide_true->aQ,decide_false->bg,congrArg->ic,decide_eq_decide->bZ,of_decide_eq_true->cL,of_decide_eq_false->ur
namespace Go.FG
open _root_.Go.FG.Lib (Cl Fe Fi Px ET all_congr jE oM AZ pP eG beq_iff sG lj oN ck cz e_ qe b_ c8 E_ dQ v8 lJ eT fH jt qZ n8 fi nJ mO Bj La wg im gm fA fE mS ez ch ly rc0 rc1 rc2 rc3 rc4 rc5 rc6 eL Hz Tm Tn dX re dv fB dM gJ dI NW b0 rr H8 gC To pc tO kl B2 dm tc ov wO dB DO nM B_ wP qu qv tg m_ gU vb rE tT km dq cw JV wc1 wc2 wc3 NX NY NZ wd0 wd1 wd2 oy rF rG rH Ga DT WH yS N0 N1)
variable {R:Type}
namespace zV
end zV
namespace iT
open zV (l5 r5 c v vo b out)
abbrev dd:aN->aE eE:=_root_.Go.Lib.decDigits
def D(n:aN):au:=⟨(dd n).toArray⟩
def it(n:ay):au:=⟨(_root_.Go.Lib.itoa n).toArray⟩
theorem dd1{u:aN}(h:u<10):dd u=[ar (48+u)]:=_root_.Go.Lib.decDigits_one h
theorem dd2{u:aN}(h:¬u<10):dd u=dd (u/10)++[ar (48+u%10)]:=by show _root_.Go.Lib.decDigits u=_;rw[_root_.Go.Lib.decDigits,dif_neg h]
def fg(x:aN):au:=⟨#[ar (48+x)]⟩
theorem fig{x:aN}(h:x<10):bytesOf (aP (aT [Ck.i ba] 1) 0 [CV.i ba (S9.v (x:ay))])=fg x:=by
 have key:∀y:Fin 10,bytesOf (aP (aT [Ck.i ba] 1) 0 [CV.i ba (S9.v ((y.val:aN):ay))])=fg y.val:=by decide+kernel
 exact key ⟨x,h⟩
theorem D1{u:aN}(h:u<10):D u=fg u:=by unfold D fg;rw[dd1 h]
theorem D2{u:aN}(h:¬u<10):D u=D (u/10)++fg (u%10):=by unfold D fg;rw[dd2 h];apply j6;simp
theorem Fb(x:aN):(fg x).size=1:=rfl
theorem stp(K:ay->aY->au->aA R)(i:aY)(m:aN)(n:ay)(t:au)(h0:n≠0)(j: -9223372036854775808<=n)(k:n<=9223372036854775807)(o:t.size<=1000):
  l5 ck K (m+1) n i t=l5 ck K m (cK n 10) i (fg (n.natAbs%10)++t):=by
 have a1:(n !=0)=true:=by simp[h0]
 have hd: -9223372036854775808<=cK n 10/\cK n 10<=9223372036854775807:=by
  rcases HX 0 n with f|f
  ·rw[dJ f];omega
  ·have:cK n 10= -((-n)/10):=by rw[<-dJ (show 0<= -n by omega),Int.neg_tdiv];omega
   rw[this];omega
 rw[show l5 ck K (m+1) n i t=r5 ck (l5 ck K m) K n i t from rfl];unfold r5;rw[a1,aw,dq hd.1 hd.2];have hm:n.natAbs%10<10:=Ea _ (by omega);by_cases d:cx n 10<0
 ·have e:bE (0-cx n 10)=((n.natAbs%10:aN):ay):=by
   have f:n<0:=by
    rcases Int.lt_or_le n 0 with h|h
    ·exact h
    ·have:=Ch (a:=n) 10 h;omega
   have:cx n 10= -((-n)%10):=by rw[<-eN (show 0<= -n by omega),Int.neg_tmod];omega
   rw[this,dq (by omega) (by omega)];omega
  rw[aC d,aw,e,fig hm,Fb,lJ,aw]
 ·have e:cx n 10=((n.natAbs%10:aN):ay):=by
   rcases HX 0 n with f|f
   ·rw[eN f];omega
   ·have:cx n 10= -((-n)%10):=by rw[<-eN (show 0<= -n by omega),Int.neg_tmod];omega
    omega
  rw[aF d,ax,e,fig hm,Fb,lJ,aw]
theorem TY(n:ay):(cK n 10).natAbs=n.natAbs/10:=by
 rcases HX 0 n with a|a
 ·rw[dJ a];omega
 ·have:cK n 10= -((-n)/10):=by rw[<-dJ (show 0<= -n by omega),Int.neg_tdiv];omega
  rw[this];omega
theorem run(K:ay->aY->au->aA R)(a:aY):∀(d:aN) (n:ay) (t:au) (m:aN),n.natAbs<10^d->n≠0-> -9223372036854775808<=n->n<=9223372036854775807->t.size+d<=1000->d<m->l5 ck K m n a t=K 0 a (D n.natAbs++t):=by
 intro d;induction d with
 |zero=>intro n t m e f;omega
 |succ d ih=>
  intro n t m e f i j r s;obtain⟨m,rfl⟩:∃k,m=k+1:=⟨m-1,by omega⟩
  rw[stp K a m n t f i j (by omega)];have h:=TY n;by_cases hs:n.natAbs<10
  ·have o:cK n 10=0:=by omega
   obtain⟨m,rfl⟩:∃k,m=k+1:=⟨m-1,by omega⟩
   rw[o,D1 hs,Nat.mod_eq_of_lt hs];rfl
  ·rw[ih (cK n 10) _ m (by rw[h];rw[HZ]at e;omega) (by omega) (by omega) (by omega) (by rw[dm,Fb];omega) (by omega),h,D2 hs];rw[c_]
theorem eq(n:ay)(h0: -9223372036854775808<=n)(e:n<=9223372036854775807):c n=ao/\v n=it n:=by
 refine out _ ?_;unfold vo b it;by_cases d:n=0
 ·subst d;rw[aC rfl,aw];unfold _root_.Go.Lib.itoa;rw[bh (by omega),show aR 0=0 from rfl,_root_.Go.Lib.decDigits_one (show 0<10 by omega)]
 ·rw[aF d,ax,run _ _ 19 n _ _ (by omega) d h0 e (by decide) ez];have f:∀x:au,x++(⟨#[]⟩:au)=x:=λx=>by apply j6;simp
  rw[f];by_cases a:n<0
  ·have hl:(D n.natAbs).size<=21:=by have:=_root_.Go.Lib.itoa_length_le n h0 e;unfold _root_.Go.Lib.itoa at this;rw[bm a,bR]at this;show(dd n.natAbs).toArray.size<=21;rw[AQ];exact cf (iG _) this
   rw[aC a,aw,show((az #[ar 45]):au).size=1 from rfl,lJ,aw];unfold _root_.Go.Lib.itoa;rw[bm a];unfold D;congr 1
  ·rw[aF a,ax];unfold _root_.Go.Lib.itoa D;rw[bh a,show n.natAbs=n.toNat by omega]
theorem mr(n:ay)(h0: -9223372036854775808<=n)(a:n<=9223372036854775807):(it n).size<=21:=by have:=_root_.Go.Lib.itoa_length_le n h0 a;show(_root_.Go.Lib.itoa n).toArray.size<=21;rw[AQ];exact this
end iT
namespace d'
open _root_.Go.FG.Lib (rc el)
open iT (it)
def st(n:ay):au:=H0.v n
def pos(n:ay):ay:=if n<0 then 0 else n
abbrev sp:au:=(az #[ar 32])
abbrev Cn:au:=(az #[ar 10])
def ln(c:Cl):au:=it (pos c.id)++sp++st c.sta++sp++it (pos c.age)++sp++c.got++Cn
def shown:aE Cl->au
 |[]=>⟨#[]⟩|c::r=>ln c++shown r
def Wb(n:ay):Prop:= -9223372036854775808<=n/\n<=9223372036854775807
def A'(c:Cl):Prop:=Wb c.id/\Wb c.age
theorem mv{n:ay}(h:Wb n):Wb (pos n):=by unfold pos Wb at*;split<;>omega
theorem ms(n:ay):ea ao n 0=pos n:=by unfold ea pos;rw[aw]
theorem dec(n:ay)(h:Wb n):sB.c n=ao/\sB.v n=it n:=by refine sB.out _ ?_;unfold sB.vo sB.b;rw[show U40.c n=ao from by unfold U40.c;rw[aC h.1,aC h.2];rfl,aw];rfl
theorem num(n:ay)(h:Wb n):yW.c n=ao/\yW.v n=it (pos n):=by
 refine yW.out _ ?_;unfold yW.vo yW.b pos;have e:=iT.eq n h.1 h.2;by_cases a:n<0
 ·rw[aC a,aw,bm a];have:it 0=(az #[ar 48]):=by unfold it _root_.Go.Lib.itoa;rw[bh (by omega),show aR 0=0 from rfl,_root_.Go.Lib.decDigits_one (show 0<10 by omega)]
  rw[this]
 ·rw[aF a,ax,e.1,aw,e.2,bh a]
theorem L6(n:ay):(st n).size<=6:=by unfold st H0.v;cases ah (n=1)<;>cases ah (n=2)<;>decide
theorem UQ(c:Cl)(h:A' c):(ln c).size<=c.got.size+60:=by have a1:=iT.mr _ (mv h.1).1 (mv h.1).2;have a2:=iT.mr _ (mv h.2).1 (mv h.2).2;have a3:=L6 c.sta;unfold ln;simp only[dm,show sp.size=1 from rfl,show Cn.size=1 from rfl];omega
def room:aE Cl->aN
 |[]=>0|c::r=>c.got.size+60+room r
theorem BU:∀(l:aE Cl) (i:aN),i<l.length->(el l i).got.size<=room l
 |c::r,0,_=>by show c.got.size<=_;unfold room;omega
 |c::r,i+1,h=>by
  have:=BU r i (by simpa using h);show(el r i).got.size<=_;unfold room;omega
theorem oY:∀(l:aE Cl),(∀c∈l,A' c)->(shown l).size<=room l
 |[],_=>bT _
 |c::r,h=>by
  have a1:=UQ c (h c cD);have a2:=oY r (λx a=>h x (cu _ a));unfold shown room;rw[dm];omega
theorem tA(x:au):x++(⟨#[]⟩:au)=x:=by apply j6;simp
theorem Al(x:au):(⟨#[]⟩:au)++x=x:=by apply j6;simp
theorem B1:∀(l:aE Cl) (c:Cl),shown (l++[c])=shown l++ln c
 |[],c=>by show ln c++(⟨#[]⟩:au)=⟨#[]⟩++ln c;rw[tA,Al]
 |d::r,c=>by
  show ln d++shown (r++[c])=ln d++shown r++ln c;rw[B1 r c,c_]
theorem take_succ(l:aE Cl)(i:aN)(h:i<l.length):shown (l.take (i+1))=shown (l.take i)++ln (el l i):=by rw[eT h,bO h,B1]
theorem yG:∀(l:aE Cl) (i:aN),room (l.take i)<=room l
 |[],_=>by simp[room]
 |c::r,0=>bA _
 |c::r,i+1=>by
  have:=yG r i;show c.got.size+60+room (r.take i)<=c.got.size+60+room r;omega
end d'
namespace fK
theorem oj:∀x:aE eE,b7 x x=aq
 |[]=>rfl
 |a::x=>by
  have h:¬a<a:=by rw[se];omega
  simp[b7,oj x,h]
theorem oO:∀x y z:aE eE,b7 x y=ao->b7 y z=ao->b7 x z=ao
 |_,[],_,h,_=>by cases ‹aE eE›<;>simp[b7]at h
 |_,_::_,[],_,h=>by simp[b7]at h
 |[],_::_,_::_,_,_=>by simp[b7]
 |a::x,b::y,c::z,e,d=>by
  simp only[b7,dC,aM,bf,beq_iff_eq]at e d⊢;simp only[se]at e d⊢;rcases e with e|⟨rfl,e⟩
  ·rcases d with d|⟨rfl,d⟩
   ·left;omega
   ·left;exact e
  ·rcases d with d|⟨rfl,d⟩
   ·left;exact d
   ·right;exact⟨rfl,oO x y z e d⟩
theorem PY:∀x y:aE eE,b7 x y=aq->x≠y->b7 y x=ao
 |[],[],_,h=>cJ rfl h
 |[],_::_,h,_=>by simp[b7]at h
 |_::_,[],_,_=>by simp[b7]
 |a::x,b::y,h,j=>by
  simp only[b7,h_,Bool.and_eq_false_iff,eR,beq_eq_false_iff_ne]at h;simp only[b7,dC,aM,bf,beq_iff_eq];obtain⟨i,d⟩:=h;by_cases f:a=b
  ·subst f;right;refine⟨rfl,PY x y ?_ (λe=>j (by rw[e]))⟩
   rcases d with d|d
   ·exact cJ rfl d
   ·exact d
  ·left;rw[se]at i⊢;have:a.toNat≠b.toNat:=λe=>f (Tj.1 e);omega
def key(y:aE CV):aE eE:=aG (br (y.getD 0 (.b aq)))
def lt(y z:aE CV):Prop:=b7 (key y) (key z)=ao
def cr(y:aE CV):aE CV:=[CV.s (br (y.getD 0 (.b aq))),CV.i ak (bN (y.getD 1 (.b aq))),CV.i ak (bN (y.getD 2 (.b aq))),CV.s (br (y.getD 3 (.b aq)))]
def nw(k:au)(s l:ay)(b:au):aE CV:=[CV.s k,CV.i ak s,CV.i ak l,CV.s b]
def pl(k:au)(y:aE CV):aY:=b7 (key y) (aG k)
def pg(k:au)(y:aE CV):aY:= !(b7 (key y) (aG k)||List.beq (key y) (aG k))
def val(r:Row)(k:au)(s l:ay)(b:au):Row:=(r.filter (pl k)).map cr++[nw k s l b]++(r.filter (pg k)).map cr
theorem ok(r:Row)(k:au)(s l:ay)(j:au)(hl:r.length<=1048576):c r k s l j=ao/\v r k s l j=val r k s l j:=by
 refine out r k s l j ?_;unfold vo;have A:∀i,i<r.length->bE ((i:ay)+1)=((i+1:aN):ay):=λi h=>cw h (by omega)
 have y:=λ(f:Row) (H:f.length<=2000000)=>wg (pg k) cr r 2000000
  (λm (i:aN) (acc:Row)=>l9 ck (λ(_:Row) (_:ay) (_:au) (_ _:ay) (_:au) (d:Row)=>ai d) m r (i:ay) k s l j acc) (λacc=>ai acc)
  (λm i acc h B hp=>by
   have a:(!(b7 (aG (br (av r i 0))) (aG k)||List.beq (aG (br (av r i 0))) (aG k)))=true:=by rw[cz h];exact hp
   simp only[l9,r9,c8,h,aQ,b_,aL,aw,dB,a,A i h,gm,bu,b0 (n:=acc.length+1) (b:=48) (by omega) (by omega)];have e:[CV.s (br (av r i 0)),CV.i ak (bN (av r i 1)),CV.i ak (bN (av r i (1+1))),CV.s (br (av r i (1+1+1)))]=cr r[i]:=by rw[cz h,cz h,cz h,cz h];rfl
   rw[e])
  (λm i acc h B hp=>by
   have a:(!(b7 (aG (br (av r i 0))) (aG k)||List.beq (aG (br (av r i 0))) (aG k)))=false:=by rw[cz h];exact hp
   simp only[l9,r9,c8,h,aQ,b_,aL,aw,dB,a,ax,A i h])
  (λm acc=>by simp only[l9,r9,c8,bk,bg,ax]) ck f H ez
 have x:=wg (pl k) cr r 0
  (λm (i:aN) (acc:Row)=>l3 ck (λ(I:Row) (_:ay) (C:au) (o t:ay) (u:au) (z:Row)=>bif(b8 (bB z+bB (aP (aT [Ck.s,Ck.i ak,Ck.i ak,Ck.s] 1) 0 [CV.s C,CV.i ak o,CV.i ak t,CV.s u])) 48)then(l9 ck (λ(_:Row) (_:ay) (_:au) (_ _:ay) (_:au) (d:Row)=>ai d) ck I 0 C o t u (z++aP (aT [Ck.s,Ck.i ak,Ck.i ak,Ck.s] 1) 0 [CV.s C,CV.i ak o,CV.i ak t,CV.s u]))else(aj)) m r (i:ay) k s l j acc)
  (λacc=>bif(b8 (bB acc+1) 48)then(l9 ck (λ(_:Row) (_:ay) (_:au) (_ _:ay) (_:au) (d:Row)=>ai d) ck r 0 k s l j (acc++[nw k s l j]))else aj)
  (λm i acc h B hp=>by
   have a:b7 (aG (br (av r i 0))) (aG k)=true:=by rw[cz h];exact hp
   simp only[l3,r3,c8,h,aQ,b_,aL,aw,dB,a,A i h,gm,bu,b0 (n:=acc.length+1) (b:=48) (by omega) (by omega)];have e:[CV.s (br (av r i 0)),CV.i ak (bN (av r i 1)),CV.i ak (bN (av r i (1+1))),CV.s (br (av r i (1+1+1)))]=cr r[i]:=by rw[cz h,cz h,cz h,cz h];rfl
   rw[e])
  (λm i acc h B hp=>by
   have a:b7 (aG (br (av r i 0))) (aG k)=false:=by rw[cz h];exact hp
   simp only[l3,r3,c8,h,aQ,b_,aL,aw,dB,a,ax,A i h])
  (λm acc=>by simp only[l3,r3,c8,bk,bg,ax];rfl) ck [] (bT _) ez
 unfold b;refine x.trans ?_;have K:((r.filter (pl k)).map cr).length<=r.length:=by rw[bJ];exact d_ _ _
 rw[eJ,b0 (by omega) (by omega),aw];exact y _ (by rw[bW,bu];omega)
def Or(r:Row):Prop:=r.Pairwise lt/\∀y∈r,cr y=y
theorem Fv{r:Row}(h:∀y∈r,cr y=y)(q:aE CV->aY):(r.filter q).map cr=r.filter q:=by have:=NM (l:=r.filter q) (f:=cr) (g:=λz=>z) (λy a=>h y (da.1 a).1);rw[this];exact Mu _
theorem wq{r:Row}(h:Or r)(k:au)(s l:ay)(b:au):Or (val r k s l b)/\(val r k s l b).length<=r.length+1:=by
 unfold val;rw[Fv h.2,Fv h.2];have hg:∀y,pg k y=ao->b7 (aG k) (key y)=true:=by intro y a;unfold pg at a;simp only[dt,h_]at a;refine PY _ _ a.1 (λe=> ?_);have:=a.2;rw[e,lj]at this;cases this
 refine⟨⟨?_,?_⟩,?_⟩
 ·rw[ca,ub];refine⟨h.1.sublist jv,?_,?_⟩
  ·rw[uc,p8];exact⟨λy a=>hg y (da.1 a).2,h.1.sublist jv⟩
  ·intro y a z m;have d:b7 (key y) (aG k)=true:=(da.1 a).2;rcases bc.1 m with q|q
   ·rw[a_.1 q];exact d
   ·exact oO _ _ _ d (hg z (da.1 q).2)
 ·intro y a;rcases bc.1 a with q|q
  ·rcases bc.1 q with q|q
   ·exact h.2 y (da.1 q).1
   ·rw[a_.1 q];rfl
  ·exact h.2 y (da.1 q).1
 ·have f:∀r:Row,(r.filter (pl k)).length+(r.filter (pg k)).length<=r.length:=by
   intro r;induction r with
   |nil=>exact bT _
   |cons y r ih=>
    have j:pl k y=ao->pg k y=false:=by intro h;unfold pl at h;unfold pg;rw[h];rfl
    cases d:pl k y with
    |true=>rw[dy d,cC (by rw[j d];simp)];simp only[bR];omega
    |false=>
     rw[cC (by simp[d])];cases i:pg k y with
     |true=>rw[dy i];simp only[bR];omega
     |false=>rw[cC (by simp[i])];simp only[bR];omega
  have:=f r;simp only[bW,bu];omega
end fK
namespace rX
def p(s:Row)(k:au)(i:aN):aY:=cQ (aG (br (av s i 0))) (aG k)
theorem ok(d:Row)(n:au)(hl:d.length<=4294967296):c d n=ao/\v d n=fi (p d n) d.length 0:=by
 refine out d n ?_;unfold vo b;refine nJ (p d n) d.length (λm (i:aN)=>l2 ck (λ(_:Row) (_:au) (a _ _:ay)=>ai a) (λ(_:Row) (_:au) (_ _ _:ay)=>ai (-1)) m d n 0 (d.length:ay) (i:ay)) ai (λm i hi hp=> ?_) (λm i hi hp=> ?_) (λm=> ?_) ck ez
 ·unfold p at hp;simp only[l2,r2,c8,b_,dB,hi,aQ,aL,aw,zy.v,hp]
 ·unfold p at hp;simp only[l2,r2,c8,b_,dB,hi,aQ,aL,aw,zy.v,hp,ax,cw hi (by omega:d.length<=9223372036854775807)]
 ·simp only[l2,r2,c8,bk,bg,ax]
end rX
namespace oJ
def cn(y:aE CV):aY:=match y with|[.s _,.i ak _,.i ak _,.s _]=>ao|_=>aq
def cr(y:aE CV):aE CV:=[CV.s (br (y.getD 0 (.b aq))),CV.i ak (bN (y.getD 1 (.b aq))),CV.i ak (bN (y.getD 2 (.b aq))),CV.s (br (y.getD 3 (.b aq)))]
theorem sK(h:cn y=ao):cr y=y:=by
 unfold cn at h;split at h
 ·rfl
 ·cases h
theorem lL(h:cn y=ao):y.length=4:=by rw[<-sK h];rfl
def keep(d:au)(y:aE CV):aY:= !List.beq (aG (br (y.getD 0 (.b aq)))) (aG d)
theorem gT(d:au){s:Row}{i:aN}(h:i<s.length):(s.take (i+1)).filter (keep d)=(s.take i).filter (keep d)++(bif keep d s[i]then [s[i]]else []):=by rw[bO h,fy];cases hk:keep d s[i]<;>simp[hk]
theorem run(N:aN)(a:Row)(d:au)(V:a.all cn=ao)(M:a.length<=9223372036854775807)(K:au->ay->ay->Row->aA R)(P:Row->aA R)
  (U:∀(j:aN) x,x.length=a.length->j<=a.length->K d j a.length x=P (x.take j)) (m j i:aN) (x:Row)
  (hi:j<i/\i<=a.length/\x.length=a.length/\(∀y∈x,y.length=4)/\x.take j=(a.take i).filter (keep d)/\x.drop i=a.drop i) (hm:a.length-i<m):
  l5 N K m d j i x=P (a.filter (keep d)):=by
 have I:∀y∈a,cn y=true:=bz.1 V
 refine fE (λm (s:aN×aN×Row)=>l5 N K m d s.1 s.2.1 s.2.2) (λs=>a.length-s.2.1)
  (λs=>s.1<s.2.1/\s.2.1<=a.length/\s.2.2.length=a.length/\(∀y∈s.2.2,y.length=4)/\s.2.2.take s.1=(a.take s.2.1).filter (keep d)/\s.2.2.drop s.2.1=a.drop s.2.1)
  (λ_=>P (a.filter (keep d))) (λm s hs=> ?_) m (j,i,x) hi hm
 obtain⟨j,i,x⟩:=s;obtain⟨Q,S,z,A,u,H⟩:=hs;simp only at Q S z A u H⊢;by_cases k:i<a.length
 ·right;have f:i<x.length:=by omega
  have o:j<x.length:=by omega
  have O:x[i]=a[i]:=by have t:=dQ f;have C:=dQ k;rw[H,C]at t;exact(jW t).1.symm
  have hd:x.drop (i+1)=a.drop (i+1):=by have t:=dQ f;have C:=dQ k;rw[H,C]at t;exact(jW t).2.symm
  have r:=I _ (bw k);have B:=gT d k;cases hk:keep d a[i]with
  |true=>
   refine⟨(j+1,i+1,x.set j a[i]),?_,by simp only;omega,trivial,?_⟩
   ·rw[hk,aw,<-u]at B;refine⟨by simp only;omega,by simp only;omega,by simpa using z,?_,?_,?_⟩
    ·intro y X;rcases jl X with h|h
     ·exact A y h
     ·rw[h];exact lL r
    ·rw[B];rw[bO (by simpa using o)];simp[vG]
    ·simp only;rw[vF (by omega)];exact hd
   ·have e:zy.v (br (av x i 0)) (bN (av x i 1)) (bN (av x i (1+1))) (br (av x i (1+1+1))) d=false:=by
     have:(!zy.v (br (av x i 0)) (bN (av x i 1)) (bN (av x i (1+1))) (br (av x i (1+1+1))) d)=true:=by rw[cz f,O];exact hk
     simpa using this
    have es:dV x j 0 [CV.s (br (av x i 0)),CV.i ak (bN (av x i 1)),CV.i ak (bN (av x i (1+1))),CV.s (br (av x i (1+1+1)))]=x.set j a[i]:=by
     have hl:=A _ (bw o);rw[tO o,cz f,cz f,cz f,cz f,O];have:hS x[j] 0 (cr a[i])=a[i]:=by rw[sK r];unfold hS;have:=lL r;simp[hl,this,gy]
     unfold cr at this;rw[this]
    have Y:(j:ay)<(x.length:ay):=by omega
    simp only[l5,r5,c8,b_,dB,f,o,aQ,bj,aw,e,bG,es,cw k M,cw (show j<a.length by omega) M]
  |false=>
   refine⟨(j,i+1,x),?_,by simp only;omega,trivial,?_⟩
   ·rw[hk,ax,cZ,<-u]at B;exact⟨by simp only;omega,by simp only;omega,z,A,B.symm,hd⟩
   ·have e:zy.v (br (av x i 0)) (bN (av x i 1)) (bN (av x i (1+1))) (br (av x i (1+1+1))) d=true:=by
     have:(!zy.v (br (av x i 0)) (bN (av x i 1)) (bN (av x i (1+1))) (br (av x i (1+1+1))) d)=false:=by rw[cz f,O];exact hk
     simpa using this
    simp only[l5,r5,c8,b_,dB,f,aQ,bj,aw,e,aZ,ax,cw k M]
 ·left;have:i=a.length:=by omega
  subst this;rw[cE]at u;have e:=U j x z (by omega);rw[u]at e;have f:¬a.length<x.length:=by omega
  simp only[l5,r5,c8,f,bg,ax,e]
theorem ok(d:Row)(a:au)(B:d.all cn=ao)(N:d.length<=4294967296):c d a=ao/\v d a=d.filter (keep a):=by
 refine out d a ?_;have C:=rX.ok d a N;unfold vo b;rw[C.1,C.2,aw];rcases mO (rX.p d a) d.length 0 with ⟨h,o⟩|⟨k,_,M,hk,m,r⟩
 ·rw[h];have:d.filter (keep a)=d:=by rw[eh];intro y t;obtain⟨i,hi,rfl⟩:=c7 t;have:=o i (bA _) (by omega);unfold rX.p at this;rw[cz hi]at this;unfold keep;rw[this];rfl
  rw[this];rfl
 ·rw[hk];have f:k<d.length:=by omega
  have A:ah ((k:ay)=Ij 1)=false:=aF (by show¬(k:ay)= -1;omega);rw[A,ax,cw f (by omega)];have u:∀y∈d,cn y=true:=bz.1 B;refine run _ d a B (by omega) _ ai (λj x O P=> ?_) _ k (k+1) d ⟨by omega,by omega,rfl,λy t=>lL (u y t),?_,rfl⟩ ez
  ·have H:fU (j:ay) (d.length:ay) (d.length:ay)=true:=by simp[fU];omega
   have e:gG j x++aT [Ck.s,Ck.i ak,Ck.i ak,Ck.s] (d.length-j)++mE d.length x=gG j x++aT [Ck.s,Ck.i ak,Ck.i ak,Ck.s] (d.length-j):=by rw[gy (by omega),cZ]
   have hl:(gG j x).length=j:=by simp;omega
   simp only[O,dB,H,aw,e];rw[oN (by simp[fU];omega)];unfold dR;rw[show aR 0=0 from rfl,eK,og,oG (by omega),dH (by omega)]
  ·rw[gT a f];have I:keep a d[k]=false:=by unfold rX.p at m;rw[cz f]at m;unfold keep;rw[m];rfl
   have K:(d.take k).filter (keep a)=d.take k:=by
    rw[eh];intro y t;obtain⟨i,hi,rfl⟩:=c7 t;have z:i<k:=by simp at hi;omega
    have:=r i (bA _) z;unfold rX.p at this;rw[cz (by omega)]at this;rw[mJ];unfold keep;rw[this];rfl
   rw[I,K,ax,cZ]
end oJ
namespace fX
open _root_.Go.FG.Lib (En)
def eU(x y:au):aY:=b7 (aG x) (aG y)
def So(en:aE En):Prop:=en.Pairwise λx y=>eU x.k y.k=ao
def fN(en:aE En)(k:au):aE En:=en.filter λx=> !decide (x.k=k)
def mB(en:aE En)(e:En):aE En:=en.filter (λx=>eU x.k e.k)++[e]++en.filter (λx=> !(eU x.k e.k||decide (x.k=e.k)))
theorem So.drop(h:So en)(k:au):So (fN en k):=zO _ h
theorem v7(en:aE En)(k:au):(fN en k).length<=en.length:=d_ ..
theorem drop_nil(h:∀e∈en,1<=e.k.size):fN en ⟨#[]⟩=en:=by unfold fN;rw[eh];intro e d;have:=h e d;simp only[dt,eR];intro a;rw[a]at this;exact cJ this (by decide)
theorem BI(h:So en):fK.Or (re en):=by
 constructor
 ·unfold Lib.re;rw[j3];exact h
 ·intro y a;unfold Lib.re at a;obtain⟨z,_,rfl⟩:=cN.1 a;rfl
theorem s7(en:aE En)(e:En):fK.val (re en) e.k e.st e.li e.bo=re (mB en e):=by
 unfold fK.val mB Lib.re;rw[oE,oE,jk,jk,cO,cO];have a:(fK.pl e.k∘En.row)=λx:En=>eU x.k e.k:=rfl;have d:(fK.pg e.k∘En.row)=λx:En=> !(eU x.k e.k||decide (x.k=e.k)):=by funext x;show(!(b7 (aG x.k) (aG e.k)||List.beq (aG x.k) (aG e.k)))=_;rw[eG];rfl
 rw[a,d];rfl
theorem E'(en:aE En)(k:au):(re en).filter (oJ.keep k)=re (fN en k):=by unfold Lib.re fN;rw[oE];congr 1;apply kr;intro x _;show(!List.beq (aG x.k) (aG k))=_;rw[eG]
theorem P8(en:aE En):(re en).all oJ.cn=true:=by rw[bz];intro y a;unfold Lib.re at a;obtain⟨z,_,rfl⟩:=cN.1 a;rfl
theorem rq(en:aE En)(e:En)(h:So en):(mB en e).length<=en.length+1:=by have:=(fK.wq (BI h) e.k e.st e.li e.bo).2;rw[s7,dv,dv]at this;exact this
end fX
namespace fD
def el(r:Row)(i:aN):aY:=ah (1<=((br (av r i 0)).size:ay)/\((br (av r i 0)).size:ay)<=8)&&(!decide (((br (av r i 1)).size:ay)>20000)&&(ah (0<=bN (av r i 2)/\bN (av r i 2)<=((br (av r i 1)).size:ay))&&(i==0||Go.Op.bytesLess (aG (br (av r (i-1) 0))) (aG (br (av r i 0))))))
def val(r:Row):aY:=ah (r.length<=30)&&(cT r.length).all (el r)
theorem mq(n a b:ay):jX.v n a b=ah (a<=n/\n<=b):=by unfold jX.v;by_cases h:a<=n<;>by_cases d:n<=b<;>simp[h,d]
theorem Cc{i:aN}(h:0<i)(a:i<=9223372036854775807):bE ((i:ay)-1)=((i-1:aN):ay):=by rw[dq (by omega) (by omega)];omega
theorem ok(r:Row)(hl:r.length<=4294967296):c r=ao/\v r=val r:=by
 refine out r ?_;unfold vo b val;by_cases j:(r.length:ay)>30
 ·rw[aC j,aw,aF (show¬r.length<=30 by omega)];rfl
 rw[aF j,ax,aC (show r.length<=30 by omega),bj]
 have key:=jE (el r) r.length (λm (i:aN)=>l4 ck (λ(t:aY) (_:ay) (_:Row)=>ai t) (λ(_:aY) (_:ay) (_:Row)=>ai ao) m aq (i:ay) r) (ai aq) (ai ao)
  (λm i hi hp=>by
   unfold el at hp;simp only[aM]at hp;obtain⟨d,a,e,k⟩:=hp;have e:ah (0<=bN (av r i (1+1))/\bN (av r i (1+1))<=((br (av r i 1)).size:ay))=true:=e;have a:ah (((br (av r i 1)).size:ay)>20000)=false:=by simpa using a
   by_cases s:0<i
   ·have h:ah ((i:ay)>0)=true:=aC (by omega);have f:i-1<r.length:=by omega
    have o:b7 (aG (br (av r (i-1) 0))) (aG (br (av r i 0)))=true:=by
     rcases dC _ _▸k with q|q
     ·have:i=0:=by simpa using q
      omega
     ·exact q
    simp only[l4,r4,c8,hi,f,aQ,b_,aL,aw,ax,dB,u5.v,mq,d,a,e,o,h,Cc s (by omega),aZ,cw hi (by omega:r.length<=9223372036854775807)]
   ·have h:ah ((i:ay)>0)=false:=aF (by omega);simp only[l4,r4,c8,hi,aQ,b_,aL,aw,ax,dB,u5.v,mq,d,a,e,h,aZ,cw hi (by omega:r.length<=9223372036854775807)])
  (λm i hi hp=>by
   unfold el at hp;cases d:ah (1<=((br (av r i 0)).size:ay)/\((br (av r i 0)).size:ay)<=8)with
   |false=>simp only[l4,r4,c8,hi,aQ,b_,aL,aw,ax,dB,u5.v,mq,d,bG]
   |true=>
   cases a:ah (((br (av r i 1)).size:ay)>20000)with
   |true=>simp only[l4,r4,c8,hi,aQ,b_,aL,aw,ax,dB,u5.v,mq,d,a,aZ]
   |false=>
   cases e:ah (0<=bN (av r i (1+1))/\bN (av r i (1+1))<=((br (av r i 1)).size:ay))with
   |false=>simp only[l4,r4,c8,hi,aQ,b_,aL,aw,ax,dB,u5.v,mq,d,a,e,aZ,bG]
   |true=>
   rw[d,a,show ah (0<=bN (av r i 2)/\bN (av r i 2)<=((br (av r i 1)).size:ay))=ao from e,bG,bj,bj,bj]at hp;rw[h_]at hp;obtain⟨k,o⟩:=hp;have s:0<i:=by
    have:¬i=0:=by simpa using k
    omega
   have h:ah ((i:ay)>0)=true:=aC (by omega);have f:i-1<r.length:=by omega
   simp only[l4,r4,c8,hi,f,aQ,b_,aL,aw,ax,dB,u5.v,mq,d,a,e,o,h,Cc s (by omega),aZ,bG])
  (λm=>by simp only[l4,r4,c8,bk,bg,ax]) ck ez
 refine key.trans ?_;cases (cT r.length).all (el r)<;>rfl
end fD
namespace mG
def p(s:Row)(k:au)(i:aN):aY:=cQ (aG (br (av s i 0))) (aG k)
theorem ok(d:Row)(n:au)(hl:d.length<=4294967296):c d n=ao/\v d n=fi (p d n) d.length 0:=by
 refine out d n ?_;unfold vo b;refine nJ (p d n) d.length (λm (i:aN)=>l2 ck (λ(_:Row) (_:au) (a _ _:ay)=>ai a) (λ(_:Row) (_:au) (_ _ _:ay)=>ai (-1)) m d n 0 (d.length:ay) (i:ay)) ai (λm i hi hp=> ?_) (λm i hi hp=> ?_) (λm=> ?_) ck ez
 ·unfold p at hp;simp only[l2,r2,c8,b_,dB,hi,aQ,aL,aw,zD.v,hp]
 ·unfold p at hp;simp only[l2,r2,c8,b_,dB,hi,aQ,aL,aw,zD.v,hp,ax,cw hi (by omega:d.length<=9223372036854775807)]
 ·simp only[l2,r2,c8,bk,bg,ax]
end mG
namespace vT
def cn(y:aE CV):aY:=match y with|[.s _,.s _,.i ak _]=>ao|_=>aq
def cr(y:aE CV):aE CV:=[CV.s (br (y.getD 0 (.b aq))),CV.s (br (y.getD 1 (.b aq))),CV.i ak (bN (y.getD 2 (.b aq)))]
theorem sK(h:cn y=ao):cr y=y:=by
 unfold cn at h;split at h
 ·rfl
 ·cases h
theorem lL(h:cn y=ao):y.length=3:=by rw[<-sK h];rfl
def keep(d:au)(y:aE CV):aY:= !List.beq (aG (br (y.getD 0 (.b aq)))) (aG d)
theorem gT(d:au){s:Row}{i:aN}(h:i<s.length):(s.take (i+1)).filter (keep d)=(s.take i).filter (keep d)++(bif keep d s[i]then [s[i]]else []):=by rw[bO h,fy];cases hk:keep d s[i]<;>simp[hk]
theorem run(N:aN)(a:Row)(d:au)(V:a.all cn=ao)(M:a.length<=9223372036854775807)(K:au->ay->ay->Row->aA R)(P:Row->aA R)
  (U:∀(j:aN) x,x.length=a.length->j<=a.length->K d j a.length x=P (x.take j)) (m j i:aN) (x:Row)
  (hi:j<i/\i<=a.length/\x.length=a.length/\(∀y∈x,y.length=3)/\x.take j=(a.take i).filter (keep d)/\x.drop i=a.drop i) (hm:a.length-i<m):
  l5 N K m d j i x=P (a.filter (keep d)):=by
 have I:∀y∈a,cn y=true:=bz.1 V
 refine fE (λm (s:aN×aN×Row)=>l5 N K m d s.1 s.2.1 s.2.2) (λs=>a.length-s.2.1)
  (λs=>s.1<s.2.1/\s.2.1<=a.length/\s.2.2.length=a.length/\(∀y∈s.2.2,y.length=3)/\s.2.2.take s.1=(a.take s.2.1).filter (keep d)/\s.2.2.drop s.2.1=a.drop s.2.1)
  (λ_=>P (a.filter (keep d))) (λm s hs=> ?_) m (j,i,x) hi hm
 obtain⟨j,i,x⟩:=s;obtain⟨Q,S,z,A,u,H⟩:=hs;simp only at Q S z A u H⊢;by_cases k:i<a.length
 ·right;have f:i<x.length:=by omega
  have o:j<x.length:=by omega
  have O:x[i]=a[i]:=by have t:=dQ f;have C:=dQ k;rw[H,C]at t;exact(jW t).1.symm
  have hd:x.drop (i+1)=a.drop (i+1):=by have t:=dQ f;have C:=dQ k;rw[H,C]at t;exact(jW t).2.symm
  have r:=I _ (bw k);have B:=gT d k;cases hk:keep d a[i]with
  |true=>
   refine⟨(j+1,i+1,x.set j a[i]),?_,by simp only;omega,trivial,?_⟩
   ·rw[hk,aw,<-u]at B;refine⟨by simp only;omega,by simp only;omega,by simpa using z,?_,?_,?_⟩
    ·intro y X;rcases jl X with h|h
     ·exact A y h
     ·rw[h];exact lL r
    ·rw[B];rw[bO (by simpa using o)];simp[vG]
    ·simp only;rw[vF (by omega)];exact hd
   ·have e:zD.v (br (av x i 0)) (br (av x i 1)) (bN (av x i (1+1))) d=false:=by
     have:(!zD.v (br (av x i 0)) (br (av x i 1)) (bN (av x i (1+1))) d)=true:=by rw[cz f,O];exact hk
     simpa using this
    have es:dV x j 0 [CV.s (br (av x i 0)),CV.s (br (av x i 1)),CV.i ak (bN (av x i (1+1)))]=x.set j a[i]:=by
     have hl:=A _ (bw o);rw[tO o,cz f,cz f,cz f,O];have:hS x[j] 0 (cr a[i])=a[i]:=by rw[sK r];unfold hS;have:=lL r;simp[hl,this,gy]
     unfold cr at this;rw[this]
    have Y:(j:ay)<(x.length:ay):=by omega
    simp only[l5,r5,c8,b_,dB,f,o,aQ,bj,aw,e,bG,es,cw k M,cw (show j<a.length by omega) M]
  |false=>
   refine⟨(j,i+1,x),?_,by simp only;omega,trivial,?_⟩
   ·rw[hk,ax,cZ,<-u]at B;exact⟨by simp only;omega,by simp only;omega,z,A,B.symm,hd⟩
   ·have e:zD.v (br (av x i 0)) (br (av x i 1)) (bN (av x i (1+1))) d=true:=by
     have:(!zD.v (br (av x i 0)) (br (av x i 1)) (bN (av x i (1+1))) d)=false:=by rw[cz f,O];exact hk
     simpa using this
    simp only[l5,r5,c8,b_,dB,f,aQ,bj,aw,e,aZ,ax,cw k M]
 ·left;have:i=a.length:=by omega
  subst this;rw[cE]at u;have e:=U j x z (by omega);rw[u]at e;have f:¬a.length<x.length:=by omega
  simp only[l5,r5,c8,f,bg,ax,e]
theorem ok(d:Row)(a:au)(B:d.all cn=ao)(N:d.length<=4294967296):c d a=ao/\v d a=d.filter (keep a):=by
 refine out d a ?_;have C:=mG.ok d a N;unfold vo b;rw[C.1,C.2,aw];rcases mO (mG.p d a) d.length 0 with ⟨h,o⟩|⟨k,_,M,hk,m,r⟩
 ·rw[h];have:d.filter (keep a)=d:=by rw[eh];intro y t;obtain⟨i,hi,rfl⟩:=c7 t;have:=o i (bA _) (by omega);unfold mG.p at this;rw[cz hi]at this;unfold keep;rw[this];rfl
  rw[this];rfl
 ·rw[hk];have f:k<d.length:=by omega
  have A:ah ((k:ay)=Ij 1)=false:=aF (by show¬(k:ay)= -1;omega);rw[A,ax,cw f (by omega)];have u:∀y∈d,cn y=true:=bz.1 B;refine run _ d a B (by omega) _ ai (λj x O P=> ?_) _ k (k+1) d ⟨by omega,by omega,rfl,λy t=>lL (u y t),?_,rfl⟩ ez
  ·have H:fU (j:ay) (d.length:ay) (d.length:ay)=true:=by simp[fU];omega
   have e:gG j x++aT [Ck.s,Ck.s,Ck.i ak] (d.length-j)++mE d.length x=gG j x++aT [Ck.s,Ck.s,Ck.i ak] (d.length-j):=by rw[gy (by omega),cZ]
   have hl:(gG j x).length=j:=by simp;omega
   simp only[O,dB,H,aw,e];rw[oN (by simp[fU];omega)];unfold dR;rw[show aR 0=0 from rfl,eK,og,oG (by omega),dH (by omega)]
  ·rw[gT a f];have I:keep a d[k]=false:=by unfold mG.p at m;rw[cz f]at m;unfold keep;rw[m];rfl
   have K:(d.take k).filter (keep a)=d.take k:=by
    rw[eh];intro y t;obtain⟨i,hi,rfl⟩:=c7 t;have z:i<k:=by simp at hi;omega
    have:=r i (bA _) z;unfold mG.p at this;rw[cz (by omega)]at this;rw[mJ];unfold keep;rw[this];rfl
   rw[I,K,ax,cZ]
end vT
namespace dz
open _root_.Go.FG.Lib (rd el)
def S8(l:aE Fi):Prop:=l.Pairwise λx y=>fX.eU x.n y.n=ao
def without(l:aE Fi)(n:au):aE Fi:=l.filter λx=> !decide (x.n=n)
def put(l:aE Fi)(f:Fi):aE Fi:=l.filter (λx=>fX.eU x.n f.n)++[f]++l.filter (λx=> !(fX.eU x.n f.n||decide (x.n=f.n)))
def mX(f:Fi):aY:=ah (1<=(f.n.size:ay)/\(f.n.size:ay)<=8)&&(!decide ((f.t.size:ay)>20000)&&ah (0<=f.kp/\f.kp<=(f.t.size:ay)))
def rZ(l:aE Fi):aY:=fD.val (rd l)
theorem irrefl(x:au):fX.eU x x=false:=fK.oj _
theorem jJ:rZ l=ao↔l.length<=30/\(∀f∈l,mX f=ao)/\S8 l:=by
 unfold rZ fD.val;rw[aM,bf,bz,dX];have e:∀i (h:i<l.length),fD.el (rd l) i=(mX l[i]&&(i==0||fX.eU (l.getD (i-1) default).n l[i].n)):=λi h=>by
  unfold fD.el mX fX.eU;rw[Hz h,Tm h,show av (rd l) i 2=CV.i ak l[i].kp from Tn h,Hz (show i-1<l.length by omega)];have s:l.getD (i-1) default=l[i-1]:=by simp[dZ,show i-1<l.length by omega]
  rw[s];simp only[br,bN,nc];rfl
 constructor
 ·rintro ⟨o,r⟩;have k:∀i (h:i<l.length),mX l[i]=ao/\(i=0\/fX.eU (l.getD (i-1) default).n l[i].n=ao):=λi h=>by have:=r i (by simpa using h);rw[e i h,aM,dC]at this;exact⟨this.1,this.2.imp (λq=>by simpa using q) id⟩
  refine⟨o,λf t=> ?_,?_⟩
  ·obtain⟨i,hi,rfl⟩:=c7 t;exact(k i hi).1
  ·have m:∀d i (hi:i+d+1<l.length),fX.eU l[i].n l[i+d+1].n=true:=by
    intro d;induction d with
    |zero=>
     intro i hi;rcases(k (i+1) (by omega)).2 with q|q
     ·omega
     ·simpa [dZ,show i<l.length by omega]using q
    |succ d ih=>
     intro i hi;have a:=ih i (by omega);rcases(k (i+d+1+1) (by omega)).2 with q|q
     ·omega
     ·have q:fX.eU l[i+d+1].n l[i+d+1+1].n=true:=by simpa [dZ,show i+d+1<l.length by omega]using q
      exact fK.oO _ _ _ a q
   unfold S8;rw[dx];intro i j hi y u;have:=m (j-i-1) i (by omega);simpa only[show i+(j-i-1)+1=j by omega]using this
 ·rintro ⟨o,r,k⟩;refine⟨o,λi hi=> ?_⟩
  have hi:i<l.length:=by simpa using hi
  rw[e i hi,r _ (bw hi),bj,dC];by_cases x:i=0
  ·left;simpa using x
  ·right;have:=dx.1 k (i-1) i (by omega) hi (by omega);simpa [dZ,show i-1<l.length by omega]using this
theorem aeD(l:aE Fi):(rd l).all vT.cn=true:=by rw[bz];intro y a;unfold Lib.rd at a;obtain⟨z,_,rfl⟩:=cN.1 a;rfl
theorem ahQ(l:aE Fi)(n:au):(rd l).filter (vT.keep n)=rd (without l n):=by unfold Lib.rd without;rw[oE];congr 1;apply kr;intro x _;show(!List.beq (aG x.n) (aG n))=_;rw[eG]
theorem JW(l:aE Fi)(n:au):(without l n).length<=l.length:=d_ ..
theorem aan(h:S8 l)(n:au):S8 (without l n):=zO _ h
theorem rq(f:Fi):(put l f).length<=l.length+1:=by
 unfold put;have:∀r:aE Fi,(r.filter λx=>fX.eU x.n f.n).length+(r.filter λx=> !(fX.eU x.n f.n||decide (x.n=f.n))).length<=r.length:=by
  intro r;induction r with
  |nil=>exact bT _
  |cons y r ih=>
   cases a:fX.eU y.n f.n with
   |true=>rw[dy (by simpa using a),cC (by simp[a])];simp only[bR];omega
   |false=>
    rw[cC (by simp[a])];by_cases d:y.n=f.n
    ·rw[cC (by simp[d])];simp only[bR];omega
    ·rw[dy (by simp[a,d])];simp only[bR];omega
 have:=this l;simp only[bW,bu];omega
theorem pB:x∈put l f↔x=f\/(x∈l/\x.n≠f.n):=by
 unfold put;simp only[bc,da,a_,dt,h_,eR];constructor
 ·rintro ((⟨a,d⟩|rfl)|⟨a,d⟩)
  ·refine .inr ⟨a,λe=> ?_⟩;rw[e,irrefl]at d;cases d
  ·exact .inl rfl
  ·exact .inr ⟨a,d.2⟩
 ·rintro (rfl|⟨a,d⟩)
  ·exact .inl (.inr rfl)
  ·cases hl:fX.eU x.n f.n with
   |true=>exact .inl (.inl ⟨a,rfl⟩)
   |false=>exact .inr ⟨a,rfl,d⟩
def FA(l:aE Fi)(k:ay)(n t o:au):aA (aE Fi):=
 match l.find? λx=>ah (x.n=n)with
 |some f=>
  if k=1 then ai (put l ⟨f.n,f.t++t,f.kp⟩)
  else if k=2 then ai (put l ⟨f.n,f.t,f.t.size⟩)
  else if k=3 then(if f.kp≠f.t.size\/o=n then aj else ai (put (without l n) ⟨o,f.t,f.kp⟩))
  else ai (without l n)
 |none=>if k=1 then ai (put l ⟨n,t,0⟩)else aj
def jQ(k:ay)(t o:au):aY:=ah (1<=k/\k<=4)&&((ah (t=⟨#[]⟩)||decide (k=1))&&(ah (o=⟨#[]⟩)||decide (k=3)))
def act(l:aE Fi)(k:ay)(n t o:au):aA (aE Fi):=
 bif rZ l&&jQ k t o then(match FA l k n t o with|some d=>bif rZ d then ai d else aj|none=>aj)else aj
structure Ac where
 k:ay
 n:au
 t:au
 o:au
 deriving DecidableEq
instance:Inhabited Ac:=⟨⟨0,⟨#[]⟩,⟨#[]⟩,⟨#[]⟩⟩⟩
def Ac.row(e:Ac):aE CV:=[CV.i ak e.k,CV.s e.n,CV.s e.t,CV.s e.o]
def ra(l:aE Ac):Row:=l.map Ac.row
theorem ru(l):(ra l).length=l.length:=by unfold ra;simp
theorem wa0{i:aN}(h:i<l.length):av (ra l) i 0=CV.i ak (el l i).k:=fH _ l i 0 h
theorem wa1{i:aN}(h:i<l.length):av (ra l) i 1=CV.s (el l i).n:=fH _ l i 1 h
theorem wa2{i:aN}(h:i<l.length):av (ra l) i (1+1)=CV.s (el l i).t:=fH _ l i 2 h
theorem wa3{i:aN}(h:i<l.length):av (ra l) i (1+1+1)=CV.s (el l i).o:=fH _ l i 3 h
def jR:aE Fi->aN->aE Ac->aE Fi×aN
 |l,i,[]=>(l,i)
 |l,i,a::r=>match act l a.k a.n a.t a.o with|some d=>jR d (i+1) r|none=>(l,i)
theorem zX{k:ay}(h:act l k n t o=ai d):rZ d=ao/\d.length<=30:=by
 unfold act at h;cases f:rZ l&&jQ k t o with
 |false=>rw[f]at h;cases h
 |true=>
  rw[f,aw]at h;split at h
  ·rename_i e _;cases a:rZ e with
   |false=>rw[a]at h;cases h
   |true=>rw[a]at h;obtain rfl:=aJ h;exact⟨a,(jJ.1 a).1⟩
  ·cases h
end dz
namespace oL
theorem size(x:ay):(v x).size=4:=by unfold v;rw[Lib.ir];simp only[b9,fA]
end oL
namespace jy
def rd(x:ay):ay:=bif ah (cx x 2=1)then(bF eg (↑(ij (oz (di 32 (bF eg (cK x 2))) (di 32 3558460437))):ay))else(bF eg (cK x 2))
def ou:aN->ay->ay|0,x=>x|n+1,x=>ou n (rd x)
theorem in6(N:aN)(K:ay->au->ay->ay->aA R)(a:au)(b:ay):∀(d n i:aN) (x:ay),d+i=8->d<n->l6 N K n x a b (i:ay)=K (ou d x) a b 8:=by
 intro d;induction d with
 |zero=>
  intro n i x f h;obtain⟨n,rfl⟩:∃m,n=m+1:=⟨n-1,by omega⟩
  have:i=8:=by omega
  subst this;rfl
 |succ d ih=>
  intro n i x f h;obtain⟨n,rfl⟩:∃m,n=m+1:=⟨n-1,by omega⟩
  have e:bE ((i:ay)+1)=((i+1:aN):ay):=dq (by omega) (by omega);rw[ou,<-ih n (i+1) (rd x) (by omega) (by omega)];simp only[l6,r6,aC (show(i:ay)<8 by omega),aw,e,rd];cases ah (cx x 2=1)<;>rfl
def su(t:au):aN->aN->ay->ay
 |0,_,s=>s
 |d+1,i,s=>su t d (i+1) (ou 8 (bF eg (↑(ij (oz (di 32 s) (di 32 (bF eg (↑(fF t i):ay))))):ay)))
theorem run(s:ay)(t:au)(u:t.size<=4611686018427387904):vo s t=ai (su t t.size 0 s):=by
 unfold vo b;have key:∀(d n i:aN) (s:ay),d+i=t.size->d<n->l2 ck (λ(a:ay) (_:au) (_:ay)=>ai a) n s t (i:ay)=ai (su t d i s):=by
  intro d;induction d with
  |zero=>
   intro n i s h j;obtain⟨n,rfl⟩:∃m,n=m+1:=⟨n-1,by omega⟩
   simp only[l2,r2,c8,aF (show¬i<t.size by omega),ax];rfl
  |succ d ih=>
   intro n i s h j;obtain⟨n,rfl⟩:∃m,n=m+1:=⟨n-1,by omega⟩
   have f:bE ((i:ay)+1)=((i+1:aN):ay):=dq (by omega) (by omega);simp only[l2,r2,c8,aC (show i<t.size by omega),b_,aL,aw,dB];have e:=in6 (R:=ay) ck (λk o r _=>l2 ck (λa _ _=>ai a) n k o (bE (r+1))) t (i:ay) 8 ck 0 (bF eg (↑(ij (oz (di 32 s) (di 32 (bF eg (↑(fF t i):ay))))):ay)) rfl (by unfold ck;omega);refine e.trans ?_;rw[f,ih n (i+1) _ (by omega) (by omega)];rfl
 exact key t.size ck 0 s (by omega) ez
theorem ok(s:ay)(t:au)(a:t.size<=4611686018427387904):c s t=ao/\v s t=su t t.size 0 s:=out s t (run s t a)
end jy
namespace u0
theorem ok(t:au)(a:t.size<=4611686018427387904):c t=ao/\v t=jy.su t t.size 0 4294967295:=by have h:=jy.ok 4294967295 t a;refine out t ?_;unfold vo b;rw[h.1,h.2];rfl
end u0
namespace fj
def fr(t:au):au:=bytesOf (vb t.size)++oL.v (jy.su t t.size 0 4294967295)++t
def val(t:au):au×aY:=if 1<=t.size/\t.size<=9000 then(fr t,ao)else(⟨#[]⟩,aq)
theorem et(n a b:ay):jX.v n a b=ah (a<=n/\n<=b):=by unfold jX.v;by_cases h:a<=n<;>by_cases d:n<=b<;>simp[h,d]
theorem Uq(h:t.size<=9000):(fr t).size<=t.size+68:=by unfold fr;have:=gU (x:=(t.size:ay)) (by omega);rw[dm,dm,oL.size];omega
theorem ok(t:au):c t=ao/\v t=val t:=by
 refine out t ?_;unfold vo b val;rw[et];by_cases h:1<=t.size/\t.size<=9000
 ·have hs:=u0.ok t (by omega);have a:jZ.c (t.size:ay)=true:=aC (show(t.size:ay)<=9223372036854775807 by omega);have d:(jZ.v (t.size:ay)).size<=64:=gU (x:=(t.size:ay)) (by omega);rw[aC (show(1:ay)<=(t.size:ay)/\(t.size:ay)<=9000 by omega),bm h,hs.1,hs.2];simp(disch:=omega) only[aZ,ax,aw,a,dm,oL.size,E_];rfl
 ·rw[aF (show¬((1:ay)<=(t.size:ay)/\(t.size:ay)<=9000)by omega),bh h];rfl
end fj
namespace jD
theorem head{t:au}{p:aN}{b:eE}{r:aE eE}(h:t.data.toList.drop p=b::r):p<t.size/\fF t p=b.toNat/\t.data.toList.drop (p+1)=r:=by
 have hl:=ic bB h;rw[gz,bR]at hl;have hs:t.data.toList.length=t.size:=rfl;have hp:p<t.data.toList.length:=by omega
 have hd:=cq hp;rw[hd]at h;injection h with d e;refine⟨by omega,?_,e⟩
 unfold fF;have a:p<t.data.size:=hp;rw[show t.data.getD p 0=t.data[p]by unfold Array.getD;rw[dif_pos a];rfl];rw[<-d];rfl
theorem A7(x:ay)(r:Row):(bytesOf ([CV.i ba x]::r)).data.toList=ar x.toNat::(bytesOf r).data.toList:=rfl
theorem RS(t:au)(a:aN)(rest:aE eE):∀(f j:aN) (n y:ay),0<=y->0<=n->n+y*128^j<=1000000000->y<=1000000000->(j>0->0<y)->t.data.toList.drop (a+j)=(bytesOf (vb y)).data.toList++rest->(vb y).length<=f->
  Lib.rv t a f j n=(n+y*128^j,((a+j+(vb y).length:aN):ay),ao)/\t.data.toList.drop (a+j+(vb y).length)=rest
 |0,j,n,y,h0,K,H,N,I,hd,h=>by
  by_cases e:y>127
  ·rw[rE e]at h;simp at h
  ·rw[km e]at h;simp at h
 |f+1,j,n,y,h0,K,H,N,I,hd,h=>by
  by_cases e:y>127
  ·have x:cx y 128=y%128:=eN (by omega);have z:cK y 128=y/128:=dJ (by omega);have A:bE (y%128+128)=y%128+128:=dq (by omega) (by omega);have k:bF ba (y%128+128)=y%128+128:=by show(y%128+128)%256=_;omega
   have B:bE (y/128)=y/128:=dq (by omega) (by omega);have d:vb y=[CV.i ba (y%128+128)]::vb (y/128):=by rw[rE e,x,z,A,k,B]
   rw[d,A7,nD]at hd;obtain⟨o,r,s⟩:=head hd;have u:(fF t (a+j):ay)=y%128+128:=by rw[r,vq];omega
   rw[d,bR]at h;have C:y*128^j=y%128*128^j+y/128*128^(j+1):=by
    have m:y=y%128+128*(y/128):=by omega
    rw[t_];generalize (128:ay)^j=P;conv=>lhs;rw[m]
    rw[Int.add_mul,Int.mul_comm P 128,<-Int.mul_assoc,Int.mul_comm (y/128) 128]
   have M:(0:ay)<=y%128*128^j:=Int.mul_nonneg (by omega) (Int.le_of_lt (Int.pow_pos (by omega)));obtain⟨O,Q⟩:=RS t a rest f (j+1) (n+y%128*128^j) (y/128) (by omega) (by omega) (by omega) (by omega) (by omega) (by rw[show a+(j+1)=a+j+1 by omega];exact s) (by omega);refine⟨?_,?_⟩
   ·unfold Lib.rv;rw[bm o,u,bm (by omega),show(y%128+128)%128=y%128 by omega,O,C,d,bR];refine Prod.ext ?_ (Prod.ext ?_ rfl)
    ·dsimp only;omega
    ·dsimp only;omega
   ·rw[d,bR,show a+j+((vb (y/128)).length+1)=a+(j+1)+(vb (y/128)).length by omega];exact Q
  ·have k:bF ba y=y:=by show y%256=_;omega
   have d:vb y=[[CV.i ba y]]:=by rw[km e,k]
   rw[d,A7,nD]at hd;obtain⟨o,r,s⟩:=head hd;have u:(fF t (a+j):ay)=y:=by rw[r,vq];omega
   refine⟨?_,by rw[d];exact s⟩
   unfold Lib.rv;rw[bm o,u,bh e,show y%128=y by omega,bh (by omega),d];rfl
theorem vb5{y:ay}(h:y<=1000000000):(vb y).length<=5:=by
 have e:(128:ay)^(4+1)=34359738368:=by decide
 exact tT 4 y (by rw[e];omega)
theorem lU(t:au)(p:aN)(y:ay)(rest:aE eE)(h0:0<=y)(a:y<=1000000000)(hd:t.data.toList.drop p=(bytesOf (vb y)).data.toList++rest):dM t p=(y,((p+(vb y).length:aN):ay),ao)/\t.data.toList.drop (p+(vb y).length)=rest:=by
 have hl:=ic bB hd;have f:0<(vb y).length:=by
  by_cases d:y>127
  ·rw[rE d];simp
  ·rw[km d];simp
 have e:(bytesOf (vb y)).data.toList.length=(vb y).length:=Lib.ir _;rw[gz,bW,e]at hl;have hs:t.data.toList.length=t.size:=rfl;obtain⟨h,i⟩:=RS t p rest 5 0 0 y h0 (by omega) (by simp;omega) a (by omega) (by simpa using hd) (vb5 a);refine⟨?_,by simpa using i⟩
 unfold dM;rw[bm (by omega),show((p:aN):ay).toNat=p from rfl,h];simp
theorem IU(t k:au)(p:aN)(rest:aE eE)(hd:t.data.toList.drop p=k.data.toList++rest):t.extract p (p+k.size)=k:=by apply pP;simp only[fY,gX,fJ];rw[hd,show p+k.size-p=k.data.toList.length by show p+k.size-p=k.size;omega,List.take_left]
theorem enc(k:au)(s l:ay)(b:au)(h:gu.v k s l b=ao):v (jr.sa k s l b)=(k,s,l,b,ao):=by
 obtain⟨⟨B,C⟩,⟨s1,H⟩,⟨l1,l2⟩,z⟩:=gu.FN h;generalize y:jr.sa k s l b=t;have r:t.data.toList=(bytesOf (vb k.size)).data.toList++(k.data.toList++((bytesOf (vb s)).data.toList++((bytesOf (vb l)).data.toList++b.data.toList))):=by rw[<-y];unfold jr.sa;simp only[lP,uJ,ca]
 have hs:t.data.toList.length=t.size:=rfl;have hk:k.data.toList.length=k.size:=rfl;obtain⟨a1,a2⟩:=lU t 0 (k.size:ay) _ (by omega) (by omega) (by rw[eK];exact r);rw[bV]at a1 a2;generalize (vb (k.size:ay)).length=a at a1 a2;have d:=ic bB a2;simp only[gz,bW,hk,hs]at d;have ek:=IU t k a _ a2;have a3:t.data.toList.drop (a+k.size)=(bytesOf (vb s)).data.toList++((bytesOf (vb l)).data.toList++b.data.toList):=by rw[<-uR,a2];exact List.drop_left' (by rw[hk])
 obtain⟨e,j⟩:=lU t (a+k.size) s _ (by omega) (by omega) a3;obtain⟨m,f⟩:=lU t (a+k.size+(vb s).length) l _ (by omega) (by omega) j;have x:fB t 0=(k,((a+k.size:aN):ay),ao):=by unfold fB;rw[show(0:ay)=((0:aN):ay)from rfl,a1];dsimp only;rw[bm (by omega)];rw[show((a:aN):ay).toNat=a from rfl,show((a:ay)+(k.size:ay)).toNat=a+k.size by omega,ek];rfl
 have o:t.extract (a+k.size+(vb s).length+(vb l).length) t.size=b:=by
  have i:=ic bB f;rw[gz,hs]at i;have u:b.data.toList.length=b.size:=rfl;by_cases A:b.size=0
  ·apply pP;simp only[fY,gX,fJ];rw[f];exact dH (by omega)
  ·apply pP;simp only[fY,gX,fJ];rw[f];exact dH (by omega)
 unfold v;rw[x];dsimp only;rw[e];dsimp only;rw[m];dsimp only;rw[show((a+k.size+(vb s).length+(vb l).length:aN):ay).toNat=a+k.size+(vb s).length+(vb l).length from rfl,o,bm h]
end jD
namespace vS
theorem in6(N:aN)(K:ay->au->ay->ay->aA R)(a:au)(b:ay):∀(d n i:aN) (x:ay),d+i=8->d<n->l6 N K n x a b (i:ay)=K (jy.ou d x) a b 8:=by
 intro d;induction d with
 |zero=>
  intro n i x f h;obtain⟨n,rfl⟩:∃m,n=m+1:=⟨n-1,by omega⟩
  have:i=8:=by omega
  subst this;rfl
 |succ d ih=>
  intro n i x f h;obtain⟨n,rfl⟩:∃m,n=m+1:=⟨n-1,by omega⟩
  have e:bE ((i:ay)+1)=((i+1:aN):ay):=dq (by omega) (by omega);rw[jy.ou,<-ih n (i+1) (jy.rd x) (by omega) (by omega)];simp only[l6,r6,aC (show(i:ay)<8 by omega),aw,e,jy.rd];cases ah (cx x 2=1)<;>rfl
theorem run(s:ay)(t:au)(u:t.size<=4611686018427387904):vo s t=ai (jy.su t t.size 0 s):=by
 unfold vo b;have key:∀(d n i:aN) (s:ay),d+i=t.size->d<n->l2 ck (λ(a:ay) (_:au) (_:ay)=>ai a) n s t (i:ay)=ai (jy.su t d i s):=by
  intro d;induction d with
  |zero=>
   intro n i s h j;obtain⟨n,rfl⟩:∃m,n=m+1:=⟨n-1,by omega⟩
   simp only[l2,r2,c8,aF (show¬i<t.size by omega),ax];rfl
  |succ d ih=>
   intro n i s h j;obtain⟨n,rfl⟩:∃m,n=m+1:=⟨n-1,by omega⟩
   have f:bE ((i:ay)+1)=((i+1:aN):ay):=dq (by omega) (by omega);simp only[l2,r2,c8,aC (show i<t.size by omega),b_,aL,aw,dB];have e:=in6 (R:=ay) ck (λk o r _=>l2 ck (λa _ _=>ai a) n k o (bE (r+1))) t (i:ay) 8 ck 0 (bF eg (↑(ij (oz (di 32 s) (di 32 (bF eg (↑(fF t i):ay))))):ay)) rfl (by unfold ck;omega);refine e.trans ?_;rw[f,ih n (i+1) _ (by omega) (by omega)];rfl
 exact key t.size ck 0 s (by omega) ez
theorem ok(s:ay)(t:au)(a:t.size<=4611686018427387904):c s t=ao/\v s t=jy.su t t.size 0 s:=out s t (run s t a)
end vS
namespace uj
theorem ok(t:au)(a:t.size<=4611686018427387904):c t=ao/\v t=jy.su t t.size 0 4294967295:=by have h:=vS.ok 4294967295 t a;refine out t ?_;unfold vo b;rw[h.1,h.2];rfl
end uj
namespace uk
theorem ok(t:au)(a:t.size<=4611686018427387904):c t=ao/\v t=oL.v (jy.su t t.size 0 4294967295):=by have h:=uj.ok t a;refine out t ?_;unfold vo b;rw[h.1,h.2];rfl
end uk
namespace rV
theorem cut(a s e b:au):cQ (aG (a++s++b)) (aG (a++e++b))=cQ (aG s) (aG e):=by
 rw[eG,eG,bZ];constructor
 ·intro h;have d:=ic (λx:au=>x.data.toList) h;simp only[lP,uJ,ca]at d;have f:=List.append_cancel_right (List.append_cancel_left d);exact pP f
 ·intro h;rw[h]
theorem lX(n a b:ay):j4.v n a b=ah (a<=n/\n<=b):=fj.et n a b
theorem both(t:au)(ht:t.size<=20000):∀(d:aN) (e:aN) (acc:Row) (n m:aN) (z:ay),t.size-e<=d->e<=t.size->acc.length<=e->d<n->d<m->
  ∃R:Row×ay,U152.l3 ck (λ(_:au) (y4:ay) (y5:Row)=>ai (y5,y4)) n t (e:ay) acc=ai R/\l5 ck (λ(_:au) (y5 _:ay) (y7:Row)=>ai (y7,y5)) (λ(_:au) (_ h9:ay) (ha:Row)=>ai (ha,h9)) m t z (e:ay) acc=ai R/\R.1.length<=20000:=by
 intro d;induction d with
 |zero=>
  intro e acc n m z h1 h2 h3 h4 h5;obtain⟨n,rfl⟩:∃n',n=n'+1:=⟨n-1,by omega⟩
  obtain⟨m,rfl⟩:∃m',m=m'+1:=⟨m-1,by omega⟩
  have i:ah ((e:ay)<(t.size:ay))=false:=aF (by omega);have k:(dM t (e:ay)).2.2=false:=by
   cases h:dM t (e:ay)with
   |mk a r=>
    obtain⟨x,o⟩:=r;cases o with
    |false=>rfl
    |true=>have:=gJ h;omega
  have I:∀a b,fZ.v a b=dM a b:=λ_ _=>rfl;refine⟨(acc,(e:ay)),?_,?_,by dsimp only;omega⟩
  ·simp only[U152.l3,U152.r3,I,k,aC (show(t.size:ay)<=20000 by omega),aw,bG]
  ·simp only[l5,r5,i,ax]
 |succ d ih=>
  intro e acc n m z h1 h2 h3 h4 h5;obtain⟨n,rfl⟩:∃n',n=n'+1:=⟨n-1,by omega⟩
  obtain⟨m,rfl⟩:∃m',m=m'+1:=⟨m-1,by omega⟩
  have I:∀a b,fZ.v a b=dM a b:=λ_ _=>rfl;have O:∀a b,fG.v a b=dM a b:=λ_ _=>rfl;have u:ah ((t.size:ay)<=20000)=true:=aC (by omega);cases k:dM t (e:ay)with
  |mk N r=>
   obtain⟨f,o⟩:=r;cases o with
   |false=>
    refine⟨(acc,(e:ay)),?_,?_,by dsimp only;omega⟩
    ·simp only[U152.l3,U152.r3,I,k,u,aw,bG]
    ·by_cases i:(e:ay)<(t.size:ay)
     ·simp only[l5,r5,O,k,aC i,aw,bG]
     ·simp only[l5,r5,aF i,ax]
   |true=>
    obtain⟨q1,q2,q3,q4,q5,q6⟩:=gJ k;have i:ah ((e:ay)<(t.size:ay))=true:=aC (by omega);have w1:bE (N+4)=N+4:=dq (by omega) (by omega);have K:bE ((t.size:ay)-f)=(t.size:ay)-f:=dq (by omega) (by omega);have w3:bE ((t.size:ay)-f-4)=(t.size:ay)-f-4:=dq (by omega) (by omega);have V:bE (f+4)=f+4:=dq (by omega) (by omega);have X:bE (f+4+N)=f+4+N:=dq (by omega) (by omega);by_cases C:N+4>(t.size:ay)-f
    ·have B:N>(t.size:ay)-f-4:=by omega
     refine⟨(acc,(e:ay)),?_,?_,by dsimp only;omega⟩
     ·cases A:ah (1<=N/\N<=9000)with
      |false=>simp only[U152.l3,U152.r3,I,k,u,lX,A,aw,ax,aZ,bG]
      |true=>simp only[U152.l3,U152.r3,I,k,u,lX,A,w1,K,aC C,aw,ax,aZ]
     ·simp only[l5,r5,O,k,i,K,w3,aC B,aw,ax,aZ]
    ·have B:¬N>(t.size:ay)-f-4:=by omega
     have U:fU (f+4) (f+4+N) (t.size:ay)=true:=by simp[fU];omega
     have i2:fU f (f+4) (t.size:ay)=true:=by simp[fU];omega
     have i3:fU (e:ay) (f+4+N) (t.size:ay)=true:=by simp[fU];omega
     have h7:(t.extract (f+4).toNat (f+4+N).toNat).size=N.toNat:=by rw[wV];omega
     generalize y:t.extract (f+4).toNat (f+4+N).toNat=tx at h7;have M:=fj.ok tx;have Y:=uk.ok tx (by omega);by_cases A:1<=N/\N<=9000
     ·have H:fj.val tx=(fj.fr tx,ao):=by unfold fj.val;rw[bm (by omega)]
      have Q:((tx.size:aN):ay)=N:=by omega
      have h6:fj.fr tx=t.extract e f.toNat++oL.v (jy.su tx tx.size 0 4294967295)++tx:=by unfold fj.fr;rw[Q,q6];rfl
      have h8:t.extract e (f+4+N).toNat=t.extract e f.toNat++t.extract f.toNat (f+4).toNat++tx:=by rw[<-y,n8 t (by omega) (by omega),n8 t (by omega) (by omega)]
      have j:cQ (aG (fj.fr tx)) (aG (t.extract e (f+4+N).toNat))=cQ (aG (oL.v (jy.su tx tx.size 0 4294967295))) (aG (t.extract f.toNat (f+4).toNat)):=by rw[h6,h8];exact cut _ _ _ _
      have S:b8 (acc.length+1) 16=true:=b0 (by omega) (by omega);cases hs:cQ (aG (oL.v (jy.su tx tx.size 0 4294967295))) (aG (t.extract f.toNat (f+4).toNat))with
      |false=>
       rw[hs]at j;refine⟨(acc,(e:ay)),?_,?_,by dsimp only;omega⟩
       ·simp only[U152.l3,U152.r3,I,k,u,lX,aC A,w1,K,V,X,aF C,U,i2,y,Y.1,Y.2,hs,aw,ax,aZ,bG]
       ·simp only[l5,r5,O,k,i,K,w3,V,X,aF B,U,i3,y,M.1,M.2,H,dG,j,aw,ax,aZ,bG]
      |true=>
       rw[hs]at j;obtain⟨a2,P⟩:∃a2:aN,f+4+N=(a2:ay):=⟨(f+4+N).toNat,by omega⟩
       obtain⟨R,g1,g2,g3⟩:=ih a2 (acc++[[CV.s tx]]) n m z (by omega) (by omega) (by rw[bW,bu];omega) (by omega) (by omega);refine⟨R,?_,?_,g3⟩
       ·simp only[U152.l3,U152.r3,I,k,u,lX,aC A,w1,K,V,X,aF C,U,i2,y,Y.1,Y.2,hs,gm,bu,S,aw,ax,aZ];rw[P];exact g1
       ·simp only[l5,r5,O,k,i,K,w3,V,X,aF B,U,i3,y,M.1,M.2,H,dG,j,gm,bu,S,aw,ax,aZ];rw[P];exact g2
     ·have H:fj.val tx=(⟨#[]⟩,aq):=by unfold fj.val;rw[bh (by omega)]
      refine⟨(acc,(e:ay)),?_,?_,by dsimp only;omega⟩
      ·simp only[U152.l3,U152.r3,I,k,u,lX,aF A,aw,ax,aZ,bG]
      ·simp only[l5,r5,O,k,i,K,w3,V,X,aF B,U,y,M.1,M.2,H,aw,ax,aZ,bG]
theorem same(t:au):∃R:Row×ay,(c t=ao/\v t=R)/\(U152.c t=ao/\U152.v t=R)/\R.1.length<=20000:=by
 by_cases f:t.size<=20000
 ·obtain⟨R,a,d,e⟩:=both t f t.size 0 [] ck ck 0 (by omega) (bA _) (bT _) ez ez;refine⟨R,out t ?_,U152.out t ?_,e⟩
  ·unfold vo b;rw[aF (show¬(t.size:ay)>20000 by omega),ax];exact d
  ·unfold U152.vo U152.b;exact a
 ·refine⟨([],0),out t ?_,U152.out t ?_,bA _⟩
  ·unfold vo b;rw[aC (show(t.size:ay)>20000 by omega)];rfl
  ·unfold U152.vo U152.b;have j:ck=18446744073709551615+1:=rfl;have:∀n,U152.l3 ck (λ(_:au) (h:ay) (i:Row)=>ai (i,h)) (n+1) t 0 (aT [Ck.s] 0)=ai ([],0):=by intro n;simp only[U152.l3,U152.r3,aF (show¬(t.size:ay)<=20000 by omega),ax];rfl
   exact this 18446744073709551615
end rV
namespace Tx
def fs:aE au->au
 |[]=>⟨#[]⟩|x::r=>fj.fr x++fs r
theorem toL(a b:au):(a++b).data.toList=a.data.toList++b.data.toList:=by simp[lP]
theorem Fj(x:au):(fj.fr x).data.toList=(bytesOf (vb x.size)).data.toList++((oL.v (jy.su x x.size 0 4294967295)).data.toList++x.data.toList):=by unfold fj.fr;rw[toL,toL,ca]
theorem H9(x:au):x.data.toList.length=x.size:=dn
def Stop(z:au):Prop:=z=⟨#[]⟩\/∃(x:au) (w:aE eE),x.size<=9000/\(fj.fr x).data.toList=z.data.toList++w/\w≠[]
theorem ot(n:ay):(oL.v n).size=4:=rfl
theorem vbl(n:ay):(bytesOf (vb n)).data.toList.length=(vb n).length:=by rw[H9,Lib.ir]
theorem stop{t z:au}{p:aN}(u:Stop z)(hp:p<=t.size)(hd:t.data.toList.drop p=z.data.toList){N a:ay}(h:dM t p=(N,a,ao)):N+4>(t.size:ay)-a:=by
 obtain⟨I,K,M,B,C,e⟩:=gJ h;have hl:t.size-p=z.size:=by have:=ic bB hd;rw[gz,H9,H9]at this;exact this
 rcases u with rfl|⟨x,w,H,i,r⟩
 ·have:(⟨#[]⟩:au).size=0:=rfl;omega
 ·-- the file's next bytes are the number's
  have f:(t.extract p a.toNat).data.toList=z.data.toList.take (a.toNat-p):=by rw[<-hd];simp[fY,gX,List.extract]
  rw[dG]at e;have A:a.toNat-p<=z.data.toList.length:=by rw[H9];omega
  have k:(fj.fr x).data.toList.drop 0=(bytesOf (vb N)).data.toList++(z.data.toList.drop (a.toNat-p)++w):=by rw[eK,i,e,f,<-ca,List.take_append_drop]
  have m:(fj.fr x).data.toList.drop 0=(bytesOf (vb x.size)).data.toList++((oL.v (jy.su x x.size 0 4294967295)).data.toList++x.data.toList):=by rw[eK,Fj]
  have r1:=(jD.lU _ 0 N _ B C k).1;have r2:=(jD.lU _ 0 (x.size:ay) _ (by omega) (by omega) m).1;rw[r1]at r2;obtain⟨o,hq⟩:=bU r2;have j:(vb N).length=a.toNat-p:=by have:=ic bB (ic (λy:au=>y.data.toList) e);simp only[vbl,f,du]at this;omega
  have d:=ic bB i;rw[Fj,bW,bW,bW,vbl,H9,H9,H9,ot]at d;have s:1<=w.length:=by cases w with|nil=>exact cJ rfl r|cons=>simp
  subst o;omega
theorem go(t:au)(ht:t.size<=20000)(z:au)(hz:Stop z):∀(es:aE au),(∀x∈es,1<=x.size/\x.size<=9000)->∀(p n:aN) (acc:Row),p<=t.size->acc.length<=p->t.data.toList.drop p=(fs es++z).data.toList->t.size-p<n->
  U152.l3 ck (λ(_:au) (y4:ay) (y5:Row)=>ai (y5,y4)) n t (p:ay) acc=ai (acc++Lib.rs es,((p+(fs es).size:aN):ay)):=by
 have B:∀a b,fZ.v a b=dM a b:=λ_ _=>rfl;have d:ah ((t.size:ay)<=20000)=true:=aC (by omega);intro es;induction es with
 |nil=>
  intro f p n acc hp ha hd hn;obtain⟨n,rfl⟩:∃M,n=M+1:=⟨n-1,by omega⟩
  have hd:t.data.toList.drop p=z.data.toList:=by rw[hd];unfold fs;rw[toL];rfl
  have U:acc++Lib.rs []=acc:=cZ _;have V:((p+(fs []).size:aN):ay)=(p:ay):=rfl;rw[U,V];cases h:dM t (p:ay)with
  |mk N r=>
   obtain⟨Q,o⟩:=r;cases o with
   |false=>simp only[U152.l3,U152.r3,B,h,d,aw,bG]
   |true=>
    have hs:=stop hz hp hd h;obtain⟨q1,q2,q3,q4,q5,q6⟩:=gJ h;have w1:bE (N+4)=N+4:=dq (by omega) (by omega);have O:bE ((t.size:ay)-Q)=(t.size:ay)-Q:=dq (by omega) (by omega);cases A:ah (1<=N/\N<=9000)with
    |false=>simp only[U152.l3,U152.r3,B,h,d,rV.lX,A,aw,ax,aZ,bG]
    |true=>simp only[U152.l3,U152.r3,B,h,d,rV.lX,A,w1,O,aC hs,aw,ax,aZ]
 |cons x es ih=>
  intro f p n acc hp ha hd hn;obtain⟨n,rfl⟩:∃M,n=M+1:=⟨n-1,by omega⟩
  have hx:=f x (by simp);have C:t.data.toList.drop p=(bytesOf (vb x.size)).data.toList++((oL.v (jy.su x x.size 0 4294967295)).data.toList++(x.data.toList++(fs es++z).data.toList)):=by rw[hd,show fs (x::es)=fj.fr x++fs es from rfl,toL,toL,Fj,toL];simp only[ca]
  obtain⟨h,k⟩:=jD.lU t p (x.size:ay) _ (by omega) (by omega) C;have I:(fj.fr x).size=(vb x.size).length+4+x.size:=by rw[<-H9,Fj,bW,bW,vbl,H9,H9,ot];omega
  have e:=ic bB hd;rw[gz,H9,H9]at e;have j:(fs (x::es)++z).size=(fj.fr x).size+(fs es).size+z.size:=by rw[show fs (x::es)=fj.fr x++fs es from rfl,dA,dA]
  rw[j,I]at e;generalize hm:(vb (x.size:ay)).length=m at*
  have x4:t.extract (p+m) (p+m+4)=oL.v (jy.su x x.size 0 4294967295):=by have:=jD.IU t _ (p+m) _ k;rwa[ot]at this
  have u:t.data.toList.drop (p+m+4)=x.data.toList++(fs es++z).data.toList:=by rw[<-uR,k,zP (by rw[H9,ot];omega),jU (by rw[H9,ot];omega),eJ]
  have x5:t.extract (p+m+4) (p+m+4+x.size)=x:=jD.IU t x (p+m+4) _ u;have H:t.data.toList.drop (p+m+4+x.size)=(fs es++z).data.toList:=by rw[<-uR,u,zP (by rw[H9];omega),jU (by rw[H9];omega),eJ]
  have i:=ih (λy hy=>f y (by simp[hy])) (p+m+4+x.size) n (acc++[[CV.s x]]) (by omega) (by simp;omega) H (by omega);have w1:bE ((x.size:ay)+4)=(x.size:ay)+4:=dq (by omega) (by omega);have O:bE ((t.size:ay)-((p+m:aN):ay))=(t.size:ay)-((p+m:aN):ay):=dq (by omega) (by omega);have w4:bE (((p+m:aN):ay)+4)=((p+m+4:aN):ay):=by rw[dq (by omega) (by omega)];omega
  have w5:bE (((p+m+4:aN):ay)+(x.size:ay))=((p+m+4+x.size:aN):ay):=by rw[dq (by omega) (by omega)];omega
  have S:¬(x.size:ay)+4>(t.size:ay)-((p+m:aN):ay):=by omega
  have i1:fU ((p+m+4:aN):ay) ((p+m+4+x.size:aN):ay) (t.size:ay)=true:=by simp[fU];omega
  have i2:fU ((p+m:aN):ay) ((p+m+4:aN):ay) (t.size:ay)=true:=by simp[fU];omega
  have P:=uk.ok x (by omega);have K:b8 (acc.length+1) 16=true:=b0 (by omega) (by omega);simp only[U152.l3,U152.r3,B,h,d,rV.lX,aC (show 1<=(x.size:ay)/\(x.size:ay)<=9000 by omega),w1,O,w4,w5,aF S,i1,i2,dG,x4,x5,P.1,P.2,lj,gm,bu,K,aw,ax,aZ];rw[i];have X:acc++[[CV.s x]]++Lib.rs es=acc++Lib.rs (x::es):=by unfold Lib.rs;simp
  have Y:p+m+4+x.size+(fs es).size=p+(fs (x::es)).size:=by
   have:(fs (x::es)).size=(fj.fr x).size+(fs es).size:=by rw[show fs (x::es)=fj.fr x++fs es from rfl,dA]
   omega
  rw[X,Y]
theorem ok(es:aE au)(a:∀x∈es,1<=x.size/\x.size<=9000)(z:au)(f:Stop z)(e:(fs es++z).size<=20000):
  (U152.c (fs es++z)=ao/\U152.v (fs es++z)=(Lib.rs es,((fs es).size:ay)))/\(rV.c (fs es++z)=ao/\rV.v (fs es++z)=(Lib.rs es,((fs es).size:ay))):=by
 have d:=U152.out (fs es++z) (x:=(Lib.rs es,((fs es).size:ay))) (by unfold U152.vo U152.b;have:=go (fs es++z) e z f es a 0 ck [] (bA _) (bA _) (by rw[eK]) ez;rw[bV,eJ]at this;exact this);obtain⟨R,s1,h,_⟩:=rV.same (fs es++z);refine⟨d,s1.1,?_⟩
 rw[s1.2,<-h.2,d.2]
end Tx
namespace AW
theorem wi(n a b:ay):j4.v n a b=ah (a<=n/\n<=b):=fj.et n a b
theorem ok(t:au):c t=ao/\v t=fj.val t:=by
 refine out t ?_;unfold vo b fj.val;rw[wi];by_cases h:1<=t.size/\t.size<=9000
 ·have hs:=uk.ok t (by omega);have d:(bytesOf (vb (t.size:ay))).size<=64:=gU (x:=(t.size:ay)) (by omega);have a:nq.v (t.size:ay)=(bytesOf (vb t.size),ao):=by unfold nq.v;rw[bm (by omega)]
  rw[aC (show(1:ay)<=(t.size:ay)/\(t.size:ay)<=9000 by omega),bm h,hs.1,hs.2,a];simp(disch:=omega) only[aZ,ax,aw,dm,oL.size,E_];rfl
 ·rw[aF (show¬((1:ay)<=(t.size:ay)/\(t.size:ay)<=9000)by omega),bh h];rfl
end AW
namespace mh
theorem tf{k b:au}{s l:ay}(h:gu.v k s l b=ao):(jr.sa k s l b).size<=1000:=by have a:=gu.FN h;have d:(bytesOf (vb (k.size:ay))).size<=64:=gU (x:=(k.size:ay)) (by omega);have e:(bytesOf (vb s)).size<=64:=gU (x:=s) (by omega);have f:(bytesOf (vb l)).size<=64:=gU (x:=l) (by omega);unfold jr.sa;simp only[dm];omega
theorem Av{k b:au}{s l:ay}(h:gu.v k s l b=ao):1<=(jr.sa k s l b).size:=by have a:=gu.FN h;unfold jr.sa;simp only[dm];omega
def val(k:au)(s l:ay)(b:au):au×aY:=if gu.v k s l b=ao then(fj.fr (jr.sa k s l b),ao)else(⟨#[]⟩,aq)
theorem ok(k:au)(s l:ay)(a:au):c k s l a=ao/\v k s l a=val k s l a:=by
 refine out k s l a ?_;have d:=AW.ok (CC.v k s l a).1;unfold vo b val;rw[d.1,d.2];unfold CC.v jr.v fj.val;by_cases h:gu.v k s l a=ao
 ·have e:=tf h;have f:=Av h;rw[bm h,bm h,bm (by dsimp only;omega)];rfl
 ·rw[bh h,bh h];rfl
end mh
namespace j0
def p(d:Row)(n:au)(i:aN):aY:=cQ (aG (br (av d i 0))) (aG n)
theorem ok(d:Row)(n:au)(hl:d.length<=4294967296):c d n=ao/\v d n=fi (p d n) d.length 0:=by
 refine out d n ?_;unfold vo b;refine nJ (p d n) d.length (λm (i:aN)=>l2 ck (λ(_:au) (a _:ay) (_:Row)=>ai a) (λ(_:au) (_ _:ay) (_:Row)=>ai (-1)) m n 0 (i:ay) d) ai (λm i hi hp=> ?_) (λm i hi hp=> ?_) (λm=> ?_) ck ez
 ·unfold p at hp;simp only[l2,r2,c8,b_,dB,hi,aQ,aL,aw,hp]
 ·unfold p at hp;simp only[l2,r2,c8,b_,dB,hi,aQ,aL,aw,hp,ax,cw hi (by omega:d.length<=9223372036854775807)]
 ·simp only[l2,r2,c8,bk,bg,ax]
end j0
namespace lI
def val(d:Row)(n:au):au×aY:=if fi (j0.p d n) d.length 0<0 then(⟨#[]⟩,aq)else(br (av d (fi (j0.p d n) d.length 0).toNat 1),ao)
theorem FN(d:Row)(n:au)(h:¬fi (j0.p d n) d.length 0<0):0<=fi (j0.p d n) d.length 0/\fi (j0.p d n) d.length 0<(d.length:ay):=by
 rcases mO (j0.p d n) d.length 0 with ⟨a,_⟩|⟨k,a,f,e,_,_⟩
 ·rw[a]at h;omega
 ·rw[e];omega
theorem ok(d:Row)(n:au)(hl:d.length<=4294967296):c d n=ao/\v d n=val d n:=by
 refine out d n ?_;have h:=j0.ok d n hl;unfold vo b val;rw[h.1,h.2,aw];by_cases a:fi (j0.p d n) d.length 0<0
 ·rw[aC a,bm a];rfl
 ·have e:=FN d n a;rw[aF a,bh a,ax,aC e.1,aC e.2];rfl
end lI
namespace jO
theorem ok(r:Row)(hl:r.length<=4294967296):c r=ao/\v r=fD.val r:=by
 refine out r ?_;unfold vo b fD.val;have d:∀a b c,j4.v a b c=jX.v a b c:=λ_ _ _=>rfl
 have key:=jE (fD.el r) r.length (λm (i:aN)=>l2 ck (λ(x:aY) (_:Row) (_ _:ay) (_:Row)=>ai x) (λ(_:aY) (_:Row) (_ _:ay) (u:Row)=>ai (ah ((u.length:ay)<=30))) m aq r (r.length:ay) (i:ay) r) (ai aq) (ai (ah ((r.length:ay)<=30)))
  (λm i hi hp=>by
   unfold fD.el at hp;simp only[aM]at hp;obtain⟨f,e,h,o⟩:=hp;have h:ah (0<=bN (av r i (1+1))/\bN (av r i (1+1))<=((br (av r i 1)).size:ay))=true:=h;have e:ah (((br (av r i 1)).size:ay)>20000)=false:=by simpa using e
   by_cases t:0<i
   ·have k:ah ((i:ay)>0)=true:=aC (by omega);have j:i-1<r.length:=by omega
    have s:b7 (aG (br (av r (i-1) 0))) (aG (br (av r i 0)))=true:=by
     rcases dC _ _▸o with q|q
     ·have:i=0:=by simpa using q
      omega
     ·exact q
    simp only[l2,r2,c8,hi,j,aQ,b_,aL,aw,ax,dB,d,fD.mq,f,e,h,s,k,fD.Cc t (by omega),aZ,cw hi (by omega:r.length<=9223372036854775807)]
   ·have k:ah ((i:ay)>0)=false:=aF (by omega);simp only[l2,r2,c8,hi,aQ,b_,aL,aw,ax,dB,d,fD.mq,f,e,h,k,aZ,cw hi (by omega:r.length<=9223372036854775807)])
  (λm i hi hp=>by
   unfold fD.el at hp;cases f:ah (1<=((br (av r i 0)).size:ay)/\((br (av r i 0)).size:ay)<=8)with
   |false=>simp only[l2,r2,c8,hi,aQ,b_,aL,aw,ax,dB,d,fD.mq,f,bG]
   |true=>
   cases e:ah (((br (av r i 1)).size:ay)>20000)with
   |true=>simp only[l2,r2,c8,hi,aQ,b_,aL,aw,ax,dB,d,fD.mq,f,e,aZ]
   |false=>
   cases h:ah (0<=bN (av r i (1+1))/\bN (av r i (1+1))<=((br (av r i 1)).size:ay))with
   |false=>simp only[l2,r2,c8,hi,aQ,b_,aL,aw,ax,dB,d,fD.mq,f,e,h,aZ,bG]
   |true=>
   rw[f,e,show ah (0<=bN (av r i 2)/\bN (av r i 2)<=((br (av r i 1)).size:ay))=ao from h,bG,bj,bj,bj]at hp;rw[h_]at hp;obtain⟨o,s⟩:=hp;have t:0<i:=by
    have:¬i=0:=by simpa using o
    omega
   have k:ah ((i:ay)>0)=true:=aC (by omega);have j:i-1<r.length:=by omega
   simp only[l2,r2,c8,hi,j,aQ,b_,aL,aw,ax,dB,d,fD.mq,f,e,h,s,k,fD.Cc t (by omega),aZ,bG])
  (λm=>by simp only[l2,r2,c8,bk,bg,ax]) ck ez
 refine key.trans ?_;rw[show ah ((r.length:ay)<=30)=ah (r.length<=30)from by rw[bZ];omega];cases (cT r.length).all (fD.el r)<;>cases ah (r.length<=30)<;>rfl
end jO
namespace rK
theorem ok(d:Row)(n:au)(hl:d.length<=4294967296):c d n=ao/\v d n=fi (j0.p d n) d.length 0:=by
 refine out d n ?_;unfold vo b;refine nJ (j0.p d n) d.length (λm (i:aN)=>l2 ck (λ(_:Row) (_:au) (a _ _:ay)=>ai a) (λ(_:Row) (_:au) (_ _ _:ay)=>ai (-1)) m d n 0 (d.length:ay) (i:ay)) ai (λm i hi hp=> ?_) (λm i hi hp=> ?_) (λm=> ?_) ck ez
 ·unfold j0.p at hp;simp only[l2,r2,c8,b_,dB,hi,aQ,aL,aw,Ir.v,hp]
 ·unfold j0.p at hp;simp only[l2,r2,c8,b_,dB,hi,aQ,aL,aw,Ir.v,hp,ax,cw hi (by omega:d.length<=9223372036854775807)]
 ·simp only[l2,r2,c8,bk,bg,ax]
end rK
namespace gQ
theorem ok(d:Row)(n:au)(hl:d.length<=4294967296):c d n=ao/\v d n=fi (j0.p d n) d.length 0:=by have h:=rK.ok d n hl;exact out d n (by unfold vo b;rw[h.1,h.2,aw])
end gQ
namespace sr
theorem ok(d:Row)(h:d.length<=1000000000):c d=ao/\v d=d:=by refine out d ?_;unfold vo b;rw[fA,b0 (by omega) (by omega)];rfl
end sr
namespace mi
open _root_.Go.FG.Lib (rd)
open dz (without)
theorem ok(l:aE Fi)(n:au)(hl:l.length<=1000000):c (rd l) n=ao/\v (rd l) n=rd (without l n):=by have a:=sr.ok (rd l) (by rw[dX];omega);have d:=vT.ok (rd l) n (dz.aeD l) (by rw[dX];omega);exact out _ _ (by unfold vo b;rw[a.1,a.2,d.1,d.2,dz.ahQ];rfl)
end mi
namespace kF
open _root_.Go.FG.Lib (rd)
open dz (without put S8)
def nw(n t:au)(k:ay):aE CV:=[CV.s n,CV.s t,CV.i ak k]
def pn(n:au)(y:aE CV):aY:=b7 (aG (br (y.getD 0 (.b aq)))) (aG n)
theorem ok(l:aE Fi)(n t:au)(k:ay)(hs:S8 l)(hl:l.length<=1000000):c (rd l) n t k=ao/\v (rd l) n t k=rd (put l ⟨n,t,k⟩):=by
 refine out _ _ _ _ ?_;have hd:=mi.ok l n hl;unfold vo b;rw[hd.1,hd.2,aw];have f:=dz.JW l n;have H:(without l n).filter (λx=>fX.eU x.n n)=l.filter λx=>fX.eU x.n n:=by
  unfold without;rw[o8];apply kr;intro y _;by_cases h:y.n=n
  ·rw[h,dz.irrefl];rfl
  ·rw[aF h];simp
 have I:(without l n).filter (λx=> !fX.eU x.n n)=l.filter λx=> !(fX.eU x.n n||decide (x.n=n)):=by unfold without;rw[o8];apply kr;intro y _;cases fX.eU y.n n<;>cases ah (y.n=n)<;>rfl
 have d:=Lib.yP (λx:Fi=>fX.eU x.n n) (λx=> !fX.eU x.n n) (without l n) (λ_ _=>rfl) ((dz.aan hs n).imp λ{y z} j N=>fK.oO _ _ _ j N);rw[H,I]at d;generalize without l n=o at f d
 have:=tc (pn n) (rd o) (λm (i:aN)=>l3 ck (λ(r:ay) (A B:au) (C:ay) (u:Row)=>bif(ah (0<=r)&&ah (r<=(↑(bB u):ay))&&b8 (bB u+bB (aP (aT [Ck.s,Ck.s,Ck.i ak] 1) 0 [CV.s A,CV.s B,CV.i ak C])) 40)then(ai (Pu.sR u (aR r) (aP (aT [Ck.s,Ck.s,Ck.i ak] 1) 0 [CV.s A,CV.s B,CV.i ak C])))else(aj)) m (i:ay) n t k (rd o))
  (λa=>bif ah ((a:ay)<=((rd o).length:ay))then ai (Pu.sR (rd o) a [nw n t k])else aj)
  (λm i h hp=>by
   have e:b7 (aG (br (av (rd o) i 0))) (aG n)=true:=by rw[cz h];exact hp
   simp only[l3,r3,c8,h,aQ,b_,aL,aw,dB,e,cw h (by rw[dX];omega:(rd o).length<=9223372036854775807)])
  (λm i h hp=>by
   have e:b7 (aG (br (av (rd o) i 0))) (aG n)=false:=by rw[cz h];exact hp
   simp only[l3,r3,c8,h,aQ,b_,aL,bj,gh,aw,ax,dB,e,gm,bu,b0 (n:=(rd o).length+1) (b:=40) (by rw[dX];omega) (by rw[dX];omega)];rfl)
  (λm=>by simp only[l3,r3,c8,bk,bg,aQ,b_,aL,bj,gh,aw,ax,dB,gm,bu,b0 (n:=(rd o).length+1) (b:=40) (by rw[dX];omega) (by rw[dX];omega)];rfl) ck (mS (by rw[dX];omega))
 refine this.trans ?_;have M:=DO (pn n) (rd o);rw[lJ,aw];unfold Pu.sR;rw[wO,v8];have K:pn n∘Fi.row=λx:Fi=>fX.eU x.n n:=rfl;unfold Lib.rd;rw[Mv,Mt,K,d.1,d.2];unfold put;rw[cO,cO];rfl
end kF
namespace qS
open _root_.Go.FG.Lib (rd el)
open dz (without put S8 rZ act FA jJ)
def res(o:aA (aE Fi)):Row×aY:=match o with|some d=>(rd d,ao)|none=>([],aq)
theorem find(l:aE Fi)(n:au):(fi (j0.p (rd l) n) l.length 0= -1/\l.find? (λx=>ah (x.n=n))=aj)\/∃i,i<l.length/\fi (j0.p (rd l) n) l.length 0=(i:ay)/\l.find? (λx=>ah (x.n=n))=ai (el l i):=by
 have hq:∀i (hi:i<l.length),j0.p (rd l) n i=ah (l[i].n=n):=λi hi=>by unfold j0.p;rw[Hz hi];exact eG
 rcases mO (j0.p (rd l) n) l.length 0 with ⟨e,d⟩|⟨k,_,hk,e,hp,f⟩
 ·refine .inl ⟨e,TP.2 λx m=> ?_⟩;obtain⟨i,hi,rfl⟩:=c7 m;rw[<-hq i hi,d i (by omega) (by omega)];simp
 ·have a:k<l.length:=by omega
  refine .inr ⟨k,a,e,?_⟩;rw[zp];exact⟨by rw[eT a,<-hq k a];exact hp,k,a,(eT a).symm,λj h=>by rw[<-hq j (by omega),f j (by omega) h];rfl⟩
theorem Wc(d:aE Fi)(h:d.length<=1000000):jO.c (rd d)=ao/\jO.v (rd d)=rZ d:=jO.ok (rd d) (by rw[dX];omega)
theorem PO(k:ay)(n t o:au):Ip.v k n t o=dz.jQ k t o:=by
 unfold Ip.v dz.jQ j4.v;rw[eG,eG];by_cases a:1<=k
 ·by_cases d:k<=4
  ·rw[aC a,aC d,aC (⟨a,d⟩:1<=k/\k<=4)];cases ah (t=⟨#[]⟩)<;>cases ah (o=⟨#[]⟩)<;>cases ah (k=1)<;>cases ah (k=3)<;>rfl
  ·rw[aC a,aF d,aF (show¬(1<=k/\k<=4)by omega)];rfl
 ·rw[aF a,aF (show¬(1<=k/\k<=4)by omega)];rfl
theorem ok(l:aE Fi)(k:ay)(n t o:au)(hl:l.length<=1000)(Q:t.size<=2305843009213693952):c (rd l) k n t o=ao/\v (rd l) k n t o=res (act l k n t o):=by
 refine out _ _ _ _ _ ?_;unfold vo b h0;have B:=gQ.ok (rd l) n (by rw[dX];omega);have C:=Wc l (by omega);rw[B.1,B.2,C.1,C.2,PO,aw,aw,dX];unfold act;cases hk:rZ l with
 |false=>rfl
 |true=>
 rw[aZ,ax,bj];obtain⟨S,N,s⟩:=jJ.1 hk;cases z:dz.jQ k t o with
 |false=>rfl
 |true=>
 rw[aZ,ax,aw];have K:1<=k/\k<=4:=by unfold dz.jQ at z;rw[aM]at z;exact cL z.1
 have x:=λ(m:aE Fi) (hm:S8 m) (M:m.length<=1000) (n t:au) (k:ay)=>kF.ok m n t k hm (by omega);have u:=mi.ok l n (by omega);have O:=dz.JW l n;have pl:=λ(m:aE Fi) (f:Fi) (hm:m.length<=1000)=>Wc (put m f) (cf (dz.rq f) (by omega));have fin:∀d:aE Fi,(bif !rZ d then ai (([]:Row),aq)else ai (rd d,ao))=ai (res (bif rZ d then ai d else aj)):=λd=>by cases rZ d<;>rfl
 unfold FA;rcases find l n with ⟨y,r⟩|⟨i,hi,y,r⟩
 ·rw[y,r];by_cases a:k=1
  ·subst a;have p:=x l s hl n (⟨#[]⟩++t) 0;have d:=pl l ⟨n,⟨#[]⟩++t,0⟩ hl;have H:(⟨#[]⟩:au)++t=t:=k8;rw[show ah ((-1:ay)<0)=ao from rfl,show ah ((-1:ay)≥0)=aq from rfl,show((1:ay) !=1)=aq from rfl,aw,ax,ax,aC (show(1:ay)=1 from rfl),aw,aC (show(⟨#[]⟩:au).size+t.size<=4611686018427387904 from by rw[show(⟨#[]⟩:au).size=0 from rfl];omega),aw,p.1,p.2,aw,d.1,d.2,aw,fin,H];rfl
  ·rw[show ah ((-1:ay)<0)=ao from rfl,aw,show(k !=1)=ao from bne_iff_ne.2 a,aw,bh a];rfl
 ·have P:(el l i).n=n:=by have:=D' r;exact cL this
  have I:((el l i).t.size:ay)<=20000:=by have:=N _ (jt hi);unfold dz.mX at this;simp only[aM,bf,dt,eR]at this;omega
  rw[y,r,aF (show¬((i:aN):ay)<0 by omega),aC (show((i:aN):ay)≥0 by omega),ax,aw];simp only[c8,hi,aQ,dB,wd0 hi,wd1 hi,wd2 hi,br,bN,aL,bj,aw];by_cases a:k=1
  ·subst a;have p:=x l s hl (el l i).n ((el l i).t++t) (el l i).kp;have d:=pl l ⟨(el l i).n,(el l i).t++t,(el l i).kp⟩ hl;rw[aC (show(1:ay)=1 from rfl),aw,aC (show(el l i).t.size+t.size<=4611686018427387904 by omega),aw,p.1,p.2,aw,d.1,d.2,aw,fin];rfl
  rw[aF a,ax,bh a];by_cases A:k=2
  ·subst A;have p:=x l s hl (el l i).n (el l i).t ((el l i).t.size:ay);have d:=pl l ⟨(el l i).n,(el l i).t,((el l i).t.size:ay)⟩ hl;rw[aC (show(2:ay)=2 from rfl),aw,p.1,p.2,aw,d.1,d.2,aw,fin];rfl
  rw[aF A,ax,bh A];by_cases k3:k=3
  ·subst k3;rw[aC (show(3:ay)=3 from rfl),aw,bm rfl];by_cases e:(el l i).kp=((el l i).t.size:ay)
   ·rw[show((el l i).kp !=((el l i).t.size:ay))=aq from by simp[e],ax,eG];by_cases j:o=n
    ·rw[aC j,aw,bm (.inr j)];rfl
    ·have p:=x (without l n) (dz.aan s n) (by omega) o (el l i).t (el l i).kp;have d:=pl (without l n) ⟨o,(el l i).t,(el l i).kp⟩ (by omega);rw[aF j,ax,u.1,u.2,aw,p.1,p.2,aw,d.1,d.2,aw,fin,bh (by rintro (h|h);exact h e;exact j h)]
   ·rw[show((el l i).kp !=((el l i).t.size:ay))=ao from bne_iff_ne.2 e,aw,bm (.inl e)];rfl
  rw[aF k3,ax,bh k3];have d:=Wc (without l n) (by omega);rw[u.1,u.2,aw,d.1,d.2,aw,fin]
end qS
namespace vL
theorem ok(l:Row)(hl:l.length<=4294967296):c l=ao/\v l=l:=by refine out l ?_;unfold vo b;rw[show bB (aT [Ck.s,Ck.i ak,Ck.i ak,Ck.s] 0)+l.length=l.length by simp[aT],b0 (by omega) (by omega)];rfl
end vL
namespace Cj
theorem ok(l:Row)(k:au)(e:l.all oJ.cn=ao)(hl:l.length<=4294967296):c l k=ao/\v l k=l.filter (oJ.keep k):=by have a:=vL.ok l hl;have d:=oJ.ok l k e hl;exact out l k (by unfold vo b;rw[a.1,a.2,d.1,d.2,aw,aw])
end Cj
namespace uf
theorem yP(p q:aE CV->aY):∀r:Row,(∀y∈r,q y= !p y)->r.Pairwise (λy z=>p z=ao->p y=ao)->r.takeWhile p=r.filter p/\r.dropWhile p=r.filter q
 |[],_,_=>⟨rfl,rfl⟩
 |y::r,hq,h=>by
  rw[p8]at h;have e:=hq y (by simp);cases hp:p y with
  |true=>rw[hp]at e;obtain⟨j,k⟩:=yP p q r (λz a=>hq z (by simp[a])) h.2;rw[pI hp,dy hp,List.dropWhile_cons_of_pos hp,cC (by rw[e];simp),j,k];exact⟨rfl,rfl⟩
  |false=>
   rw[hp]at e;have d:¬p y=true:=by rw[hp];simp
   have i:∀z∈r,p z=false:=λz a=>by
    cases f:p z with
    |false=>rfl
    |true=>exact cJ (h.1 z a f) d
   rw[pH d,cC d,List.dropWhile_cons_of_neg d,dy (by rw[e];rfl)];refine⟨?_,?_⟩
   ·symm;rw[List.filter_eq_nil_iff];intro z a;rw[i z a];simp
   ·congr 1;symm;rw[eh];intro z a;rw[hq z (by simp[a]),i z a];rfl
theorem aa1{r:Row}(h:∀y∈r,fK.cr y=y):r.all oJ.cn=true:=by rw[bz];intro y a;rw[<-h y a];rfl
theorem ok(r:Row)(k:au)(s l:ay)(t:au)(A:fK.Or r)(hl:r.length<=1048576):c r k s l t=ao/\v r k s l t=fK.val r k s l t:=by
 refine out r k s l t ?_;have hd:=Cj.ok r k (aa1 A.2) (by omega);unfold vo b;rw[hd.1,aw,hd.2];have C:(r.filter (oJ.keep k)).length<=r.length:=d_ _ _;have d:∀y,oJ.keep k y= !List.beq (fK.key y) (aG k):=λ_=>rfl;have f:=yP (fK.pl k) (fK.pg k) (r.filter (oJ.keep k)) (λy S=>by
  have x:=(da.1 S).2;rw[d]at x;have B:cQ (fK.key y) (aG k)=false:=by simpa using x
  unfold fK.pg fK.pl;rw[B,Bool.or_false]) ((A.1.sublist jv).imp (λ{y z} H U=>fK.oO _ _ _ H U))
 have K:(r.filter (oJ.keep k)).filter (fK.pl k)=r.filter (fK.pl k):=by
  rw[o8];apply kr;intro y _;cases h:fK.pl k y with
  |false=>rfl
  |true=>
   rw[d,bj];cases x:cQ (fK.key y) (aG k)with
   |false=>rfl
   |true=>exfalso;have B:=beq_iff.1 x;unfold fK.pl at h;rw[B,fK.oj]at h;cases h
 have M:(r.filter (oJ.keep k)).filter (fK.pg k)=r.filter (fK.pg k):=by rw[o8];apply kr;intro y _;rw[d];unfold fK.pg;cases cQ (fK.key y) (aG k)<;>cases b7 (fK.key y) (aG k)<;>rfl
 generalize r.filter (oJ.keep k)=o at C f K M
 have:=tc (fK.pl k) o (λm (i:aN)=>l3 ck (λ(I:ay) (N:au) (O P:ay) (u:au) (j:Row)=>bif(ah (0<=I)&&ah (I<=(↑(bB j):ay))&&b8 (bB j+bB (aP (aT [Ck.s,Ck.i ak,Ck.i ak,Ck.s] 1) 0 [CV.s N,CV.i ak O,CV.i ak P,CV.s u])) 48)then(ai (Pu.sR j (aR I) (aP (aT [Ck.s,Ck.i ak,Ck.i ak,Ck.s] 1) 0 [CV.s N,CV.i ak O,CV.i ak P,CV.s u])))else(aj)) m (i:ay) k s l t o)
  (λa=>bif ah ((a:ay)<=(o.length:ay))then ai (Pu.sR o a [fK.nw k s l t])else aj)
  (λm i h hp=>by
   have e:b7 (aG (br (av o i 0))) (aG k)=true:=by rw[cz h];exact hp
   simp only[l3,r3,c8,h,aQ,b_,aL,aw,dB,e,cw h (by omega:o.length<=9223372036854775807)])
  (λm i h hp=>by
   have e:b7 (aG (br (av o i 0))) (aG k)=false:=by rw[cz h];exact hp
   simp only[l3,r3,c8,h,aQ,b_,aL,bj,gh,aw,ax,dB,e,gm,bu,b0 (n:=o.length+1) (b:=48) (by omega) (by omega)];rfl)
  (λm=>by simp only[l3,r3,c8,bk,bg,aQ,b_,aL,bj,gh,aw,ax,dB,gm,bu,b0 (n:=o.length+1) (b:=48) (by omega) (by omega)];rfl) ck ez
 refine this.trans ?_;have Q:=DO (fK.pl k) o;rw[lJ,aw];unfold Pu.sR fK.val;rw[wO,v8,f.1,f.2,K,M,fK.Fv A.2,fK.Fv A.2]
end uf
namespace ue
theorem ok(d:Row)(n:au)(hl:d.length<=4294967296):c d n=ao/\v d n=lI.val d n:=by
 refine out d n ?_;have h:=gQ.ok d n hl;unfold vo b lI.val;rw[h.1,h.2,aw];by_cases a:fi (j0.p d n) d.length 0<0
 ·rw[aC a,bm a];rfl
 ·have e:=lI.FN d n a;rw[aF a,bh a,ax,aC e.1,aC e.2];rfl
end ue
namespace rU
def nm:au:=(az #[ar 107,ar 101,ar 112,ar 116])
theorem both(a:Row)(P:a.length<=20000):∀(d i:aN) (o:Row) (n m:aN),a.length-i<=d->i<=a.length->fK.Or o->o.length<=i->d<n->d<m->
  ∃L:Row,U101.l7 ck (λ(_ _:ay) (O:Row) (_:Row)=>ai O) n (a.length:ay) (i:ay) o a=ai L/\l7 ck (λ(_:ay) (N _:Row)=>ai N) m (i:ay) o a=ai L/\fK.Or L/\L.length<=20000:=by
 have y:∀t,uY.v t=jD.v t:=λ_=>rfl;intro d;induction d with
 |zero=>
  intro i o n m B C h H I K;obtain⟨n,rfl⟩:∃x,n=x+1:=⟨n-1,by omega⟩
  obtain⟨m,rfl⟩:∃u,m=u+1:=⟨m-1,by omega⟩
  have e:ah ((i:ay)<(a.length:ay))=false:=aF (by omega);exact⟨o,by simp only[U101.l7,U101.r7,e,ax],by simp only[l7,r7,e,ax],h,by omega⟩
 |succ d ih=>
  intro i o n m B C h H I K;obtain⟨n,rfl⟩:∃x,n=x+1:=⟨n-1,by omega⟩
  obtain⟨m,rfl⟩:∃u,m=u+1:=⟨m-1,by omega⟩
  by_cases hi:i<a.length
  ·have j:bE ((i:ay)+1)=((i+1:aN):ay):=dq (by omega) (by omega);cases f:(jD.v (br (av a i 0))).2.2.2.2 with
   |false=>
    obtain⟨L,k,r,s,g4⟩:=ih (i+1) o n m (by omega) hi h (by omega) (by omega) (by omega);refine⟨L,?_,?_,s,g4⟩
    ·simp only[U101.l7,U101.r7,c8,hi,aQ,b_,aL,aw,dB,y,f,ax,j];exact k
    ·simp only[l7,r7,c8,hi,aQ,b_,aL,aw,dB,f,ax,j];exact r
   |true=>
    have z:=fK.ok o (jD.v (br (av a i 0))).1 (jD.v (br (av a i 0))).2.1 (jD.v (br (av a i 0))).2.2.1 (jD.v (br (av a i 0))).2.2.2.1 (by omega);have A:=uf.ok o (jD.v (br (av a i 0))).1 (jD.v (br (av a i 0))).2.1 (jD.v (br (av a i 0))).2.2.1 (jD.v (br (av a i 0))).2.2.2.1 h (by omega);have M:=fK.wq h (jD.v (br (av a i 0))).1 (jD.v (br (av a i 0))).2.1 (jD.v (br (av a i 0))).2.2.1 (jD.v (br (av a i 0))).2.2.2.1;obtain⟨L,k,r,s,g4⟩:=ih (i+1) _ n m (by omega) hi M.1 (by omega) (by omega) (by omega);refine⟨L,?_,?_,s,g4⟩
    ·simp only[U101.l7,U101.r7,c8,hi,aQ,b_,aL,aw,dB,y,f,A.1,A.2,j];exact k
    ·simp only[l7,r7,c8,hi,aQ,b_,aL,aw,dB,f,z.1,z.2,j];exact r
  ·have e:ah ((i:ay)<(a.length:ay))=false:=aF (by omega);exact⟨o,by simp only[U101.l7,U101.r7,e,ax],by simp only[l7,r7,e,ax],h,by omega⟩
theorem same(d:Row)(hd:d.length<=1048576):∃L:Row,(c d=ao/\v d=L)/\(U101.c d=ao/\U101.v d=L)/\(∀y∈L,y.length=4)/\L.length<=20000:=by
 have f:=fD.ok d (by omega);have h:=jO.ok d (by omega);cases e:fD.val d with
 |false=>
  refine⟨[],out d ?_,U101.out d ?_,λy a=>(by cases a),bA _⟩
  ·unfold vo b;rw[f.1,f.2,e];rfl
  ·unfold U101.vo U101.b;rw[h.1,h.2,e];rfl
 |true=>
  have k3:=lI.ok d nm (by omega);have i:=ue.ok d nm (by omega);obtain⟨R,j,k,s⟩:=rV.same (lI.val d nm).1;obtain⟨L,m,o,r,g4⟩:=both R.1 s R.1.length 0 [] ck ck (by omega) (bA _) ⟨gH,λy a=>(by cases a)⟩ (bA _) ez ez;refine⟨L,out d ?_,U101.out d ?_,λy a=>(by rw[<-r.2 y a];rfl),g4⟩
  ·unfold nm at k3 j;unfold vo b;rw[f.1,f.2,e,aw,aZ,ax,k3.1,aw,k3.2,j.1,aw,j.2];exact o
  ·unfold nm at i k;unfold U101.vo U101.b;rw[h.1,h.2,e,aw,aZ,ax,i.1,aw,i.2,k.1,aw,k.2];exact m
end rU
namespace H5
def kept:au:=(az #[ar 107,ar 101,ar 112,ar 116])
def jR(f:au):Row:=[[CV.i ak 1,CV.s kept,CV.s f,CV.s (az #[])],[CV.i ak 2,CV.s kept,CV.s (az #[]),CV.s (az #[])]]
def val(k:au)(s l:ay)(b:au):Row×aY:=if gu.v k s l b=ao then(jR (fj.fr (jr.sa k s l b)),ao)else([],aq)
theorem ok(k:au)(s l:ay)(a:au):c k s l a=ao/\v k s l a=val k s l a:=by
 refine out k s l a ?_;have d:=mh.ok k s l a;unfold vo b val;rw[d.1,d.2];unfold mh.val;by_cases h:gu.v k s l a=ao
 ·rw[bm h,bm h];rfl
 ·rw[bh h,bh h];rfl
end H5
namespace iK
open _root_.Go.FG.Lib (rd rs el En)
open dz (rZ jJ act jR FA put without ra Ac mX)
open fX (So mB eU)
open Tx (fs Stop)
abbrev qz:au:=(az #[ar 107,ar 101,ar 112,ar 116])
def sa(e:En):au:=jr.sa e.k e.st e.li e.bo
def Dk(e:En):aY:=gu.v e.k e.st e.li e.bo
def Gl(e:En):au:=fj.fr (sa e)
def tx(es:aE En):au:=fs (es.map sa)
def kp(es:aE En):aE En:=es.foldl mB []
theorem abc(a b:aE au):fs (a++b)=fs a++fs b:=by
 induction a with
 |nil=>exact k8.symm
 |cons x a ih=>rw[nD];show fj.fr x++fs (a++b)=fj.fr x++fs a++fs b;rw[ih,c_]
theorem WD(es:aE En)(e:En):tx (es++[e])=tx es++Gl e:=by unfold tx;rw[cO,abc];show fs (es.map sa)++(fj.fr (sa e)++⟨#[]⟩)=_;rw[show(⟨#[]⟩:au)=Gf from rfl,pX];rfl
theorem WE(h:Dk e=ao):1<=(sa e).size/\(sa e).size<=1000:=⟨mh.Av h,mh.tf h⟩
theorem yM(h:So en)(e:En):So (mB en e):=by have:=(fK.wq (fX.BI h) e.k e.st e.li e.bo).1.1;rw[fX.s7]at this;unfold Lib.re at this;rw[j3]at this;exact this
theorem pB:x∈mB en e↔x=e\/(x∈en/\x.k≠e.k):=by
 unfold mB;simp only[bc,da,a_,dt,h_,eR];constructor
 ·rintro ((⟨d,a⟩|rfl)|⟨d,a⟩)
  ·refine .inr ⟨d,λf=> ?_⟩;rw[f]at a;unfold eU at a;rw[fK.oj]at a;cases a
  ·exact .inl rfl
  ·exact .inr ⟨d,a.2⟩
 ·rintro (rfl|⟨d,a⟩)
  ·exact .inl (.inr rfl)
  ·cases hl:eU x.k e.k with
   |true=>exact .inl (.inl ⟨d,rfl⟩)
   |false=>exact .inr ⟨d,rfl,a⟩
theorem abA(h:x∈kp es):x∈es:=by
 have:∀(es o:aE En),x∈es.foldl mB o->x∈o\/x∈es:=by
  intro es;induction es with
  |nil=>intro o h;exact .inl h
  |cons e es ih=>
   intro o h;rcases ih _ h with h|h
   ·rcases pB.1 h with rfl|h
    ·exact .inr (by simp)
    ·exact .inl h.1
   ·exact .inr (by simp[h])
 rcases this es [] h with h|h
 ·cases h
 ·exact h
theorem Jd(es:aE En):(kp es).length<=es.length:=by
 have:∀(es o:aE En),So o->(es.foldl mB o).length<=o.length+es.length:=by
  intro es;induction es with
  |nil=>intro o h;exact bT _
  |cons e es ih=>intro o h;have:=ih _ (yM h e);have:=fX.rq o e h;simp only[oF,bR];omega
 have:=this es [] gH;rw[jz,bV]at this;exact this
theorem fileAt(d:aE Fi)(n:au):lI.val (rd d) n=match d.find? (λx=>ah (x.n=n))with|some f=>(f.t,ao)|none=>(⟨#[]⟩,aq):=by
 unfold lI.val;rw[dX];rcases qS.find d n with ⟨a,e⟩|⟨i,hi,a,e⟩
 ·rw[a,e];rfl
 ·rw[a,e,bh (by omega),dG,wd1 hi];rfl
theorem ak5(es:aE En)(x:∀e∈es,Dk e=ao)(hl:es.length<=20000):∀(d i n:aN) (o:aE En),es.length-i<=d->i<=es.length->So o->o.length<=i->d<n->
  U101.l7 ck (λ(_ _:ay) (z:Row) (_:Row)=>ai z) n (es.length:ay) (i:ay) (re o) (rs (es.map sa))=ai (re ((es.drop i).foldl mB o)):=by
 have j:∀t,uY.v t=jD.v t:=λ_=>rfl;intro d;induction d with
 |zero=>
  intro i n o m r a s u;obtain⟨n,rfl⟩:∃h,n=h+1:=⟨n-1,by omega⟩
  have:i=es.length:=by omega
  subst this;simp only[U101.l7,U101.r7,c8,bk,bg,ax,cX,ua]
 |succ d ih=>
  intro i n o m r a s u;obtain⟨n,rfl⟩:∃h,n=h+1:=⟨n-1,by omega⟩
  by_cases hi:i<es.length
  ·have f:i<(es.map sa).length:=by simpa using hi
   have hk:=x _ (bw hi);have y:jD.v (sa es[i])=(es[i].k,es[i].st,es[i].li,es[i].bo,ao):=jD.enc _ _ _ _ hk;have hp:=uf.ok (re o) es[i].k es[i].st es[i].li es[i].bo (fX.BI a) (by rw[dv];omega);rw[fX.s7 o es[i]]at hp;have hg:(es.map sa)[i]=sa es[i]:=by simp
   simp only[U101.l7,U101.r7,c8,hi,Lib.cy,bJ,aQ,b_,aL,aw,dB,To f,hg,br,j,y,hp.1,hp.2,cw hi (by omega:es.length<=9223372036854775807)];rw[cq hi,oF];exact ih (i+1) n _ (by omega) hi (yM a _) (by have:=fX.rq o es[i] a;omega) (by omega)
  ·have:i=es.length:=by omega
   subst this;simp only[U101.l7,U101.r7,c8,bk,bg,ax,cX,ua]
theorem fk(d:aE Fi)(es:aE En)(z:au)(hd:rZ d=ao)(k:(lI.val (rd d) qz).1=tx es++z)(j:∀e∈es,Dk e=ao)(y:Stop z):
  (U101.c (rd d)=ao/\U101.v (rd d)=re (kp es))/\(rU.c (rd d)=ao/\rU.v (rd d)=re (kp es)):=by
 obtain⟨C,A,H⟩:=jJ.1 hd;have hs:(tx es++z).size<=20000:=by
  rw[<-k,fileAt];cases h:d.find? (λx=>ah (x.n=qz))with
  |none=>exact bA _
  |some f=>have:=A f (p7 h);unfold mX at this;simp only[aM,bf,dt,eR]at this;show f.t.size<=20000;omega
 have hl:es.length<=20000:=by
  have:∀es:aE En,es.length<=(tx es).size:=by
   intro es;induction es with
   |nil=>exact bT _
   |cons e es ih=>
    have:(tx (e::es)).size=(Gl e).size+(tx es).size:=dA;have r:4<=(Gl e).size:=by unfold Gl fj.fr;rw[dA,dA,Tx.ot];omega
    rw[this,bR];omega
  have r:=this es;rw[dA]at hs;omega
 have u:=Tx.ok (es.map sa) (λx s=>by obtain⟨e,h,rfl⟩:=cN.1 s;have:=WE (j e h);omega) z y hs;have m:=qS.Wc d (by omega);have o:=ue.ok (rd d) qz (by rw[dX];omega);have i:=U101.out (rd d) (x:=re (kp es)) (by unfold U101.vo U101.b;rw[m.1,m.2,hd,aw,aZ,ax,o.1,aw,o.2,k];have a:=u.1;rw[show fs (es.map sa)=tx es from rfl]at a;rw[a.1,aw,a.2];dsimp only;rw[Lib.cy,bJ];have:=ak5 es j hl es.length 0 ck [] (by omega) (bA _) gH (bA _) ez;rw[eK]at this;exact this);obtain⟨L,s1,B,_⟩:=rU.same (rd d) (by rw[dX];omega);refine⟨i,s1.1,?_⟩
 rw[s1.2,<-B.2,i.2]
def base:aA au->aE Fi
 |none=>[]|some t=>[⟨qz,t,t.size⟩]
def bt:aA au->au|none=>⟨#[]⟩|some t=>t
def rM(f:au):aE Ac:=[⟨1,qz,f,⟨#[]⟩⟩,⟨2,qz,⟨#[]⟩,⟨#[]⟩⟩]
theorem ok1(f:Fi):rZ [f]=mX f:=by
 cases h:mX f with
 |true=>exact jJ.2 ⟨by simp,λg hg=>by rw[a_.1 hg];exact h,by unfold dz.S8;simp⟩
 |false=>
  cases a:rZ [f]with
  |false=>rfl
  |true=>have:=(jJ.1 a).2.1 f (by simp);rw[h]at this;cases this
theorem abb(t:au)(k:ay)(d:t.size<=20000)(a:0<=k/\k<=(t.size:ay)):mX ⟨qz,t,k⟩=true:=by unfold mX;have:((qz.size:aN):ay)=4:=rfl;rw[this,lJ,aC a,aF (by dsimp only;omega)];rfl
theorem tB(h:(bt o).size<=20000):rZ (base o)=true:=by
 cases o with
 |none=>exact jJ.2 ⟨bA _,⟨λf a=>(by cases a),gH⟩⟩
 |some t=>exact(ok1 _).trans (abb t _ h ⟨by omega,by omega⟩)
theorem wz(h:g.n=f.n):put [g] f=[f]:=by unfold put;rw[cC (by rw[h,dz.irrefl];simp),cC (by simp[h])];rfl
theorem aaL(h:(bt o).size+f.size<=20000):act (base o) 1 qz f ⟨#[]⟩=ai [⟨qz,bt o++f,(bt o).size⟩]:=by
 unfold act;rw[tB (by omega),show dz.jQ 1 f ⟨#[]⟩=ao from by unfold dz.jQ;simp,aL,aw];have hs:(bt o++f).size<=20000:=by rw[dA];omega
 have a:FA (base o) 1 qz f ⟨#[]⟩=ai [⟨qz,bt o++f,(bt o).size⟩]:=by
  cases o with
  |none=>unfold FA;show(if(1:ay)=1 then ai (put [] ⟨qz,f,0⟩)else aj)=_;rw[bm rfl];show ai [(⟨qz,f,0⟩:Fi)]=ai [⟨qz,(⟨#[]⟩:au)++f,((⟨#[]⟩:au).size:ay)⟩];rw[show(⟨#[]⟩:au)++f=f from k8];rfl
  |some t=>unfold FA;rw[show(base (ai t)).find? (λx=>ah (x.n=qz))=ai ⟨qz,t,t.size⟩from by unfold base;simp];dsimp only;rw[bm rfl];exact ic ai (wz rfl)
 rw[a];dsimp only;rw[ok1,abb _ _ hs ⟨by omega,by rw[dA];omega⟩];rfl
theorem UN{k:ay}(h:t.size<=20000)(hk:0<=k/\k<=(t.size:ay)):act [⟨qz,t,k⟩] 2 qz ⟨#[]⟩ ⟨#[]⟩=ai (base (ai t)):=by
 unfold act;rw[ok1,abb _ _ h hk,show dz.jQ 2 ⟨#[]⟩ ⟨#[]⟩=ao from by unfold dz.jQ;simp,aL,aw];have a:FA [⟨qz,t,k⟩] 2 qz ⟨#[]⟩ ⟨#[]⟩=ai (base (ai t)):=by unfold FA;rw[show([⟨qz,t,k⟩]:aE Fi).find? (λx=>ah (x.n=qz))=ai ⟨qz,t,k⟩from by simp];dsimp only;rw[bh (by omega),bm rfl];exact ic ai (wz rfl)
 rw[a];dsimp only;rw[tB (o:=ai t) h];rfl
theorem QL(h:(bt o).size+f.size<=20000):jR (base o) 0 (rM f)=(base (ai (bt o++f)),2):=by have hs:(bt o++f).size=(bt o).size+f.size:=dA;unfold rM jR;dsimp only;rw[aaL h];dsimp only;unfold jR;dsimp only;rw[UN (by omega) ⟨by omega,by omega⟩];rfl
theorem MA(o:aA au):(lI.val (rd (base o)) qz).1=bt o:=by
 rw[fileAt];cases o with
 |none=>rfl
 |some t=>rw[show(base (ai t)).find? (λx=>ah (x.n=qz))=ai ⟨qz,t,t.size⟩from by unfold base;simp];rfl
def kd(es:aE En):aE Fi:=base (match es with|[]=>aj|_=>ai (tx es))
theorem ake(es:aE En):∃o,kd es=base o/\bt o=tx es:=by
 cases es with
 |nil=>exact⟨aj,rfl,rfl⟩
 |cons e es=>exact⟨ai (tx (e::es)),rfl,rfl⟩
end iK
namespace eV
def has(l:aE au)(k:au):aY:=l.any λx=>ah (x=k)
def without(l:aE au)(k:au):aE au:=l.filter λx=> !decide (x=k)
theorem gl:has l k=ao↔k∈l:=by unfold has;simp
theorem kY:has l k=aq↔k∉l:=by rw[<-gl];cases has l k<;>simp
theorem vm(h:has l k=aq):without l k=l:=by unfold without;rw[eh];intro x a;have:=kY.1 h;simp;intro e;subst e;exact this a
theorem gV:(without l k).length<=l.length:=d_ ..
theorem o0(h:has l k=ao):(without l k).length<l.length:=by unfold without;refine List.length_filter_lt_length_iff_exists.2 ⟨k,gl.1 h,by simp⟩
theorem ok(l:aE au)(k:au)(hl:l.length<=4294967296):c (Lib.rs l) k=ao/\v (Lib.rs l) k=has l k:=by
 refine out _ _ ?_;unfold vo b
 have:=AZ l (λx=>ah (x=k)) (λm (i:aN)=>l2 ck (λ(_:Row) (_:au) (a:aY) (_:ay)=>ai a) (λ(_:Row) (_:au) (_:aY) (_:ay)=>ai aq) m (Lib.rs l) k aq (i:ay)) (ai ao) (ai aq)
  (λm i h hp=>by simp only[l2,r2,Lib.cy,c8,h,aQ,b_,aL,aw,dB,To h,br,eG,hp])
  (λm i h hp=>by simp only[l2,r2,Lib.cy,c8,h,aQ,b_,aL,aw,dB,To h,br,eG,hp,ax,cw h (by omega:l.length<=9223372036854775807)])
  (λm=>by simp only[l2,r2,Lib.cy,c8,bk,bg,ax]) ck ez
 refine this.trans ?_;unfold has;cases l.any λx=>ah (x=k)<;>rfl
end eV
namespace uZ
theorem ok(l:Row)(hl:l.length<=4294967296):c l=ao/\v l=l:=by refine out l ?_;unfold vo b;rw[show bB (aT [Ck.i ak] 0)+l.length=l.length by simp[aT],b0 (by omega) (by omega)];rfl
end uZ
namespace iV
def n9(s:aE (aE ay)):Prop:=s.length<=1048576/\∀q∈s,q.length<=1048576
theorem run(N:aN)(K0:Row->ay->ay->ay->ay->aA R)(K1:Row->ay->ay->ay->ay->Row->aA R)(s:aE (aE ay))(z a:ay)(j:n9 s)(m:aN)(hm:s.length+1<m)(f:Row->aA R)
  (h0:s=[]->K0 (rr s) 0 0 z a=f []) (o:K1 (rr s) s.length s.length z a (rr s)=f (rr s)):l3 N K0 K1 m (rr s) (s.length:ay) 0 z a=f (rr s):=by
 obtain⟨m,rfl⟩:∃r,m=r+1:=⟨m-1,by omega⟩
 have d:∀i (h:i<s.length),uZ.c (Lib.ri s[i])=ao/\uZ.v (Lib.ri s[i])=Lib.ri s[i]:=λi h=>uZ.ok _ (by rw[Lib.fa];have:=j.2 _ (bw h);omega);by_cases hs:s=[]
 ·subst hs;simp only[l3,r3,jz,S4,Int.lt_irrefl,bg,ax];exact h0 rfl
 ·have hp:0<s.length:=NL.2 hs;have key:=im (R:=R) s.length (λm i (x:Row)=>nT N K0 K1 m (rr s) (s.length:ay) (i:ay) z a x) (λi=>rr (s.take i)) (f (rr s)) (λm i h=>by
   have hl:=j.1;simp only[nT,uw,c8,h,aQ,aw,b_,bj,gC,dB,H8 h,iH,(d i h).1,(d i h).2,pc,bu];rw[b0 (by rw[du];omega) (by rw[du];omega),aw,cw h (by omega)];have:=ov (λq=>[CV.l 3 (Lib.ri q)]) s i h;unfold rr;rw[<-this]) (λm=>by
   simp only[nT,uw,c8,bk,bg,ax,cE];exact o) m 1 hp (by omega)
  simp only[l3,r3,aC (show(0:ay)<(s.length:ay)by omega),aw,aL,gC,show ah ((0:ay)<=0)=ao from rfl];have e:=d 0 hp;have k:=H8 (l:=s) hp;simp only[show aR 0=0 from rfl,k,iH,e.1,e.2,aw,pc,eJ];rw[show bE (0+1)=((1:aN):ay)from rfl];refine Eq.trans ?_ key;have:=ov (λq=>[CV.l 3 (Lib.ri q)]) s 0 hp;unfold rr;rw[show(0+1)=1 from rfl]at this;rw[<-this];rfl
theorem ok(s:aE (aE ay))(a:ay)(f:n9 s):c (rr s) a=ao/\v (rr s) a=(rr s,a):=by refine out _ _ ?_;unfold vo b;rw[gC];exact run ck (λ_ _ _ _ y=>ai ([],y)) (λ_ _ _ _ d e=>ai (e,d)) s 0 a f ck (mS (by have:=f.1;omega)) (λx=>ai (x,a)) (λ_=>rfl) rfl
end iV
namespace fc
def Lq(n:ay):aY:=ah (0<=n/\n<=15)
def rP(q:aE ay):aY:=ah (q.length=16)&&q.all Lq
def nL(s:aE (aE ay))(a:ay):aY:=ah (s.length=3)&&(ah (0<=a/\a<=63)&&s.all rP)
theorem et(n a b:ay):jX.v n a b=ah (a<=n/\n<=b):=by
 unfold jX.v;by_cases d:a<=n
 ·rw[aC (show n≥a from d),aw];by_cases e:n<=b<;>simp[d,e]
 ·rw[aF (show¬n≥a from d),ax];simp[d]
theorem ok(s:aE (aE ay))(a:ay)(u:iV.n9 s):c (rr s) a=ao/\v (rr s) a=nL s a:=by
 refine out _ _ ?_;unfold vo b nL;rw[gC];by_cases f:¬s.length=3
 ·rw[show((s.length:ay) !=3)=ao by simp;omega,aF f];rfl
 have f:s.length=3:=Decidable.not_not.1 f;rw[show((s.length:ay) !=3)=aq by simp;omega,aC f,ax,et];cases x:ah (0<=a/\a<=63)with
 |false=>rfl
 |true=>
  rw[aZ,ax,bj,bj];have d:∀i (h:i<s.length) (K0 K1:aY->ay->ay->Row->ay->aA aY) (k o:aA aY) (h0:∀j:ay,K0 aq i j (rr s) a=k) (t:∀j:ay,K1 aq i j (rr s) a=o),l9 ck K0 K1 ck aq (i:ay) 0 (rr s) a=bif(s[i]).all Lq then o else k:=λi h K0 K1 k o h0 t=>
   oM (s[i]) Lq (λm (j:aN)=>l9 ck K0 K1 m aq (i:ay) (j:ay) (rr s) a) k o
    (λm j e hp=>by have hl:=u.2 _ (bw h);unfold Lq at hp;simp only[l9,r9,gC,c8,h,aQ,b_,aL,aw,dB,H8 h,iH,Lib.fa,e,NW e,bN,et,hp,aZ,ax,cw e (by omega:s[i].length<=9223372036854775807)])
    (λm j e hp=>by unfold Lq at hp;simp only[l9,r9,gC,c8,h,aQ,b_,aL,aw,dB,H8 h,iH,Lib.fa,e,NW e,bN,et,hp,bG,h0])
    (λm=>by simp only[l9,r9,gC,c8,h,aQ,b_,aL,aw,dB,H8 h,iH,Lib.fa,bk,bg,ax,t]) ck (mS (by have:=u.2 _ (bw h);omega))
  have key:=oM s rP (λm (i:aN)=>l4 ck (λ(r:aY) (_:ay) (_:Row) (_:ay)=>ai r) (λ(_:aY) (_:ay) (_:Row) (_:ay)=>ai ao) m aq (i:ay) (rr s) a) (ai aq) (ai ao)
   (λm i h hp=>by unfold rP at hp;rw[aM]at hp;have hl:=cL hp.1;simp only[l4,r4,gC,c8,h,aQ,b_,aL,aw,dB,H8 h,iH,Lib.fa,hl,show(((16:aN):ay) !=16)=aq from rfl,ax];rw[d i h _ _ _ _ (λ_=>rfl) (λ_=>rfl),hp.2,aw,cw h (by omega)])
   (λm i h hp=>by
    unfold rP at hp;by_cases hl:s[i].length=16
    ·rw[aC hl,bj]at hp;simp only[l4,r4,gC,c8,h,aQ,b_,aL,aw,dB,H8 h,iH,Lib.fa,hl,show(((16:aN):ay) !=16)=aq from rfl,ax];rw[d i h _ _ _ _ (λ_=>rfl) (λ_=>rfl),hp,ax]
    ·simp only[l4,r4,gC,c8,h,aQ,b_,aL,aw,dB,H8 h,iH,Lib.fa,show((s[i].length:ay) !=16)=ao by simp;omega])
   (λm=>by simp only[l4,r4,gC,c8,bk,bg,ax]) ck ez
  refine key.trans ?_;cases s.all rP<;>rfl
end fc
namespace jx
open _root_.Go.FG.Lib (rs)
open eV (has without gl kY)
def eC(k:au):aY:=ah (1<=(k.size:ay)/\(k.size:ay)<=30)
def Jb(l:aE au)(i:aN):aY:=eC (l.getD i ⟨#[]⟩)&& !has (l.take i) (l.getD i ⟨#[]⟩)
def mQ(l:aE au):aY:=(cT l.length).all (Jb l)
def sg(w m:aE au)(s:aE (aE ay))(a:ay):aY:=mQ (w++m)&&(ah (w.length<=2)&&(ah (m.length<=4)&&fc.nL s a))
theorem iq(k:au):sw.v k=eC k:=fc.et _ _ _
theorem wQ(l:aE au)(i:aN):dR (Lib.rs l) (aR 0) i=Lib.rs (l.take i):=by unfold dR Lib.rs;rw[show aR 0=0 from rfl,eK,og,List.map_take]
theorem ok(w m:aE au)(s:aE (aE ay))(a:ay)(z:w.length<=1048576)(hm:m.length<=1048576)(x:iV.n9 s):c (rs w) (rs m) (rr s) a=ao/\v (rs w) (rs m) (rr s) a=sg w m s a:=by
 refine out _ _ _ _ ?_;have t:=fc.ok s a x;unfold vo b;have r1:b8 (bB (aT [Ck.s] 0)+bB (rs w)) 16=true:=b0 (by simp[aT,Lib.cy];omega) (by simp[aT,Lib.cy];omega);have r2:b8 (bB (aT [Ck.s] 0++rs w)+bB (rs m)) 16=true:=b0 (by simp[aT,Lib.cy];omega) (by simp[aT,Lib.cy];omega);have e:aT [Ck.s] 0++rs w++rs m=rs (w++m):=by rw[show aT [Ck.s] 0++rs w=rs w from rfl];unfold Lib.rs;rw[cO]
 rw[r1,r2,aw,aw,e];have hl:(w++m).length<=2097152:=by rw[bW];omega
 have d:∀i,i<(w++m).length->eV.c (rs ((w++m).take i)) ((w++m).getD i ⟨#[]⟩)=ao/\eV.v (rs ((w++m).take i)) ((w++m).getD i ⟨#[]⟩)=has ((w++m).take i) ((w++m).getD i ⟨#[]⟩):=λi hi=>eV.ok _ _ (by rw[du];omega);have hk:∀i (hi:i<(w++m).length),br (av (rs (w++m)) i 0)=(w++m).getD i ⟨#[]⟩:=λi hi=>by rw[To hi,show(w++m).getD i ⟨#[]⟩=(w++m)[i]by rw[dK,e8 hi];rfl];rfl
 generalize u:w++m=L at hl d hk
 have key:=jE (Jb L) L.length (λn (i:aN)=>l3 ck (λ(y:aY) (_:ay) (_ _ _:Row) (_:ay) (_:Row)=>ai y) (λ(_:aY) (_:ay) (o r f:Row) (h:ay) (_:Row)=>bif(ah ((↑(bB o):ay)<=2))then(bif(ah ((↑(bB r):ay)<=4))then(bif(fc.c f h)then(ai (fc.v f h))else(aj))else(ai aq))else(ai aq)) n aq (i:ay) (rs w) (rs m) (rr s) a (rs L)) (ai aq) (ai (ah (w.length<=2)&&(ah (m.length<=4)&&fc.nL s a)))
  (λn i hi hp=>by
   unfold Jb at hp;rw[aM,dt]at hp;have j:fU 0 (i:ay) (L.length:ay)=true:=by simp[fU];omega
   simp only[l3,r3,Lib.cy,c8,hi,aQ,b_,aL,aw,dB,hk i hi,iq,hp.1,aZ,ax,j,wQ,(d i hi).1,(d i hi).2,hp.2,cw hi (by omega:L.length<=9223372036854775807)])
  (λn i hi hp=>by
   have j:fU 0 (i:ay) (L.length:ay)=true:=by simp[fU];omega
   unfold Jb at hp;cases k:eC (L.getD i ⟨#[]⟩)with
   |false=>simp only[l3,r3,Lib.cy,c8,hi,aQ,b_,aL,aw,dB,hk i hi,iq,k,bG]
   |true=>rw[k,bj,p6]at hp;simp only[l3,r3,Lib.cy,c8,hi,aQ,b_,aL,aw,dB,hk i hi,iq,k,aZ,ax,j,wQ,(d i hi).1,(d i hi).2,hp])
  (λn=>by simp only[l3,r3,Lib.cy,c8,bk,bg,ax,t.1,t.2,aw];rw[show ah ((w.length:ay)<=2)=ah (w.length<=2)by rw[bZ];omega,show ah ((m.length:ay)<=4)=ah (m.length<=4)by rw[bZ];omega];cases ah (w.length<=2)<;>cases ah (m.length<=4)<;>rfl) ck ez
 refine key.trans ?_;unfold sg mQ;rw[u];cases (cT L.length).all (Jb L)<;>rfl
end jx
namespace sD
open _root_.Go.FG.Lib (rs)
open eV (has)
theorem ok(w m:aE au)(s:Row)(a:ay)(k:au)(f:w.length<=1048576)(hm:m.length<=1048576):c (rs w) (rs m) s a k=ao/\v (rs w) (rs m) s a k=(has w k||has m k):=by have d:=eV.ok w k (by omega);have e:=eV.ok m k (by omega);exact out _ _ _ _ _ (by unfold vo b;rw[d.1,d.2,e.1,e.2,aw,aw];cases has w k<;>rfl)
end sD
namespace nk
open _root_.Go.FG.Lib (rs el oy rF rG rH En)
open eV (has)
open jx (sg)
def uo(e:En):aY:=gu.v e.k e.st e.li e.bo
def Gk(en:aE En)(w m:aE au)(i:aN):aY:=
 uo (el en i)&&((ah (i=0)||Go.Op.bytesLess (aG (el en (i-1)).k) (aG (el en i).k))&&(has w (el en i).k||has m (el en i).k))
def K4(en:aE En)(w m:aE au)(s:aE (aE ay))(a:ay):aY:=(cT en.length).all (Gk en w m)&&(sg w m s a&&ah (w.length+m.length=en.length))
theorem ok(i0:ay)(en:aE En)(w m:aE au)(s:aE (aE ay))(a:ay)(r6 r7:Row)(y:ay)(K:en.length<=1048576)(C:w.length<=1048576)(hm:m.length<=1048576)(I:iV.n9 s):
  c i0 (re en) (rs w) (rs m) (rr s) a r6 r7 y=ao/\v i0 (re en) (rs w) (rs m) (rr s) a r6 r7 y=K4 en w m s a:=by
 refine out _ _ _ _ _ _ _ _ _ ?_;have B:=jx.ok w m s a C hm I;have e:=λk=>sD.ok w m (rr s) a k C hm;unfold vo b
 have key:=jE (Gk en w m) en.length (λn (i:aN)=>l2 ck (λ(z:aY) (_ _:ay) (_ _ _ _:Row) (_:ay) (_ _:Row) (_:ay)=>ai z) (λ(_:aY) (_ _:ay) (A h j t:Row) (u:ay) (_ _:Row) (_:ay)=>bif(jx.c h j t u)then(bif(jx.v h j t u)then(ai (ah ((↑(bB A):ay)=bE ((↑(bB h):ay)+(↑(bB j):ay)))))else(ai aq))else(aj)) n aq (i:ay) i0 (re en) (rs w) (rs m) (rr s) a r6 r7 y) (ai aq) (ai (sg w m s a&&ah (w.length+m.length=en.length)))
  (λn i hi hp=>by
   unfold Gk uo at hp;rw[aM,aM]at hp;obtain⟨f,o,H⟩:=hp;by_cases r:i=0
   ·subst r;simp only[l2,r2,dv,c8,hi,aQ,b_,aL,aw,dB,oy hi,rF hi,rG hi,rH hi,br,bN,f,aZ,ax,aF (show¬(((0:aN):ay)>0)by omega),(e _).1,(e _).2,H,cw hi (by omega:en.length<=9223372036854775807)]
   ·rw[aF r,nO]at o;have d:i-1<en.length:=by omega
    simp only[l2,r2,dv,c8,hi,aQ,b_,aL,aw,dB,oy hi,rF hi,rG hi,rH hi,br,bN,f,aZ,ax,aC (show(i:ay)>0 by omega),ly (show 0<i by omega) (by omega),d,oy d,o,(e _).1,(e _).2,H,cw hi (by omega:en.length<=9223372036854775807)])
  (λn i hi hp=>by
   unfold Gk uo at hp;cases f:gu.v (el en i).k (el en i).st (el en i).li (el en i).bo with
   |false=>simp only[l2,r2,dv,c8,hi,aQ,b_,aL,aw,dB,oy hi,rF hi,rG hi,rH hi,br,bN,f,bG]
   |true=>
    rw[f,bj]at hp;by_cases r:i=0
    ·subst r;rw[aC rfl,Mn,bj]at hp;simp only[l2,r2,dv,c8,hi,aQ,b_,aL,aw,dB,oy hi,rF hi,rG hi,rH hi,br,bN,f,aZ,bG,ax,aF (show¬(((0:aN):ay)>0)by omega),(e _).1,(e _).2,hp]
    ·rw[aF r,nO]at hp;have d:i-1<en.length:=by omega
     cases o:b7 (aG (el en (i-1)).k) (aG (el en i).k)with
     |false=>simp only[l2,r2,dv,c8,hi,aQ,b_,aL,aw,dB,oy hi,rF hi,rG hi,rH hi,br,bN,f,aZ,bG,ax,aC (show(i:ay)>0 by omega),ly (show 0<i by omega) (by omega),d,oy d,o]
     |true=>rw[o,bj]at hp;simp only[l2,r2,dv,c8,hi,aQ,b_,aL,aw,dB,oy hi,rF hi,rG hi,rH hi,br,bN,f,aZ,bG,ax,aC (show(i:ay)>0 by omega),ly (show 0<i by omega) (by omega),d,oy d,o,(e _).1,(e _).2,hp])
  (λn=>by simp only[l2,r2,dv,c8,bk,bg,ax,B.1,B.2,aw,Lib.cy];rw[dq (x:=(w.length:ay)+(m.length:ay)) (by omega) (by omega),show ah ((en.length:ay)=(w.length:ay)+(m.length:ay))=ah (w.length+m.length=en.length)by rw[bZ];omega];cases sg w m s a<;>rfl) ck ez
 refine key.trans ?_;unfold K4;cases (cT en.length).all (Gk en w m)<;>rfl
end nk
namespace np
open _root_.Go.FG.Lib (rf el Ga DT WH yS N0 N1)
open jx (eC)
def mX(now:ay)(f:Fe):aY:=eC f.k&&(ah ((f.t.size:ay)<=400)&&(ah (1<=f.sta/\f.sta<=3)&&(ah (0<=f.li/\f.li<=999999)&&ah (0<=f.st/\f.st<=now))))
def lW(f g:Fe):aY:=ah (f.sta=1)&&(ah (g.sta=1)&&ah (f.k=g.k))
def apart(fe:aE Fe)(i:aN):aY:=(cT i).all λj=> !lW (el fe i) (el fe j)
theorem et(n a b:ay):jX.v n a b=ah (a<=n/\n<=b):=fc.et n a b
theorem ok(i0:ay)(r1 r2 r3 r4:Row)(f:ay)(fe:aE Fe)(r7:Row)(h:ay)(i:aN)(hi:i<fe.length)(o:fe.length<=1048576):
  c i0 r1 r2 r3 r4 f (rf fe) r7 h (i:ay)=ao/\v i0 r1 r2 r3 r4 f (rf fe) r7 h (i:ay)=(mX i0 (el fe i)&&apart fe i):=by
 refine out _ _ _ _ _ _ _ _ _ _ ?_;unfold vo b
 have key:=jE (λj=> !lW (el fe i) (el fe j)) i (λn (j:aN)=>l5 ck (λ(_:ay) (m:aY) (_ _:ay) (_ _ _ _:Row) (_:ay) (_ _:Row) (_:ay) (_ _:au) (_ _ _:ay)=>ai m) (λ(_:ay) (_:aY) (_ _:ay) (_ _ _ _:Row) (_:ay) (_ _:Row) (_:ay) (_ _:au) (_ _ _:ay)=>ai ao) n (i:ay) aq (j:ay) i0 r1 r2 r3 r4 f (rf fe) r7 h (el fe i).k (el fe i).t (el fe i).sta (el fe i).li (el fe i).st) (ai aq) (ai ao)
  (λn j d hp=>by
   have a:j<fe.length:=by omega
   rw[dt]at hp;unfold lW at hp;have e:ah ((el fe j).k=(el fe i).k)=ah ((el fe i).k=(el fe j).k):=by rw[bZ];exact eq_comm
   simp only[l5,r5,c8,d,aQ,b_,aL,aw,dB,dI,a,Ga a,yS a,br,bN,eG,e,cw d (by omega:i<=9223372036854775807)];revert hp;cases ah ((el fe i).k=(el fe j).k)<;>cases ah ((el fe j).sta=1)<;>cases ah ((el fe i).sta=1)<;>intro hp<;>first|rfl|cases hp)
  (λn j d hp=>by
   have a:j<fe.length:=by omega
   rw[p6]at hp;unfold lW at hp;rw[aM,aM]at hp;have e:ah ((el fe j).k=(el fe i).k)=ah ((el fe i).k=(el fe j).k):=by rw[bZ];exact eq_comm
   simp only[l5,r5,c8,d,aQ,b_,aL,aw,dB,dI,a,Ga a,yS a,br,bN,eG,e,hp.1,hp.2.1,hp.2.2])
  (λn=>by simp only[l5,r5,c8,bk,bg,ax]) ck ez
 simp only[dI,c8,hi,aQ,b_,aL,aw,dB,Ga hi,DT hi,WH hi,N0 hi,N1 hi,br,bN,et,jx.iq];rw[show l5 ck _ _ ck (i:ay) aq 0 i0 r1 r2 r3 r4 f (rf fe) r7 h (el fe i).k (el fe i).t (el fe i).sta (el fe i).li (el fe i).st=_ from key];unfold mX apart;rw[show ah (((el fe i).t.size:ay)>400)= !decide (((el fe i).t.size:ay)<=400)by rw[<-decide_not,bZ];omega];cases eC (el fe i).k<;>cases ah (((el fe i).t.size:ay)<=400)<;>cases ah (1<=(el fe i).sta/\(el fe i).sta<=3)<;>cases ah (0<=(el fe i).li/\(el fe i).li<=999999)<;>cases ah (0<=(el fe i).st/\(el fe i).st<=i0)<;>cases (cT i).all (λj=> !lW (el fe i) (el fe j))<;>rfl
end np
namespace jm
open _root_.Go.FG.Lib (rs rf rc el En JV NX NY NZ)
open jx (eC)
open nk (K4)
open np (mX apart et)
def Gj(now:ay)(a:aN)(cl:aE Cl)(i:aN):aY:=
 decide (1<=(el cl i).id/\(el cl i).id<=9)&&((ah (i=0)||decide ((el cl (i-1)).id<(el cl i).id))&&(eC (el cl i).k&&(ah (1<=(el cl i).sta/\(el cl i).sta<=3)&&(ah (0<=(el cl i).fe/\(el cl i).fe<=(a:ay))&&(ah (((el cl i).got.size:ay)<=400)&&(ah (0<=(el cl i).fr/\(el cl i).fr<=now)&&ah (0<=(el cl i).age)))))))
def i_(p:Px):aY:=
 decide (1<=p.now/\p.now<=1000000000)&&(K4 p.en p.w p.m p.s p.a&&(ah (p.fe.length<=20)&&(ah (p.cl.length<=6)&&(ah (0<=p.hits/\p.hits<=1000000000)&&((cT p.fe.length).all (λi=>mX p.now (el p.fe i)&&apart p.fe i)&&(cT p.cl.length).all (Gj p.now p.fe.length p.cl))))))
theorem step(N:aN)(g t x:aY->ay->ay->Row->Row->Row->Row->ay->Row->Row->ay->aA R)(i0:ay)(f h j m:Row)(d:ay)(fe:aE Fe)(cl:aE Cl)(e:ay)(i:aN)(hi:i<cl.length)(hl:cl.length<=1048576):
  r9 N g t x aq (i:ay) i0 f h j m d (rf fe) (rc cl) e=bif Gj i0 fe.length cl i then g aq ((i+1:aN):ay) i0 f h j m d (rf fe) (rc cl) e else t aq (i:ay) i0 f h j m d (rf fe) (rc cl) e:=by
 unfold Gj;have o:ah (((el cl i).got.size:ay)>400)= !decide (((el cl i).got.size:ay)<=400):=by rw[<-decide_not,bZ];omega
 have r:ah ((el cl i).age<0)= !decide (0<=(el cl i).age):=by rw[<-decide_not,bZ];omega
 by_cases s:i=0
 ·subst s;simp only[r9,eL,dI,c8,hi,aQ,b_,aL,aw,dB,JV hi,wc1 hi,wc2 hi,wc3 hi,NX hi,NY hi,NZ hi,br,bN,et,jx.iq,aF (show¬(((0:aN):ay)>0)by omega),ax,o,r,cw hi (by omega:cl.length<=9223372036854775807),Mn,bj];cases ah (1<=(el cl 0).id/\(el cl 0).id<=9)<;>cases eC (el cl 0).k<;>cases ah (1<=(el cl 0).sta/\(el cl 0).sta<=3)<;>cases ah (0<=(el cl 0).fe/\(el cl 0).fe<=(fe.length:ay))<;>cases ah (((el cl 0).got.size:ay)<=400)<;>cases ah (0<=(el cl 0).fr/\(el cl 0).fr<=i0)<;>cases ah (0<=(el cl 0).age)<;>rfl
 ·have a:i-1<cl.length:=by omega
  have u:ah ((el cl (i-1)).id≥(el cl i).id)= !decide ((el cl (i-1)).id<(el cl i).id):=by rw[<-decide_not,bZ];omega
  simp only[r9,eL,dI,c8,hi,aQ,b_,aL,aw,dB,JV hi,wc1 hi,wc2 hi,wc3 hi,NX hi,NY hi,NZ hi,br,bN,et,jx.iq,aC (show(i:ay)>0 by omega),ly (show 0<i by omega) (by omega),a,JV a,ax,o,r,u,cw hi (by omega:cl.length<=9223372036854775807),aF s,nO];cases ah (1<=(el cl i).id/\(el cl i).id<=9)<;>cases ah ((el cl (i-1)).id<(el cl i).id)<;>cases eC (el cl i).k<;>cases ah (1<=(el cl i).sta/\(el cl i).sta<=3)<;>cases ah (0<=(el cl i).fe/\(el cl i).fe<=(fe.length:ay))<;>cases ah (((el cl i).got.size:ay)<=400)<;>cases ah (0<=(el cl i).fr/\(el cl i).fr<=i0)<;>cases ah (0<=(el cl i).age)<;>rfl
theorem ok(p:Px)(hp:p.Fit 1048576):c p.now (re p.en) (rs p.w) (rs p.m) (rr p.s) p.a (rf p.fe) (rc p.cl) p.hits=ao/\v p.now (re p.en) (rs p.w) (rs p.m) (rr p.s) p.a (rf p.fe) (rc p.cl) p.hits=i_ p:=by
 refine out _ _ _ _ _ _ _ _ _ ?_;have C:=nk.ok p.now p.en p.w p.m p.s p.a (rf p.fe) (rc p.cl) p.hits hp.en hp.w hp.m ⟨hp.s.1,hp.s.2.1⟩;have h:=hp.fe;have e:=hp.cl;unfold vo b;have f:=λi hi=>np.ok p.now (re p.en) (rs p.w) (rs p.m) (rr p.s) p.a p.fe (rc p.cl) p.hits i hi h
 have I:=λ(n:aN) (H:p.cl.length<n)=>jE (Gj p.now p.fe.length p.cl) p.cl.length (λn (i:aN)=>l9 ck (λ(d:aY) (_ _:ay) (_ _ _ _:Row) (_:ay) (_ _:Row) (_:ay)=>ai d) (λ(_:aY) (_ _:ay) (_ _ _ _:Row) (_:ay) (_ _:Row) (_:ay)=>ai ao) n aq (i:ay) p.now (re p.en) (rs p.w) (rs p.m) (rr p.s) p.a (rf p.fe) (rc p.cl) p.hits) (ai aq) (ai ao)
  (λn i hi hq=>by simp only[l9];rw[step _ _ _ _ _ _ _ _ _ _ _ _ _ i hi e,hq];rfl)
  (λn i hi hq=>by simp only[l9];rw[step _ _ _ _ _ _ _ _ _ _ _ _ _ i hi e,hq];rfl)
  (λn=>by simp only[l9,r9,eL,c8,bk,bg,ax]) n H
 have K:=jE (λi=>mX p.now (el p.fe i)&&apart p.fe i) p.fe.length (λn (i:aN)=>l4 ck (λ(j:aY) (_ _:ay) (_ _ _ _:Row) (_:ay) (_ _:Row) (_:ay)=>ai j) (λ(k:aY) (_ o:ay) (r t u x:Row) (y:ay) (z A:Row) (B:ay)=>l9 ck (λ(d:aY) (_ _:ay) (_ _ _ _:Row) (_:ay) (_ _:Row) (_:ay)=>ai d) (λ(_:aY) (_ _:ay) (_ _ _ _:Row) (_:ay) (_ _:Row) (_:ay)=>ai ao) ck k 0 o r t u x y z A B) n aq (i:ay) p.now (re p.en) (rs p.w) (rs p.m) (rr p.s) p.a (rf p.fe) (rc p.cl) p.hits) (ai aq) (ai ((cT p.cl.length).all (Gj p.now p.fe.length p.cl)))
  (λn i hi hq=>by simp only[l4,r4,dI,c8,hi,aQ,aw,(f i hi).1,(f i hi).2,hq,aZ,ax,cw hi (by omega:p.fe.length<=9223372036854775807)])
  (λn i hi hq=>by simp only[l4,r4,dI,c8,hi,aQ,aw,(f i hi).1,(f i hi).2,hq,bG])
  (λn=>by simp only[l4,r4,dI,c8,bk,bg,ax];refine(I ck ez).trans ?_;cases (cT p.cl.length).all (Gj p.now p.fe.length p.cl)<;>rfl) ck ez
 rw[et,et,C.1,C.2,aw,dI,eL];rw[show l4 ck _ _ ck aq 0 p.now (re p.en) (rs p.w) (rs p.m) (rr p.s) p.a (rf p.fe) (rc p.cl) p.hits=_ from K];unfold i_;rw[show ah ((p.fe.length:ay)>20)= !decide (p.fe.length<=20)by rw[<-decide_not,bZ];omega,show ah ((p.cl.length:ay)>6)= !decide (p.cl.length<=6)by rw[<-decide_not,bZ];omega];cases ah (1<=p.now/\p.now<=1000000000)<;>cases K4 p.en p.w p.m p.s p.a<;>cases ah (p.fe.length<=20)<;>cases ah (p.cl.length<=6)<;>cases ah (0<=p.hits/\p.hits<=1000000000)<;>cases (cT p.fe.length).all (λi=>mX p.now (el p.fe i)&&apart p.fe i)<;>cases (cT p.cl.length).all (Gj p.now p.fe.length p.cl)<;>rfl
end jm
namespace tW
open _root_.Go.FG.Lib (En el)
def ec(f:aN)(st:ay)(t:au)(c:Cl):Cl:=bif ah (c.fe=(f:ay)+1)&&ah (c.sta=1)then{c with sta:=st,got:=t}else c
def nS(cl:aE Cl)(f:aN)(st:ay)(t:au):aE Cl:=cl.map (ec f st t)
theorem kJ(l:aE α)(g:α->α):l.mapIdx (λ_ c=>g c)=l.map g:=by apply la<;>simp
end tW
namespace fw
open _root_.Go.FG.Lib (En el)
open jm (i_)
open tW (nS)
def sZ(p:Px)(f:ay):aY:=i_ p&&(ah (0<=f/\f<=(p.fe.length:ay)-1)&&ah ((el p.fe f.toNat).sta=1))
def told(p:Px)(f:aN)(g:Fe)(st:ay):Px:={p with fe:=p.fe.set f g,cl:=nS p.cl f st g.t}
theorem jg{f:ay}(h:sZ p f=ao):∃n:aN,f=(n:ay)/\n<p.fe.length/\i_ p=ao/\(el p.fe n).sta=1:=by unfold sZ at h;simp only[aM,bf]at h;obtain⟨a,e,d⟩:=h;exact⟨f.toNat,by omega,by omega,a,d⟩
theorem nA{n f:aN}{st:ay}(h:p.Fit n):(told p f g st).Fit n:=by
 refine⟨h.en,h.w,h.m,h.s,?_,?_⟩
 ·show(p.fe.set f g).length<=n;rw[b9];exact h.fe
 ·show(nS p.cl f st g.t).length<=n;unfold tW.nS;rw[bJ];exact h.cl
def Cm(p:Px)(f:ay):Px×aY:=bif sZ p f then(told p f.toNat {el p.fe f.toNat with sta:=3} 3,ao)else(p,aq)
def Cp(p:Px)(f:ay)(t:au):Px×aY:=
 bif sZ p f&&(ah (1<=t.size/\t.size<=40)&&ah ((el p.fe f.toNat).t.size+t.size<=400))then(told p f.toNat {el p.fe f.toNat with t:=(el p.fe f.toNat).t++t} 1,ao)else(p,aq)
theorem jF{l:aE Fe}{n:aN}{g:Fe}(h:n<l.length):el (l.set n g) n=g:=by rw[eT (by rw[b9];exact h),j9]
theorem wM(l:aE Fe)(n j:aN)(a:aE CV)(g:Fe)(h:n<l.length)(hs:hS (Fe.row (el l n)) j a=Fe.row g):dV (Lib.rf l) n j a=Lib.rf (l.set n g):=by rw[eT h]at hs;exact kl Fe.row l n j a g h hs
theorem XB(h:i_ p=ao)(i:aN)(hi:i<p.fe.length):np.mX p.now (el p.fe i)=true:=by unfold jm.i_ at h;simp only[aM,bf]at h;obtain⟨_,_,_,_,_,a,_⟩:=h;rw[bz]at a;have:=a i (by simpa using hi);rw[aM]at this;exact this.1
end fw
namespace f_
theorem ahR(x:ay):0<=bF eg x/\bF eg x<4294967296:=by have e:bF eg x=x%4294967296:=rfl;rw[e];omega
theorem ach(x:ay):0<=jy.rd x/\jy.rd x<4294967296:=by unfold jy.rd;cases ah (cx x 2=1)<;>exact ahR _
theorem LH:∀(n:aN) (x:ay),0<=x/\x<4294967296->0<=jy.ou n x/\jy.ou n x<4294967296
 |0,_,h=>h
 |n+1,x,_=>LH n _ (ach x)
theorem SE(t:au):∀(d i:aN) (s:ay),0<=s/\s<4294967296->0<=jy.su t d i s/\jy.su t d i s<4294967296
 |0,_,_,h=>h
 |d+1,i,s,h=>SE t d (i+1) _ (LH 8 _ (ahR _))
def keyed(i:aN)(key:au):au:=key++bytesOf [[CV.i ba (i:ay)]]
def sm(i:aN)(key:au):ay:=jy.su (keyed i key) (keyed i key).size 0 4294967295
def pl(i:aN)(key:au):aN:=(cx (sm i key) 16).toNat
theorem JF(i:aN)(key:au):0<=sm i key/\sm i key<4294967296:=SE _ _ _ _ (by omega)
theorem pl_int(i:aN)(key:au):cx (sm i key) 16=(pl i key:ay):=by have:=JF i key;have h:0<=cx (sm i key) 16:=Ch _ this.1;unfold pl;omega
theorem BP(i:aN)(key:au):pl i key<16:=by have:=JF i key;have h:=Int.tmod_lt_of_pos (sm i key) (show(0:ay)<16 by omega);have a:0<=cx (sm i key) 16:=Ch _ this.1;unfold pl;omega
theorem B3(i:aN)(key:au):(keyed i key).size=key.size+1:=by unfold keyed;rw[dA,B2]
theorem ok(i:aN)(key:au)(hi:i<3)(hk:key.size<=140737488355328):c (i:ay) key=ao/\v (i:ay) key=(pl i key:ay):=by
 refine out _ _ ?_;unfold vo b;have e:(key++bytesOf (aP (aT [Ck.i ba] 1) 0 [CV.i ba (bF ba (i:ay))]))=keyed i key:=by
  unfold keyed;match i,hi with
  |0,_=>rfl
  |1,_=>rfl
  |2,_=>rfl
 have hs:=B3 i key;have h:=u0.ok (keyed i key) (by omega);have a:bC key+bC (bytesOf (aP (aT [Ck.i ba] 1) 0 [CV.i ba (bF ba (i:ay))]))=key.size+1:=by rw[pc,B2]
 rw[a,e,lJ,aw,h.1,h.2,aw];have hp:=pl_int i key;have hl:=BP i key;unfold sm at hp;rw[hp,dq (by omega) (by omega)]
end f_
namespace nG
theorem run(N:aN)(K0:ay->Row->ay->ay->ay->aA R)(K1:ay->Row->ay->ay->ay->Row->aA R)(s:aE (aE ay))(z y a:ay)(j:iV.n9 s)(m:aN)(hm:s.length+1<m)(f:Row->aA R)
  (h0:s=[]->K0 0 (rr s) z y a=f []) (r:K1 s.length (rr s) z y a (rr s)=f (rr s)):l3 N K0 K1 m 0 (rr s) z y a=f (rr s):=by
 obtain⟨m,rfl⟩:∃t,m=t+1:=⟨m-1,by omega⟩
 have k:∀q:Row,aT [Ck.i ak] 0++q=q:=λq=>rfl;have d:∀i (h:i<s.length),b8 (bB (aT [Ck.i ak] 0)+bB (Lib.ri s[i])) 8=true:=λi h=>by have:=j.2 _ (bw h);exact b0 (by rw[Lib.fa];simp[aT];omega) (by rw[Lib.fa];simp[aT];omega)
 by_cases hs:s=[]
 ·subst hs;simp only[l3,r3,gC,jz,S4,Int.lt_irrefl,bg,ax];exact h0 rfl
 ·have hp:0<s.length:=NL.2 hs;have key:=im (R:=R) s.length (λm i (x:Row)=>nT N K0 K1 m (i:ay) (rr s) z y a x) (λi=>rr (s.take i)) (f (rr s)) (λm i h=>by
   have hl:=j.1;simp only[nT,uw,gC,c8,h,aQ,aw,b_,bj,dB,H8 h,iH,d i h,k,pc,bu];rw[b0 (by rw[du];omega) (by rw[du];omega),aw,cw h (by omega)];have:=ov (λq=>[CV.l 3 (Lib.ri q)]) s i h;unfold rr;rw[<-this]) (λm=>by
   simp only[nT,uw,gC,c8,bk,bg,ax,cE];exact r) m 1 hp (by omega)
  have e:=d 0 hp;have o:=H8 (l:=s) hp;simp only[l3,r3,aC (show(0:ay)<(s.length:ay)by omega),aw,aL,gC,show ah ((0:ay)<=0)=ao from rfl,show aR 0=0 from rfl,o,iH,e,k,aw,pc,eJ];rw[show bE (0+1)=((1:aN):ay)from rfl];refine Eq.trans ?_ key;have:=ov (λq=>[CV.l 3 (Lib.ri q)]) s 0 hp;unfold rr;rw[show(0+1)=1 from rfl]at this;rw[<-this];rfl
theorem ok(s:aE (aE ay))(a:ay)(f:iV.n9 s):c (rr s) a=ao/\v (rr s) a=(rr s,a):=by refine out _ _ ?_;unfold vo b;exact run ck (λ_ _ _ _ y=>ai ([],y)) (λ_ _ _ _ d e=>ai (e,d)) s a 0 a f ck (mS (by have:=f.1;omega)) (λx=>ai (x,a)) (λ_=>rfl) rfl
end nG
namespace dp
open _root_.Go.FG.Lib (ri)
def bq(p:aN)(q:aE ay):aE ay:=q.set p (bif ah (q.getD p 0<15)then q.getD p 0+1 else q.getD p 0)
def CH(s:aE (aE ay))(key:au):aE (aE ay):=s.mapIdx λi q=>bq (f_.pl i key) q
def half(s:aE (aE ay)):aE (aE ay):=s.map λq=>q.map λn=>cK n 2
def val(s:aE (aE ay))(a:ay)(key:au):aE (aE ay)×ay:=
 bif fc.nL s a then(bif ah (a+1=64)then(half (CH s key),0)else(CH s key,a+1))else(s,a)
def fR(q:aE ay):aE CV:=[CV.l 3 (ri q)]
theorem NF(q:aE ay)(p:aN)(x:ay)(h:p<q.length):dV (ri q) p 0 [CV.i ak x]=ri (q.set p x):=kl (λn=>[CV.i ak n]) q p 0 _ x h rfl
theorem NG(L:aE (aE ay))(i:aN)(q:aE ay)(h:i<L.length):dV (L.map fR) i 0 [CV.l 3 (ri q)]=(L.set i q).map fR:=kl fR L i 0 _ q h rfl
theorem A_(L:aE (aE ay))(i:aN)(h:i<L.length):av (L.map fR) i 0=CV.l 3 (ri L[i]):=e_ fR L i 0 h
theorem tK{a:ay}(h:fc.nL s a=ao):s.length=3/\(0<=a/\a<=63)/\∀q∈s,q.length=16/\∀n∈q,0<=n/\n<=15:=by
 unfold fc.nL at h;rw[aM,aM]at h;refine⟨cL h.1,cL h.2.1,λq hq=> ?_⟩
 have:=bz.1 h.2.2 q hq;unfold fc.rP at this;rw[aM]at this;refine⟨cL this.1,λn d=> ?_⟩
 have:=bz.1 this.2 n d;unfold fc.Lq at this;exact cL this
theorem n_{q:aE ay}{p:aN}(h:p<q.length):q.getD p 0=q[p]:=by simp[dZ,h]
theorem aco(K:au->ay->ay->ay->Row->aA R)(s:aE (aE ay))(key:au)(y a:ay)(hs:s.length=3)(hq:∀q∈s,q.length=16/\∀n∈q,0<=n/\n<=15)(hk:key.size<=140737488355328):
  l5 ck K ck key 0 y a (rr s)=K key 3 y a (rr (CH s key)):=by
 refine(m_ fR s (λi q=>bq (f_.pl i key) q) (λm (i:aN) x=>l5 ck K m key (i:ay) y a x) (λx=>K key 3 y a x) (λm i L h d o e=> ?_) (λm L o=> ?_) ck ez)
 ·have hp:=f_.ok i key (by omega) hk;have k:=f_.BP i key;obtain⟨j,t⟩:=hq _ (bw h);have r:av (L.map fR) i 0=CV.l 3 (ri s[i]):=by rw[A_ L i d,e]
  have f:f_.pl i key<s[i].length:=by omega
  have u:=t _ (bw f);simp only[l5,r5,bJ,c8,d,aQ,aw,hp.1,hp.2,b_,aL,dB,r,iH,Lib.fa,j,k,NW f,bN];unfold bq;rw[n_ f];cases hd:ah (s[i][f_.pl i key]<15)with
  |true=>have:=cL hd;rw[aw,aw,dq (x:=s[i][f_.pl i key]+1) (by omega) (by omega),NF _ _ _ f,NG _ _ _ d,cw d (by omega)]
  |false=>rw[ax,ax,cw d (by omega),eZ,<-e,eZ]
 ·simp only[l5,r5,bJ,c8,o,bk,bg,ax,hs];rfl
theorem sH{s:aE (aE ay)}{key:au}(hs:s.length=3)(hq:∀q∈s,q.length=16/\∀n∈q,0<=n/\n<=15):(CH s key).length=3/\∀q∈CH s key,q.length=16/\∀n∈q,0<=n/\n<=15:=by
 unfold CH;refine⟨by simp[hs],λq hm=> ?_⟩
 obtain⟨i,hi,rfl⟩:=List.mem_mapIdx.1 hm;obtain⟨a,e⟩:=hq _ (bw hi);unfold bq;have d:f_.pl i key<s[i].length:=by have:=f_.BP i key;omega
 refine⟨by rw[b9];exact a,λn h=> ?_⟩
 rcases jl h with h|h
 ·exact e n h
 ·rw[n_ d]at h;have f:=e _ (bw d);rw[h];cases hd:ah (s[i][f_.pl i key]<15)with
  |true=>have:=cL hd;rw[aw];omega
  |false=>rw[ax];exact f
theorem agX(K:ay->ay->ay->ay->Row->aA R)(L:aE (aE ay))(i:aN)(h:i<L.length)(y a:ay)(hl:L.length<=1048576)(hq:L[i].length=16)(u:∀n∈L[i],0<=n/\n<=15):
  l17 ck K ck (i:ay) 0 y a (L.map fR)=K i 16 y a ((L.set i (L[i].map λn=>cK n 2)).map fR):=by
 have e:L[i].mapIdx (λ_ n=>cK n 2)=L[i].map λn=>cK n 2:=by apply la<;>simp
 have key:=im (L[i].length) (λm (k:aN) x=>l17 ck K m (i:ay) (k:ay) y a x) (λk=>(L.set i (nM L[i] (λ_ n=>cK n 2) k)).map fR) (K i 16 y a ((L.set i (L[i].map λn=>cK n 2)).map fR)) (λm k hk=> ?_) (λm=> ?_) ck 0 (bA _) ez
 ·rw[B_,eZ]at key;exact key
 ·have A:=qv L[i] (λ_ n=>cK n 2) k (by omega);generalize t:nM L[i] (λ_ n=>cK n 2) k=U at A;have d:k<U.length:=by omega
  have o:U[k]=L[i][k]:=by subst t;exact wP _ _ _ hk _
  have f:U.set k (cK L[i][k] 2)=nM L[i] (λ_ n=>cK n 2) (k+1):=by subst t;exact tg L[i] (λ_ n=>cK n 2) k hk
  have s:i<(L.set i U).length:=by simpa using h
  have j:av ((L.set i U).map fR) i 0=CV.l 3 (ri U):=by rw[A_ _ _ s,j9]
  have r:=u _ (bw hk);have B:0<=cK L[i][k] 2:=Int.tdiv_nonneg r.1 (by omega);have z:cK L[i][k] 2<=15:=Ms (Int.tdiv_le_self _ r.1) r.2;simp only[l17,r17,bJ,b9,c8,h,d,aQ,aw,b_,aL,dB,j,iH,Lib.fa,NW d,bN,o];rw[dq (x:=cK L[i][k] 2) (by omega) (by omega),NF _ _ _ d,NG _ _ _ s,f,o_,cw hk (by omega)]
 ·have j:av ((L.set i (nM L[i] (λ_ n=>cK n 2) L[i].length)).map fR) i 0=CV.l 3 (ri (L[i].map λn=>cK n 2)):=by rw[A_ _ _ (by simpa using h),j9,qu,e]
  simp only[l17,r17,bJ,b9,c8,h,aQ,aw,b_,aL,dB,j,iH,Lib.fa,bk,bg,ax];rw[qu,e,hq];rfl
theorem agV(K:ay->ay->ay->Row->aA R)(s:aE (aE ay))(y a:ay)(hs:s.length=3)(hq:∀q∈s,q.length=16/\∀n∈q,0<=n/\n<=15):
  l14 ck K ck 0 y a (rr s)=K 3 y a (rr (half s)):=by
 have j:s.mapIdx (λ_ q=>q.map λn=>cK n 2)=half s:=by unfold half;apply la<;>simp
 rw[<-j];refine(m_ fR s (λ_ q=>q.map λn=>cK n 2) (λm (i:aN) x=>l14 ck K m (i:ay) y a x) (λx=>K 3 y a x) (λm i L h f k d=> ?_) (λm L k=> ?_) ck ez)
 ·obtain⟨e,o⟩:=hq _ (bw h);simp only[l14,r14,bJ,c8,f,aQ,aw];rw[agX _ L i f y a (by omega) (by rw[d];exact e) (by rw[d];exact o),cw f (by omega),d]
 ·simp only[l14,r14,bJ,c8,k,bk,bg,ax,hs];rfl
theorem ok(s:aE (aE ay))(a:ay)(key:au)(h:iV.n9 s)(hk:key.size<=140737488355328):c (rr s) a key=ao/\v (rr s) a key=(rr (val s a key).1,(val s a key).2):=by
 refine out _ _ _ ?_;have e:=nG.ok s a h;have f:=fc.ok s a h;unfold vo b val;rw[e.1,e.2,f.1,f.2,aw,aw];cases d:fc.nL s a with
 |false=>rfl
 |true=>
  obtain⟨hs,k,hq⟩:=tK d;obtain⟨i,j⟩:=sH (key:=key) hs hq;rw[aZ,ax,aw,aco _ s key _ _ hs hq hk,dq (x:=a+1) (by omega) (by omega)];cases hd:ah (a+1=64)with
  |false=>rfl
  |true=>rw[aw,aw,agV _ _ _ _ i j]
end dp
namespace lY
open _root_.Go.FG.Lib (ri)
def gs(key:au):aN->aE (aE ay)->ay->ay
 |_,[],x=>x
 |i,q::r,x=>gs key (i+1) r (bif ah (q.getD (f_.pl i key) 0<x)then q.getD (f_.pl i key) 0 else x)
def val(s:aE (aE ay))(a:ay)(key:au):ay:=bif fc.nL s a then gs key 0 s 15 else 0
theorem Fo(key:au)(s:aE (aE ay))(i:aN)(h:i<s.length)(x:ay):gs key i (s.drop i) x=gs key (i+1) (s.drop (i+1)) (bif ah (s[i].getD (f_.pl i key) 0<x)then s[i].getD (f_.pl i key) 0 else x):=by rw[cq h];rfl
theorem ok(s:aE (aE ay))(a:ay)(key:au)(o:iV.n9 s)(hk:key.size<=140737488355328):c (rr s) a key=ao/\v (rr s) a key=val s a key:=by
 refine out _ _ _ ?_;have j:=fc.ok s a o;unfold vo b val;rw[j.1,j.2,aw];cases e:fc.nL s a with
 |false=>rfl
 |true=>
  obtain⟨hs,y,hq⟩:=dp.tK e;rw[aZ,ax,aw];have:=fE (λm (t:aN×ay)=>l5 ck (λ(_:au) (u _:ay) (_:Row) (_:ay)=>ai u) m key t.2 (t.1:ay) (rr s) a) (λt=>s.length-t.1) (λt=>t.1<=s.length) (λt=>ai (gs key t.1 (s.drop t.1) t.2)) (λm t r=>by
   obtain⟨i,x⟩:=t;dsimp only at r⊢;by_cases h:i<s.length
   ·right;have hp:=f_.ok i key (by omega) hk;have f:=f_.BP i key;obtain⟨d,z⟩:=hq _ (bw h);have k:f_.pl i key<s[i].length:=by omega
    refine⟨(i+1,bif ah (s[i].getD (f_.pl i key) 0<x)then s[i].getD (f_.pl i key) 0 else x),by dsimp only;omega,by dsimp only;omega,by rw[<-Fo key s i h x],?_⟩
    simp only[l5,r5,gC,c8,h,aQ,aw,hp.1,hp.2,b_,aL,dB,H8 h,iH,Lib.fa,d,f,NW k,bN,cw h (by omega:s.length<=9223372036854775807)];rw[dp.n_ k];cases ah (s[i][f_.pl i key]<x)<;>rfl
   ·left;have:i=s.length:=by omega
    subst this;simp only[l5,r5,gC,c8,bk,bg,ax,cX,gs]) ck (0,15) (bA _) (mS (by dsimp only;omega))
  simpa using this
end lY
namespace fQ
open _root_.Go.FG.Lib (rs)
theorem ok(w m:aE au)(s:aE (aE ay))(a:ay)(f:w.length<=1048576)(hm:m.length<=1048576)(e:iV.n9 s):c (rs w) (rs m) (rr s) a=ao/\v (rs w) (rs m) (rr s) a=(rs w,rs m,rr s,a):=by have d:=nG.ok s a e;have r1:b8 (bB (aT [Ck.s] 0)+bB (rs w)) 16=true:=b0 (by simp[aT,Lib.cy];omega) (by simp[aT,Lib.cy];omega);have r2:b8 (bB (aT [Ck.s] 0)+bB (rs m)) 16=true:=b0 (by simp[aT,Lib.cy];omega) (by simp[aT,Lib.cy];omega);exact out _ _ _ _ (by unfold vo b;rw[r1,r2,d.1,d.2,aw,aw,aw];rfl)
end fQ
namespace oK
theorem ok(l:aE au)(k:au)(hl:l.length<=1048576):c (Lib.rs l) k=ao/\v (Lib.rs l) k=Lib.rs (eV.without l k):=by
 refine out _ _ ?_;unfold vo b;have key:=im l.length (λm (i:aN) (x:Row)=>l3 ck (λ(_:Row) (_:au) (_:ay) (d:Row)=>ai d) m (Lib.rs l) k (i:ay) x) (λi=>Lib.rs (eV.without (l.take i) k)) (ai (Lib.rs (eV.without l k))) (λm i h=>by
  have a:=eV.gV (l:=l.take i) (k:=k);rw[du]at a;simp only[l3,r3,Lib.cy,c8,h,aQ,b_,aL,aw,dB,To h,br,eG,pc,bu,cw h (by omega:l.length<=9223372036854775807)];rw[b0 (by omega) (by omega),aw];have e:eV.without (l.take (i+1)) k=eV.without (l.take i) k++(bif !decide (l[i]=k)then [l[i]]else []):=by unfold eV.without;rw[bO h,fy];cases hd:ah (l[i]=k)<;>simp[hd]
  rw[e];cases hd:ah (l[i]=k)with
  |true=>rw[aZ,ax,ax,cZ]
  |false=>rw[bG,aw,aw];unfold Lib.rs;rw[cO];rfl) (λm=>by
  simp only[l3,r3,Lib.cy,c8,bk,bg,ax,cE]) ck 0 (bA _) ez
 exact key
end oK
namespace eH
open _root_.Go.FG.Lib (rs)
open eV (has without gl kY vm gV o0)
open jx (eC Jb mQ sg iq)
def val(w m:aE au)(s:aE (aE ay))(a:ay)(key:au):aE au×aE au×aE (aE ay)×ay×au:=
 bif sg w m s a&&eC key then
  bif has w key then(without w key++[key],m,(dp.val s a key).1,(dp.val s a key).2,⟨#[]⟩)
  else bif has m key then(w,without m key++[key],(dp.val s a key).1,(dp.val s a key).2,⟨#[]⟩)
  else bif ah ((w++[key]).length<=2)then(w++[key],m,(dp.val s a key).1,(dp.val s a key).2,⟨#[]⟩)
  else bif ah (m.length<4)then((w++[key]).tail,m++[(w++[key]).getD 0 ⟨#[]⟩],(dp.val s a key).1,(dp.val s a key).2,⟨#[]⟩)
  else bif ah (lY.val (dp.val s a key).1 (dp.val s a key).2 ((w++[key]).getD 0 ⟨#[]⟩)>lY.val (dp.val s a key).1 (dp.val s a key).2 (m.getD 0 ⟨#[]⟩))then
   ((w++[key]).tail,m.tail++[(w++[key]).getD 0 ⟨#[]⟩],(dp.val s a key).1,(dp.val s a key).2,m.getD 0 ⟨#[]⟩)
  else((w++[key]).tail,m,(dp.val s a key).1,(dp.val s a key).2,(w++[key]).getD 0 ⟨#[]⟩)
 else(w,m,s,a,⟨#[]⟩)
theorem B4(l:aE au)(k:au):rs l++[[CV.s k]]=rs (l++[k]):=by unfold Lib.rs;rw[cO];rfl
theorem zer(l:aE au):aT [Ck.s] 0++rs l=rs l:=rfl
theorem Qn(l:aE au):br (av (rs l) (aR 0) 0)=l.getD 0 ⟨#[]⟩:=by cases l<;>rfl
theorem SG(l:aE au):dR (rs l) (aR 1) (aR (l.length:ay))=rs l.tail:=by unfold dR Lib.rs;rw[show aR 1=1 from rfl,dB,List.drop_one,<-List.map_tail,dH (by simp)]
theorem mR(h:mQ l=ao)(hk:k∈l):eC k=true:=by
 unfold mQ at h;rw[bz]at h;obtain⟨i,hi,rfl⟩:=c7 hk;have:=h i (by simpa using hi);unfold Jb at this;rw[aM]at this;have e:l.getD i ⟨#[]⟩=l[i]:=by simp[dZ,hi]
 rw[e]at this;exact this.1
theorem vf:mQ l=ao↔(∀k∈l,eC k=ao)/\l.Nodup:=by
 constructor
 ·intro h;refine⟨λk hk=>mR h hk,?_⟩
  rw[o9,dx];intro i j hi a m f;unfold mQ at h;rw[bz]at h;have d:=h j (by simpa using a);unfold Jb at d;have e:l.getD j ⟨#[]⟩=l[j]:=by simp[dZ,a]
  rw[e,aM,dt,kY]at d;refine d.2 ?_;rw[<-f];have:(l.take j)[i]'(by rw[du];omega)=l[i]:=mJ ..;rw[<-this];exact bw _
 ·intro h;unfold mQ;rw[bz];intro j a;have a:j<l.length:=by simpa using a
  unfold Jb;have e:l.getD j ⟨#[]⟩=l[j]:=by simp[dZ,a]
  rw[e,aM,dt,kY];refine⟨h.1 _ (bw a),λhm=> ?_⟩
  obtain⟨i,hi,f⟩:=c7 hm;rw[du]at hi;rw[mJ]at f;have d:=h.2;rw[o9,dx]at d;exact d i j (by omega) a (by omega) f
theorem kf(h:eC k=ao):1<=k.size/\k.size<=30:=by unfold eC at h;have:=cL h;omega
theorem JC{a:ay}(h:iV.n9 s):iV.n9 (dp.val s a key).1:=by
 unfold dp.val;cases d:fc.nL s a with
 |false=>exact h
 |true=>
  obtain⟨hs,_,hq⟩:=dp.tK d;obtain⟨j,f⟩:=dp.sH (key:=key) hs hq;rw[aw];cases ah (a+1=64)with
  |false=>exact⟨by rw[ax];dsimp only;omega,λq h=>by have:=(f q h).1;omega⟩
  |true=>
   rw[aw];dsimp only;unfold dp.half;refine⟨by rw[bJ];omega,λq h=> ?_⟩
   obtain⟨i,e,rfl⟩:=cN.1 h;rw[bJ];have:=(f i e).1;omega
theorem sO{l:aE au}(h:0<l.length):l.getD 0 ⟨#[]⟩∈l:=by
 cases l with
 |nil=>simp at h
 |cons x r=>exact cD ..
theorem BM{a:ay}(h:sg w m s a=ao):mQ (w++m)=ao/\w.length<=2/\m.length<=4/\fc.nL s a=true:=by unfold sg at h;simp only[aM,bf]at h;exact⟨h.1,h.2.1,h.2.2.1,h.2.2.2⟩
theorem ok(w m:aE au)(s:aE (aE ay))(a:ay)(key:au)(t:w.length<=1048576)(hm:m.length<=1048576)(e:iV.n9 s)(hk:key.size<=140737488355328):
  c (rs w) (rs m) (rr s) a key=ao/\v (rs w) (rs m) (rr s) a key=(rs (val w m s a key).1,rs (val w m s a key).2.1,rr (val w m s a key).2.2.1,(val w m s a key).2.2.2.1,(val w m s a key).2.2.2.2):=by
 refine out _ _ _ _ _ ?_;have z:=fQ.ok w m s a t hm e;have A:=jx.ok w m s a t hm e;have B:=dp.ok s a key e hk;have C:=eV.ok w key (by omega);have H:=eV.ok m key (by omega);have I:=oK.ok w key t;have K:=oK.ok m key hm;have O:=JC (a:=a) (key:=key) e;unfold vo b;simp only[ch,z.1,z.2,A.1,A.2,aw];unfold val;cases hp:sg w m s a with
 |false=>rfl
 |true=>
  obtain⟨N,p2,p3,p4⟩:=BM hp;rw[iq,bj];cases i:eC key with
  |false=>rfl
  |true=>
   have j:=kf i;have l6:=gV (l:=w) (k:=key);have l7:=gV (l:=m) (k:=key);simp only[aZ,ax,aw,B.1,B.2,C.1,C.2,H.1,H.2,I.1,I.2,K.1,K.2,B4,zer,Lib.cy,pc,bu];rw[b0 (n:=(without w key).length+1) (by omega) (by omega),b0 (n:=(without m key).length+1) (by omega) (by omega),b0 (n:=w.length+1) (by omega) (by omega)];simp only[aw];cases hA:has w key with
   |true=>rfl
   |false=>
    cases hB:has m key with
    |true=>rfl
    |false=>
     simp only[ax];rw[show ah (((w++[key]).length:ay)<=2)=ah ((w++[key]).length<=2)by rw[bZ];omega];cases P:ah ((w++[key]).length<=2)with
     |true=>rfl
     |false=>
      have o:(w++[key]).length=3:=by have:=ur P;rw[bW,bu]at this⊢;omega
      have f:(w++[key]).getD 0 ⟨#[]⟩∈w++[key]:=sO (by omega);have S:((w++[key]).getD 0 ⟨#[]⟩).size<=30:=by
       rcases bc.1 f with h|h
       ·exact(kf (mR N (bY _ h))).2
       ·rw[a_]at h;rw[h];exact j.2
      have x:=lY.ok (dp.val s a key).1 (dp.val s a key).2 ((w++[key]).getD 0 ⟨#[]⟩) O (by omega);have X:fU 1 ((w++[key]).length:ay) ((w++[key]).length:ay)=true:=by rw[o];rfl
      have M:(w++[key]).tail.length=2:=by rw[TQ];omega
      have rz:b8 (bB (aT [Ck.s] 0)+(w++[key]).tail.length) 16=true:=b0 (by rw[M];decide) (by rw[M];decide);simp only[ax,aC (show(0:ay)<((w++[key]).length:ay)by omega),X,aw,Qn,SG,rz,zer,B4,Lib.cy,b0 (n:=m.length+1) (b:=16) (by omega) (by omega),x.1,x.2];rw[show ah ((m.length:ay)<4)=ah (m.length<4)by rw[bZ];omega];cases Q:ah (m.length<4)with
      |true=>rfl
      |false=>
       have U:m.length=4:=by have:=ur Q;omega
       have r:m.getD 0 ⟨#[]⟩∈m:=sO (by omega);have V:=(kf (mR N (bS _ r))).2;have y:=lY.ok (dp.val s a key).1 (dp.val s a key).2 (m.getD 0 ⟨#[]⟩) O (by omega);have Y:fU 1 (m.length:ay) (m.length:ay)=true:=by simp[fU];omega
       have d:m.tail.length=3:=by rw[TQ];omega
       have u:b8 (bB (aT [Ck.s] 0)+m.tail.length) 16=true:=b0 (by rw[d];decide) (by rw[d];decide);simp only[ax,aC (show(0:ay)<(m.length:ay)by omega),Y,aw,u,B4,b0 (n:=m.tail.length+1) (b:=16) (by omega) (by omega),y.1,y.2];cases ah (lY.val (dp.val s a key).1 (dp.val s a key).2 ((w++[key]).getD 0 ⟨#[]⟩)>lY.val (dp.val s a key).1 (dp.val s a key).2 (m.getD 0 ⟨#[]⟩))<;>rfl
def lens(s:aE (aE ay)):aE aN:=s.map bB
theorem Dz(s:aE (aE ay))(key:au):lens (dp.CH s key)=lens s:=by
 unfold lens dp.CH;apply la
 ·simp
 ·intro i a d;simp[dp.bq]
theorem M7(s:aE (aE ay)):lens (dp.half s)=lens s:=by unfold lens dp.half;rw[jk];apply NM;intro q _;simp
theorem UP(s:aE (aE ay))(a:ay)(key:au):lens (dp.val s a key).1=lens s:=by
 unfold dp.val;cases fc.nL s a with
 |false=>rfl
 |true=>
  cases ah (a+1=64)with
  |false=>exact Dz s key
  |true=>exact(M7 _).trans (Dz s key)
theorem JR(w m:aE au)(s:aE (aE ay))(a:ay)(key:au):(val w m s a key).1.length<=w.length+1/\(val w m s a key).2.1.length<=m.length+1/\lens (val w m s a key).2.2.1=lens s:=by
 have d:=gV (l:=w) (k:=key);have hm:=gV (l:=m) (k:=key);have hs:=UP s a key;unfold val;cases sg w m s a&&eC key with
 |false=>exact⟨by rw[ax];exact iG _,by rw[ax];exact iG _,rfl⟩
 |true=>
  rw[aw];cases has w key with
  |true=>refine⟨?_,?_,hs⟩<;>(simp only[aw];simp;try omega)
  |false=>
   cases has m key with
   |true=>refine⟨?_,?_,hs⟩<;>(simp only[aw,ax];simp;try omega)
   |false=>
    cases ah ((w++[key]).length<=2)with
    |true=>refine⟨?_,?_,hs⟩<;>(simp only[aw,ax];simp;try omega)
    |false=>
     cases ah (m.length<4)with
     |true=>refine⟨?_,?_,hs⟩<;>(simp only[aw,ax];simp;try omega)
     |false=>
      cases ah (lY.val (dp.val s a key).1 (dp.val s a key).2 ((w++[key]).getD 0 ⟨#[]⟩)>lY.val (dp.val s a key).1 (dp.val s a key).2 (m.getD 0 ⟨#[]⟩))with
      |true=>refine⟨?_,?_,hs⟩<;>(simp only[aw,ax];simp;try omega)
      |false=>refine⟨?_,?_,hs⟩<;>(simp only[aw,ax];simp;try omega)
end eH
namespace lA
open _root_.Go.FG.Lib (rs rf rc En el)
open eV (has)
open fX (eU So fN mB v7 drop_nil BI s7 E' P8 rq)
def Cs(p:Px)(e:En):Px:=
 {p with
  w:=(eH.val p.w p.m p.s p.a e.k).1
  m:=(eH.val p.w p.m p.s p.a e.k).2.1
  s:=(eH.val p.w p.m p.s p.a e.k).2.2.1
  a:=(eH.val p.w p.m p.s p.a e.k).2.2.2.1
  en:=bif has (eH.val p.w p.m p.s p.a e.k).1 e.k||has (eH.val p.w p.m p.s p.a e.k).2.1 e.k then mB (fN p.en (eH.val p.w p.m p.s p.a e.k).2.2.2.2) e else fN p.en (eH.val p.w p.m p.s p.a e.k).2.2.2.2}
theorem ag0(h:(cT en.length).all (nk.Gk en w m)=ao):So en/\∀e∈en,1<=e.k.size:=by
 rw[bz]at h;have o:∀i (hi:i<en.length),nk.Gk en w m i=true:=λi hi=>h i (by simpa using hi);constructor
 ·have f:∀d i (hi:i+d+1<en.length),eU (el en i).k (el en (i+d+1)).k=true:=by
   intro d;induction d with
   |zero=>
    intro i hi;have:=o (i+1) (by omega);unfold nk.Gk at this;rw[aM,aM,dC]at this;rcases this.2.1 with h|h
    ·have:=cL h;omega
    ·exact h
   |succ d ih=>
    intro i hi;have a:=ih i (by omega);have:=o (i+d+1+1) (by omega);unfold nk.Gk at this;rw[aM,aM,dC]at this;rcases this.2.1 with h|h
    ·have:=cL h;omega
    ·exact fK.oO _ _ _ a h
  unfold So;rw[dx];intro i j hi t s;have:=f (j-i-1) i (by omega);rw[show i+(j-i-1)+1=j by omega,eT hi,eT t]at this;exact this
 ·intro e r;obtain⟨i,hi,rfl⟩:=c7 r;have:=o i hi;unfold nk.Gk nk.uo at this;rw[aM,eT hi]at this;exact(gu.FN this.1).1.1
theorem FL(h:jm.i_ p=ao):So p.en/\(∀e∈p.en,1<=e.k.size)/\p.en.length<=6/\p.w.length<=2/\p.m.length<=4/\p.fe.length<=20/\p.cl.length<=6/\(1<=p.now/\p.now<=1000000000)/\(0<=p.hits/\p.hits<=1000000000)/\jx.sg p.w p.m p.s p.a=ao/\(∀i,i<p.fe.length->np.mX p.now (el p.fe i)=ao):=by
 unfold jm.i_ at h;simp only[aM,bf]at h;obtain⟨r,d,t,u,x,j,C⟩:=h;unfold nk.K4 at d;simp only[aM,bf]at d;obtain⟨o,f,B⟩:=d;obtain⟨s1,A⟩:=ag0 o;obtain⟨_,y,z,_⟩:=eH.BM f;refine⟨s1,A,by omega,y,z,t,u,r,x,f,λi hi=> ?_⟩
 rw[bz]at j;have:=j i (by simpa using hi);rw[aM]at this;exact this.1
theorem ju(h:jm.i_ p=ao):p.Fit 48:=by
 obtain⟨_,_,a1,a2,a3,a4,a5,_,_,hp,_⟩:=FL h;obtain⟨_,_,_,hs⟩:=eH.BM hp;unfold fc.nL at hs;simp only[aM,bf,bz]at hs;obtain⟨s1,_,s3⟩:=hs;have a:∀q∈p.s,q.length=16:=λq hq=>by have:=s3 q hq;unfold fc.rP at this;rw[aM,bf]at this;exact this.1
 refine⟨by omega,by omega,by omega,⟨by omega,λq hq=>by rw[a q hq];omega,?_⟩,by omega,by omega⟩
 have:p.s.map bB=List.replicate 3 16:=by
  rw[List.eq_replicate_iff];refine⟨by rw[bJ,s1],λx d=> ?_⟩
  obtain⟨q,hq,rfl⟩:=cN.1 d;exact a q hq
 rw[this];decide
end lA
namespace pZ
open _root_.Go.FG.Lib (En el)
open fw (sZ told)
def kX(f:Fe):En:=⟨f.k,f.st,f.li,f.t⟩
def cls(p:Px)(f:ay)(life:ay):Px×aY:=
 bif sZ p f&&ah (0<=life/\life<=999999)then
  (bif ah (life>0)then lA.Cs (told p f.toNat {el p.fe f.toNat with sta:=2,li:=life,st:=p.now} 2) (kX {el p.fe f.toNat with sta:=2,li:=life,st:=p.now})
   else told p f.toNat {el p.fe f.toNat with sta:=2,li:=life,st:=p.now} 2,ao)
 else(p,aq)
theorem GV{f life:ay}:(cls p f life).1.now=p.now/\(cls p f life).1.hits=p.hits:=by
 unfold cls;cases sZ p f&&ah (0<=life/\life<=999999)with
 |false=>exact⟨rfl,rfl⟩
 |true=>cases ah (life>0)<;>exact⟨rfl,rfl⟩
end pZ
namespace fS
open _root_.Go.FG.Lib (En el rc rf)
open eV (has without)
open jx (eC)
open jm (i_)
open fX (So fN)
def sf(e:En)(now:ay):aY:=Da.v e.k e.st e.li e.bo now
def jn(l:aE Cl)(c:Cl):aE Cl:=l.filter (λx=>ah (x.id<c.id))++[c]++l.filter (λx=>ah (x.id>c.id))
def ll(l:aE Cl)(id:ay):aY:=l.any λx=>ah (x.id=id)
def G2(l:aE En)(key:au):aA En:=l.find? λe=>ah (e.k=key)
def Gm(key:au)(f:Fe):aY:=ah (f.k=key)&&ah (f.sta=1)
def Ng(l:aE Fe)(key:au):aA aN:=l.findIdx? (Gm key)
def uq(key:au):Fe:=⟨key,⟨#[]⟩,1,0,0⟩
def put(p:Px)(id:ay)(key:au)(h:aY)(fe:aE Fe)(i:aN):Px:=
 {p with en:=bif h then fN p.en key else p.en,w:=bif h then without p.w key else p.w,m:=bif h then without p.m key else p.m,s:=(dp.val p.s p.a key).1,a:=(dp.val p.s p.a key).2,fe:=fe,cl:=jn p.cl ⟨id,key,(i:ay)+1,0,1,(el fe i).t,0⟩}
def kZ(p:Px)(id:ay)(key:au)(h:aY):Px×ay:=
 match Ng p.fe key with
 |some i=>(put p id key h p.fe i,0)
 |none=>bif ah (p.fe.length<20)then(put p id key h (p.fe++[uq key]) p.fe.length,0)else(p,2)
def hit(p:Px)(id:ay)(key:au)(e:En):Px:=
 {p with w:=(eH.val p.w p.m p.s p.a key).1,m:=(eH.val p.w p.m p.s p.a key).2.1,s:=(eH.val p.w p.m p.s p.a key).2.2.1,a:=(eH.val p.w p.m p.s p.a key).2.2.2.1,cl:=jn p.cl ⟨id,key,0,e.st,2,e.bo,p.now-e.st⟩,hits:=bif ah (p.hits<1000000000)then p.hits+1 else p.hits}
def ask(p:Px)(id:ay)(key:au):Px×ay:=
 bif i_ p&&(ah (1<=id/\id<=9)&&(eC key&&(!ll p.cl id&&ah (p.cl.length<6))))then
  match G2 p.en key with
  |some e=>bif sf e p.now then(hit p id key e,0)else kZ p id key ao
  |none=>kZ p id key aq
 else(p,1)
theorem IY(l:aE α)(q:α->aY)(p:aN->aY)(h:∀i (hi:i<l.length),p i=q l[i]):ah (fi p l.length 0≥0)=l.any q:=by
 rcases mO p l.length 0 with ⟨e,a⟩|⟨k,_,hk,e,hp,_⟩
 ·rw[e,qe];symm;rw[Xk];intro x d;obtain⟨i,hi,rfl⟩:=c7 d;rw[<-h i hi,a i (by omega) (by omega)];simp
 ·rw[e,lJ];symm;rw[List.any_eq_true];exact⟨_,bw (by omega:k<l.length),by rw[<-h k (by omega)];exact hp⟩
theorem Ab[Inhabited α](l:aE α)(q:α->aY)(p:aN->aY)(h:∀i (hi:i<l.length),p i=q l[i]):
  (fi p l.length 0= -1/\l.find? q=aj/\l.findIdx? q=aj)\/∃i,i<l.length/\fi p l.length 0=(i:ay)/\l.find? q=ai (el l i)/\l.findIdx? q=ai i:=by
 rcases mO p l.length 0 with ⟨e,s⟩|⟨k,_,hk,e,hp,o⟩
 ·have r:∀x∈l,q x=false:=λx m=>by obtain⟨i,hi,rfl⟩:=c7 m;rw[<-h i hi,s i (by omega) (by omega)]
  refine .inl ⟨e,TP.2 λx m=>by rw[r x m];simp,C4.2 r⟩
 ·have a:k<l.length:=by omega
  have f:l.findIdx? q=ai k:=wW.2 ⟨a,by rw[<-h k a];exact hp,λj d=>by rw[<-h j (by omega),o j (by omega) d];simp⟩;refine .inr ⟨k,a,e,?_,f⟩;rw[zp];exact⟨by rw[eT a,<-h k a];exact hp,k,a,(eT a).symm,λj d=>by rw[<-h j (by omega),o j (by omega) d];rfl⟩
def lid(id:ay)(y:aE CV):aY:=ah (bN (y.getD 0 (.b aq))<id)
theorem QH(cs:l.Pairwise λa b=>a.id<b.id)(d:ll l c.id=aq):
  (rc l).take ((rc l).takeWhile (lid c.id)).length++[Cl.row c]++(rc l).drop ((rc l).takeWhile (lid c.id)).length=rc (jn l c):=by
 rw[wO,v8];have f:∀y∈l,y.id≠c.id:=λy i e=>by unfold ll at d;rw[Xk]at d;exact d y i (aC e)
 obtain⟨k,m⟩:=Lib.yP (λx:Cl=>ah (x.id<c.id)) (λx=>ah (x.id>c.id)) l (λy i=>by
  have:=f y i;by_cases h:y.id<c.id
  ·rw[aC h,qe];rfl
  ·rw[aF h,lJ];rfl) (cs.imp λ{a b} j h=>aC (by have:=cL h;omega))
 unfold Lib.rc;rw[Mv,Mt];have e:lid c.id∘Cl.row=λx:Cl=>ah (x.id<c.id):=rfl;rw[e,k,m];unfold jn;rw[cO,cO];rfl
end fS
namespace vI
open _root_.Go.FG.Lib (rd el)
open dz (rZ jJ)
def kN(left:Row)(i:aN)(f:Fi):ay:=bif ah (i<left.length)then ea ao f.kp (ea aq (bN (av left i 0)) (f.t.size:ay))else f.kp
def MF(left:Row)(i:aN)(f:Fi):Fi:=⟨f.n,f.t.extract 0 (kN left i f).toNat,kN left i f⟩
def Jf(d:aE Fi)(left:Row):aA (aE Fi):=bif rZ d then ai (d.mapIdx (MF left))else aj
theorem Ja(left:Row)(i:aN)(h:0<=f.kp/\f.kp<=(f.t.size:ay)):f.kp<=kN left i f/\kN left i f<=(f.t.size:ay):=by
 unfold kN ea;cases ah (i<left.length)with
 |false=>rw[ax];omega
 |true=>simp only[aw,ax];split<;>split<;>omega
theorem ok(d:aE Fi)(left:Row)(hd:d.length<=1000):c (rd d) left=ao/\v (rd d) left=qS.res (Jf d left):=by
 refine out _ _ ?_;unfold vo b Jf;have y:=qS.Wc d (by omega);have a:=sr.ok (rd d) (by rw[dX];omega);rw[y.1,y.2,aw];cases hk:rZ d with
 |false=>rfl
 |true=>
 rw[aZ,ax,a.1,a.2,aw,aw,dX];obtain⟨K,C,M⟩:=jJ.1 hk;have r:∀f∈d,0<=f.kp/\f.kp<=(f.t.size:ay):=λf A=>by have:=C f A;unfold dz.mX at this;simp only[aM,bf,dt,eR]at this;exact this.2.2
 refine m_ Fi.row d (MF left) (λm (i:aN) (x:Row)=>l5 ck (λ(_ _:Row) (_ _:ay) (H:Row)=>ai (H,ao)) m left (rd d) (d.length:ay) (i:ay) x) (λx=>ai (x,ao)) (λm i L h a hl z=> ?_) (λm L hl=> ?_) ck ez
 ·have I:=Ja left i (r _ (bw h));have h0:=(r _ (bw h)).1;have j:(L.map Fi.row).length=L.length:=bJ ..;have hs:∀n:ay,n=kN left i d[i]->dV (L.map Fi.row) i 0 [CV.s d[i].n,CV.s (d[i].t.extract (aR 0) n.toNat),CV.i ak n]=(L.set i (MF left i d[i])).map Fi.row:=λn B=>by subst B;exact kl Fi.row L i 0 _ (MF left i d[i]) a (by rw[z];rfl)
  have u:∀k n,bN (CV.i k n)=n:=λ_ _=>rfl;have cs:∀x,br (CV.s x)=x:=λ_=>rfl;by_cases hi:i<left.length
  ·have e:kN left i d[i]=ea ao d[i].kp (ea aq (bN (av left i 0)) (d[i].t.size:ay)):=by unfold kN;rw[aC hi];rfl
   have o:fU 0 (ea ao d[i].kp (ea aq (bN (av left i 0)) (d[i].t.size:ay))) (d[i].t.size:ay)=true:=by rw[<-e];simp[fU];omega
   simp only[l5,r5,c8,h,hi,a,j,dX,aQ,b_,aL,aw,dB,Hz h,Tm h,Tn h,cs,u,o,hs _ e.symm,cw h (by omega:d.length<=9223372036854775807)]
  ·have e:kN left i d[i]=d[i].kp:=by unfold kN;rw[aF hi];rfl
   have o:fU 0 d[i].kp (d[i].t.size:ay)=true:=by have:=r _ (bw h);simp[fU];omega
   simp only[l5,r5,c8,h,hi,a,j,dX,aQ,bg,b_,aL,aw,ax,dB,Hz h,Tm h,Tn h,cs,u,o,hs _ e.symm,cw h (by omega:d.length<=9223372036854775807)]
 ·simp only[l5,r5,c8,bk,bg,ax]
end vI
namespace jq
def eo(l:Row)(i:aN):aY:=gu.v (br (av l i 0)) (bN (av l i 1)) (bN (av l i 2)) (br (av l i 3))
def tx(l:Row)(i:aN):au:=jr.sa (br (av l i 0)) (bN (av l i 1)) (bN (av l i 2)) (br (av l i 3))
def fs(l:Row):aN->aN->au->aA au
 |0,_,acc=>ai acc
 |d+1,i,acc=>if eo l i=ao then fs l d (i+1) (acc++fj.fr (tx l i))else aj
theorem Fl(l:Row)(d i:aN)(acc:au):fs l (d+1) i acc=if eo l i=ao then fs l d (i+1) (acc++fj.fr (tx l i))else none:=rfl
def fin(o:aA au)(a:aA R)(d:au->aA R):aA R:=match o with|some x=>d x|none=>a
theorem KU(l:Row)(hl:l.length<=1048576)(F:aN->aN->au->aA R)(d:aA R)(f:au->aA R)
  (r:∀m i acc,i<l.length->acc.size<=2000*i->(fj.fr (tx l i)).size<=2000->eo l i=ao->F (m+1) i acc=F m (i+1) (acc++fj.fr (tx l i)))
  (o:∀m i acc,i<l.length->eo l i=aq->F (m+1) i acc=d) (hE:∀m acc,F (m+1) l.length acc=f acc):F ck 0 ⟨#[]⟩=fin (fs l l.length 0 ⟨#[]⟩) d f:=by
 have:=fE (λn (z:aN×au)=>F n z.1 z.2) (λz=>l.length-z.1) (λz=>z.1<=l.length/\z.2.size<=2000*z.1) (λz=>fin (fs l (l.length-z.1) z.1 z.2) d f) (λm z u=>by
  obtain⟨i,acc⟩:=z;obtain⟨k,j⟩:=u;dsimp only at k j⊢;by_cases h:i<l.length
  ·have e:l.length-i=(l.length-(i+1))+1:=by omega
   cases a:eo l i with
   |true=>
    right;have hs:=mh.tf a;have s:(fj.fr (tx l i)).size<=2000:=by have:=fj.Uq (t:=tx l i) (by unfold tx;omega);unfold tx at this⊢;omega
    exact⟨(i+1,acc++fj.fr (tx l i)),⟨h,by dsimp only;rw[dm];omega⟩,by dsimp only;omega,by dsimp only;rw[e,Fl,bm a],r m i acc h j s a⟩
   |false=>left;rw[o m i acc h a,e,Fl,bh (by simp[a])];rfl
  ·left;have:i=l.length:=by omega
   subst this;rw[hE,pf];rfl) ck (0,⟨#[]⟩) ⟨bA _,bA _⟩ (mS (by dsimp only;omega))
 simpa using this
def nm:au:=(az #[ar 110,ar 101,ar 119])
def jR(has:aY)(x:au):Row:=(if has=ao then [[CV.i ak 4,CV.s nm,CV.s (az #[]),CV.s (az #[])]]else [])++[[CV.i ak 1,CV.s nm,CV.s x,CV.s (az #[])],[CV.i ak 2,CV.s nm,CV.s (az #[]),CV.s (az #[])],[CV.i ak 3,CV.s nm,CV.s (az #[]),CV.s (az #[ar 107,ar 101,ar 112,ar 116])]]
def val(d l:Row):Row×aY:=bif fD.val d then(match fs l l.length 0 ⟨#[]⟩with|some x=>(jR (lI.val d nm).2 x,ao)|none=>([],aq))else([],aq)
theorem ok(d l:Row)(hd:d.length<=1048576)(hl:l.length<=1048576):c d l=ao/\v d l=val d l:=by
 refine out d l ?_;have s:=fD.ok d (by omega);have t:=lI.ok d (az #[ar 110,ar 101,ar 119]) (by omega);have y:lI.val d (az #[ar 110,ar 101,ar 119])=lI.val d nm:=rfl;unfold vo b val;rw[s.1,s.2,aw];cases fD.val d with
 |false=>rfl
 |true=>
  rw[aZ,ax,aw,t.1,aw,t.2,y];have u:∀(K0:Row->aY->au->ay->Row->Row->aA (Row×aY)) (K1:Row->aY->au->ay->Row->aA (Row×aY)) (base:Row) (f:au->aA (Row×aY)) (h0:∀x i,K0 l aq x i [] base=ai ([],aq)) (r:∀x i,K1 l aq x i base=f x),l9 ck K0 K1 ck l aq ⟨#[]⟩ 0 base=fin (fs l l.length 0 ⟨#[]⟩) (ai ([],aq)) f:=by
   intro K0 K1 base f h0 r;refine KU l hl (λm i acc=>l9 ck K0 K1 m l aq acc (i:ay) base) _ f (λm i acc hi C H a=> ?_) (λm i acc hi a=> ?_) (λm acc=> ?_)
   ·have j:bE ((i:ay)+1)=((i+1:aN):ay):=dq (by omega) (by omega);have k:jr.v (br (av l i 0)) (bN (av l i 1)) (bN (av l i (1+1))) (br (av l i (1+1+1)))=(tx l i,ao):=by unfold jr.v;exact bm a
    have e:=fj.ok (tx l i);have z:fj.val (tx l i)=(fj.fr (tx l i),ao):=by unfold fj.val;have A:=mh.Av a;have B:=mh.tf a;rw[bm ⟨A,cf B (by omega)⟩]
    simp only[l9,r9,c8,b_,dB,hi,aQ,aL,aw,ax,k,e.1,e.2,z,aZ,aC (show acc.size+(fj.fr (tx l i)).size<=4611686018427387904 by omega),j]
   ·have k:jr.v (br (av l i 0)) (bN (av l i 1)) (bN (av l i (1+1))) (br (av l i (1+1+1)))=(⟨#[]⟩,aq):=by unfold jr.v;rw[bh (by intro h;have o:eo l i=true:=h;rw[a]at o;cases o)]
    have e:=fj.ok ⟨#[]⟩;simp only[l9,r9,c8,b_,dB,hi,aQ,aL,aw,k,e.1,bG];exact h0 acc i
   ·simp only[l9,r9,c8,bk,bg,ax];exact r acc _
  cases I:(lI.val d nm).2 with
  |true=>rw[aw];refine(u _ _ _ (λx=>ai (jR ao x,ao)) (λ_ _=>rfl) (λ_ _=>rfl)).trans ?_;cases fs l l.length 0 ⟨#[]⟩<;>rfl
  |false=>rw[ax];refine(u _ _ _ (λx=>ai (jR aq x,ao)) (λ_ _=>rfl) (λ_ _=>rfl)).trans ?_;cases fs l l.length 0 ⟨#[]⟩<;>rfl
end jq
namespace pd
open _root_.Go.FG.Lib (rd el En)
open iK (kd kp Dk tx Gl base bt qz ake)
open dz (jR act rZ mX put without FA ra Ac)
open fX (So mB eU)
open vI (Jf MF kN Ja)
abbrev qA:au:=(az #[ar 110,ar 101,ar 119])
def sF(x:au):aE Ac:=[⟨1,qA,x,⟨#[]⟩⟩,⟨2,qA,⟨#[]⟩,⟨#[]⟩⟩,⟨3,qA,⟨#[]⟩,qz⟩]
theorem Qa(T:au):T.extract 0 T.size=T:=qZ T
theorem M_(h:rZ d=ao)(hk:∀f∈d,f.kp=(f.t.size:ay))(left:Row):Jf d left=ai d:=by
 unfold Jf;rw[h,aw];congr 1;apply la (by simp);intro i k j;rw[List.getElem_mapIdx];have a:=hk _ (bw j);have m:=Ja left i (f:=d[i]) ⟨by omega,by omega⟩;have e:kN left i d[i]=(d[i].t.size:ay):=by omega
 unfold MF;rw[e,dG,Qa];cases hd:d[i];rw[hd]at a;dsimp only at a⊢;rw[a]
theorem MB(o:aA au):∀f∈base o,f.kp=(f.t.size:ay):=λf a=>by
 cases o with
 |none=>cases a
 |some t=>rw[a_.1 a]
theorem less:eU qz qA=true:=by unfold eU;rw[jY,jY];rfl
theorem ajM(t:au)(k:ay)(d:t.size<=20000)(a:0<=k/\k<=(t.size:ay)):mX ⟨qA,t,k⟩=true:=by unfold mX;have:((qA.size:aN):ay)=3:=rfl;rw[this,lJ,aC a,aF (by dsimp only;omega)];rfl
theorem F8{k:ay}(h:(bt o).size<=20000)(d:x.size<=20000)(hk:0<=k/\k<=(x.size:ay)):rZ (base o++[⟨qA,x,k⟩])=true:=by
 refine dz.jJ.2 ⟨?_,λf a=> ?_,?_⟩
 ·cases o<;>simp[base]
 ·rcases bc.1 a with a|a
  ·exact(dz.jJ.1 (iK.tB h)).2.1 f a
  ·rw[a_.1 a];exact ajM x k d hk
 ·cases o with
  |none=>exact Gh ..
  |some t=>exact p8.2 ⟨λy e=>by rw[a_.1 e];exact less,Gh ..⟩
theorem nKN:qz≠qA:=by decide
theorem Qd(o:aA au)(x:au)(k:ay):(base o++[(⟨qA,x,k⟩:Fi)]).find? (λy=>ah (y.n=qA))=ai ⟨qA,x,k⟩:=by
 cases o with
 |none=>rfl
 |some t=>rw[show base (ai t)++[(⟨qA,x,k⟩:Fi)]=[⟨qz,t,t.size⟩,⟨qA,x,k⟩]from rfl,Ik (by simp[nKN]),List.find?_cons_of_pos (by simp)]
theorem afj(o:aA au):(base o).find? (λy=>ah (y.n=qA))=none:=by
 cases o with
 |none=>rfl
 |some t=>rw[show base (ai t)=[⟨qz,t,t.size⟩]from rfl,Ik (by simp[nKN]),List.find?_nil]
theorem agS(o:aA au)(x:au)(k:ay):put (base o) ⟨qA,x,k⟩=base o++[⟨qA,x,k⟩]:=by
 cases o with
 |none=>rfl
 |some t=>unfold put;rw[show base (ai t)=[⟨qz,t,t.size⟩]from rfl,dy (by simpa using less),cC (by simp[less])];rfl
theorem acf(o:aA au)(x y:au)(k m:ay):put (base o++[⟨qA,y,m⟩]) ⟨qA,x,k⟩=base o++[⟨qA,x,k⟩]:=by
 cases o with
 |none=>exact iK.wz rfl
 |some t=>unfold put;rw[show base (ai t)++[(⟨qA,y,m⟩:Fi)]=[⟨qz,t,t.size⟩,⟨qA,y,m⟩]from rfl,dy (by simpa using less),cC (by rw[dz.irrefl];simp),cC (by simp[less]),cC (by simp)];rfl
theorem mov(o:aA au)(x:au)(k:ay):put (without (base o++[⟨qA,x,k⟩]) qA) ⟨qz,x,k⟩=[⟨qz,x,k⟩]:=by
 have:without (base o++[⟨qA,x,k⟩]) qA=base o:=by
  unfold without;rw[fy,cC (by simp),List.filter_nil,cZ,eh];intro f a;cases o with
  |none=>cases a
  |some t=>rw[a_.1 a];simp[nKN]
 rw[this];cases o with
 |none=>rfl
 |some t=>exact iK.wz rfl
theorem a1(h:(bt o).size<=20000)(d:x.size<=20000):act (base o) 1 qA x ⟨#[]⟩=ai (base o++[⟨qA,x,0⟩]):=by
 unfold act;rw[iK.tB h,show dz.jQ 1 x ⟨#[]⟩=ao from by unfold dz.jQ;simp,aL,aw];have a:FA (base o) 1 qA x ⟨#[]⟩=ai (base o++[⟨qA,x,0⟩]):=by unfold FA;rw[afj];dsimp only;rw[bm rfl,agS]
 rw[a];dsimp only;rw[F8 h d ⟨by omega,by omega⟩];rfl
theorem a2(h:(bt o).size<=20000)(a:x.size<=20000):act (base o++[⟨qA,x,0⟩]) 2 qA ⟨#[]⟩ ⟨#[]⟩=ai (base o++[⟨qA,x,x.size⟩]):=by
 unfold act;rw[F8 h a ⟨by omega,by omega⟩,show dz.jQ 2 ⟨#[]⟩ ⟨#[]⟩=ao from by unfold dz.jQ;simp,aL,aw];have d:FA (base o++[⟨qA,x,0⟩]) 2 qA ⟨#[]⟩ ⟨#[]⟩=ai (base o++[⟨qA,x,x.size⟩]):=by unfold FA;rw[Qd];dsimp only;rw[bh (by omega),bm rfl,acf]
 rw[d];dsimp only;rw[F8 h a ⟨by omega,by omega⟩];rfl
theorem a3(h:(bt o).size<=20000)(a:x.size<=20000):act (base o++[⟨qA,x,x.size⟩]) 3 qA ⟨#[]⟩ qz=ai (base (ai x)):=by
 unfold act;rw[F8 h a ⟨by omega,by omega⟩,show dz.jQ 3 ⟨#[]⟩ qz=ao from by unfold dz.jQ;simp,aL,aw];have d:FA (base o++[⟨qA,x,x.size⟩]) 3 qA ⟨#[]⟩ qz=ai (base (ai x)):=by unfold FA;rw[Qd];dsimp only;rw[bh (by omega),bh (by omega),bm rfl,bh (by rintro (h|h);exact h rfl;exact nKN h),mov];rfl
 rw[d];dsimp only;rw[iK.tB (o:=ai x) a];rfl
theorem ajD(h:(bt o).size<=20000)(a:x.size<=20000):jR (base o) 0 (sF x)=(base (ai x),3):=by unfold sF jR;dsimp only;rw[a1 h a];dsimp only;unfold jR;dsimp only;rw[a2 h a];dsimp only;unfold jR;dsimp only;rw[a3 h a];rfl
theorem abd(l:aE En)(a:∀x∈l,Dk x=ao):∀(d i:aN) (acc:au),d+i=l.length->jq.fs (re l) d i acc=ai (acc++tx (l.drop i)):=by
 intro d;induction d with
 |zero=>
  intro i acc h;have:i=l.length:=by omega
  subst this;rw[cX];exact ic ai (pX).symm
 |succ d ih=>
  intro i acc h;have hi:i<l.length:=by omega
  have h0:jq.eo (re l) i=true:=by unfold jq.eo;rw[oy hi,rF hi,show av (re l) i 2=CV.i ak (el l i).li from rG hi,show av (re l) i 3=CV.s (el l i).bo from rH hi];exact a _ (jt hi)
  have e:jq.tx (re l) i=iK.sa l[i]:=by unfold jq.tx;rw[oy hi,rF hi,show av (re l) i 2=CV.i ak (el l i).li from rG hi,show av (re l) i 3=CV.s (el l i).bo from rH hi,eT hi];rfl
  rw[jq.Fl,bm h0,e,ih (i+1) _ (by omega),cq hi,c_];rfl
end pd
namespace k7
open _root_.Go.FG.Lib (En el rd rf rc rs)
open fX (So mB)
open dz (rZ jR Ac ra)
open iK (sa Dk Gl tx kp base bt rM)
open pd (sF)
open vI (Jf)
def dk(o:aA (aE En)):aE Fi:=base (o.map tx)
def es(o:aA (aE En)):aE En:=o.getD []
theorem GN(o:aA (aE En)):bt (o.map tx)=tx (es o):=by cases o<;>rfl
theorem Bd(o:aA (aE En)):(dk o).length<=1:=by cases o<;>simp[dk,base]
theorem GY(h:(tx (es o)).size<=20000):rZ (dk o)=true:=iK.tB (by rw[GN];exact h)
theorem Uc(h:(tx (es o)).size<=20000)(left:Row):Jf (dk o) left=ai (dk o):=pd.M_ (GY h) (pd.MB _) left
theorem Xz(h:(tx (es o)).size<=20000)(a:∀e∈es o,Dk e=ao):(U101.c (rd (dk o))=ao/\U101.v (rd (dk o))=re (kp (es o)))/\(rU.c (rd (dk o))=ao/\rU.v (rd (dk o))=re (kp (es o))):=by refine iK.fk (dk o) (es o) ⟨#[]⟩ (GY h) ?_ a (.inl rfl);unfold dk;rw[iK.MA,GN];exact(pX).symm
theorem KZ(h:(tx (es o)).size+(Gl e).size<=20000):jR (dk o) 0 (rM (Gl e))=(dk (ai (es o++[e])),2):=by unfold dk;rw[iK.QL (by rw[GN];exact h),GN,hJ,iK.WD]
theorem KY(h:(tx (es o)).size<=20000)(hl:(tx l).size<=20000):jR (dk o) 0 (sF (tx l))=(dk (ai l),3):=pd.ajD (by rw[GN];exact h) hl
theorem Xy(hs:(tx (es o)).size<=20000)(a:∀x∈l,Dk x=ao):jq.val (rd (dk o)) (re l)=(ra (sF (tx l)),ao):=by
 unfold jq.val;rw[show fD.val (rd (dk o))=ao from GY hs,aw,dv,pd.abd l a l.length 0 ⟨#[]⟩ (by omega),eK];have d:(lI.val (rd (dk o)) jq.nm).2=false:=by unfold dk;rw[iK.fileAt,show jq.nm=pd.qA from rfl,pd.afj]
 dsimp only;rw[d,show(⟨#[]⟩:au)++tx l=tx l from k8];rfl
end k7
namespace fV
open _root_.Go.FG.Lib (rs rf rc En el)
open fX (So fN mB eU)
open lA (Cs)
def HV:aE ay:=[0,0,0,0,0,0,0,0,0,0,0,0,0,0,0,0]
def p0(now:ay):Px:=⟨now,[],[],[],[HV,HV,HV],0,[],[],0⟩
def sf(e:En)(now:ay):aY:=Da.v e.k e.st e.li e.bo now
def one(now:ay)(p:Px)(e:En):Px:=bif sf e now then Cs p e else p
def si(now:ay)(l:aE En):Px:=l.foldl (one now) (p0 now)
structure Inv (now:ay) (i:aN) (p:Px):Prop where
 so:So p.en
 ks:∀e∈p.en,1<=e.k.size
 en:p.en.length<=i
 w:p.w.length<=i
 m:p.m.length<=i
 s:eH.lens p.s=[16,16,16]
 fe:p.fe=[]
 cl:p.cl=[]
 now:p.now=now
 hits:p.hits=0
theorem aj3(now:ay):Inv now 0 (p0 now):=⟨gH,λe h=>(nomatch h),bT _,bT _,bT _,rfl,rfl,rfl,rfl,rfl⟩
theorem QP(h:eH.lens s=[16,16,16]):s.length=3/\(∀q∈s,q.length=16)/\(s.map bB).sum=48:=by
 refine⟨?_,λq hq=> ?_,?_⟩
 ·have:=ic bB h;unfold eH.lens at this;simpa using this
 ·have:q.length∈eH.lens s:=cN.2 ⟨q,hq,rfl⟩;rw[h]at this;simpa using this
 ·rw[show s.map bB=[16,16,16]from h];rfl
theorem Inv.fit{now:ay}{i:aN}{p:Px}(h:Inv now i p){n:aN}(d:i<=n)(e:48<=n):p.Fit n:=by
 obtain⟨a,b,c⟩:=QP h.s;have hq:∀q∈p.s,q.length<=n:=λq hq=>by have:=b q hq;omega
 exact⟨cf h.en d,cf h.w d,cf h.m d,⟨by omega,hq,by omega⟩,by rw[h.fe];exact bA _,by rw[h.cl];exact bA _⟩
theorem Inv.up{now:ay}{i:aN}{p:Px}(h:Inv now i p):Inv now (i+1) p:=⟨h.so,h.ks,mF h.en,mF h.w,mF h.m,h.s,h.fe,h.cl,h.now,h.hits⟩
theorem yM(h:So en)(e:En):So (mB en e):=by have:=(fK.wq (fX.BI h) e.k e.st e.li e.bo).1.1;rw[fX.s7]at this;unfold Lib.re at this;rw[j3]at this;exact this
theorem Inv.store{now:ay}{i:aN}{p:Px}(h:Inv now i p)(e:En)(t:1<=e.k.size):Inv now (i+1) (Cs p e):=by
 obtain⟨j,o,r⟩:=eH.JR p.w p.m p.s p.a e.k;have y:=h.w;have hm:=h.m;have u:=h.en;refine⟨?_,?_,?_,cf j (by omega),cf o (by omega),r.trans h.s,h.fe,h.cl,h.now,h.hits⟩
 ·show So (bif _ then mB (fN p.en _) e else fN p.en _);cases eV.has (eH.val p.w p.m p.s p.a e.k).1 e.k||eV.has (eH.val p.w p.m p.s p.a e.k).2.1 e.k with
  |true=>exact yM (h.so.drop _) e
  |false=>exact h.so.drop _
 ·show∀x∈(bif _ then mB (fN p.en _) e else fN p.en _),1<=x.k.size;have hd:∀x∈fN p.en (eH.val p.w p.m p.s p.a e.k).2.2.2.2,1<=x.k.size:=λx f=>h.ks x (da.1 f).1;cases eV.has (eH.val p.w p.m p.s p.a e.k).1 e.k||eV.has (eH.val p.w p.m p.s p.a e.k).2.1 e.k with
  |true=>
   intro x f;rw[aw]at f;unfold mB at f;rcases bc.1 f with f|f
   ·rcases bc.1 f with f|f
    ·exact hd x (da.1 f).1
    ·rw[a_]at f;rw[f];exact t
   ·exact hd x (da.1 f).1
  |false=>exact hd
 ·show(bif _ then mB (fN p.en _) e else fN p.en _).length<=i+1;have d:=fX.v7 p.en (eH.val p.w p.m p.s p.a e.k).2.2.2.2;have q:=fX.rq (fN p.en (eH.val p.w p.m p.s p.a e.k).2.2.2.2) e (h.so.drop _);cases eV.has (eH.val p.w p.m p.s p.a e.k).1 e.k||eV.has (eH.val p.w p.m p.s p.a e.k).2.1 e.k with
  |true=>rw[aw];omega
  |false=>rw[ax];omega
theorem yv{now:ay}(h:sf e now=ao):gu.v e.k e.st e.li e.bo=true:=by
 unfold sf Da.v at h;cases hq:gu.v e.k e.st e.li e.bo with
 |true=>rfl
 |false=>rw[show vM.v e.k e.st e.li e.bo=aq from hq]at h;cases h
theorem sS(now:ay)(l:aE En):∀i,i<=l.length->Inv now i (si now (l.take i)):=by
 intro i;induction i with
 |zero=>intro _;exact aj3 now
 |succ i ih=>
  intro hi;have h:=ih (by omega);have e:si now (l.take (i+1))=one now (si now (l.take i)) l[i]:=by unfold si;rw[bO (by omega),mz];rfl
  rw[e];unfold one;cases a:sf l[i] now with
  |true=>exact h.store _ (gu.FN (yv a)).1.1
  |false=>exact h.up
theorem wG(now:ay)(l:aE En)(i:aN)(h:i<l.length):si now (l.take (i+1))=one now (si now (l.take i)) (el l i):=by unfold si;rw[bO h,mz,eT h];rfl
end fV
namespace kt
open _root_.Go.FG.Lib (rs rf rc)
theorem ok(p:Px)(hp:p.Fit 1048576):c p.now (re p.en) (rs p.w) (rs p.m) (rr p.s) p.a (rf p.fe) (rc p.cl) p.hits=ao/\v p.now (re p.en) (rs p.w) (rs p.m) (rr p.s) p.a (rf p.fe) (rc p.cl) p.hits=(p.now,re p.en,rs p.w,rs p.m,rr p.s,p.a,rf p.fe,rc p.cl,p.hits):=by have f:=hp.en;have h:=hp.fe;have e:=hp.cl;have d:=fQ.ok p.w p.m p.s p.a hp.w hp.m ⟨hp.s.1,hp.s.2.1⟩;exact out _ _ _ _ _ _ _ _ _ (by unfold vo b;rw[d.1,d.2,aw,b0 (b:=48) (by simp[aT,dv];omega) (by simp[aT,dv];omega),b0 (b:=56) (by simp[aT,dI];omega) (by simp[aT,dI];omega),b0 (b:=72) (by simp[aT,eL];omega) (by simp[aT,eL];omega)];rfl)
end kt
namespace rR
open _root_.Go.FG.Lib (rs rf rc)
def later(now n:ay):ay:=bif ah (now>1000000000-n%1000)then 1000000000 else bE (now+n%1000)
def val(p:Px)(n:ay):Px:={p with now:=later p.now n}
theorem tm(n:ay):(0<=cx n 1000->cx n 1000=n%1000)/\(cx n 1000<0->cx n 1000+1000=n%1000):=by
 rw[Int.tmod_eq_emod];by_cases h:0<=n\/(1000:ay)∣n
 ·rw[bm h];constructor<;>omega
 ·rw[bh h];have hd:¬(1000:ay)∣n:=λx=>h (.inr x);have:n%1000≠0:=λe=>hd (Int.dvd_of_emod_eq_zero e);constructor<;>simp<;>omega
theorem ok(p:Px)(n:ay)(hp:p.Fit 1048576):c p.now (re p.en) (rs p.w) (rs p.m) (rr p.s) p.a (rf p.fe) (rc p.cl) p.hits n=ao/\v p.now (re p.en) (rs p.w) (rs p.m) (rr p.s) p.a (rf p.fe) (rc p.cl) p.hits n=((val p n).now,re p.en,rs p.w,rs p.m,rr p.s,p.a,rf p.fe,rc p.cl,p.hits):=by
 have h:=kt.ok p hp;refine out _ _ _ _ _ _ _ _ _ _ ?_;have t:=tm n;unfold vo b val later;simp only[ch,h.1,h.2,aw];by_cases d:cx n 1000<0
 ·have e:=t.2 d;rw[aC d,aw,e,dq (x:=n%1000) (by omega) (by omega),dq (x:=1000000000-n%1000) (by omega) (by omega)];cases ah (p.now>1000000000-n%1000)<;>rfl
 ·have e:=t.1 (by omega);rw[aF d,ax,e,dq (x:=1000000000-n%1000) (by omega) (by omega)];cases ah (p.now>1000000000-n%1000)<;>rfl
end rR
namespace ud
open _root_.Go.FG.Lib (rs rf rc el JV NX NY NZ)
def val(p:Px)(id:ay):Px:={p with cl:=p.cl.filter λc=> !decide (c.id=id)}
theorem ok(p:Px)(id:ay)(hp:p.Fit 1048576):c p.now (re p.en) (rs p.w) (rs p.m) (rr p.s) p.a (rf p.fe) (rc p.cl) p.hits id=ao/\v p.now (re p.en) (rs p.w) (rs p.m) (rr p.s) p.a (rf p.fe) (rc p.cl) p.hits id=(p.now,re p.en,rs p.w,rs p.m,rr p.s,p.a,rf p.fe,rc (val p id).cl,p.hits):=by
 have h:=kt.ok p hp;have A:=hp.cl;refine out _ _ _ _ _ _ _ _ _ _ ?_;unfold vo b;simp only[ch,h.1,h.2,aw];have key:=im p.cl.length (λn (i:aN) (x:Row)=>l4 ck (λ(_ _ _:ay) (_ _ _ _:Row) (_:ay) (_ _:Row) (_ _ _ _ d f j:ay) (k o r t u y:Row)=>ai (d,k,o,r,t,f,u,y,j)) n id (i:ay) p.now (re p.en) (rs p.w) (rs p.m) (rr p.s) p.a (rf p.fe) (rc p.cl) p.hits 0 0 0 p.now p.a p.hits (re p.en) (rs p.w) (rs p.m) (rr p.s) (rf p.fe) x) (λi=>rc ((p.cl.take i).filter λc=> !decide (c.id=id))) (ai (p.now,re p.en,rs p.w,rs p.m,rr p.s,p.a,rf p.fe,rc (val p id).cl,p.hits)) (λn i hi=>by
  have z:((p.cl.take i).filter λc=> !decide (c.id=id)).length<=i:=by refine cf (d_ ..) ?_;rw[du];omega
  have e:(p.cl.take (i+1)).filter (λc=> !decide (c.id=id))=(p.cl.take i).filter (λc=> !decide (c.id=id))++(bif !decide ((el p.cl i).id=id)then [el p.cl i]else []):=by rw[bO hi,fy,eT hi];cases hd:ah (p.cl[i].id=id)<;>simp[hd]
  rw[e];simp only[l4,r4,eL,c8,hi,aQ,b_,aL,aw,dB,JV hi,wc1 hi,wc2 hi,wc3 hi,NX hi,NY hi,NZ hi,br,bN,pc,bu,cw hi (by omega:p.cl.length<=9223372036854775807)];rw[b0 (by omega) (by omega),aw,show((el p.cl i).id !=id)= !decide ((el p.cl i).id=id)from rfl];cases ah ((el p.cl i).id=id)with
  |true=>rw[aZ,ax,ax,cZ]
  |false=>rw[bG,aw,aw];unfold Lib.rc;rw[cO];rfl) (λn=>by
  simp only[l4,r4,eL,c8,bk,bg,ax,cE];rfl) ck 0 (bA _) ez
 exact key
end ud
namespace gL
open _root_.Go.FG.Lib (En el)
open iK (kp Dk)
open pZ (cls kX)
open fw (Cm Cp)
open fS (ll)
open k7 (dk es)
structure Wo where
 p:Px
 o:aA (aE En)
 cd:aE ay
 bd:aE En
structure Ev where
 k:ay
 id:ay
 t:au
 n:ay
 l:Row
def flag(b:aY):ay:=bif b then 0 else 1
def l_(w:Wo):aE En:=(kp (es w.o)).filter λe=>fV.sf e w.p.now
def closed(w:Wo)(id life:ay):Wo×ay:=
 let q:=cls w.p id life
 (bif q.2&&ah (life>0)then{w with p:=q.1,o:=ai (es w.o++[kX (el q.1.fe id.toNat)]),bd:=w.bd++[kX (el q.1.fe id.toNat)]}else{w with p:=q.1},flag q.2)
def zG(w:Wo):Wo:={w with p:=fV.si w.p.now (l_ w),o:=ai (l_ w)}
def act(w:Wo)(e:Ev):Wo×ay:=
 bif ah (e.k=1)then({w with p:=(fS.ask w.p e.id e.t).1},(fS.ask w.p e.id e.t).2)
 else bif ah (e.k=2)then({w with p:=(Cp w.p e.id e.t).1},flag (Cp w.p e.id e.t).2)
 else bif ah (e.k=3)then closed w e.id (e.n%1000000)
 else bif ah (e.k=4)then({w with p:=(Cm w.p e.id).1},flag (Cm w.p e.id).2)
 else bif ah (e.k=5)then({w with p:=rR.val w.p e.n},0)
 else bif ah (e.k=6)then({w with p:=ud.val w.p e.id},flag (ll w.p.cl e.id))
 else(zG w,0)
def step(w:Wo)(e:Ev):Wo:={(act w e).1 with cd:=w.cd++[(act w e).2]}
def gA(e:Ev):aY:=ah (1<=e.k/\e.k<=7)&&(ah (0<=e.id/\e.id<=30)&&(ah (e.t.size<=60)&&(ah (0<=e.n)&&ah (e.l.length<=4))))
end gL
namespace Az
open _root_.Go.FG.Lib (En el)
open eV (has gl)
open jx (eC sg)
open nk (uo Gk K4)
open np (mX lW apart)
open jm (Gj i_)
open fX (So eU)
def H6(now:ay)(a:aN)(c:Cl):aY:=
 decide (1<=c.id/\c.id<=9)&&(eC c.k&&(ah (1<=c.sta/\c.sta<=3)&&(ah (0<=c.fe/\c.fe<=(a:ay))&&(ah ((c.got.size:ay)<=400)&&(ah (0<=c.fr/\c.fr<=now)&&ah (0<=c.age))))))
structure ib (p:Px):Prop where
 now:1<=p.now/\p.now<=1000000000
 en:∀e∈p.en,uo e=ao
 so:So p.en
 ek:∀e∈p.en,e.k∈p.w\/e.k∈p.m
 pol:sg p.w p.m p.s p.a=ao
 len:p.w.length+p.m.length=p.en.length
 fl:p.fe.length<=20
 fe:∀f∈p.fe,mX p.now f=ao
 ap:p.fe.Pairwise λf g=>lW g f=aq
 cll:p.cl.length<=6
 cl:∀c∈p.cl,H6 p.now p.fe.length c=ao
 cs:p.cl.Pairwise λc d=>c.id<d.id
 hits:0<=p.hits/\p.hits<=1000000000
theorem RF(R:α->α->Prop)(f:∀x y z,R x y->R y z->R x z)(l:aE α)(h:∀i (hi:i+1<l.length),R (l[i]) (l[i+1])):l.Pairwise R:=by
 rw[dx];have a:∀d i (hi:i+d+1<l.length),R (l[i]) (l[i+d+1]):=by
  intro d;induction d with
  |zero=>intro i hi;exact h i hi
  |succ d ih=>intro i hi;exact f _ _ _ (ih i (by omega)) (h (i+d+1) (by omega))
 intro i j hi k e;have:=a (j-i-1) i (by omega);simp only[show i+(j-i-1)+1=j by omega]at this;exact this
theorem Je(x y z:au)(a:eU x y=ao)(b:eU y z=ao):eU x z=true:=fK.oO _ _ _ a b
theorem agI(h:i_ p=ao):ib p:=by
 obtain⟨K,B,M,N,O,P,Q⟩:_/\_/\_/\_/\_/\_/\_:=by unfold i_ at h;simpa only[aM,bf,bz,kE]using h
 obtain⟨C,H,I⟩:_/\_/\_:=by unfold K4 at B;simpa only[aM,bf,bz,kE]using B
 have r:∀i (hi:i<p.en.length),uo p.en[i]=ao/\(0<i->eU (el p.en (i-1)).k p.en[i].k=ao)/\(p.en[i].k∈p.w\/p.en[i].k∈p.m):=λi hi=>by have:=C i hi;unfold Gk at this;simp only[aM,dC,bf,eT hi,gl]at this;exact⟨this.1,λh0=>this.2.1.resolve_left (by omega),this.2.2⟩
 have u:∀i (hi:i<p.cl.length),H6 p.now p.fe.length p.cl[i]=ao/\(0<i->(el p.cl (i-1)).id<p.cl[i].id):=λi hi=>by have:=Q i hi;unfold Gj at this;unfold H6;simp only[aM,dC,bf,eT hi]at this⊢;exact⟨⟨this.1,this.2.2⟩,λh0=>this.2.1.resolve_left (by omega)⟩
 have A:∀i (hi:i<p.fe.length),mX p.now p.fe[i]=ao/\∀j (o:j<i),lW p.fe[i] (p.fe[j]'(by omega))=false:=λi hi=>by
  have:=P i hi;unfold apart at this;simp only[bz,kE,eT hi]at this;refine⟨this.1,λj o=> ?_⟩
  have h:=this.2 j o;rw[eT (show j<p.fe.length by omega)]at h;simpa using h
 refine⟨K,λe s=> ?_,?_,λe s=> ?_,H,I,M,λf U=> ?_,?_,N,λc S=> ?_,?_,O⟩
 ·obtain⟨i,hi,rfl⟩:=c7 s;exact(r i hi).1
 ·refine RF (λx y:En=>eU x.k y.k=ao) (λx y z a b=>Je _ _ _ a b) p.en λi hi=> ?_;have:=(r (i+1) hi).2.1 (by omega);rw[NN,eT (show i<p.en.length by omega)]at this;exact this
 ·obtain⟨i,hi,rfl⟩:=c7 s;exact(r i hi).2.2
 ·obtain⟨i,hi,rfl⟩:=c7 U;exact(A i hi).1
 ·rw[dx];intro i j hi o t;exact(A j o).2 i t
 ·obtain⟨i,hi,rfl⟩:=c7 S;exact(u i hi).1
 ·refine RF (λc d:Cl=>c.id<d.id) (λx y z a b=>Int.lt_trans a b) p.cl λi hi=> ?_;have:=(u (i+1) hi).2 (by omega);rw[NN,eT (show i<p.cl.length by omega)]at this;exact this
theorem afl(h:ib p):i_ p=true:=by
 unfold i_ K4;simp only[aM,bf,bz,kE];refine⟨h.now,⟨λi hi=> ?_,h.pol,h.len⟩,h.fl,h.cll,h.hits,λi hi=>⟨?_,?_⟩,λi hi=> ?_⟩
 ·unfold Gk;simp only[aM,dC,bf,eT hi,gl];refine⟨h.en _ (bw hi),?_,h.ek _ (bw hi)⟩
  by_cases h0:i=0
  ·exact .inl h0
  ·right;rw[eT (show i-1<p.en.length by omega)];exact dx.1 h.so (i-1) i (by omega) hi (by omega)
 ·rw[eT hi];exact h.fe _ (bw hi)
 ·unfold apart;simp only[bz,kE];intro j d;rw[eT hi,eT (show j<p.fe.length by omega),dx.1 h.ap j i (by omega) hi d];rfl
 ·have a:=h.cl _ (bw hi);unfold H6 at a;unfold Gj;simp only[aM,dC,bf,eT hi]at a⊢;refine⟨a.1,?_,a.2⟩
  by_cases h0:i=0
  ·exact .inl h0
  ·right;rw[eT (show i-1<p.cl.length by omega)];exact dx.1 h.cs (i-1) i (by omega) hi (by omega)
theorem rj:i_ p=ao↔ib p:=⟨agI,afl⟩
end Az
namespace Gp
open eV (has without gl kY)
open jx (eC mQ sg)
open fc (nL Lq rP)
theorem jh{a:ay}:sg w m s a=ao↔((∀k∈w++m,eC k=ao)/\(w++m).Nodup)/\w.length<=2/\m.length<=4/\nL s a=true:=by unfold sg;rw[aM,aM,aM,bf,bf,eH.vf]
theorem FT{a:ay}:nL s a=ao↔s.length=3/\(0<=a/\a<=63)/\∀q∈s,q.length=16/\∀n∈q,0<=n/\n<=15:=by unfold nL rP Lq;simp only[aM,bf,bz]
theorem JD{a:ay}(key:au)(h:nL s a=ao):nL (dp.val s a key).1 (dp.val s a key).2=true:=by
 unfold dp.val;rw[h,aw];obtain⟨j,t,m⟩:=FT.1 h;obtain⟨e,d⟩:=dp.sH (key:=key) j m;by_cases f:a+1=64
 ·rw[aC f,aw,FT];unfold dp.half;refine⟨by rw[bJ];exact e,by omega,λq hq=> ?_⟩
  obtain⟨r,i,rfl⟩:=cN.1 hq;refine⟨by rw[bJ];exact(d r i).1,λn o=> ?_⟩
  obtain⟨k,hk,rfl⟩:=cN.1 o;have:=(d r i).2 k hk;rw[dJ this.1];omega
 ·rw[aF f,ax,FT];exact⟨e,by omega,d⟩
theorem Fx(h:eC k=ao):k≠⟨#[]⟩:=by intro e;rw[e]at h;exact cJ h (by decide)
theorem td{a:ay}(h:sg w m s a=ao)(hk:eC key=ao):
  sg (eH.val w m s a key).1 (eH.val w m s a key).2.1 (eH.val w m s a key).2.2.1 (eH.val w m s a key).2.2.2.1=ao
  /\∀x,x∈(eH.val w m s a key).1\/x∈(eH.val w m s a key).2.1↔(x∈w\/x∈m\/x=key)/\x≠(eH.val w m s a key).2.2.2.2:=by
 obtain⟨⟨o,nd⟩,l1,l2,hs⟩:=jh.1 h;have f:=JD key hs;have kn:=Fx hk;have wn:∀x,x∈w\/x∈m->x≠⟨#[]⟩:=λx d=>Fx (o x (bc.2 d));unfold eH.val;rw[h,hk,aL,aw];generalize dp.val s a key=V at f;obtain⟨S,A⟩:=V;dsimp only at f⊢;rw[ej]at nd;obtain⟨n1,Q,n3⟩:=nd;have B:∀l:aE au,l.Nodup->(without l key).Nodup/\(∀x,x∈without l key↔x∈l/\x≠key):=λl hl=>by unfold without;exact⟨hl.sublist jv,λx=>by simp⟩
 cases K:has w key with
 |true=>
  have hm:=gl.1 K;obtain⟨o1,r⟩:=B w n1;have o3:=eV.o0 K;dsimp only[aw];refine⟨jh.2 ⟨⟨λk d=> ?_,?_⟩,by simp;omega,l2,f⟩,λx=> ?_⟩
  ·simp only[bc,a_,r]at d;rcases d with (d|rfl)|d
   ·exact o _ (bc.2 (.inl d.1))
   ·exact hk
   ·exact o _ (bc.2 (.inr d))
  ·simp only[ej,bc,a_,r];grind
  ·simp only[bc,a_,r];grind
 |false=>
  rw[ax];have hw:=kY.1 K;cases M:has m key with
  |true=>
   have hm:=gl.1 M;obtain⟨o1,r⟩:=B m Q;have o3:=eV.o0 M;dsimp only[aw];refine⟨jh.2 ⟨⟨λk d=> ?_,?_⟩,l1,by simp;omega,f⟩,λx=> ?_⟩
   ·simp only[bc,a_,r]at d;rcases d with d|d|rfl
    ·exact o _ (bc.2 (.inl d))
    ·exact o _ (bc.2 (.inr d.1))
    ·exact hk
   ·simp only[ej,bc,a_,r];grind
   ·simp only[bc,a_,r];grind
  |false=>
   rw[ax];have X:=kY.1 M;have e:∀x,x∈w++[key]\/x∈m↔x∈w\/x∈m\/x=key:=λx=>by simp only[bc,a_];grind
   have i:∀x,x∈w++[key]\/x∈m->eC x=true:=λx d=>by
    rcases(e x).1 d with d|d|rfl
    ·exact o _ (bc.2 (.inl d))
    ·exact o _ (bc.2 (.inr d))
    ·exact hk
   have z:(w++[key]).Nodup/\∀x∈w++[key],x∉m:=by simp only[ej,bc,a_];grind
   have j:(w++[key]).length=w.length+1:=by simp
   generalize w++[key]=W at e i z j;obtain⟨U,y⟩:=z;by_cases N:W.length<=2
   ·rw[aC N,aw];refine⟨jh.2 ⟨⟨λk d=>i k (bc.1 d),?_⟩,N,l2,f⟩,λx=> ?_⟩
    ·simp only[ej];grind
    ·dsimp only;rw[e];grind
   ·rw[aF N,ax];cases W with
    |nil=>simp at j
    |cons H t=>
     rw[j_]at U;rw[bR]at j;have hg:(H::t).getD 0 ⟨#[]⟩=H:=rfl;have Y:(H::t).tail=t:=rfl;rw[hg,Y];by_cases C:m.length<4
     ·rw[aC C,aw];refine⟨jh.2 ⟨⟨λk d=>i k ?_,?_⟩,by dsimp only;omega,by simp;omega,f⟩,λx=> ?_⟩
      ·simp only[bc,a_,cm]at d⊢;grind
      ·simp only[ej,bc,a_,cm]at y⊢;grind
      ·dsimp only;rw[<-e];simp only[bc,a_,cm];grind
     ·rw[aF C,ax];cases m with
      |nil=>simp at C
      |cons I u=>
       rw[j_]at Q;rw[bR]at l2 C;have O:(I::u).getD 0 ⟨#[]⟩=I:=rfl;have P:(I::u).tail=u:=rfl;rw[O,P];cases ah (lY.val S A H>lY.val S A I)with
       |true=>
        rw[aw];refine⟨jh.2 ⟨⟨λk d=>i k ?_,?_⟩,by dsimp only;omega,by simp;omega,f⟩,λx=> ?_⟩
        ·simp only[bc,a_,cm]at d⊢;grind
        ·simp only[ej,bc,a_,cm]at y⊢;grind
        ·dsimp only;rw[<-e];simp only[bc,a_,cm]at y⊢;grind
       |false=>
        rw[ax];refine⟨jh.2 ⟨⟨λk d=>i k ?_,?_⟩,by dsimp only;omega,by simp;omega,f⟩,λx=> ?_⟩
        ·simp only[bc,cm]at d⊢;grind
        ·simp only[ej,j_,cm]at y⊢;grind
        ·dsimp only;rw[<-e];simp only[cm]at y⊢;grind
end Gp
namespace JZ
open _root_.Go.FG.Lib (En el)
open eV (has without gl kY)
open jx (eC sg)
open nk (uo)
open np (mX lW)
open jm (i_)
open fX (So eU fN mB)
open lA (Cs)
open Az (ib H6 rj)
open Gp (jh td)
open fw (sZ told Cm Cp jg)
theorem Xr(h:ib p){n:ay}(a:p.now<=n)(d:n<=1000000000):ib {p with now:=n}:=by
 have:=h.now;refine⟨⟨by dsimp only;omega,d⟩,h.en,h.so,h.ek,h.pol,h.len,h.fl,λf i=> ?_,h.ap,h.cll,λc e=> ?_,h.cs,h.hits⟩
 ·have:=h.fe f i;unfold mX at this⊢;simp only[aM,bf]at this⊢;exact⟨this.1,this.2.1,this.2.2.1,this.2.2.2.1,this.2.2.2.2.1,Ms this.2.2.2.2.2 a⟩
 ·have:=h.cl c e;unfold H6 at this⊢;simp only[aM,bf]at this⊢;exact⟨this.1,this.2.1,this.2.2.1,this.2.2.2.1,this.2.2.2.2.1,⟨this.2.2.2.2.2.1.1,Ms this.2.2.2.2.2.1.2 a⟩,this.2.2.2.2.2.2⟩
theorem oa{n:aN}{st:ay}(h:ib p)(H:n<p.fe.length)(hk:g.k=(el p.fe n).k)(hg:mX p.now g=ao)(hs:g.sta=1->(el p.fe n).sta=1)(A:1<=st/\st<=3):ib (told p n g st):=by
 rw[eT H]at hk hs;refine⟨h.now,h.en,h.so,h.ek,h.pol,h.len,?_,λf C=> ?_,?_,?_,λc B=> ?_,?_,h.hits⟩
 ·show(p.fe.set n g).length<=20;rw[b9];exact h.fl
 ·rcases jl C with q|rfl
  ·exact h.fe f q
  ·exact hg
 ·show(p.fe.set n g).Pairwise _;rw[dx];intro i j hi z y;rw[b9]at hi z;have:=dx.1 h.ap i j hi z y;rw[PH,PH];unfold lW at this⊢;by_cases u:n=i
  ·by_cases s:n=j
   ·omega
   ·subst u;simp only[if_true,s,if_false];rw[hk];by_cases m:g.sta=1
    ·rw[hs m]at this;rw[m];exact this
    ·rw[aF m];simp
  ·by_cases s:n=j
   ·subst s;simp only[u,if_true,if_false];rw[hk];by_cases m:g.sta=1
    ·rw[hs m]at this;rw[m];exact this
    ·rw[aF m];simp
   ·simp only[u,s,if_false];exact this
 ·show(tW.nS p.cl n st g.t).length<=6;unfold tW.nS;rw[bJ];exact h.cll
 ·have r:c∈tW.nS p.cl n st g.t:=B;unfold tW.nS at r;obtain⟨d,hd,rfl⟩:=cN.1 r;have o:=h.cl d hd;show H6 p.now (p.fe.set n g).length _=ao;rw[b9];unfold tW.ec;cases ah (d.fe=(n:ay)+1)&&ah (d.sta=1)with
  |false=>exact o
  |true=>rw[aw];unfold H6 at o⊢;unfold mX at hg;simp only[aM,bf]at o hg⊢;exact⟨o.1,o.2.1,A,o.2.2.2.1,hg.2.1,o.2.2.2.2.2⟩
 ·show(tW.nS p.cl n st g.t).Pairwise _;unfold tW.nS;rw[j3];refine h.cs.imp λ{a b} x=> ?_;have e:∀d:Cl,(tW.ec n st g.t d).id=d.id:=λd=>by unfold tW.ec;cases ah (d.fe=(n:ay)+1)&&ah (d.sta=1)<;>rfl
  rw[e,e];exact x
theorem K7(h:ib p){n:aN}(a:n<p.fe.length):eC (el p.fe n).k=ao/\((el p.fe n).t.size:ay)<=400/\(1<=(el p.fe n).sta/\(el p.fe n).sta<=3)/\(0<=(el p.fe n).li/\(el p.fe n).li<=999999)/\0<=(el p.fe n).st/\(el p.fe n).st<=p.now:=by have:=h.fe _ (jt a);unfold mX at this;simpa only[aM,bf]using this
theorem PZ(f:ay)(h:ib p):ib (Cm p f).1:=by
 unfold Cm;cases k:sZ p f with
 |false=>exact h
 |true=>obtain⟨n,rfl,a,_,o⟩:=jg k;obtain⟨d,i,m,g4,j⟩:=K7 h a;refine oa h a rfl ?_ (λe=>cJ e (by dsimp only;omega)) (by omega);unfold mX;simp only[aM,bf];exact⟨d,i,by omega,g4,j⟩
theorem RE(f:ay)(t:au)(h:ib p):ib (Cp p f t).1:=by
 unfold Cp;cases a:sZ p f&&(ah (1<=t.size/\t.size<=40)&&ah ((el p.fe f.toNat).t.size+t.size<=400))with
 |false=>exact h
 |true=>
  simp only[aM,bf]at a;obtain⟨n,rfl,d,_,k⟩:=jg a.1;obtain⟨e,m,i,g4,j⟩:=K7 h d;rw[dG]at a;refine oa h d rfl ?_ (λ_=>k) (by omega);unfold mX;simp only[aM,bf];refine⟨e,?_,i,g4,j⟩
  show((((el p.fe n).t++t).size:aN):ay)<=400;rw[dA];omega
def Same(en:aE En)(w m:aE au):Prop:=∀k,k∈w\/k∈m↔∃e∈en,e.k=k
theorem HL(h:So en):(en.map λe=>e.k).Nodup:=by rw[o9,j3];refine h.imp λ{a b} d e=> ?_;rw[e]at d;unfold eU at d;rw[fK.oj]at d;cases d
theorem Aq(h:ib p):Same p.en p.w p.m:=by
 obtain⟨⟨_,nd⟩,_⟩:=jh.1 h.pol;have ne:=HL h.so;have sub:(p.en.map λe=>e.k)⊆p.w++p.m:=λx a=>by obtain⟨e,d,rfl⟩:=cN.1 a;exact bc.2 (h.ek e d)
 intro k;constructor
 ·intro hk;have hk:k∈p.w++p.m:=bc.2 hk;refine zn λf=> ?_;have nn:(k::p.en.map λe=>e.k).Nodup:=j_.2 ⟨λa=>f (by obtain⟨e,d,q⟩:=cN.1 a;exact⟨e,d,q⟩),ne⟩;have:=nn.length_le_of_subset (l₂:=p.w++p.m) (λx a=>by
   rcases cm.1 a with rfl|a
   ·exact hk
   ·exact sub a)
  have hl:=h.len;simp only[bR,bJ,bW]at this;omega
 ·rintro ⟨e,d,rfl⟩;exact h.ek e d
theorem of_same{a:ay}(h:Same en w m)(so:So en)(hp:sg w m s a=ao):(∀e∈en,e.k∈w\/e.k∈m)/\w.length+m.length=en.length:=by
 obtain⟨⟨_,nd⟩,_⟩:=jh.1 hp;refine⟨λe d=>(h _).2 ⟨e,d,rfl⟩,?_⟩
 have:=((List.perm_ext_iff_of_nodup nd (HL so)).2 λx=>by rw[bc,h x,cN]).length_eq;rw[bW,bJ]at this;exact this
theorem mj:e∈fN en k↔e∈en/\e.k≠k:=by unfold fN;simp
theorem pB:x∈mB en e↔x=e\/(x∈en/\x.k≠e.k):=by
 unfold mB;simp only[bc,da,a_,dt,h_,eR];constructor
 ·rintro ((⟨d,a⟩|rfl)|⟨d,a⟩)
  ·refine .inr ⟨d,λf=> ?_⟩;rw[f]at a;unfold eU at a;rw[fK.oj]at a;cases a
  ·exact .inl rfl
  ·exact .inr ⟨d,a.2⟩
 ·rintro (rfl|⟨d,a⟩)
  ·exact .inl (.inr rfl)
  ·cases hl:eU x.k e.k with
   |true=>exact .inl (.inl ⟨d,rfl⟩)
   |false=>exact .inr ⟨d,rfl,a⟩
theorem yM(h:So en)(e:En):So (mB en e):=by have:=(fK.wq (fX.BI h) e.k e.st e.li e.bo).1.1;rw[fX.s7]at this;unfold Lib.re at this;rw[j3]at this;exact this
theorem JN(h:ib p)(H:uo e=ao):ib (Cs p e):=by
 have hk:eC e.k=true:=by have:=(gu.FN H).1;unfold eC;exact aC (by omega)
 obtain⟨u,r⟩:=td h.pol hk;have sm:=Aq h;unfold Cs;generalize eH.val p.w p.m p.s p.a e.k=V at u r;obtain⟨W,M,S,A,G⟩:=V;dsimp only at u r⊢;have key:∀d,So d->(∀x∈d,uo x=ao)->Same d W M->ib ⟨p.now,d,W,M,S,A,p.fe,p.cl,p.hits⟩:=λd K N O=>by obtain⟨t,i⟩:=of_same O K u;exact⟨h.now,N,K,t,u,i,h.fl,h.fe,h.ap,h.cll,h.cl,h.cs,h.hits⟩
 have B:So (fN p.en G):=h.so.drop G;have C:∀x∈fN p.en G,uo x=true:=λx f=>h.en x (mj.1 f).1;cases I:has W e.k||has M e.k with
 |true=>
  rw[aw];have j:e.k∈W\/e.k∈M:=by rwa[dC,gl,gl]at I
  refine key _ (yM B e) (λx f=> ?_) λk=> ?_
  ·rcases pB.1 f with rfl|q
   ·exact H
   ·exact C x q.1
  ·rw[r k];have hg:=((r e.k).1 j).2;constructor
   ·rintro ⟨q,o⟩;by_cases y:k=e.k
    ·exact⟨e,pB.2 (.inl rfl),y.symm⟩
    ·have i:k∈p.w\/k∈p.m:=q.elim .inl λq=>q.elim .inr λq=>cJ q y;obtain⟨x,f,rfl⟩:=(sm k).1 i;exact⟨x,pB.2 (.inr ⟨mj.2 ⟨f,o⟩,y⟩),rfl⟩
   ·rintro ⟨x,f,rfl⟩;rcases pB.1 f with rfl|q
    ·exact⟨.inr (.inr rfl),hg⟩
    ·obtain⟨t,i⟩:=mj.1 q.1;exact⟨((sm x.k).2 ⟨x,t,rfl⟩).elim .inl λz=>.inr (.inl z),i⟩
 |false=>
  rw[ax];have j:¬(e.k∈W\/e.k∈M):=by rw[<-gl,<-gl,<-dC,I];simp
  have hg:e.k=G:=zn λo=>j ((r e.k).2 ⟨.inr (.inr rfl),o⟩);refine key _ B C λk=> ?_;rw[r k];constructor
  ·rintro ⟨q,o⟩;have i:k∈p.w\/k∈p.m:=q.elim .inl λq=>q.elim .inr λq=>cJ (q.trans hg) o;obtain⟨x,f,rfl⟩:=(sm k).1 i;exact⟨x,mj.2 ⟨f,o⟩,rfl⟩
  ·rintro ⟨x,f,rfl⟩;obtain⟨t,i⟩:=mj.1 f;exact⟨((sm x.k).2 ⟨x,t,rfl⟩).elim .inl λz=>.inr (.inl z),i⟩
end JZ
namespace JY
def fv(k:au)(s l:ay)(b:au)(n:ay):aY:=bif gu.v k s l b then bif jX.v n s 1000000000 then ah (bE (n-s)<l)else aq else aq
theorem eq(k:au)(s l:ay)(b:au)(n:ay):Da.v k s l b n=fv k s l b n:=by
 have e:vM.v k s l b=gu.v k s l b:=rfl;unfold Da.v fv;rw[e];cases h:gu.v k s l b with
 |false=>rfl
 |true=>
  have hs:(0<=s/\s<=1000000000)/\1<=l/\l<=999999:=by unfold gu.v at h;cases f:sw.v k<;>rw[f]at h<;>simp only[aw,ax,db]at h;cases a:jX.v s 0 1000000000<;>rw[a]at h<;>simp only[aw,ax,db]at h;cases d:jX.v l 1 999999<;>rw[d]at h<;>simp only[aw,ax,db]at h;simp[jX.v]at a d;omega
  simp only[aw,AU.v,j4.v,jX.v,cj,bf];by_cases f:0<=n/\n<=1000000000
  ·rw[hZ (x:=n-s) (by omega) (by omega),hZ (x:=s+l) (by omega) (by omega),hZ (x:=s+l-1) (by omega) (by omega)];by_cases a:s<=n<;>by_cases d:n-s<l<;>simp[f,a,d]<;>omega
  ·by_cases a:s<=n<;>by_cases d:0<=n<;>by_cases i:n<=1000000000<;>simp[a,d,i]<;>omega
end JY
namespace H'
open _root_.Go.FG.Lib (En el)
open eV (has without gl kY)
open jx (eC sg)
open nk (uo)
open np (mX lW)
open jm (i_)
open fX (So eU fN mB)
open Az (ib H6 rj)
open Gp (jh td JD Fx)
open JZ (Same Aq of_same mj)
open fS (hit kZ put G2 Ng Gm ll jn uq sf)
theorem WC(l:aE Cl)(n:ay):(l.filter λx=>ah (x.id<n)).length+(l.filter λx=>ah (x.id>n)).length<=l.length:=by
 induction l with
 |nil=>exact bT _
 |cons y l ih=>
  simp only[List.filter_cons];by_cases a:y.id<n
  ·rw[aC a,aF (show¬y.id>n by omega)];simp only[if_true,db,if_false,bR];omega
  ·rw[aF a];by_cases d:y.id>n
   ·rw[aC d];simp only[if_true,db,if_false,bR];omega
   ·rw[aF d];simp only[db,if_false,bR];omega
theorem Yp(cs:l.Pairwise λa b=>a.id<b.id):(jn l c).length<=l.length+1/\((jn l c).Pairwise λa b=>a.id<b.id)/\∀x∈jn l c,x=c\/x∈l:=by
 unfold jn;refine⟨?_,?_,λx e=> ?_⟩
 ·have:=WC l c.id;simp only[bW,bR,jz];omega
 ·rw[ca,ub];refine⟨cs.filter _,?_,λa f b d=> ?_⟩
  ·rw[uc,p8];exact⟨λb d=>cL (da.1 d).2,cs.filter _⟩
  ·have f:=cL (da.1 f).2;rcases bc.1 d with d|d
   ·rw[a_]at d;rw[d];exact f
   ·have d:=cL (da.1 d).2;omega
 ·rcases bc.1 e with e|e
  ·rcases bc.1 e with e|e
   ·exact .inr (da.1 e).1
   ·exact .inl (a_.1 e)
  ·exact .inr (da.1 e).1
theorem WB{a:ay}(h:key∈w\/key∈m):(eH.val w m s a key).2.2.2.2=⟨#[]⟩:=by
 unfold eH.val;cases sg w m s a&&eC key with
 |false=>rfl
 |true=>
  rw[aw];cases d:has w key with
  |true=>rfl
  |false=>have e:has m key=true:=gl.2 (h.resolve_left (kY.1 d));rw[e];rfl
theorem SI{a:ay}(h:sg w m s a=ao)(hk:eC key=ao):(has (eH.val w m s a key).1 key||has (eH.val w m s a key).2.1 key)=true:=by
 obtain⟨⟨r,nd⟩,l1,l2,hs⟩:=jh.1 h;rw[dC,gl,gl];refine((td h hk).2 key).2 ⟨.inr (.inr rfl),?_⟩;have kn:=Fx hk;unfold eH.val;rw[h,hk,aL,aw];cases j:has w key with
 |true=>exact kn
 |false=>
  rw[ax];have o:=kY.1 j;cases k:has m key with
  |true=>exact kn
  |false=>
   rw[ax];have hm:=kY.1 k;by_cases d:(w++[key]).length<=2
   ·rw[aC d];exact kn
   ·rw[aF d,ax];have i:(w++[key]).getD 0 ⟨#[]⟩≠key:=by
     cases w with
     |nil=>simp at d
     |cons x w=>intro e;exact o (by rw[<-e];simp)
    by_cases f:m.length<4
    ·rw[aC f];exact kn
    ·rw[aF f,ax];cases ah (lY.val (dp.val s a key).1 (dp.val s a key).2 ((w++[key]).getD 0 ⟨#[]⟩)>lY.val (dp.val s a key).1 (dp.val s a key).2 (m.getD 0 ⟨#[]⟩))with
     |true=>
      intro e;cases m with
      |nil=>simp at f
      |cons x m=>exact hm (by rw[e];simp)
     |false=>exact λe=>i e.symm
theorem abf{p:Px}{id:ay}{key:au}{e:En}(h:ib p)(hid:1<=id/\id<=9)(hk:eC key=ao)(hl:p.cl.length<6)(y:e∈p.en)(j:e.k=key)(o:e.st<=p.now):ib (hit p id key e):=by
 have d:key∈p.w\/key∈p.m:=by rw[<-j];exact h.ek e y
 obtain⟨f,t⟩:=td h.pol hk;have u:=WB (s:=p.s) (a:=p.a) d;have sm:=Aq h;have N:=gu.FN (h.en e y);obtain⟨O,C,H⟩:=Yp (c:=⟨id,key,0,e.st,2,e.bo,p.now-e.st⟩) h.cs;unfold hit;generalize eH.val p.w p.m p.s p.a key=V at f t u;obtain⟨W,M,S,A,G⟩:=V;dsimp only at f t u⊢;subst u;have r:Same p.en W M:=λk=>by
  rw[t k];refine Iff.trans ?_ (sm k);constructor
  ·rintro ⟨q|q|rfl,_⟩
   ·exact .inl q
   ·exact .inr q
   ·exact d
  ·intro q;refine⟨q.elim .inl λq=>.inr (.inl q),?_⟩
   obtain⟨x,B,rfl⟩:=(sm k).1 q;have:=(gu.FN (h.en x B)).1;intro e;rw[e]at this;exact cJ this.1 (by decide)
 obtain⟨I,K⟩:=of_same r h.so f;refine⟨h.now,h.en,h.so,I,f,K,h.fl,h.fe,h.ap,by dsimp only;omega,λc i=> ?_,C,?_⟩
 ·rcases H c i with rfl|i
  ·unfold H6;simp only[aM,bf];exact⟨hid,hk,by omega,⟨by omega,by omega⟩,by omega,⟨by omega,o⟩,by omega⟩
  ·exact h.cl c i
 ·have:=h.hits;dsimp only;by_cases z:p.hits<1000000000
  ·rw[aC z,aw];omega
  ·rw[aF z,ax];exact this
theorem Gb:x∈without l k↔x∈l/\x≠k:=by unfold without;simp
theorem FK{p:Px}{id:ay}{key:au}{h:aY}{fe:aE Fe}{i:aN}(d:ib p)(hid:1<=id/\id<=9)(hk:eC key=ao)(hl:p.cl.length<6)(S:p.fe.length<=fe.length)(y:fe.length<=20)(H:∀f∈fe,mX p.now f=ao)(z:fe.Pairwise λf g=>lW g f=aq)(hi:i<fe.length)(hp:h=aq->True):ib (put p id key h fe i):=by
 obtain⟨⟨I,nd⟩,l1,l2,hs⟩:=jh.1 d.pol;have B:=JD key hs;have sm:=Aq d;obtain⟨U,M,O⟩:=Yp (c:=⟨id,key,(i:ay)+1,0,1,(el fe i).t,0⟩) d.cs;have r:=H _ (jt hi);have A:∀c∈jn p.cl ⟨id,key,(i:ay)+1,0,1,(el fe i).t,0⟩,H6 p.now fe.length c=true:=λc C=>by
  rcases O c C with rfl|C
  ·unfold mX at r;unfold H6;simp only[aM,bf]at r⊢;have:=d.now;exact⟨hid,hk,by omega,⟨by omega,by omega⟩,r.2.1,⟨by omega,by omega⟩,by omega⟩
  ·have:=d.cl c C;unfold H6 at this⊢;simp only[aM,bf]at this⊢;exact⟨this.1,this.2.1,this.2.2.1,⟨this.2.2.2.1.1,by omega⟩,this.2.2.2.2⟩
 unfold put;cases h with
 |false=>have j:sg p.w p.m (dp.val p.s p.a key).1 (dp.val p.s p.a key).2=true:=jh.2 ⟨⟨I,nd⟩,l1,l2,B⟩;exact⟨d.now,d.en,d.so,d.ek,j,d.len,y,H,z,by dsimp only;omega,A,M,d.hits⟩
 |true=>
  have j:sg (without p.w key) (without p.m key) (dp.val p.s p.a key).1 (dp.val p.s p.a key).2=true:=by
   refine jh.2 ⟨⟨λk u=> ?_,?_⟩,cf eV.gV l1,cf eV.gV l2,B⟩
   ·rcases bc.1 u with q|q
    ·exact I k (bc.2 (.inl (Gb.1 q).1))
    ·exact I k (bc.2 (.inr (Gb.1 q).1))
   ·have:without p.w key++without p.m key=(p.w++p.m).filter λx=> !decide (x=key):=by unfold without;rw[fy]
    rw[this];exact nd.sublist jv
  have K:Same (fN p.en key) (without p.w key) (without p.m key):=λk=>by
   rw[Gb,Gb];constructor
   ·intro q;have o:k≠key:=q.elim (·.2) (·.2);obtain⟨x,u,rfl⟩:=(sm k).1 (q.elim (λq=>.inl q.1) (λq=>.inr q.1));exact⟨x,mj.2 ⟨u,o⟩,rfl⟩
   ·rintro ⟨x,u,rfl⟩;obtain⟨u,o⟩:=mj.1 u;exact((sm x.k).2 ⟨x,u,rfl⟩).elim (λq=>.inl ⟨q,o⟩) (λq=>.inr ⟨q,o⟩)
  have so:=d.so.drop key;obtain⟨P,Q⟩:=of_same K so j;exact⟨d.now,λe N=>d.en e (mj.1 N).1,so,P,j,Q,y,H,z,by dsimp only;omega,A,M,d.hits⟩
theorem Lp{p:Px}{id:ay}{key:au}{h:aY}(d:ib p)(hid:1<=id/\id<=9)(hk:eC key=ao)(hl:p.cl.length<6):ib (kZ p id key h).1:=by
 unfold kZ;cases j:Ng p.fe key with
 |some i=>have hi:i<p.fe.length:=(wW.1 j).1;exact FK d hid hk hl (bT _) d.fl d.fe d.ap hi (λ_=>trivial)
 |none=>
  dsimp only;by_cases e:p.fe.length<20
  ·rw[aC e,aw];have o:∀f∈p.fe,Gm key f=false:=λf m=>by have:=C4.1 j f m;simpa using this
   have s:=d.now;refine FK d hid hk hl (by simp) (by simp;omega) (λf m=> ?_) ?_ (by simp) (λ_=>trivial)
   ·rcases bc.1 m with q|q
    ·exact d.fe f q
    ·rw[a_]at q;subst q;unfold mX uq;simp only[aM,bf];exact⟨hk,by show((0:aN):ay)<=400;omega,by omega,by omega,by omega,by omega⟩
   ·rw[ub];refine⟨d.ap,by simp,λa t b r=> ?_⟩
    rw[a_]at r;subst r;have:=o a t;unfold Gm at this;unfold lW uq;dsimp only;revert this;rw[show ah (key=a.k)=ah (a.k=key)from by rw[bZ];exact eq_comm];cases ah (a.k=key)<;>cases ah (a.sta=1)<;>simp
  ·rw[aF e];exact d
theorem aaS(id:ay)(key:au)(h:ib p):ib (fS.ask p id key).1:=by
 unfold fS.ask;cases hg:i_ p&&(ah (1<=id/\id<=9)&&(eC key&&(!ll p.cl id&&ah (p.cl.length<6))))with
 |false=>exact h
 |true=>
  simp only[aM,bf]at hg;obtain⟨_,hid,hk,_,hl⟩:=hg;rw[aw];cases d:G2 p.en key with
  |none=>exact Lp h hid hk hl
  |some e=>
   dsimp only;cases a:sf e p.now with
   |false=>exact Lp h hid hk hl
   |true=>
    unfold G2 at d;have f:=p7 d;have i:=D' d;refine abf h hid hk hl f (cL i) ?_;unfold sf at a;rw[JY.eq]at a;unfold JY.fv at a;rw[show gu.v e.k e.st e.li e.bo=ao from h.en e f,aw,show jX.v p.now e.st 1000000000=ah (e.st<=p.now/\p.now<=1000000000)from fc.et _ _ _]at a;cases hd:ah (e.st<=p.now/\p.now<=1000000000)with
    |true=>exact(cL hd).1
    |false=>rw[hd]at a;cases a
end H'
namespace Ia
open _root_.Go.FG.Lib (En el)
open Az (ib H6 rj)
open JZ (Xr)
theorem Dy{now n:ay}(h:1<=now/\now<=1000000000):now<=rR.later now n/\rR.later now n<=1000000000:=by
 unfold rR.later;have:=Int.emod_nonneg n (show(1000:ay)≠0 by omega);have:=Int.emod_lt_of_pos n (show(0:ay)<1000 by omega);by_cases a:now>1000000000-n%1000
 ·rw[aC a,aw];omega
 ·rw[aF a,ax,dq (by omega) (by omega)];omega
theorem Wj(n:ay)(h:ib p):ib (rR.val p n):=Xr h (Dy h.now).1 (Dy h.now).2
theorem QO(id:ay)(h:ib p):ib (ud.val p id):=
 ⟨h.now,h.en,h.so,h.ek,h.pol,h.len,h.fl,h.fe,h.ap,cf (d_ _ _) h.cll,λc a=>h.cl c (da.1 a).1,h.cs.sublist jv,h.hits⟩
end Ia
namespace ig
open _root_.Go.FG.Lib (En el)
open eV (has gl)
open jx (eC sg)
open nk (uo)
open np (mX lW)
open jm (i_)
open Az (ib H6 rj)
open fw (sZ told Cm Cp jg)
open pZ (cls kX)
open lA (Cs)
open iK (Dk Gl tx kp sa)
open k7 (dk es)
open gL (Wo Ev closed zG l_ gA flag)
open JZ (oa K7 PZ RE JN)
def on(l:aE Fe):aN:=l.countP λf=>ah (f.sta=1)
theorem vb5{x:ay}(h:x<=1000000000):(bytesOf (vb x)).size<=5:=by rw[Lib.ir];exact tT 4 x (by have e:(128:ay)^5=34359738368:=(by decide);omega)
theorem I4(h:Dk e=ao):(Gl e).size<=460:=by
 have a:=gu.FN h;have f:=vb5 (x:=(e.k.size:ay)) (by omega);have i:=vb5 (x:=e.st) (by omega);have j:=vb5 (x:=e.li) (by omega);have d:(sa e).size<=445:=by unfold sa jr.sa;simp only[dm];omega
 have m:=vb5 (x:=((sa e).size:ay)) (by omega);unfold Gl fj.fr;rw[dm,dm,oL.size];omega
theorem SJ(l:aE En)(h:∀e∈l,Dk e=ao):(tx l).size<=460*l.length:=by
 induction l with
 |nil=>exact bT _
 |cons e l ih=>have d:=I4 (h e (by simp));have f:=ih λx a=>h x (by simp[a]);have:(tx (e::l)).size=(Gl e).size+(tx l).size:=dA;rw[this,bR];omega
structure u9 (i:aN) (w:Wo):Prop where
 px:ib w.p
 eo:∀e∈es w.o,Dk e=ao
 ct:2*(es w.o).length+on w.p.fe<=i
 cd:w.cd.length=i
 bd:w.bd.length<=i
 bo:∀e∈w.bd,Dk e=ao
theorem u9.len{i:aN}(h:u9 i w)(hi:i<=71):(es w.o).length<=35:=by have:=h.ct;omega
theorem u9.tx{i:aN}(h:u9 i w)(hi:i<=71):(tx (es w.o)).size<=16100:=by have:=SJ _ h.eo;have:=h.len hi;omega
theorem Jn{n:aN}(i:n<l.length):on (l.set n g)+(if(el l n).sta=1 then 1 else 0)=on l+(if g.sta=1 then 1 else 0):=by
 unfold on;rw[List.countP_set i,eT i];have e:l[n].sta=1->1<=l.countP λf=>ah (f.sta=1):=λh=>List.countP_pos_iff.2 ⟨_,bw i,aC h⟩;generalize l.countP (λf=>ah (f.sta=1))=m at e;by_cases a:l[n].sta=1
 ·have:=e a;by_cases d:g.sta=1
  ·rw[bm a,bm d,bm (aC a),bm (aC d)];omega
  ·rw[bm a,bh d,bm (aC a),bh (by rw[aF d];simp)];omega
 ·by_cases d:g.sta=1
  ·rw[bh a,bm d,bh (by rw[aF a];simp),bm (aC d)];omega
  ·rw[bh a,bh d,bh (by rw[aF a];simp),bh (by rw[aF d];simp)];omega
theorem RO{now:ay}(a:1<=now/\now<=1000000000)(l:aE En):ib (fV.si now l):=by
 have key:∀(l:aE En) (p:Px),ib p->ib (l.foldl (fV.one now) p):=by
  intro l;induction l with
  |nil=>intro p h;exact h
  |cons e l ih=>
   intro p h;rw[oF];refine ih _ ?_;unfold fV.one;cases d:fV.sf e now with
   |true=>exact JN h (fV.yv d)
   |false=>exact h
 refine key l _ ⟨a,λe h=>(by cases h),gH,λe h=>(by cases h),?_,rfl,bA _,λf h=>(by cases h),gH,bA _,λc h=>(by cases h),gH,by show(0:ay)<=0/\(0:ay)<=1000000000;omega⟩;refine Gp.jh.2 ⟨⟨λk h=>(by cases h),List.nodup_nil⟩,bA _,bA _,Gp.FT.2 ⟨rfl,by show(0:ay)<=0/\(0:ay)<=63;omega,λq hq=> ?_⟩⟩;have:q=fV.HV:=by change q∈[fV.HV,fV.HV,fV.HV]at hq;simp at hq;exact hq
 subst this;refine⟨rfl,λn a=> ?_⟩
 unfold fV.HV at a;simp at a;omega
theorem IH{f life:ay}(h:ib p)(hl:0<=life/\life<=999999):
  ib (cls p f life).1/\(((cls p f life).2=aq/\(cls p f life).1=p)\/((cls p f life).2=ao/\∃n:aN,f=(n:ay)/\n<p.fe.length/\(cls p f life).1.fe=p.fe.set n {el p.fe n with sta:=2,li:=life,st:=p.now}/\(el p.fe n).sta=1/\
   (life>0->Dk (kX {el p.fe n with sta:=2,li:=life,st:=p.now})=ao/\(has (cls p f life).1.w (el p.fe n).k||has (cls p f life).1.m (el p.fe n).k)=ao))):=by
 unfold cls;cases x:sZ p f&&ah (0<=life/\life<=999999)with
 |false=>exact⟨h,.inl ⟨rfl,rfl⟩⟩
 |true=>
  rw[aM]at x;obtain⟨n,rfl,d,_,s⟩:=jg x.1;obtain⟨i,r,y,g4,z⟩:=K7 h d;have u:=h.now;rw[aw,dG];have o:ib (told p n {el p.fe n with sta:=2,li:=life,st:=p.now} 2):=by refine oa h d rfl ?_ (λe=>cJ e (by dsimp only;omega)) (by omega);unfold mX;simp only[aM,bf];exact⟨i,r,by omega,hl,by omega,by omega⟩
  have t:life>0->Dk (kX {el p.fe n with sta:=2,li:=life,st:=p.now})=true:=λa=>by unfold Dk kX gu.v;dsimp only;rw[jx.iq,i,aw,show jX.v p.now 0 1000000000=ah (0<=p.now/\p.now<=1000000000)from fc.et _ _ _,aC (show 0<=p.now/\p.now<=1000000000 by omega),aw,show jX.v life 1 999999=ah (1<=life/\life<=999999)from fc.et _ _ _,aC (show 1<=life/\life<=999999 by omega),aw];exact aC r
  by_cases a:life>0
  ·rw[aC a,aw];have j:=H'.SI (key:=(el p.fe n).k) o.pol i;exact⟨JN o (t a),.inr ⟨rfl,n,rfl,d,rfl,s,λ_=>⟨t a,j⟩⟩⟩
  ·rw[aF a,ax];exact⟨o,.inr ⟨rfl,n,rfl,d,rfl,s,λh=>cJ h a⟩⟩
theorem aaT(p:Px)(id:ay)(key:au):on (fS.ask p id key).1.fe<=on p.fe+1:=by
 have hm:∀h,on (fS.kZ p id key h).1.fe<=on p.fe+1:=λh=>by
  unfold fS.kZ;cases fS.Ng p.fe key with
  |some i=>exact iG _
  |none=>
   dsimp only;cases ah (p.fe.length<20)with
   |true=>show on (p.fe++[fS.uq key])<=_;unfold on;rw[List.countP_append];exact bT _
   |false=>exact iG _
 unfold fS.ask;cases i_ p&&(ah (1<=id/\id<=9)&&(eC key&&(!fS.ll p.cl id&&ah (p.cl.length<6))))with
 |false=>exact iG _
 |true=>
  rw[aw];cases fS.G2 p.en key with
  |none=>exact hm _
  |some e=>
   dsimp only;cases fS.sf e p.now with
   |false=>exact hm _
   |true=>exact iG _
theorem Bn(w:Wo):(l_ w).length<=(es w.o).length:=cf (d_ ..) (iK.Jd _)
theorem Fk(h:∀e∈es w.o,Dk e=ao):∀e∈l_ w,Dk e=true:=λe a=>h e (iK.abA (da.1 a).1)
theorem Au{i:aN}(h:u9 i w)(x:gA e=ao):u9 (i+1) (gL.step w e):=by
 unfold gA at x;simp only[aM,bf]at x;obtain⟨hk,hid,V,s,hl⟩:=x;have Q:=h.ct;have P:=h.bd;have m:∀n:ay,(w.cd++[n]).length=i+1:=λn=>by rw[bW,h.cd];rfl
 have a:∀(p:Px) (n:ay),ib p->on p.fe<=on w.p.fe+1->u9 (i+1) {{w with p:=p}with cd:=w.cd++[n]}:=λp n hp u=>⟨hp,h.eo,by dsimp only;omega,m n,mF h.bd,h.bo⟩
 unfold gL.step gL.act;by_cases H:e.k=1
 ·rw[aC H,aw];exact a _ _ (H'.aaS _ _ h.px) (aaT ..)
 rw[aF H,ax];by_cases I:e.k=2
 ·rw[aC I,aw];refine a _ _ (RE _ _ h.px) ?_;unfold Cp;cases u:sZ w.p e.id&&(ah (1<=e.t.size/\e.t.size<=40)&&ah ((el w.p.fe e.id.toNat).t.size+e.t.size<=400))with
  |false=>exact iG _
  |true=>
   rw[aM]at u;obtain⟨n,en,s,_,B⟩:=jg u.1;rw[en,dG];have q:∀g:Fe,g.sta=(el w.p.fe n).sta->on (w.p.fe.set n g)<=on w.p.fe+1:=λg hg=>by have:=Jn (g:=g) s;rw[hg]at this;omega
   exact q _ rfl
 rw[aF I,ax];by_cases k3:e.k=3
 ·rw[aC k3,aw];have z:0<=e.n%1000000/\e.n%1000000<=999999:=by omega
  obtain⟨A,U⟩:=IH (f:=e.id) h.px z;unfold closed;dsimp only;rcases U with ⟨r1,r2⟩|⟨r1,n,O,s,rf,rs,rl⟩
  ·rw[r1,kQ,ax];exact a _ _ A (by rw[r2];exact iG _)
  ·have:=Jn (g:={el w.p.fe n with sta:=2,li:=e.n%1000000,st:=w.p.now}) s;rw[bm rs,bh (show¬(2:ay)=1 by omega)]at this;have u:on (cls w.p e.id (e.n%1000000)).1.fe+1=on w.p.fe:=by rw[rf];exact this
   rw[r1,bj];by_cases r:e.n%1000000>0
   ·rw[aC r,aw];obtain⟨s1,X⟩:=rl r;have C:Dk (kX (el (cls w.p e.id (e.n%1000000)).1.fe e.id.toNat))=true:=by rw[O,dG,<-O,rf,fw.jF s];exact s1
    refine⟨A,λy d=> ?_,?_,m _,?_,λy d=> ?_⟩
    ·rcases bc.1 d with d|d
     ·exact h.eo y d
     ·rw[a_]at d;rw[d];exact C
    ·show 2*(es w.o++[_]).length+on (cls w.p e.id (e.n%1000000)).1.fe<=i+1;rw[bW,bu];omega
    ·show(w.bd++[_]).length<=i+1;rw[bW,bu];omega
    ·rcases bc.1 d with d|d
     ·exact h.bo y d
     ·rw[a_]at d;rw[d];exact C
   ·rw[aF r,ax];exact a _ _ A (by omega)
 rw[aF k3,ax];by_cases K:e.k=4
 ·rw[aC K,aw];refine a _ _ (PZ _ h.px) ?_;unfold Cm;cases u:sZ w.p e.id with
  |false=>exact iG _
  |true=>
   obtain⟨n,en,s,_,B⟩:=jg u;rw[en,dG];have q:∀g:Fe,g.sta=3->on (w.p.fe.set n g)<=on w.p.fe+1:=λg hg=>by have:=Jn (g:=g) s;rw[bm B,bh (show¬g.sta=1 by omega)]at this;omega
   exact q _ rfl
 rw[aF K,ax];by_cases M:e.k=5
 ·rw[aC M,aw];exact a _ _ (Ia.Wj _ h.px) (iG _)
 rw[aF M,ax];by_cases N:e.k=6
 ·rw[aC N,aw];exact a _ _ (Ia.QO _ h.px) (iG _)
 rw[aF N,ax];have S:=Bn w;have j:=fV.sS w.p.now (l_ w) (l_ w).length (bT _);rw[cE]at j;refine⟨RO h.px.now _,Fk h.eo,?_,m _,mF h.bd,h.bo⟩
 show 2*(l_ w).length+on (fV.si w.p.now (l_ w)).fe<=i+1;rw[j.fe];show 2*(l_ w).length+0<=i+1;omega
end ig
namespace ew
open _root_.Go.FG.Lib (rs rf rc rd En el oy rF rG rH)
open gL (Wo Ev)
open k7 (dk es)
def ri(l:aE ay):Row:=l.map λn=>[CV.i ak n]
theorem fa(l:aE ay):(ri l).length=l.length:=by unfold ri;simp
def u7(w:Wo):ay×Row×Row×Row×Row×ay×Row×Row×ay×Row×Row×Row:=(w.p.now,re w.p.en,rs w.p.w,rs w.p.m,rr w.p.s,w.p.a,rf w.p.fe,rc w.p.cl,w.p.hits,rd (dk w.o),ri w.cd,re w.bd)
theorem s_(l:aE En)(e:En):re l++aP (aT [Ck.s,Ck.i ak,Ck.i ak,Ck.s] 1) 0 [CV.s e.k,CV.i ak e.st,CV.i ak e.li,CV.s e.bo]=re (l++[e]):=by unfold Lib.re;rw[cO];rfl
theorem Y_(l:aE ay)(n:ay):ri l++aP (aT [Ck.i ak] 1) 0 [CV.i ak n]=ri (l++[n]):=by unfold ri;rw[cO];rfl
theorem ale(l:aE En):aT [Ck.s,Ck.i ak,Ck.i ak,Ck.s] 0++re l=re l:=rfl
theorem alf(l:aE ay):aT [Ck.i ak] 0++ri l=ri l:=rfl
theorem tL(ks:aE Ck)(y:aE CV):(aP (aT ks 1) 0 y).length=1:=rfl
theorem ju(h:Az.ib p):p.Fit 1048576:=(lA.ju (Az.rj.2 h)).le (by omega)
theorem lt_eq(x:α)(f:α->β):ch x f=f x:=by have h:∀y,y=ch x f->y=f x:=λy a=>a.trans (Eq.refl _);exact h _ (Eq.refl _)
end ew
namespace k6
open _root_.Go.FG.Lib (rs rf rc rd En el)
open gL (Wo Ev gA)
open k7 (dk es)
open ig (u9)
open ew (ri u7)
instance:Inhabited Ev:=⟨⟨0,0,⟨#[]⟩,0,[]⟩⟩
def Evr(e:Ev):aE CV:=[CV.i ak e.k,CV.i ak e.id,CV.s e.t,CV.i ak e.n,CV.l 3 e.l]
def rv(l:aE Ev):Row:=l.map Evr
theorem kj(l):(rv l).length=l.length:=by unfold rv;simp
theorem wv0{i:aN}(h:i<l.length):av (rv l) i 0=CV.i ak (el l i).k:=fH _ l i 0 h
theorem wv1{i:aN}(h:i<l.length):av (rv l) i 1=CV.i ak (el l i).id:=fH _ l i 1 h
theorem wv2{i:aN}(h:i<l.length):av (rv l) i (1+1)=CV.s (el l i).t:=fH _ l i 2 h
theorem wv3{i:aN}(h:i<l.length):av (rv l) i (1+1+1)=CV.i ak (el l i).n:=fH _ l i 3 h
theorem wv4{i:aN}(h:i<l.length):av (rv l) i (1+1+1+1)=CV.l 3 (el l i).l:=fH _ l i 4 h
theorem Am(e:Ev):KI.v e.k e.id e.t e.n e.l=gA e:=by unfold KI.v gA;rw[show j4.v e.k 1 7=ah (1<=e.k/\e.k<=7)from fc.et _ _ _,show j4.v e.id 0 30=ah (0<=e.id/\e.id<=30)from fc.et _ _ _,show ah (((e.t.size:aN):ay)<=60)=ah (e.t.size<=60)from by rw[bZ];omega,show ah (e.n≥0)=ah (0<=e.n)from rfl,show ah (((e.l.length:aN):ay)<=4)=ah (e.l.length<=4)from by rw[bZ];omega];cases ah (1<=e.k/\e.k<=7)<;>cases ah (0<=e.id/\e.id<=30)<;>cases ah (e.t.size<=60)<;>cases ah (0<=e.n)<;>rfl
theorem LC(e:Ev):Xp.v e.k e.id e.t e.n e.l=gA e:=Am e
def w0:Wo:=⟨fV.p0 1,aj,[],[]⟩
def run(l:aE Ev):Wo:=l.foldl gL.step w0
theorem qs(l:aE Ev)(i:aN)(h:i<l.length):run (l.take (i+1))=gL.step (run (l.take i)) (el l i):=by unfold run;rw[bO h,mz,eT h];rfl
theorem ahN:u9 0 w0:=by refine⟨ig.RO (now:=1) (by omega) [],λe h=>(by cases h),bT _,rfl,bT _,λe h=>(by cases h)⟩
theorem yJ{l:aE Ev}(h:∀e∈l,gA e=ao):∀i,i<=l.length->u9 i (run (l.take i)):=by
 intro i;induction i with
 |zero=>intro _;exact ahN
 |succ i ih=>intro hi;rw[qs l i hi];exact ig.Au (ih (by omega)) (h _ (jt hi))
theorem Jx{l:aE Ev}(h:∀e∈l,gA e=ao):u9 l.length (run l):=by have:=yJ h l.length (bT _);rwa[cE]at this
def W13(w:Wo)(b:aY):ay×Row×Row×Row×Row×ay×Row×Row×ay×Row×Row×Row×aY:=(w.p.now,re w.p.en,rs w.p.w,rs w.p.m,rr w.p.s,w.p.a,rf w.p.fe,rc w.p.cl,w.p.hits,rd (dk w.o),ri w.cd,re w.bd,b)
def CL(l:aE Ev):aY:=ah (l.length<=70)&&(cT l.length).all λi=>gA (el l i)
def life(l:aE Ev):ay×Row×Row×Row×Row×ay×Row×Row×ay×Row×Row×Row×aY:=bif CL l then W13 (run l) ao else(0,[],[],[],[],0,[],[],0,[],[],[],aq)
theorem qh:CL l=ao↔l.length<=70/\∀e∈l,gA e=true:=by unfold CL;rw[aM,bf,bz];refine and_congr Iff.rfl ⟨λh e a=> ?_,λh i hi=>h _ (jt (kE.1 hi))⟩;obtain⟨i,hi,rfl⟩:=c7 a;have:=h i (kE.2 hi);rwa[eT hi]at this
end k6
namespace vt
open _root_.Go.FG.Lib (rs)
def sp(c:eE):aE eE->aE eE->aE (aE eE)
 |a,[]=>[a]
 |a,b::r=>if b=c then a::sp c [] r else sp c (a++[b]) r
theorem aac:∀(l a:aE eE),c∉l->sp c a l=[a++l]
 |[],a,_=>by simp[sp]
 |b::r,a,h=>by
  have d:b≠c:=λe=>h (e▸cD);have f:c∉r:=λe=>h (cu _ e);rw[sp,bh d,aac r _ f];simp
theorem SB:∀(a d r:aE eE),c∉a->sp c d (a++c::r)=(d++a)::sp c [] r
 |[],d,r,_=>by simp[sp]
 |b::a,d,r,h=>by
  have f:b≠c:=λe=>h (e▸cD);have i:c∉a:=λe=>h (cu _ e);rw[nD,sp,bh f,SB a _ r i];simp
theorem ak3(c b:eE)(l:aE eE):[c].isPrefixOf (b::l)=(c==b):=by simp[List.isPrefixOf]
theorem ix(c:eE):∀l:aE eE,(_root_.Go.Lib.index l [c]= -1/\c∉l)\/∃i:aN,_root_.Go.Lib.index l [c]=i/\i<l.length/\l=l.take i++c::l.drop (i+1)/\c∉l.take i
 |[]=>.inl ⟨rfl,by simp⟩
 |b::l=>by
  unfold _root_.Go.Lib.index;rw[ak3];by_cases d:c=b
  ·subst d;right;exact⟨0,by simp,by simp,by simp,by simp⟩
  ·have:(c==b)=false:=by simp[d]
   rw[this];rcases ix c l with ⟨a,f⟩|⟨i,a,f,h,j⟩
   ·left;rw[a];exact⟨rfl,by simp[d,f]⟩
   ·right;have e:(_root_.Go.Lib.index l [c]== -1)=false:=by rw[a];simp
    refine⟨i+1,by rw[e];simp[a],by simp[f],?_,by simp[d,j]⟩
    rw[List.take_succ_cons,List.drop_succ_cons,nD,<-h]
theorem HR(c:eE):∀(k:aN) (l:aE eE),_root_.Go.Lib.count l [c]=k->_root_.Go.Lib.splitK [c] 0 k l=sp c [] l
 |0,l,hk=>by
  rcases ix c l with ⟨a,d⟩|⟨i,a,_⟩
  ·rw[aac l [] d];rfl
  ·have:=_root_.Go.Lib.count_hit (s:=l) (sub:=[c]) (i:=i) (by simp) a;omega
 |k+1,l,hk=>by
  rcases ix c l with ⟨a,d⟩|⟨i,a,d,f,h⟩
  ·rw[_root_.Go.Lib.count_miss a]at hk;omega
  ·have j:=_root_.Go.Lib.count_hit (s:=l) (sub:=[c]) (i:=i) (by simp) a;have e:(_root_.Go.Lib.index l [c]== -1)=false:=by rw[a];simp
   rw[_root_.Go.Lib.splitK,e,a];have ih:=HR c k (l.drop (i+1)) (by rw[show([c]:aE eE).length=1 from rfl]at j;omega);have hs:=SB (l.take i) [] (l.drop (i+1)) h;rw[<-f]at hs;rw[hs];simp only[db,if_false,dG,zQ,eJ,show([c]:aE eE).length=1 from rfl,ih]
def mk(l:aE eE):au:=⟨l.toArray⟩
theorem Ak(l:aE eE):(mk l).size=l.length:=rfl
def H7(c:eE)(s:au):aE au:=(sp c [] s.data.toList).map mk
theorem ajH(c:eE)(s:au):_root_.Go.Lib.splitB ⟨#[c]⟩ 0 (_root_.Go.Lib.countB s ⟨#[c]⟩) s=H7 c s:=by have h:=_root_.Go.Lib.splitB_data ⟨#[c]⟩ 0 (_root_.Go.Lib.countB s ⟨#[c]⟩) s;have e:_root_.Go.Lib.countB s ⟨#[c]⟩=_root_.Go.Lib.count s.data.toList [c]:=rfl;unfold H7;rw[<-HR c _ s.data.toList rfl,<-e];rw[show([c]:aE eE)=(⟨#[c]⟩:au).data.toList from rfl,<-h,jk];exact(Mu _).symm
theorem L5(c:eE)(s:au):yj.v s ⟨#[c]⟩=rs (H7 c s):=by unfold yj.v;rw[ajH];rfl
theorem L4(c:eE)(s:au)(h:s.size<=4000000000):yj.c s ⟨#[c]⟩=true:=by unfold yj.c;rw[aM,Nat.ble_eq];exact⟨h,rfl⟩
theorem qg(s:au)(b i:aN):s.extract b i=mk ((s.data.toList.drop b).take (i-b)):=by apply j6;unfold mk;apply sb;simp[fJ]
theorem sz(s:au):s.data.toList.length=s.size:=rfl
theorem sL{l:aE eE}{b i:aN}(a:b<=i)(hi:i<l.length):(l.drop b).take (i+1-b)=(l.drop b).take (i-b)++[l[i]]:=by rw[show i+1-b=(i-b)+1 by omega,bO (by simp;omega)];simp[show b+(i-b)=i by omega]
theorem bt{i:aN}(h:i<s.size):fF s i=(s.data.toList[i]'(by rw[sz];exact h)).toNat:=by unfold fF;rw[eu,Array.getElem?_eq_getElem (show i<s.data.size from h)];rfl
end vt
namespace na
open _root_.Go.FG.Lib (rs)
open vt (sp mk H7 bt sz qg sL Ak)
def ne(x:au):aY:=x.size !=0
def F'(c:eE):aY:=ah (32<=c.toNat)&&ah (c.toNat<=126)
def F(a r:aE eE):aE au:=((sp 32 a r).map mk).filter ne
def W(s:au):aE au:=(H7 32 s).filter ne
theorem ajC(s:au):W s=F [] s.data.toList:=rfl
def parts(s:au):aE au×aY:=
 bif ah (s.size<=600)&&s.data.toList.all F'&&ah ((W s).length<=10)then(W s,ao)else([],aq)
theorem N'(d:aE eE):F d []=if d=[]then []else [mk d]:=by
 unfold F sp ne;cases d with
 |nil=>rfl
 |cons a r=>simp[Ak]
theorem WU(a r:aE eE):F a (32::r)=(if a=[]then []else [mk a])++F [] r:=by
 have e:F a (32::r)=(([a]++sp 32 [] r).map mk).filter ne:=by unfold F;rw[show sp 32 a (32::r)=[a]++sp 32 [] r from by rw[sp,bm rfl];rfl]
 rw[e,cO,fy,<-N'];rfl
theorem aeu(h:c≠32)(a r:aE eE):F a (c::r)=F (a++[c]) r:=by unfold F;rw[sp,bh h]
theorem JL(c:eE):∀(r a:aE eE),(sp c a r).length<=r.length+1
 |[],_=>by simp[sp]
 |b::r,a=>by
  rw[sp];split
  ·have:=JL c r [];simp;omega
  ·have:=JL c r (a++[b]);simp;omega
theorem FI(c:eE)(s:au):(H7 c s).length<=s.size+1:=by unfold vt.H7;rw[bJ];exact JL c _ _
theorem FV(c:eE):∀(r a:aE eE),∀x∈sp c a r,x.length<=a.length+r.length
 |[],a,x,h=>by
  simp[sp]at h;subst h;simp
 |b::r,a,x,h=>by
  rw[sp]at h;split at h
  ·rcases cm.1 h with rfl|h
   ·simp
   ·have:=FV c r [] x h;simp at this⊢;omega
  ·have:=FV c r (a++[b]) x h;simp at this⊢;omega
theorem RC(c:eE)(s:au):∀x∈H7 c s,x.size<=s.size:=by intro x h;unfold vt.H7 at h;obtain⟨l,hl,rfl⟩:=cN.1 h;have:=FV c _ _ l hl;simp at this;exact this
theorem PN(s:au):∀x∈W s,0<x.size/\x.size<=s.size:=by
 intro x h;obtain⟨a,d⟩:=da.1 h;have:x.size≠0:=by simpa [ne]using d
 exact⟨by omega,RC 32 s x a⟩
theorem within(a b c:ay):j4.v a b c=(ah (b<=a)&&ah (a<=c)):=by unfold j4.v;cases h:ah (a≥b)<;>rfl
theorem bad(h:c∈s.data.toList)(a:F' c=aq):parts s=([],aq):=by
 unfold parts;have:s.data.toList.all F'=false:=by rw[S5];exact⟨c,h,by rw[a];simp⟩
 rw[this];simp
theorem GL{l:aE eE}{i:aN}(h:i<l.length)(a:(l.take i).all F'=ao)(d:F' l[i]=ao):(l.take (i+1)).all F'=true:=by rw[bO h,oD,a,jc,d];rfl
end na
namespace zk
open iT (dd dd1 dd2 it)
def vl(a:aN)(l:aE eE):aN:=l.foldl (λa c=>a*10+(c.toNat-48)) a
def IL(c:eE):aY:=ah (48<=c.toNat)&&ah (c.toNat<=57)
theorem qY:IL c=ao↔48<=c.toNat/\c.toNat<=57:=by unfold IL;simp
theorem DB{x:aN}(h:x<10):(ar (48+x)).toNat=48+x:=by rw[vq];omega
theorem IJ:∀(m u:aN),u<=m->vl 0 (dd u)=u/\(dd u).all IL=ao
 |m,u,h=>by
  by_cases a:u<10
  ·rw[dd1 a];have e:=DB a;refine⟨?_,?_⟩
   ·simp only[vl,oF,ua,e];omega
   ·simp only[jc,Cv,gh,qY,e];omega
  ·match m with
   |0=>omega
   |m+1=>
    obtain⟨d,f⟩:=IJ m (u/10) (by omega);rw[dd2 a];have e:=DB (x:=u%10) (by omega);refine⟨?_,?_⟩
    ·unfold vl at d⊢;rw[mz,d];simp only[oF,ua,e];omega
    ·rw[oD,f];simp only[jc,Cv,gh,bj,qY,e];omega
theorem II:∀(k u:aN),u<10^(k+1)->(dd u).length<=k+1
 |0,u,h=>by rw[dd1 (by omega)];simp
 |k+1,u,h=>by
  by_cases a:u<10
  ·rw[dd1 a];simp
  ·rw[dd2 a,bW,bu];have:=II k (u/10) (by rw[HZ]at h;omega);omega
theorem aai:∀(l:aE eE) (a:aN),a<=vl a l
 |[],a=>bT _
 |c::l,a=>by
  have:=aai l (a*10+(c.toNat-48));show a<=vl (a*10+(c.toNat-48)) l;omega
theorem prs:∀(l:aE eE) (a:aN),l.all IL=ao->vl a l<9223372036854775808->_root_.Go.Lib.parseUint10 a l=.ok (vl a l)
 |[],a,_,_=>rfl
 |c::l,a,h,d=>by
  rw[jc,aM,qY]at h;have hg:=aai l (a*10+(c.toNat-48));have d:vl (a*10+(c.toNat-48)) l<9223372036854775808:=d;rw[_root_.Go.Lib.parseUint10,bm h.1,bh (by omega),bh (by omega)];exact prs l _ h.2 d
def iy(s:au):ay×aY:=
 bif s.data.toList.all IL&&ah (s.size<=10)&&ah (vl 0 s.data.toList<=1000000000)&&(dd (vl 0 s.data.toList)==s.data.toList)then((vl 0 s.data.toList:aN),ao)else(0,aq)
theorem aaU(l:aE eE)(f:l≠[])(a:l.all IL=ao)(i:vl 0 l<=1000000000):_root_.Go.Lib.atoiAll l=.ok ((vl 0 l:aN):ay):=by
 have hp:=prs l 0 a (by omega);match l,f with
 |c::r,_=>
  have h:=(aM _ _▸(jc▸a)).1;rw[qY]at h;unfold _root_.Go.Lib.atoiAll;have d:¬c.toNat=43:=by omega
  have e:¬c.toNat=45:=by omega
  simp only[d,e,or_self,if_false,false_and,not_false_eq_true,true_and];unfold _root_.Go.Lib.parseMag;rw[bh (by simp),hp];dsimp only;rw[bh (by omega)]
theorem abh(s:au):wY.v s=iy s:=by
 unfold iy;cases f:(s.data.toList.all IL&&ah (s.size<=10)&&ah (vl 0 s.data.toList<=1000000000)&&(dd (vl 0 s.data.toList)==s.data.toList))with
 |true=>
  simp only[aM,bf,beq_iff_eq]at f;obtain⟨⟨⟨h,m⟩,a⟩,d⟩:=f;have i:s.data.toList≠[]:=by intro e;rw[e]at d;rw[show vl 0 []=0 from rfl,dd1 (by omega)]at d;cases d
  unfold wY.v;rw[aaU _ i h a];have e:(_root_.Go.Lib.itoa ((vl 0 s.data.toList:aN):ay)==s.data.toList)=true:=by rw[_root_.Go.Lib.itoa_nonneg];exact beq_iff_eq.2 d
  simp only[e,gh,aC (show(0:ay)<=((vl 0 s.data.toList:aN):ay)by omega),aC (show((vl 0 s.data.toList:aN):ay)<=1000000000 by omega),aw]
 |false=>
  unfold wY.v;cases o:_root_.Go.Lib.atoiAll s.data.toList with
  |range=>rfl
  |ok n=>
   dsimp only;cases hd:(ah (0<=n)&&ah (n<=1000000000)&&(_root_.Go.Lib.itoa n==s.data.toList))with
   |false=>rfl
   |true=>exfalso;simp only[aM,bf,beq_iff_eq]at hd;obtain⟨⟨h,m⟩,a⟩:=hd;obtain⟨u,rfl⟩:=Int.eq_ofNat_of_zero_le h;rw[_root_.Go.Lib.itoa_nonneg]at a;have a:dd u=s.data.toList:=a;obtain⟨j,k⟩:=IJ u u (bT _);have k3:=II 9 u (by omega);rw[a]at j k k3;have k3:s.size<=10:=k3;rw[j,k,a,aC k3,aC (show u<=1000000000 by omega)]at f;simp at f
  |_=>rfl
end zk
namespace kz
open _root_.Go.FG.Lib (rs)
open zk (iy)
open gL (Ev gA)
def WL:aE au:=[⟨#[97,115,107]⟩,⟨#[112,97,114,116]⟩,⟨#[99,108,111,115,101]⟩,⟨#[98,114,101,97,107]⟩,⟨#[112,97,115,115]⟩,⟨#[108,101,97,118,101]⟩,⟨#[102,97,108,108]⟩]
def wd(i:aN):au:=WL.getD i ⟨#[]⟩
def SL:aE ay:=[3,3,3,2,2,2,0]
def res(e:Ev)(b:aY):aA Ev:=bif b&&gA e then ai e else aj
def fz:aE au->Row->Row×aY
 |[],acc=>(acc,ao)
 |x::r,acc=>bif(iy x).2 then fz r (acc++[[CV.i ak (iy x).1]])else(acc++[[CV.i ak (iy x).1]],aq)
def E(p:aE au):aA Ev:=
 let w:=p.getD 0 ⟨#[]⟩
 let a:=iy (p.getD 1 ⟨#[]⟩)
 let t:=p.getD 2 ⟨#[]⟩
 if w=wd 0 then(if p.length=3 then res ⟨1,a.1,t,0,[]⟩ a.2 else aj)
 else if w=wd 1 then(if p.length=3 then res ⟨2,a.1,t,0,[]⟩ a.2 else aj)
 else if w=wd 2 then(if p.length=3 then res ⟨3,a.1,⟨#[]⟩,(iy t).1,[]⟩ (a.2&&(iy t).2)else aj)
 else if w=wd 3 then(if p.length=2 then res ⟨4,a.1,⟨#[]⟩,0,[]⟩ a.2 else aj)
 else if w=wd 4 then(if p.length=2 then res ⟨5,0,⟨#[]⟩,a.1,[]⟩ a.2 else aj)
 else if w=wd 5 then(if p.length=2 then res ⟨6,a.1,⟨#[]⟩,0,[]⟩ a.2 else aj)
 else if w=wd 6 then res ⟨7,0,⟨#[]⟩,0,(fz (p.drop 1) []).1⟩ (fz (p.drop 1) []).2
 else aj
theorem yl(a b:au):cQ a.toList b.toList=ah (a=b):=by
 rw[_root_.Go.Lib.toList_data,_root_.Go.Lib.toList_data];show(a.data.toList==b.data.toList)=_;by_cases h:a=b
 ·subst h;simp
 ·rw[aF h];refine beq_eq_false_iff_ne.2 λe=>h ?_;have:=ic List.toArray e;exact j6 (by simpa using this)
theorem ajI:∀j k:Fin 7,wd j.val=wd k.val->j=k:=by decide+kernel
theorem jB{j k:aN}(a:j<7)(hk:k<7)(h:j≠k):wd j≠wd k:=λe=>h (ic Fin.val (ajI ⟨j,a⟩ ⟨k,hk⟩ e))
theorem cS(p:aE au)(i:aN):br (av (rs p) i 0)=p.getD i ⟨#[]⟩:=by unfold av Lib.rs;simp only[dK,bI];cases p[i]? <;>rfl
theorem cy(p:aE au):(rs p).length=p.length:=by simp[Lib.rs]
theorem ri1(n:ay):aP (aT [Ck.i ak] 1) 0 [CV.i ak n]=[[CV.i ak n]]:=rfl
theorem Qk:∀(l:aE au) (acc:Row),(∀y∈acc,y.length=1)->∀y∈(fz l acc).1,y.length=1
 |[],acc,h=>h
 |x::r,acc,h=>by
  have d:∀y∈acc++[[CV.i ak (iy x).1]],y.length=1:=by
   intro y a;rcases bc.1 a with a|a
   ·exact h y a
   ·rw[a_.1 a];rfl
  rw[fz];cases (iy x).2 with
  |false=>exact d
  |true=>exact Qk r _ d
theorem aci{b:aY}(h:res e b=ai x):x=e/\gA e=true:=by
 unfold res at h;cases a:(b&&gA e)with
 |false=>rw[a]at h;cases h
 |true=>rw[a]at h;rw[aM]at a;exact⟨(aJ h).symm,a.2⟩
theorem ajw(h:E p=ai x):gA x=ao/\∀y∈x.l,y.length=1:=by
 have nil:∀(y:aE CV),y∈([]:Row)->y.length=1:=λy h=>by cases h
 have one:∀{e:Ev} {b:aY},res e b=ai x->(∀y∈e.l,y.length=1)->gA x=ao/\∀y∈x.l,y.length=1:=λh hl=>by obtain⟨rfl,a⟩:=aci h;exact⟨a,hl⟩
 unfold E at h;dsimp only at h;repeat' split at h
 all_goals first|(cases h;done)|exact one h nil|exact one h (Qk _ _ nil)
theorem E0(h:p.getD 0 ⟨#[]⟩=wd 0):E p=(if p.length=3 then res ⟨1,(iy (p.getD 1 ⟨#[]⟩)).1,p.getD 2 ⟨#[]⟩,0,[]⟩ (iy (p.getD 1 ⟨#[]⟩)).2 else aj):=by unfold E;dsimp only;rw[h,bm rfl]
theorem E1(h:p.getD 0 ⟨#[]⟩=wd 1):E p=(if p.length=3 then res ⟨2,(iy (p.getD 1 ⟨#[]⟩)).1,p.getD 2 ⟨#[]⟩,0,[]⟩ (iy (p.getD 1 ⟨#[]⟩)).2 else aj):=by unfold E;dsimp only;rw[h,bh (jB (by omega) (by omega) (by omega)),bm rfl]
theorem E2(h:p.getD 0 ⟨#[]⟩=wd 2):E p=(if p.length=3 then res ⟨3,(iy (p.getD 1 ⟨#[]⟩)).1,⟨#[]⟩,(iy (p.getD 2 ⟨#[]⟩)).1,[]⟩ ((iy (p.getD 1 ⟨#[]⟩)).2&&(iy (p.getD 2 ⟨#[]⟩)).2)else aj):=by unfold E;dsimp only;rw[h,bh (jB (by omega) (by omega) (by omega)),bh (jB (by omega) (by omega) (by omega)),bm rfl]
theorem E3(h:p.getD 0 ⟨#[]⟩=wd 3):E p=(if p.length=2 then res ⟨4,(iy (p.getD 1 ⟨#[]⟩)).1,⟨#[]⟩,0,[]⟩ (iy (p.getD 1 ⟨#[]⟩)).2 else aj):=by unfold E;dsimp only;rw[h,bh (jB (by omega) (by omega) (by omega)),bh (jB (by omega) (by omega) (by omega)),bh (jB (by omega) (by omega) (by omega)),bm rfl]
theorem E4(h:p.getD 0 ⟨#[]⟩=wd 4):E p=(if p.length=2 then res ⟨5,0,⟨#[]⟩,(iy (p.getD 1 ⟨#[]⟩)).1,[]⟩ (iy (p.getD 1 ⟨#[]⟩)).2 else aj):=by unfold E;dsimp only;rw[h,bh (jB (by omega) (by omega) (by omega)),bh (jB (by omega) (by omega) (by omega)),bh (jB (by omega) (by omega) (by omega)),bh (jB (by omega) (by omega) (by omega)),bm rfl]
theorem E5(h:p.getD 0 ⟨#[]⟩=wd 5):E p=(if p.length=2 then res ⟨6,(iy (p.getD 1 ⟨#[]⟩)).1,⟨#[]⟩,0,[]⟩ (iy (p.getD 1 ⟨#[]⟩)).2 else aj):=by unfold E;dsimp only;rw[h,bh (jB (by omega) (by omega) (by omega)),bh (jB (by omega) (by omega) (by omega)),bh (jB (by omega) (by omega) (by omega)),bh (jB (by omega) (by omega) (by omega)),bh (jB (by omega) (by omega) (by omega)),bm rfl]
theorem E6(h:p.getD 0 ⟨#[]⟩=wd 6):E p=res ⟨7,0,⟨#[]⟩,0,(fz (p.drop 1) []).1⟩ (fz (p.drop 1) []).2:=by unfold E;dsimp only;rw[h,bh (jB (by omega) (by omega) (by omega)),bh (jB (by omega) (by omega) (by omega)),bh (jB (by omega) (by omega) (by omega)),bh (jB (by omega) (by omega) (by omega)),bh (jB (by omega) (by omega) (by omega)),bh (jB (by omega) (by omega) (by omega)),bm rfl]
theorem En(h:∀j,j<7->p.getD 0 ⟨#[]⟩≠wd j):E p=none:=by unfold E;dsimp only;rw[bh (h 0 (by omega)),bh (h 1 (by omega)),bh (h 2 (by omega)),bh (h 3 (by omega)),bh (h 4 (by omega)),bh (h 5 (by omega)),bh (h 6 (by omega))]
end kz
namespace Gn
open _root_.Go.FG.Lib (rs)
open vt (sp mk H7 Ak)
def M9:aE eE->aE eE->aE (aE eE)
 |a,[]=>if a=[]then []else [a]
 |a,b::r=>if b=10 then a::M9 [] r else M9 (a++[b]) r
def lines(s:au):aE au:=(M9 [] s.data.toList).map mk
theorem two:∀(r d:aE eE),∃a z,sp 10 d r=a++[z]/\M9 d r=(if z=[]then a else a++[z])
 |[],d=>⟨[],d,rfl,by rw[M9];rfl⟩
 |b::r,d=>by
  rw[sp,M9];by_cases h:b=10
  ·rw[bm h,bm h];obtain⟨a,z,e,f⟩:=two r [];refine⟨d::a,z,by rw[e];rfl,?_⟩
   rw[f];split<;>rfl
  ·rw[bh h,bh h];exact two r _
theorem DA(s:au):∃(A:aE au) (Z:au),H7 10 s=A++[Z]/\lines s=(if Z.size=0 then A else A++[Z]):=by
 obtain⟨a,z,d,e⟩:=two s.data.toList [];refine⟨a.map mk,mk z,by unfold vt.H7;rw[d];simp,?_⟩
 unfold lines;rw[e];cases z with
 |nil=>rfl
 |cons x t=>simp[Ak]
theorem M8(s:au):(lines s).length<=s.size+1:=by
 obtain⟨A,Z,a,d⟩:=DA s;have:=na.FI 10 s;rw[a,bW,bu]at this;rw[d];split
 ·omega
 ·rw[bW,bu];omega
end Gn
namespace w6
open _root_.Go.FG.Lib (rs)
open gL (Ev gA)
open k6 (rv Evr)
open na (parts W)
open kz (E)
open Gn (lines)
def jG(w:au):aY:=ah (fF w 0=35)
def idle:aE au->aY
 |[]=>ao
 |w::_=>jG w
def Cq:aN->aE au->aE Ev->aE Ev×ay
 |_,[],acc=>(acc,0)
 |i,x::r,acc=>
  bif(parts x).2 then(bif idle (parts x).1 then Cq (i+1) r acc else
   match E (parts x).1 with
   |none=>([],((i+1:aN):ay))
   |some e=>bif ah (acc.length=70)then([],((i+1:aN):ay))else Cq (i+1) r (acc++[e]))
  else([],((i+1:aN):ay))
def eD(s:au):aE Ev×ay:=
 bif ah (s.size<=3000)&&ah ((lines s).length<=90)then Cq 0 (lines s) []else([],-1)
theorem qo(h:(parts s).2=ao):(parts s).1.length<=10/\∀x∈(parts s).1,0<x.size/\x.size<=600:=by
 unfold na.parts at h⊢;cases a:(ah (s.size<=600)&&s.data.toList.all na.F'&&ah ((W s).length<=10))with
 |false=>rw[a]at h;cases h
 |true=>rw[aw];simp only[aM,bf]at a;exact⟨a.2,λx d=>⟨(na.PN s x d).1,cf (na.PN s x d).2 a.1.1⟩⟩
theorem JB:∀(l:aE au) (i:aN) (acc:aE Ev),acc.length<=70->(∀e∈acc,gA e=ao/\∀y∈e.l,y.length=1)->(Cq i l acc).1.length<=70/\∀e∈(Cq i l acc).1,gA e=ao/\∀y∈e.l,y.length=1
 |[],i,acc,j,f=>⟨j,f⟩
 |x::r,i,acc,j,f=>by
  have nil:([]:aE Ev).length<=70/\∀e∈([]:aE Ev),gA e=ao/\∀y∈e.l,y.length=1:=⟨by simp,λe h=>by cases h⟩
  rw[Cq];cases (parts x).2 with
  |false=>exact nil
  |true=>
   rw[aw];cases idle (parts x).1 with
   |true=>exact JB r _ acc j f
   |false=>
    rw[ax];cases hE:E (parts x).1 with
    |none=>exact nil
    |some e=>
     dsimp only;by_cases a:acc.length=70
     ·rw[aC a];exact nil
     ·rw[aF a,ax];refine JB r _ _ (by simp;omega) (λy d=> ?_);rcases bc.1 d with d|d
      ·exact f y d
      ·rw[a_.1 d];exact kz.ajw hE
theorem DN(s:au):(eD s).1.length<=70/\∀e∈(eD s).1,gA e=ao/\∀y∈e.l,y.length=1:=by
 unfold eD;cases (ah (s.size<=3000)&&ah ((lines s).length<=90))with
 |false=>exact⟨by simp,λe h=>by cases h⟩
 |true=>exact JB _ _ _ (by simp) (λe h=>by cases h)
theorem Ap(acc:aE Ev)(e:Ev):rv acc++aP (aT [Ck.i ak,Ck.i ak,Ck.s,Ck.i ak,Ck.l 3] 1) 0 [CV.i ak e.k,CV.i ak e.id,CV.s e.t,CV.i ak e.n,CV.l 3 e.l]=rv (acc++[e]):=by unfold k6.rv;rw[cO];rfl
theorem qi(w:au):ah (((fF w 0:aN):ay)=35)=jG w:=by unfold jG;rw[bZ];omega
end w6
namespace iN
open _root_.Go.FG.Lib (En el)
open d' (sp Cn shown room A' Wb tA Al)
open iT (it)
open gL (Wo Ev gA)
open Az (ib)
open fw (told)
open k6 (run)
open w6 (eD Cq)
def tl:aE au->au
 |[]=>⟨#[]⟩|x::r=>sp++x++tl r
def jo:aE au->au
 |[]=>⟨#[]⟩|x::r=>x++tl r
theorem F0(x:au):∀l:aE au,tl (l++[x])=tl l++sp++x
 |[]=>by show sp++x++⟨#[]⟩=⟨#[]⟩++sp++x;rw[tA,Al]
 |y::r=>by
  show sp++y++tl (r++[x])=sp++y++tl r++sp++x;rw[F0 x r];simp only[c_]
theorem UH(x:au):∀{l:aE au},l≠[]->jo (l++[x])=jo l++sp++x
 |[],h=>cJ rfl h
 |y::r,_=>by
  show y++tl (r++[x])=y++tl r++sp++x;rw[F0];simp only[c_]
theorem FY(B:aN):∀l:aE au,(∀x∈l,x.size<=B)->(tl l).size<=(B+1)*l.length
 |[],_=>bT _
 |x::r,h=>by
  have d:=h x cD;have e:=FY B r λy a=>h y (cu _ a);unfold tl;rw[dm,dm,bR,Nat.mul_succ,show sp.size=1 from rfl];omega
theorem UG(B:aN)(l:aE au)(h:∀x∈l,x.size<=B):(jo l).size<=(B+1)*l.length:=by
 cases l with
 |nil=>exact bT _
 |cons x r=>have d:=h x cD;have e:=FY B r λy a=>h y (cu _ a);unfold jo;rw[dm,bR,Nat.mul_succ];omega
theorem join_eq(l:aE au):(⟨(_root_.Go.Lib.join (l.map (·.data.toList)) [ar 32]).toArray⟩:au)=jo l:=by
 cases l with
 |nil=>rfl
 |cons x r=>
  have e:∀r:aE au,_root_.Go.Lib.joinTail [ar 32] (r.map (·.data.toList))=(tl r).data.toList:=by
   intro r;induction r with
   |nil=>rfl
   |cons y r ih=>rw[show(tl (y::r)).data.toList=[ar 32]++y.data.toList++(tl r).data.toList from by rw[show tl (y::r)=sp++y++tl r from rfl];simp,<-ih];rfl
  rw[e9,_root_.Go.Lib.join_cons,e];apply j6;unfold jo;simp
theorem abq(n:ay):1<=(it n).size:=by
 have d:∀u,1<=(iT.D u).size:=λu=>by
  by_cases h:u<10
  ·rw[iT.D1 h];exact bT _
  ·rw[iT.D2 h,dm];exact Nat.le_add_left _ _
 unfold iT.it _root_.Go.Lib.itoa;split
 ·exact Nat.succ_le_succ (bA _)
 ·exact d _
theorem ae5(h:l≠[]):jo (l.map it)≠⟨#[]⟩:=by
 cases l with
 |nil=>exact cJ rfl h
 |cons n r=>intro e;have e:=ic bC e;have:=abq n;rw[show jo ((n::r).map it)=it n++tl (r.map it)from rfl,dm]at e;have:(⟨#[]⟩:au).size=0:=rfl;omega
def Ag(p:Px):Prop:=∀c∈p.cl,c.age<=1000000000
theorem F2{n:aN}{st:ay}(h:Ag p):Ag (told p n g st):=λc a=>by
 obtain⟨x,d,rfl⟩:=cN.1 a;unfold tW.ec;cases ah (x.fe=(n:ay)+1)&&ah (x.sta=1)<;>exact h x d
theorem QG(h:Ag p)(d:c.age<=1000000000)(e:q.cl=fS.jn p.cl c):Ag q:=λx a=>by
 rw[e]at a;unfold fS.jn at a;rcases bc.1 a with a|a
 ·rcases bc.1 a with a|a
  ·exact h x (da.1 a).1
  ·rw[a_.1 a];exact d
 ·exact h x (da.1 a).1
def yp(n:ay):Prop:=0<=n/\n<=2
theorem uE(b:aY):yp (gL.flag b):=by cases b<;>exact⟨by decide,by decide⟩
theorem Ln{p:Px}{id:ay}{key:au}{b:aY}(h:Ag p):Ag (fS.kZ p id key b).1/\yp (fS.kZ p id key b).2:=by
 unfold fS.kZ;cases fS.Ng p.fe key with
 |some i=>exact⟨QG h (by show(0:ay)<=_;omega) rfl,uE ao⟩
 |none=>
  dsimp only;cases ah (p.fe.length<20)with
  |true=>exact⟨QG h (by show(0:ay)<=_;omega) rfl,uE ao⟩
  |false=>exact⟨h,by show(0:ay)<=2;decide,by show(2:ay)<=2;decide⟩
theorem aaR(id:ay)(key:au)(d:ib p)(h:Ag p):Ag (fS.ask p id key).1/\yp (fS.ask p id key).2:=by
 unfold fS.ask;cases (jm.i_ p&&(ah (1<=id/\id<=9)&&(jx.eC key&&(!fS.ll p.cl id&&ah (p.cl.length<6)))))with
 |false=>exact⟨h,uE aq⟩
 |true=>
  rw[aw];cases a:fS.G2 p.en key with
  |none=>exact Ln h
  |some e=>
   dsimp only;cases fS.sf e p.now with
   |false=>exact Ln h
   |true=>unfold fS.G2 at a;have f:=d.now.2;have i:=gu.FN (d.en e (p7 a));exact⟨QG h (by show p.now-e.st<=_;omega) rfl,uE ao⟩
theorem aaJ(o:ib w.p)(h:Ag w.p):Ag (gL.act w e).1.p/\yp (gL.act w e).2:=by
 unfold gL.act;by_cases d:e.k=1
 ·rw[aC d];exact aaR _ _ o h
 rw[aF d,ax];by_cases f:e.k=2
 ·rw[aC f];refine⟨?_,uE _⟩
  show Ag (fw.Cp w.p e.id e.t).1;unfold fw.Cp;cases (fw.sZ w.p e.id&&(ah (1<=e.t.size/\e.t.size<=40)&&ah ((el w.p.fe e.id.toNat).t.size+e.t.size<=400)))with
  |false=>exact h
  |true=>exact F2 h
 rw[aF f,ax];by_cases k3:e.k=3
 ·rw[aC k3,aw];have a:Ag (pZ.cls w.p e.id (e.n%1000000)).1:=by
   unfold pZ.cls;cases (fw.sZ w.p e.id&&ah (0<=e.n%1000000/\e.n%1000000<=999999))with
   |false=>exact h
   |true=>rw[aw];cases ah (e.n%1000000>0)<;>exact F2 h
  refine⟨?_,uE _⟩
  unfold gL.closed;dsimp only;cases (pZ.cls w.p e.id (e.n%1000000)).2&&ah (e.n%1000000>0)<;>exact a
 rw[aF k3,ax];by_cases i:e.k=4
 ·rw[aC i];refine⟨?_,uE _⟩
  show Ag (fw.Cm w.p e.id).1;unfold fw.Cm;cases fw.sZ w.p e.id with
  |false=>exact h
  |true=>exact F2 h
 rw[aF i,ax];by_cases j:e.k=5
 ·rw[aC j];exact⟨h,uE ao⟩
 rw[aF j,ax];by_cases m:e.k=6
 ·rw[aC m];exact⟨λc a=>h c (da.1 a).1,uE _⟩
 rw[aF m,ax];refine⟨λc a=> ?_,uE ao⟩
 have:=fV.sS w.p.now (gL.l_ w) _ (bT _);rw[cE]at this;rw[show(gL.zG w).p.cl=[]from this.cl]at a;cases a
theorem acp{l:aE Ev}(h:∀e∈l,gA e=ao):∀i,i<=l.length->Ag (run (l.take i)).p/\∀n∈(run (l.take i)).cd,yp n:=by
 intro i;induction i with
 |zero=>exact λ_=>⟨λc f=>(by cases f),λn d=>(by cases d)⟩
 |succ i ih=>
  intro hi;obtain⟨a,b⟩:=ih (by omega);rw[k6.qs l i hi];have:=aaJ (e:=el l i) (k6.yJ h i (by omega)).px a;refine⟨this.1,λn d=> ?_⟩
  rcases bc.1 d with d|d
  ·exact b n d
  ·rw[a_.1 d];exact this.2
structure Tel (w:Wo):Prop where
 px:ib w.p
 cd:∀n∈w.cd,yp n
 cl:∀c∈w.p.cl,A' c
 rm:room w.p.cl<=3000
 ln:w.cd.length<=70
 en:w.p.en.length<=1048576
 ks:∀e∈w.p.en,e.k.size<=30
theorem tel{l:aE Ev}(hl:l.length<=70)(h:∀e∈l,gA e=ao):Tel (run l):=by
 have W:=k6.Jx h;have A:=acp h l.length (bT _);rw[cE]at A;have C:=λc (a:c∈(run l).p.cl)=>W.px.cl c a;unfold Az.H6 at C;simp only[aM,bf]at C;refine⟨W.px,A.2,λc a=> ?_,?_,by rw[W.cd];exact hl,(ew.ju W.px).en,λe i=> ?_⟩
 ·have d:=C c a;have f:=A.1 c a;unfold d'.A' d'.Wb;omega
 ·have rm:∀q:aE Cl,(∀c∈q,c.got.size<=400)->room q<=460*q.length:=by
   intro q hq;induction q with
   |nil=>exact bT _
   |cons c r ih=>
    have d:=hq c cD;have f:=ih λx j=>hq x (cu _ j);show c.got.size+60+room r<=460*(r.length+1)
    omega
  have:=rm _ λc a=>by have:=C c a;omega
  have:=W.px.cll;omega
 ·have:=gu.FN (W.px.en e i);omega
def ajY:au:=(az #[ar 104,ar 105,ar 116,ar 115,ar 32])
def akg:au:=(az #[ar 32,ar 107,ar 101,ar 112,ar 116])
def ajK:au:=(az #[ar 102,ar 97,ar 117,ar 108,ar 116,ar 32])
def hd(l:aE ay):au:=if l=[]then⟨#[]⟩else jo (l.map it)++Cn
def wtx(w:Wo):au:=hd w.cd++(shown w.p.cl++(ajY++(it w.p.hits++(akg++(tl (w.p.en.map (·.k))++Cn)))))
def con(s:au):au:=if(eD s).2=0 then wtx (run (eD s).1)else ajK++(it (eD s).2++Cn)
theorem LJ:∀(l:aE au) (i:aN) (acc:aE Ev),0<=(Cq i l acc).2/\(Cq i l acc).2<=i+l.length
 |[],i,acc=>by show(0:ay)<=0/\(0:ay)<=_;omega
 |x::r,i,acc=>by
  have h:=λa=>LJ r (i+1) a;have no:(0:ay)<=((i+1:aN):ay)/\((i+1:aN):ay)<=(i:ay)+((x::r).length:aN):=by simp only[bR];omega
  have go:∀a,0<=(Cq (i+1) r a).2/\(Cq (i+1) r a).2<=(i:ay)+((x::r).length:aN):=λa=>by have:=h a;simp only[bR];omega
  rw[Cq];cases (na.parts x).2 with
  |false=>exact no
  |true=>
   rw[aw];cases w6.idle (na.parts x).1 with
   |true=>exact go _
   |false=>
    rw[ax];cases kz.E (na.parts x).1 with
    |none=>exact no
    |some e=>
     dsimp only;cases ah (acc.length=70)with
     |true=>exact no
     |false=>exact go _
theorem G6(s:au): -1<=(eD s).2/\(eD s).2<=90:=by
 unfold w6.eD;cases h:(ah (s.size<=3000)&&ah ((Gn.lines s).length<=90))with
 |false=>exact⟨by show(-1:ay)<= -1;decide,by show(-1:ay)<=90;decide⟩
 |true=>rw[aM,bf,bf]at h;have:=LJ (Gn.lines s) 0 [];rw[aw];omega
theorem aae(l:aE En)(i:aN)(h:i<l.length):tl ((l.take (i+1)).map (·.k))=tl ((l.take i).map (·.k))++sp++(el l i).k:=by rw[eT h,bO h,cO];exact F0 _ _
theorem JO(l:aE ay)(i:aN)(h:i<l.length):(l.take (i+1)).map it=(l.take i).map it++[it (el l i)]:=by rw[eT h,bO h,cO];rfl
theorem ahK(l:aE ay)(i:aN)(h:i<l.length)(h0:0<i):jo ((l.take (i+1)).map it)=jo ((l.take i).map it)++sp++it (el l i):=by rw[JO l i h];refine UH _ λe=> ?_;have:=ic bB e;rw[bJ,du,jz]at this;omega
theorem Yo{n:ay}(h:yp n):(it n).size<=21:=iT.mr _ (by have:=h.1;omega) (by have:=h.2;omega)
theorem QI{l:aE ay}(hl:l.length<=70)(a:∀n∈l,yp n)(i:aN):(jo ((l.take i).map it)).size<=1540:=by
 have:=UG 21 ((l.take i).map it) λx e=>by obtain⟨n,d,rfl⟩:=cN.1 e;exact Yo (a n (ia d))
 rw[bJ,du]at this;omega
theorem L7{l:aE En}(hl:l.length<=1048576)(hk:∀e∈l,e.k.size<=30)(i:aN):(tl ((l.take i).map (·.k))).size<=32505856:=by
 have:=FY 30 ((l.take i).map (·.k)) λx d=>by obtain⟨e,a,rfl⟩:=cN.1 d;exact hk e (ia a)
 rw[bJ,du]at this;omega
theorem w1{n:aN}(h:n<=4000000000):ah (n<=4611686018427387904)=true:=aC (by omega)
open _root_.Go.FG.Lib (rs)
theorem Wn(l:aE au)(x:au):rs l++aP (aT [Ck.s] 1) 0 [CV.s x]=rs (l++[x]):=by unfold Lib.rs;rw[cO];rfl
theorem UI(l:aE au)(hl:l.length<=1000)(hs:(jo l).size<=100000):CD.c (rs l) sp=ao/\CD.v (rs l) sp=jo l:=by
 have t:CD.tx (rs l)=l:=by unfold CD.tx Lib.rs;rw[jk];exact Mu l
 have e:CD.v (rs l) sp=jo l:=by unfold CD.v;rw[t];exact join_eq l
 refine⟨?_,e⟩
 have n:=ic bC e;unfold CD.v at n;rw[show∀x:aE eE,(⟨x.toArray⟩:au).size=x.length from λx=>by show x.toArray.size=_;simp]at n;unfold CD.c;rw[Lib.cy,uV (by omega),uV (by omega)];rfl
end iN
namespace mW
open _root_.Go.FG.Lib (rs)
open vt (sp mk bt sz qg sL)
open na (parts W ne F' F N' WU aeu ajC)
theorem Iw(acc:aE au)(x:au):rs acc++aP (aT [Ck.s] 1) 0 [CV.s x]=rs (acc++[x]):=by simp[Lib.rs];rfl
theorem run(s:au)(hs:s.size<=600)(K0:au->aY->ay->ay->Row->Row->aA (Row×aY))(K1:au->aY->ay->ay->Row->aA (Row×aY))(z:∀a b c d e f,K0 a b c d e f=ai (e,b))
  (A:s.data.toList.all F'=ao->∀a b,K1 s aq a b (rs (W s))=ai (rs (parts s).1,(parts s).2)):
  ∀(m i b:aN) (acc:aE au),i<=s.size->s.size+1-i<m->b<=i->(s.data.toList.take i).all F'=ao->acc.length<=i->acc++F ((s.data.toList.drop b).take (i-b)) (s.data.toList.drop i)=W s->
   l6 ck K0 K1 m s aq (b:ay) (i:ay) (rs acc)=ai (rs (parts s).1,(parts s).2):=by
 intro m;induction m with
 |zero=>intro i b acc _ h;omega
 |succ m ih=>
  intro i b acc hi hm O hd Y k;have B:(rs acc).length=acc.length:=by simp[Lib.rs]
  have room:∀x:au,b8 (bB (rs acc)+bB (aP (aT [Ck.s] 1) 0 [CV.s x])) 16=true:=λx=>
   b0 (by rw[b9,fA,B];omega) (by rw[b9,fA,B];omega)
  have t:fU (b:ay) (i:ay) (s.size:ay)=true:=by unfold fU;simp;omega
  have P:bx s b i=mk ((s.data.toList.drop b).take (i-b)):=qg s b i;have j:ah ((i:ay)<=(s.size:ay))=true:=aC (by omega);by_cases h:i<s.size
  ·have r:=bt h;have hl:i<s.data.toList.length:=by rw[sz];exact h
   have hu:(s.data.toList[i]).toNat<256:=CG _;have bd:F' s.data.toList[i]=(ah (32<=(s.data.toList[i]).toNat)&&ah ((s.data.toList[i]).toNat<=126)):=rfl;have j5:s.data.toList.drop i=s.data.toList[i]::s.data.toList.drop (i+1):=cq hl;have bad:F' s.data.toList[i]=aq->ai (aT [Ck.s] 0,aq)=ai (rs (parts s).1,(parts s).2):=λO=>by rw[na.bad (bw hl) O];rfl
   by_cases V:(s.data.toList[i]).toNat<32
   ·simp only[l6,r6,j,c8,h,aQ,b_,aL,aw,dB,r];rw[lJ,aw,z];exact bad (by rw[bd,qe];rfl)
   ·by_cases X:(s.data.toList[i]).toNat>126
    ·simp only[l6,r6,j,c8,h,aQ,b_,aL,aw,dB,r];rw[qe,ax,lJ,aw,z];exact bad (by rw[bd,aF (show¬_<=126 by omega)];simp)
    ·have S:F' s.data.toList[i]=true:=by rw[bd,lJ,lJ];rfl
     have K:ah ((((s.data.toList[i]).toNat:aN):ay)<32)=false:=aF (by omega);have M:ah ((((s.data.toList[i]).toNat:aN):ay)>126)=false:=aF (by omega);have o:=na.GL hl hd S;have wi:=cw h (show s.size<=9223372036854775807 by omega);by_cases I:s.data.toList[i]=32
     ·have H:((((s.data.toList[i]).toNat:aN):ay) !=32)=false:=by rw[I];rfl
      rw[j5,I,WU]at k;by_cases y:b<i
      ·have u:¬(s.data.toList.drop b).take (i-b)=[]:=by intro e;have:=ic bB e;simp at this;omega
       simp only[l6,r6,j,c8,h,y,aQ,b_,aL,aw,ax,dB,r,K,M,H,t,room,wi,Iw,P];refine ih (i+1) (i+1) _ h (by omega) (bT _) o (by simp;omega) ?_;rw[bh u]at k;rw[pf,pJ,ca];exact k
      ·have N:i=b:=by omega
       have Q:(s.data.toList.drop b).take (i-b)=[]:=by rw[N,pf,pJ]
       simp only[l6,r6,j,c8,h,y,aQ,bg,b_,aL,aw,ax,dB,r,K,M,H,t,room,wi,Iw,P];refine ih (i+1) (i+1) _ h (by omega) (bT _) o (by omega) ?_;rw[bm Q,eJ]at k;rw[pf,pJ];exact k
     ·have H:((((s.data.toList[i]).toNat:aN):ay) !=32)=true:=by simp only[bne_iff_ne,ne_eq];intro e;exact I (Tj.1 (by show _=32;omega))
      simp only[l6,r6,j,c8,h,aQ,b_,aL,aw,ax,dB,r,K,M,H,wi];refine ih (i+1) b acc h (by omega) (by omega) o (by omega) ?_;rw[j5,aeu I,<-sL O hl]at k;exact k
  ·have N:i=s.size:=by omega
   subst N;rw[dH (by rw[sz];omega)]at hd;rw[jU (show s.data.toList.length<=s.size by rw[sz];omega),N']at k;obtain⟨m,rfl⟩:∃U,m=U+1:=⟨m-1,by omega⟩
   have wi:bE ((s.size:ay)+1)=((s.size+1:aN):ay):=dq (by omega) (by omega);have C:ah (((s.size+1:aN):ay)<=(s.size:ay))=false:=aF (by omega);by_cases y:b<s.size
   ·have u:¬(s.data.toList.drop b).take (s.size-b)=[]:=by intro e;have:=ic bB e;simp at this;omega
    rw[bh u,<-P]at k;simp only[l6,r6,j,C,c8,bk,y,aQ,bg,b_,aL,aw,ax,dB,t,room,wi,Iw,k];exact A hd _ _
   ·have Q:(s.data.toList.drop b).take (s.size-b)=[]:=by rw[show s.size-b=0 by omega,pJ]
    rw[bm Q,cZ]at k;simp only[l6,r6,j,C,c8,bk,y,aQ,bg,b_,aL,aw,ax,dB,t,room,wi,Iw,k];exact A hd _ _
theorem ok(s:au):c s=ao/\v s=(rs (parts s).1,(parts s).2):=by
 refine out _ ?_;unfold vo b;by_cases hs:(s.size:ay)>600
 ·rw[aC hs,aw];unfold na.parts;rw[aF (show¬s.size<=600 by omega)];rfl
 ·rw[aF hs,ax];have hs:s.size<=600:=by omega
  refine run s hs _ _ (λ_ _ _ _ _ _=>rfl) (λhd a b=> ?_) ck 0 0 [] (bA _) ez (bT _) rfl (bT _) rfl;dsimp only;unfold na.parts;rw[aC hs,hd,show(rs (W s)).length=(W s).length from by simp[Lib.rs]];by_cases d:(W s).length<=10
  ·rw[qe,aC d];rfl
  ·rw[lJ,aF d];rfl
end mW
namespace jP
open zk (vl IL qY IJ II iy)
open vt (bt sz)
theorem WG(l:aE eE)(c:eE):vl 0 (l++[c])=vl 0 l*10+(c.toNat-48):=by unfold zk.vl;rw[mz];rfl
theorem SN:∀(l:aE eE) (a:aN),l.all IL=ao->vl a l<(a+1)*10^l.length
 |[],a,_=>by simp[zk.vl]
 |c::l,a,h=>by
  rw[jc,aM,qY]at h;have d:=SN l (a*10+(c.toNat-48)) h.2;rw[bR,HZ,Gv (10^l.length) 10,<-Nat.mul_assoc];exact iB d (b5 _ (by omega))
theorem aaj(l:aE eE)(k:aN)(h:l.all IL=ao)(hk:l.length<=k):vl 0 l<10^k:=by have a:=SN l 0 h;have d:=Nat.pow_le_pow_right (n:=10) (by omega) hk;omega
theorem ok(s:au):c s=ao/\v s=iy s:=by
 refine out _ ?_;unfold vo b;by_cases hs:(s.size:ay)>10
 ·rw[aC hs,aw];unfold zk.iy;rw[aF (show¬s.size<=10 by omega)];simp
 ·rw[aF hs,ax];have hs:s.size<=10:=by omega
  have key:∀(m i:aN),i<=s.size->s.size-i<m->(s.data.toList.take i).all IL=ao->∀K0 K1:au->ay->aY->ay->ay->aA (ay×aY),(∀a b c d e,K0 a b c d e=ai (b,c))->
    (s.data.toList.all IL=ao->K1 s 0 aq ((vl 0 s.data.toList:aN):ay) (s.size:ay)=ai (iy s))->
    l5 ck K0 K1 m s 0 aq ((vl 0 (s.data.toList.take i):aN):ay) (i:ay)=ai (iy s):=by
   intro m
   induction m with
   |zero=>intro i _ h;omega
   |succ m ih=>
    intro i hi hm hd K0 K1 f j;by_cases h:i<s.size
    ·have k:=bt h;have hl:i<s.data.toList.length:=by rw[sz];exact h
     have o:=aaj _ 10 hd (by rw[du];omega);rw[show((10:aN)^10:aN)=10000000000 by decide]at o;have r:s.data.toList.take (i+1)=s.data.toList.take i++[s.data.toList[i]]:=bO hl;have B:(s.data.toList[i]).toNat<256:=CG _;have bad:IL s.data.toList[i]=aq->ai ((0:ay),aq)=ai (iy s):=by
      intro k;unfold zk.iy;have:s.data.toList.all IL=false:=by rw[S5];exact⟨_,bw hl,by rw[k];simp⟩
      rw[this];simp
     have bd:IL s.data.toList[i]=(ah (48<=(s.data.toList[i]).toNat)&&ah ((s.data.toList[i]).toNat<=57)):=rfl;simp only[l5,r5,c8,h,aQ,b_,aL,aw,dB,k];by_cases z:(s.data.toList[i]).toNat<48
     ·rw[lJ,aw,f];exact bad (by rw[bd,qe];rfl)
     ·rw[qe,ax];by_cases A:(s.data.toList[i]).toNat>57
      ·rw[lJ,aw,f];exact bad (by rw[bd,aF (show¬_<=57 by omega)];simp)
      ·rw[qe,ax,cw h (by omega)];have e:bE (bE (bE (10*((vl 0 (s.data.toList.take i):aN):ay))+bE (((s.data.toList[i]).toNat:aN):ay))-48)=((vl 0 (s.data.toList.take (i+1)):aN):ay):=by rw[r,WG,dq (x:=10*_) (by omega) (by omega),dq (x:=(((s.data.toList[i]).toNat:aN):ay)) (by omega) (by omega),dq (x:=_+_) (by omega) (by omega),dq (by omega) (by omega)];omega
       rw[e];exact ih (i+1) h (by omega) (by rw[r,oD,hd];simp only[jc,Cv,gh,bj,qY];omega) K0 K1 f j
    ·have:i=s.size:=by omega
     subst this;rw[dH (by rw[sz];omega)]at hd⊢;simp only[l5,r5,c8,bk,bg,ax];exact j hd
  refine key ck 0 (bA _) ez rfl _ _ (λ_ _ _ _ _=>rfl) (λhd=> ?_);dsimp only;have o:=aaj _ 10 hd (by rw[sz];exact hs);rw[show((10:aN)^10:aN)=10000000000 by decide]at o;unfold zk.iy;rw[hd,aC hs];by_cases t:((vl 0 s.data.toList:aN):ay)>1000000000
  ·rw[aC t,aw,aF (show¬vl 0 s.data.toList<=1000000000 by omega)];simp
  ·rw[aF t,ax,aC (show vl 0 s.data.toList<=1000000000 by omega)];obtain⟨u,y⟩:=iT.eq ((vl 0 s.data.toList:aN):ay) (by omega) (by omega);rw[u,y,aw];unfold iT.it;rw[_root_.Go.Lib.toList_data,_root_.Go.Lib.toList_data,_root_.Go.Lib.itoa_nonneg];show(bif !(iT.dd (vl 0 s.data.toList)==s.data.toList)then _ else _)=_;cases (iT.dd (vl 0 s.data.toList)==s.data.toList)<;>rfl
end jP
end Go.FG
