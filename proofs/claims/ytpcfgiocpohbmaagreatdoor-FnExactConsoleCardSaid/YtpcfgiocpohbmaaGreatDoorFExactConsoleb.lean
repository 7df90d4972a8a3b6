/- What the functions come to, in plain numbers, texts and lists; last the law itself. No condition but those that each states. -/
import Derived.Test.YtpcfgiocpohbmaaGreatDoorPExactConsoleb
import Derived.Test.YtpcfgiocpohbmaaGreatDoorFExactConsolea
set_option linter.unusedVariables false
set_option linter.unusedSimpArgs false
set_option maxRecDepth 100000
set_option autoImplicit true
set_option relaxedAutoImplicit true
open BitVec renaming toNat->ij,and->AB,ofInt->di
open Bool renaming true->ao,false->aq,and_self->aL,not_false->bG,not_true->aZ,and_eq_true->aM,true_and->bj,not_eq_true'->dt,not_eq_false'->p6,false_or->nO,true_or->Mn,false_and->kQ,and_true->gh,and_false->vv,false_eq_true->db,or_eq_true->dC,and_assoc->nc
open ByteArray renaming mk->az,extract->bx,toList->aG,size->bC,empty_append->k8,append_assoc->c_,ext->j6
open Decidable renaming decide->ah
open Go.IntKind renaming i64->ak,u8->ba,wrap->bF
open Go.Op renaming bytesLess->b7
open Int renaming toNat->aR,tdiv->cK,le_trans->Ms,neg->Ij,tmod->cx,tmod_eq_emod_of_nonneg->eN,toNat_natCast->dG
open List renaming drop_eq_getElem_cons->cq,getD->dZ,length->bB,drop_length->cX,drop_of_length_le->jU,set->aP,length_set->b9,take_zero->pJ,append_assoc->ca,take_of_length_le->dH,length_drop->gz,map_nil->uU,append_nil->cZ,mem_cons_self->cD,length_cons->bR,getElem_mem->bw,length_nil->jz,nil_append->eJ,map_append->cO,length_append->bW,length_take->du,getD_eq_getElem?_getD->dK,getElem?_eq_getElem->e8,range->cT,beq->cQ,all_eq_true->bz,all_eq_false->S5,length_map->bJ,ext_getElem->la,set_getElem_self->eZ,getElem_set_self->j9,set_set->o_,take_succ_eq_append_getElem->bO,filter_append->fy,mem_or_eq_of_mem_set->jl,take_set_of_le->vG,drop_set_of_lt->vF,drop_eq_nil_of_le->gy,take_length->cE,filter_eq_self->eh,getElem_of_mem->c7,take->gG,drop->mE,drop_zero->eK,take_append_of_le_length->oG,getElem_take->mJ,mem_map->cN,filter_map->oE,filter_congr->kr,length_singleton->bu,nodup_append->ej,mem_append->bc,mem_append_left->bY,mem_singleton->a_,mem_append_right->bS,length_tail->TQ,find?_cons_of_neg->Ik,length_filter_le->d_,pairwise_cons->p8,mem_of_find?_eq_some->p7,find?_eq_none->TP,find?_some->D',mem_cons->cm,not_mem_nil->ld,any_eq_false->Xk,range'->iA,range'_zero->TS,all_nil->Cv,all_cons->jc,range_eq_range'->TT,mem_of_mem_take->ia,length_pos_iff->NL,mem_of_mem_drop->kV
open List.cons renaming inj->jW
open Nat renaming le_refl->bT,lt_irrefl->bk,sub_self->pf,zero_le->bA,lt_or_ge->qy,sub_zero->og,le_trans->cf,zero_add->bV
open Option renaming some->ai,none->aj,map_some->hJ
open UInt8 renaming toNat_lt->CG,toNat_inj->Tj,ofNat->ar
open _root_ renaming ByteArray->au,Nat->aN,Bool->aY,Int->ay,Option->aA,List->aE,decide_eq_true->aC,cond_true->aw,decide_eq_false->aF,cond_false->ax,decide_true->aQ,decide_false->bg,if_pos->bm,if_neg->bh,congrArg->ic,decide_eq_decide->bZ,of_decide_eq_true->cL,of_decide_eq_false->ur,decide_eq_true_eq->bf,decide_eq_false_iff_not->eR,absurd->cJ
namespace Go.FG
open _root_.Go.FG.Lib (Cl Fe Fi Px ET all_congr jE oM AZ pP eG beq_iff sG lj oN ck cz e_ qe b_ c8 E_ dQ v8 lJ eT fH jt qZ n8 fi nJ mO Bj La wg im gm fA fE mS ez ch ly rc0 rc1 rc2 rc3 rc4 rc5 rc6 eL Hz Tm Tn dX re dv fB dM gJ dI NW b0 rr H8 gC To pc tO kl B2 dm tc ov wO dB DO nM B_ wP qu qv tg m_ gU vb rE tT km dq cw JV wc1 wc2 wc3 NX NY NZ wd0 wd1 wd2 oy rF rG rH Ga DT WH yS N0 N1)
variable {R:Type}
namespace oh
open _root_.Go.FG.Lib (rs)
open zk (iy)
open gL (Ev gA)
open kz (WL wd SL res fz E yl cS cy ri1 jB)
abbrev WS:Row:=rs WL
abbrev SS:Row:=Lib.ri SL
abbrev Z:au:=(az #[])
theorem cW{i:aN}:br (av WS i 0)=wd i:=cS WL i
theorem rd(s:au):jP.c s=ao/\jP.v s=iy s:=jP.ok s
theorem rc(s:au):jP.c s=true:=(rd s).1
theorem FQ(s:au):jP.v s=iy s:=(rd s).2
theorem Xu{i:aN}(h:i<7):bN (av SS i 0)=SL.getD i 0:=by
 have key:∀j:Fin 7,bN (av SS j.val 0)=SL.getD j.val 0:=by decide+kernel
 exact key ⟨i,h⟩
section
variable {Q:Type} (K0 K3:Row->aY->ay->ay->ay->au->ay->Row->Row->aA Q) (K1:Row->aY->ay->ay->au->ay->aA Q) (K2:Row->aY->ay->ay->au->ay->Row->aA Q)
abbrev g4(m:aN)(p:aE au)(i:aN):aA Q:=l4 ck K0 K1 K2 K3 m (rs p) aq (i:ay) 0 0 Z 0 WS SS
variable {p:aE au} (hp:0<p.length)
include hp
theorem no(m i:aN)(hi:i<7)(h:p.getD 0 ⟨#[]⟩≠wd i):g4 K0 K3 K1 K2 (m+1) p i=g4 K0 K3 K1 K2 m p (i+1):=by show r4 ck (l4 ck K0 K1 K2 K3 m) K0 K1 K2 K3 (rs p) aq (i:ay) 0 0 Z 0 WS SS=_;unfold r4;rw[c8,show WS.length=7 from rfl,aC hi,aw,aC (show(0:ay)<((rs p).length:ay)by rw[cy];omega),aw,b_,aL,aw];rw[dB,cW,show aR 0=0 from rfl,cS p 0,yl,aF h,bG,aw,cw hi (by omega)]
theorem sz(m i:aN)(hi:i<6)(h:p.getD 0 ⟨#[]⟩=wd i)(hs:(p.length:ay)≠SL.getD i 0):g4 K0 K3 K1 K2 (m+1) p i=g4 K0 K3 K1 K2 m p (i+1):=by
 have a:i<7:=by omega
 have d:ah (SL.getD i 0>0)=true:=by
  have key:∀j:Fin 6,ah (SL.getD j.val 0>0)=true:=by decide+kernel
  exact key ⟨i,hi⟩
 show r4 ck (l4 ck K0 K1 K2 K3 m) K0 K1 K2 K3 (rs p) aq (i:ay) 0 0 Z 0 WS SS=_;unfold r4;rw[c8,show WS.length=7 from rfl,aC a,aw,aC (show(0:ay)<((rs p).length:ay)by rw[cy];omega),aw,b_,aL,aw];rw[dB,cW,show aR 0=0 from rfl,cS p 0,yl,aC h,aZ,ax,c8,show SS.length=7 from rfl,aC a,aL,aw,Xu a,d,aw,aw];rw[cy,show(((p.length:aN):ay) !=SL.getD i 0)=ao from bne_iff_ne.2 hs,aw,cw a (by omega)]
theorem skip:∀(k m:aN),k<=7->(∀j,j<k->p.getD 0 ⟨#[]⟩≠wd j)->g4 K0 K3 K1 K2 (m+k) p 0=g4 K0 K3 K1 K2 m p k
 |0,m,_,_=>rfl
 |k+1,m,hk,h=>by
  rw[show m+(k+1)=(m+1)+k by omega,skip k (m+1) (by omega) (λj a=>h j (by omega))];exact no K0 K3 K1 K2 hp m k (by omega) (h k (by omega))
theorem aeF(m:aN):g4 K0 K3 K1 K2 (m+1) p 7=K3 (rs p) aq 7 0 0 Z 0 WS SS:=by have _:=hp;show r4 ck (l4 ck K0 K1 K2 K3 m) K0 K1 K2 K3 (rs p) aq ((7:aN):ay) 0 0 Z 0 WS SS=_;unfold r4;rw[c8,show WS.length=7 from rfl,qe,ax];rfl
theorem rest:∀(k m:aN),k<=7->(∀j,7-k<=j->j<7->p.getD 0 ⟨#[]⟩≠wd j)->g4 K0 K3 K1 K2 (m+1+k) p (7-k)=K3 (rs p) aq 7 0 0 Z 0 WS SS
 |0,m,_,_=>aeF K0 K3 K1 K2 hp m
 |k+1,m,hk,h=>by
  rw[show m+1+(k+1)=(m+1+k)+1 by omega,no K0 K3 K1 K2 hp _ (7-(k+1)) (by omega) (h _ (bT _) (by omega)),show 7-(k+1)+1=7-k by omega];exact rest k m (by omega) (λj d a=>h j (by omega) a)
theorem none_(M:aN)(h:∀j,j<7->p.getD 0 ⟨#[]⟩≠wd j):g4 K0 K3 K1 K2 (M+8) p 0=K3 (rs p) aq 7 0 0 Z 0 WS SS:=by rw[show M+8=(M+1)+7 by omega,skip K0 K3 K1 K2 hp 7 (M+1) (by omega) h];exact aeF K0 K3 K1 K2 hp M
theorem off(M i:aN)(hi:i<6)(h:p.getD 0 ⟨#[]⟩=wd i)(hs:(p.length:ay)≠SL.getD i 0):g4 K0 K3 K1 K2 (M+8) p 0=K3 (rs p) aq 7 0 0 Z 0 WS SS:=by rw[show M+8=(M+(8-i))+i by omega,skip K0 K3 K1 K2 hp i _ (by omega) (λj f e=>jB (by omega) (by omega) (by omega) (e.symm.trans h)),show M+(8-i)=(M+(7-i))+1 by omega,sz K0 K3 K1 K2 hp _ i hi h hs];have:=rest K0 K3 K1 K2 hp (7-(i+1)) M (by omega) (λj d a e=>jB a (by omega) (by omega) (e.symm.trans h));rw[show 7-(7-(i+1))=i+1 by omega]at this;rw[show M+(7-i)=M+1+(7-(i+1))by omega];exact this
theorem on(M i:aN)(hi:i<7)(h:p.getD 0 ⟨#[]⟩=wd i):g4 K0 K3 K1 K2 (M+8) p 0=g4 K0 K3 K1 K2 (M+(7-i)+1) p i:=by rw[show M+8=(M+(7-i)+1)+i by omega];exact skip K0 K3 K1 K2 hp i _ (by omega) (λj a e=>jB (by omega) (by omega) (by omega) (e.symm.trans h))
theorem abe(m:aN)(h:p.getD 0 ⟨#[]⟩=wd 0)(hl:p.length=3):g4 K0 K3 K1 K2 (m+1) p 0=K0 (rs p) (iy (p.getD 1 ⟨#[]⟩)).2 0 1 (iy (p.getD 1 ⟨#[]⟩)).1 (p.getD 2 ⟨#[]⟩) 0 WS SS:=by have _:=hp;show r4 ck (l4 ck K0 K1 K2 K3 m) K0 K1 K2 K3 (rs p) aq (0:ay) 0 0 Z 0 WS SS=_;unfold r4;rw[show ah ((0:ay)<(WS.length:ay))=ao from rfl,aw,aC (show(0:ay)<((rs p).length:ay)by rw[cy];omega),aw,show ah ((0:ay)<=(0:ay))=ao from rfl,aL,aw];rw[show aR (0:ay)=0 from rfl,cW,cS p 0,yl,aC h,aZ,ax,show ah ((0:ay)<(SS.length:ay))=ao from rfl,aL,aw,Xu (show 0<7 by omega),show SL.getD 0 0=3 from rfl,show ah ((3:ay)>0)=ao from rfl,aw,aw];rw[cy,hl,show(((3:aN):ay) !=3)=aq from rfl,ax];simp only[show ah (bE ((0:ay)+1)=1)=ao from by decide,aw,ax,show ah ((1:ay)<((3:aN):ay))=ao from rfl,show ah ((2:ay)<((3:aN):ay))=ao from rfl,show aR (1:ay)=1 from rfl,show aR (2:ay)=2 from rfl,cS,rc,FQ,show bE ((0:ay)+1)=1 from by decide];cases (iy (p.getD 1 ⟨#[]⟩)).2<;>rfl
theorem ajS(m:aN)(h:p.getD 0 ⟨#[]⟩=wd 1)(hl:p.length=3):g4 K0 K3 K1 K2 (m+1) p 1=K0 (rs p) (iy (p.getD 1 ⟨#[]⟩)).2 1 2 (iy (p.getD 1 ⟨#[]⟩)).1 (p.getD 2 ⟨#[]⟩) 0 WS SS:=by have _:=hp;show r4 ck (l4 ck K0 K1 K2 K3 m) K0 K1 K2 K3 (rs p) aq (1:ay) 0 0 Z 0 WS SS=_;unfold r4;rw[show ah ((1:ay)<(WS.length:ay))=ao from rfl,aw,aC (show(0:ay)<((rs p).length:ay)by rw[cy];omega),aw,show ah ((0:ay)<=(1:ay))=ao from rfl,aL,aw];rw[show aR (1:ay)=1 from rfl,cW,show aR (0:ay)=0 from rfl,cS p 0,yl,aC h,aZ,ax,show ah ((1:ay)<(SS.length:ay))=ao from rfl,aL,aw,Xu (show 1<7 by omega),show SL.getD 1 0=3 from rfl,show ah ((3:ay)>0)=ao from rfl,aw,aw];rw[cy,hl,show(((3:aN):ay) !=3)=aq from rfl,ax];simp only[show ah (bE ((1:ay)+1)=1)=aq from by decide,show ah (bE ((1:ay)+1)=2)=ao from by decide,aw,ax,show ah ((1:ay)<((3:aN):ay))=ao from rfl,show ah ((2:ay)<((3:aN):ay))=ao from rfl,show aR (1:ay)=1 from rfl,show aR (2:ay)=2 from rfl,cS,rc,FQ,show bE ((1:ay)+1)=2 from by decide];cases (iy (p.getD 1 ⟨#[]⟩)).2<;>rfl
theorem ajT(m:aN)(h:p.getD 0 ⟨#[]⟩=wd 2)(hl:p.length=3):g4 K0 K3 K1 K2 (m+1) p 2=K0 (rs p) ((iy (p.getD 1 ⟨#[]⟩)).2&&(iy (p.getD 2 ⟨#[]⟩)).2) 2 3 (iy (p.getD 1 ⟨#[]⟩)).1 Z (iy (p.getD 2 ⟨#[]⟩)).1 WS SS:=by have _:=hp;show r4 ck (l4 ck K0 K1 K2 K3 m) K0 K1 K2 K3 (rs p) aq (2:ay) 0 0 Z 0 WS SS=_;unfold r4;rw[show ah ((2:ay)<(WS.length:ay))=ao from rfl,aw,aC (show(0:ay)<((rs p).length:ay)by rw[cy];omega),aw,show ah ((0:ay)<=(2:ay))=ao from rfl,aL,aw];rw[show aR (2:ay)=2 from rfl,cW,show aR (0:ay)=0 from rfl,cS p 0,yl,aC h,aZ,ax,show ah ((2:ay)<(SS.length:ay))=ao from rfl,aL,aw,Xu (show 2<7 by omega),show SL.getD 2 0=3 from rfl,show ah ((3:ay)>0)=ao from rfl,aw,aw];rw[cy,hl,show(((3:aN):ay) !=3)=aq from rfl,ax];simp only[show ah (bE ((2:ay)+1)=1)=aq from by decide,show ah (bE ((2:ay)+1)=2)=aq from by decide,show ah (bE ((2:ay)+1)=3)=ao from by decide,aw,ax,show ah ((1:ay)<((3:aN):ay))=ao from rfl,show ah ((2:ay)<((3:aN):ay))=ao from rfl,show aR (1:ay)=1 from rfl,show aR (2:ay)=2 from rfl,cS,rc,FQ,show bE ((2:ay)+1)=3 from by decide];cases (iy (p.getD 1 ⟨#[]⟩)).2<;>rfl
theorem ajU(m:aN)(h:p.getD 0 ⟨#[]⟩=wd 3)(hl:p.length=2):g4 K0 K3 K1 K2 (m+1) p 3=K0 (rs p) (iy (p.getD 1 ⟨#[]⟩)).2 3 4 (iy (p.getD 1 ⟨#[]⟩)).1 Z 0 WS SS:=by have _:=hp;show r4 ck (l4 ck K0 K1 K2 K3 m) K0 K1 K2 K3 (rs p) aq (3:ay) 0 0 Z 0 WS SS=_;unfold r4;rw[show ah ((3:ay)<(WS.length:ay))=ao from rfl,aw,aC (show(0:ay)<((rs p).length:ay)by rw[cy];omega),aw,show ah ((0:ay)<=(3:ay))=ao from rfl,aL,aw];rw[show aR (3:ay)=3 from rfl,cW,show aR (0:ay)=0 from rfl,cS p 0,yl,aC h,aZ,ax,show ah ((3:ay)<(SS.length:ay))=ao from rfl,aL,aw,Xu (show 3<7 by omega),show SL.getD 3 0=2 from rfl,show ah ((2:ay)>0)=ao from rfl,aw,aw];rw[cy,hl,show(((2:aN):ay) !=2)=aq from rfl,ax];simp only[show ah (bE ((3:ay)+1)=1)=aq from by decide,show ah (bE ((3:ay)+1)=2)=aq from by decide,show ah (bE ((3:ay)+1)=3)=aq from by decide,show ah (bE ((3:ay)+1)=4)=ao from by decide,aw,ax,show ah ((1:ay)<((2:aN):ay))=ao from rfl,show aR (1:ay)=1 from rfl,show aR (2:ay)=2 from rfl,cS,rc,FQ,show bE ((3:ay)+1)=4 from by decide];cases (iy (p.getD 1 ⟨#[]⟩)).2<;>rfl
theorem ajV(m:aN)(h:p.getD 0 ⟨#[]⟩=wd 4)(hl:p.length=2):g4 K0 K3 K1 K2 (m+1) p 4=K0 (rs p) (iy (p.getD 1 ⟨#[]⟩)).2 4 5 0 Z (iy (p.getD 1 ⟨#[]⟩)).1 WS SS:=by have _:=hp;show r4 ck (l4 ck K0 K1 K2 K3 m) K0 K1 K2 K3 (rs p) aq (4:ay) 0 0 Z 0 WS SS=_;unfold r4;rw[show ah ((4:ay)<(WS.length:ay))=ao from rfl,aw,aC (show(0:ay)<((rs p).length:ay)by rw[cy];omega),aw,show ah ((0:ay)<=(4:ay))=ao from rfl,aL,aw];rw[show aR (4:ay)=4 from rfl,cW,show aR (0:ay)=0 from rfl,cS p 0,yl,aC h,aZ,ax,show ah ((4:ay)<(SS.length:ay))=ao from rfl,aL,aw,Xu (show 4<7 by omega),show SL.getD 4 0=2 from rfl,show ah ((2:ay)>0)=ao from rfl,aw,aw];rw[cy,hl,show(((2:aN):ay) !=2)=aq from rfl,ax];simp only[show ah (bE ((4:ay)+1)=1)=aq from by decide,show ah (bE ((4:ay)+1)=2)=aq from by decide,show ah (bE ((4:ay)+1)=3)=aq from by decide,show ah (bE ((4:ay)+1)=4)=aq from by decide,show ah (bE ((4:ay)+1)=6)=aq from by decide,show ah (bE ((4:ay)+1)=5)=ao from by decide,aw,ax,show ah ((1:ay)<((2:aN):ay))=ao from rfl,show aR (1:ay)=1 from rfl,show aR (2:ay)=2 from rfl,cS,rc,FQ,show bE ((4:ay)+1)=5 from by decide];cases (iy (p.getD 1 ⟨#[]⟩)).2<;>rfl
theorem ajW(m:aN)(h:p.getD 0 ⟨#[]⟩=wd 5)(hl:p.length=2):g4 K0 K3 K1 K2 (m+1) p 5=K0 (rs p) (iy (p.getD 1 ⟨#[]⟩)).2 5 6 (iy (p.getD 1 ⟨#[]⟩)).1 Z 0 WS SS:=by have _:=hp;show r4 ck (l4 ck K0 K1 K2 K3 m) K0 K1 K2 K3 (rs p) aq (5:ay) 0 0 Z 0 WS SS=_;unfold r4;rw[show ah ((5:ay)<(WS.length:ay))=ao from rfl,aw,aC (show(0:ay)<((rs p).length:ay)by rw[cy];omega),aw,show ah ((0:ay)<=(5:ay))=ao from rfl,aL,aw];rw[show aR (5:ay)=5 from rfl,cW,show aR (0:ay)=0 from rfl,cS p 0,yl,aC h,aZ,ax,show ah ((5:ay)<(SS.length:ay))=ao from rfl,aL,aw,Xu (show 5<7 by omega),show SL.getD 5 0=2 from rfl,show ah ((2:ay)>0)=ao from rfl,aw,aw];rw[cy,hl,show(((2:aN):ay) !=2)=aq from rfl,ax];simp only[show ah (bE ((5:ay)+1)=1)=aq from by decide,show ah (bE ((5:ay)+1)=2)=aq from by decide,show ah (bE ((5:ay)+1)=3)=aq from by decide,show ah (bE ((5:ay)+1)=4)=aq from by decide,show ah (bE ((5:ay)+1)=6)=ao from by decide,aw,ax,show ah ((1:ay)<((2:aN):ay))=ao from rfl,show aR (1:ay)=1 from rfl,show aR (2:ay)=2 from rfl,cS,rc,FQ,show bE ((5:ay)+1)=6 from by decide];cases (iy (p.getD 1 ⟨#[]⟩)).2<;>rfl
end
theorem ak8(K0:Row->aY->aY->ay->ay->ay->au->ay->ay->ay->au->ay->aA Q)(K1:Row->aY->aY->ay->ay->ay->au->ay->ay->ay->au->ay->Row->aA Q)(p:aE au)(hl:p.length<=600)(a b:ay)(c:au)(d k id:ay)(t:au)(n:ay)(Y:aY->Row->aA Q)(j:∀f i r,K1 (rs p) f ao i a b c d k id t n r=Y f r):
  ∀(m i:aN) (acc:Row),i<=p.length->p.length-i<m->acc.length<=i->yA ck K0 K1 m (rs p) ao ao (i:ay) a b c d k id t n acc=Y (fz (p.drop i) acc).2 (fz (p.drop i) acc).1:=by
 intro m;induction m with
 |zero=>intro i acc _ h;omega
 |succ m ih=>
  intro i acc hi hm y;by_cases h:i<p.length
  ·have o:p.drop i=p[i]::p.drop (i+1):=cq h;have s:p.getD i ⟨#[]⟩=p[i]:=by simp[dZ,h]
   have rm:b8 (bB acc+bB [[CV.i ak (iy p[i]).1]]) 8=true:=b0 (by simp;omega) (by simp;omega);rw[o,fz];have st:yA ck K0 K1 (m+1) (rs p) ao ao (i:ay) a b c d k id t n acc=yA ck K0 K1 m (rs p) (iy p[i]).2 ao ((i+1:aN):ay) a b c d k id t n (acc++[[CV.i ak (iy p[i]).1]]):=by simp only[yA,Hy,cy,c8,h,aQ,b_,aL,aw,dB,cS,rc,FQ,ri1,s,rm,cw h (show p.length<=9223372036854775807 by omega)]
   rw[st];cases z:(iy p[i]).2 with
   |true=>rw[aw];exact ih (i+1) _ h (by omega) (by simp;omega)
   |false=>
    rw[ax];obtain⟨m,rfl⟩:∃u,m=u+1:=⟨m-1,by omega⟩
    rw[<-j aq ((i+1:aN):ay)];by_cases e:i+1<p.length
    ·simp only[yA,Hy,cy,c8,e,aQ,aw,ax]
    ·simp only[yA,Hy,cy,c8,e,bg,ax]
  ·have:i=p.length:=by omega
   subst this;rw[cX,fz,<-j ao ((p.length:aN):ay)];simp only[yA,Hy,cy,c8,bk,bg,ax]
theorem ala(K0:Row->aY->aY->ay->ay->ay->au->ay->ay->ay->au->ay->aA Q)(K1:Row->aY->aY->ay->ay->ay->au->ay->ay->ay->au->ay->Row->aA Q)(p:aE au)(hp:0<p.length)(hl:p.length<=600)(a b:ay)(c:au)(d k id:ay)(t:au)(n:ay)(Y:aY->Row->aA Q)(o:∀f i r,K1 (rs p) f ao i a b c d k id t n r=Y f r)(y:K0 (rs p) ao ao 1 a b c d k id t n=Y ao [])(m:aN)(hm:p.length<m):
  Ys ck K0 K1 (m+1) (rs p) ao ao 1 a b c d k id t n=Y (fz (p.drop 1) []).2 (fz (p.drop 1) []).1:=by
 by_cases h:1<p.length
 ·have s:p.drop 1=p[1]::p.drop 2:=cq h;have u:p.getD 1 ⟨#[]⟩=p[1]:=by simp[dZ,h]
  rw[s,fz];have st:Ys ck K0 K1 (m+1) (rs p) ao ao 1 a b c d k id t n=yA ck K0 K1 m (rs p) (iy p[1]).2 ao ((2:aN):ay) a b c d k id t n ([]++[[CV.i ak (iy p[1]).1]]):=by have e:ah ((1:ay)<((p.length:aN):ay))=true:=aC (by omega);simp only[Ys,r13,cy,e,show ah ((0:ay)<=1)=ao from rfl,aL,aw,show aR (1:ay)=1 from rfl,cS,rc,FQ,ri1,u,show bE ((1:ay)+1)=((2:aN):ay)from by decide]
  rw[st];cases B:(iy p[1]).2 with
  |true=>rw[aw];exact ak8 K0 K1 p hl a b c d k id t n Y o m 2 _ h (by omega) (by simp)
  |false=>
   rw[ax];obtain⟨m,rfl⟩:∃z,m=z+1:=⟨m-1,by omega⟩
   rw[<-o aq ((2:aN):ay)];by_cases j:2<p.length
   ·simp only[yA,Hy,cy,c8,j,aQ,aw,ax]
   ·simp only[yA,Hy,cy,c8,j,bg,ax]
 ·have A:p.length=1:=by omega
  have e:ah ((1:ay)<((p.length:aN):ay))=false:=aF (by omega);rw[show p.drop 1=[]from jU (by omega),fz,<-y];simp only[Ys,r13,cy,e,ax]
theorem ajX(K0 K3:Row->aY->ay->ay->ay->au->ay->Row->Row->aA Q)(K1:Row->aY->ay->ay->au->ay->aA Q)(K2:Row->aY->ay->ay->au->ay->Row->aA Q)(p:aE au)(hp:0<p.length)(hl:p.length<=600)(h:p.getD 0 ⟨#[]⟩=wd 6)(Y:aY->Row->aA Q)(d:∀f r,K2 (rs p) f 7 0 Z 0 r=Y f r)(a:K1 (rs p) ao 7 0 Z 0=Y ao [])(m:aN):
  g4 K0 K3 K1 K2 (m+1) p 6=Y (fz (p.drop 1) []).2 (fz (p.drop 1) []).1:=by
 show r4 ck (l4 ck K0 K1 K2 K3 m) K0 K1 K2 K3 (rs p) aq (6:ay) 0 0 Z 0 WS SS=_;unfold r4;rw[show ah ((6:ay)<(WS.length:ay))=ao from rfl,aw,aC (show(0:ay)<((rs p).length:ay)by rw[cy];omega),aw,show ah ((0:ay)<=(6:ay))=ao from rfl,aL,aw];rw[show aR (6:ay)=6 from rfl,cW,show aR (0:ay)=0 from rfl,cS p 0,yl,aC h,aZ,ax,show ah ((6:ay)<(SS.length:ay))=ao from rfl,aL,aw,Xu (show 6<7 by omega),show SL.getD 6 0=0 from rfl,show ah ((0:ay)>0)=aq from rfl,ax];simp only[show ah (bE ((6:ay)+1)=1)=aq from by decide,show ah (bE ((6:ay)+1)=2)=aq from by decide,show ah (bE ((6:ay)+1)=3)=aq from by decide,show ah (bE ((6:ay)+1)=4)=aq from by decide,show ah (bE ((6:ay)+1)=6)=aq from by decide,show ah (bE ((6:ay)+1)=5)=aq from by decide,ax,show bE ((6:ay)+1)=7 from by decide];refine ala _ _ p hp hl 0 0 Z 0 7 0 Z 0 Y (λf i r=> ?_) ?_ 18446744073709551615 (by omega)
 ·rw[<-d];cases f<;>rfl
 ·rw[<-a];rfl
theorem post(p:aE au)(hp:0<p.length)(hl:p.length<=600):∃(e:Ev) (b:aY),vo (rs p)=ai (e.k,e.id,e.t,e.n,e.l,b)/\res e b=E p:=by
 have hb:vo (rs p)=g4 (λh8 A h9 B C H I ha hc=>ai (B,C,H,I,([]:Row),A)) (λhh ho hr ht hu hv hw hx hy=>ai (0,0,Z,0,[],aq)) (λhe K M N O P=>ai (M,N,O,P,[],K)) (λhf S U V X Y h7=>ai (U,V,X,Y,h7,S)) (18446744073709551608+8) p 0:=rfl;rw[hb];have kZ:∀{x:aA Ev},x=aj->∃(e:Ev) (b:aY),(ai ((0:ay),(0:ay),Z,(0:ay),([]:Row),aq):aA (ay×ay×au×ay×Row×aY))=ai (e.k,e.id,e.t,e.n,e.l,b)/\res e b=x:=λh=>⟨⟨0,0,Z,0,[]⟩,aq,rfl,h.symm⟩
 by_cases h0:p.getD 0 ⟨#[]⟩=wd 0
 ·rw[kz.E0 h0];by_cases a:p.length=3
  ·rw[on _ _ _ _ hp _ 0 (by omega) h0,abe _ _ _ _ hp _ h0 a,bm a];exact⟨⟨_,_,_,_,_⟩,_,rfl,rfl⟩
  ·rw[off _ _ _ _ hp _ 0 (by omega) h0 (by show((p.length:aN):ay)≠3;omega),bh a];exact kZ rfl
 by_cases o:p.getD 0 ⟨#[]⟩=wd 1
 ·rw[kz.E1 o];by_cases a:p.length=3
  ·rw[on _ _ _ _ hp _ 1 (by omega) o,ajS _ _ _ _ hp _ o a,bm a];exact⟨⟨_,_,_,_,_⟩,_,rfl,rfl⟩
  ·rw[off _ _ _ _ hp _ 1 (by omega) o (by show((p.length:aN):ay)≠3;omega),bh a];exact kZ rfl
 by_cases s:p.getD 0 ⟨#[]⟩=wd 2
 ·rw[kz.E2 s];by_cases a:p.length=3
  ·rw[on _ _ _ _ hp _ 2 (by omega) s,ajT _ _ _ _ hp _ s a,bm a];exact⟨⟨_,_,_,_,_⟩,_,rfl,rfl⟩
  ·rw[off _ _ _ _ hp _ 2 (by omega) s (by show((p.length:aN):ay)≠3;omega),bh a];exact kZ rfl
 by_cases u:p.getD 0 ⟨#[]⟩=wd 3
 ·rw[kz.E3 u];by_cases a:p.length=2
  ·rw[on _ _ _ _ hp _ 3 (by omega) u,ajU _ _ _ _ hp _ u a,bm a];exact⟨⟨_,_,_,_,_⟩,_,rfl,rfl⟩
  ·rw[off _ _ _ _ hp _ 3 (by omega) u (by show((p.length:aN):ay)≠2;omega),bh a];exact kZ rfl
 by_cases y:p.getD 0 ⟨#[]⟩=wd 4
 ·rw[kz.E4 y];by_cases a:p.length=2
  ·rw[on _ _ _ _ hp _ 4 (by omega) y,ajV _ _ _ _ hp _ y a,bm a];exact⟨⟨_,_,_,_,_⟩,_,rfl,rfl⟩
  ·rw[off _ _ _ _ hp _ 4 (by omega) y (by show((p.length:aN):ay)≠2;omega),bh a];exact kZ rfl
 by_cases z:p.getD 0 ⟨#[]⟩=wd 5
 ·rw[kz.E5 z];by_cases a:p.length=2
  ·rw[on _ _ _ _ hp _ 5 (by omega) z,ajW _ _ _ _ hp _ z a,bm a];exact⟨⟨_,_,_,_,_⟩,_,rfl,rfl⟩
  ·rw[off _ _ _ _ hp _ 5 (by omega) z (by show((p.length:aN):ay)≠2;omega),bh a];exact kZ rfl
 by_cases h6:p.getD 0 ⟨#[]⟩=wd 6
 ·rw[kz.E6 h6,on _ _ _ _ hp _ 6 (by omega) h6,ajX _ _ _ _ p hp hl h6 (λf r=>ai (7,0,Z,0,r,f)) (λ_ _=>rfl) rfl];exact⟨⟨_,_,_,_,_⟩,_,rfl,rfl⟩
 ·have d:∀j,j<7->p.getD 0 ⟨#[]⟩≠wd j:=λj hj=>by
   match j,hj with
   |0,_=>exact h0
   |1,_=>exact o
   |2,_=>exact s
   |3,_=>exact u
   |4,_=>exact y
   |5,_=>exact z
   |6,_=>exact h6
  rw[none_ _ _ _ _ hp _ d,kz.En d];exact kZ rfl
theorem ok(p:aE au)(hp:0<p.length)(hl:p.length<=600):∃(e:Ev) (b:aY),c (rs p)=ao/\v (rs p)=(e.k,e.id,e.t,e.n,e.l,b)/\res e b=E p:=by obtain⟨e,b,a,d⟩:=post p hp hl;obtain⟨f,j⟩:=out _ a;exact⟨e,b,f,j,d⟩
end oh
namespace KH
open _root_.Go.FG.Lib (rs)
open vt (mk bt sz qg sL)
open Gn (M9 lines M8)
theorem Iw(acc:aE au)(x:au):rs acc++aP (aT [Ck.s] 1) 0 [CV.s x]=rs (acc++[x]):=by simp[Lib.rs];rfl
theorem run(s:au)(hs:s.size<=3000)(K0:au->ay->ay->Row->aA Row)(r:∀(b:aN) (acc:aE au) a,b<=s.size->acc.length<=s.size->acc++(M9 (s.data.toList.drop b) []).map mk=lines s->K0 s (b:ay) a (rs acc)=ai (rs (lines s))):
  ∀(m i b:aN) (acc:aE au),i<=s.size->s.size-i<m->b<=i->acc.length<=i->acc++(M9 ((s.data.toList.drop b).take (i-b)) (s.data.toList.drop i)).map mk=lines s->
   l4 ck K0 m s (b:ay) (i:ay) (rs acc)=ai (rs (lines s)):=by
 intro m;induction m with
 |zero=>intro i b acc _ h;omega
 |succ m ih=>
  intro i b acc hi hm u z d;have j:(rs acc).length=acc.length:=by simp[Lib.rs]
  have room:∀x:au,b8 (bB (rs acc)+bB (aP (aT [Ck.s] 1) 0 [CV.s x])) 16=true:=λx=>
   b0 (by rw[b9,fA,j];omega) (by rw[b9,fA,j];omega)
  have t:fU (b:ay) (i:ay) (s.size:ay)=true:=by unfold fU;simp;omega
  have A:bx s b i=mk ((s.data.toList.drop b).take (i-b)):=qg s b i;by_cases h:i<s.size
  ·have f:=bt h;have hl:i<s.data.toList.length:=by rw[sz];exact h
   have B:(s.data.toList[i]).toNat<256:=CG _;have j5:s.data.toList.drop i=s.data.toList[i]::s.data.toList.drop (i+1):=cq hl;have wi:=cw h (show s.size<=9223372036854775807 by omega);by_cases k:s.data.toList[i]=10
   ·have o:ah ((((s.data.toList[i]).toNat:aN):ay)=10)=true:=by rw[k];rfl
    rw[j5,k,M9,bm rfl]at d;simp only[l4,r4,c8,h,aQ,b_,aL,aw,dB,f,o,t,room,wi,Iw,A];refine ih (i+1) (i+1) _ h (by omega) (bT _) (by simp;omega) ?_;rw[pf,pJ,ca];exact d
   ·have o:ah ((((s.data.toList[i]).toNat:aN):ay)=10)=false:=by refine aF λe=>k (Tj.1 (by show _=10;omega))
    simp only[l4,r4,c8,h,aQ,b_,aL,aw,ax,dB,f,o,wi];refine ih (i+1) b acc h (by omega) (by omega) (by omega) ?_;rw[j5,M9,bh k,<-sL u hl]at d;exact d
  ·have y:i=s.size:=by omega
   subst y;simp only[l4,r4,c8,bk,bg,ax];refine r b acc _ u z ?_;rw[jU (show s.data.toList.length<=s.size by rw[sz];omega),dH (by rw[gz,sz];omega)]at d;exact d
theorem ok(s:au)(hs:s.size<=3000):c s=ao/\v s=rs (lines s):=by
 refine out _ ?_;unfold vo b;refine run s hs _ (λb acc a y u f=> ?_) ck 0 0 [] (bA _) ez (bT _) (bT _) rfl;dsimp only;have d:(rs acc).length=acc.length:=by simp[Lib.rs]
 have room:∀x:au,b8 (bB (rs acc)+bB (aP (aT [Ck.s] 1) 0 [CV.s x])) 16=true:=λx=>
  b0 (by rw[b9,fA,d];omega) (by rw[b9,fA,d];omega)
 have k:fU (b:ay) (s.size:ay) (s.size:ay)=true:=by unfold fU;simp;omega
 have r:bx s b s.size=mk (s.data.toList.drop b):=by rw[qg,dH (by rw[gz,sz];omega)]
 by_cases o:b<s.size
 ·have j:¬s.data.toList.drop b=[]:=by intro e;have:=ic bB e;simp at this;omega
  rw[M9,bh j]at f;simp only[c8,o,aQ,aw,k,dB,room,Iw,r];rw[<-f];rfl
 ·have t:s.data.toList.drop b=[]:=jU (by rw[sz];omega);rw[M9,bm t,uU,cZ]at f;simp only[c8,o,bg,ax,f]
end KH
namespace NQ
open _root_.Go.FG.Lib (rs)
open gL (Ev gA)
open k6 (rv Evr kj)
open na (parts W)
open kz (E cS cy res)
open Gn (lines)
open w6 (Cq eD idle jG qi Ap qo)
abbrev T2:=Row×ay
abbrev J0:ay->ay->Row->Row->Row->aA T2:=λa e d f j=>ai (d,a)
abbrev J1:ay->ay->Row->Row->Row->aA T2:=λd e f j a=>ai (a,0)
abbrev g7(m:aN)(ls:aE au)(i:aN)(acc:aE Ev):aA T2:=l7 ck J0 J1 m 0 (i:ay) [] (rs ls) (rv acc)
theorem stop(m:aN)(ls:aE au)(acc:aE Ev):g7 (m+1) ls ls.length acc=ai (rv acc,0):=by simp only[g7,l7,r7,cy,c8,bk,bg,ax]
section
variable {ls:aE au} {i:aN} (h:i<ls.length) (hl:ls.length<=90) (acc:aE Ev) (m:aN)
include h hl
theorem st0(hq:(parts ls[i]).2=aq):g7 (m+1) ls i acc=ai ([],((i+1:aN):ay)):=by
 have e:ls.getD i ⟨#[]⟩=ls[i]:=by simp[dZ,h]
 obtain⟨d,a⟩:=mW.ok ls[i];rw[hq]at a;simp only[g7,l7,r7,cy,c8,h,aQ,b_,aL,aw,dB,cS,e,d,a,ax,bG,cw h (show ls.length<=9223372036854775807 by omega)]
theorem st1(hq:(parts ls[i]).2=ao)(hi:idle (parts ls[i]).1=ao):g7 (m+1) ls i acc=g7 m ls (i+1) acc:=by
 have e:ls.getD i ⟨#[]⟩=ls[i]:=by simp[dZ,h]
 obtain⟨d,a⟩:=mW.ok ls[i];have f:=(qo hq).2;rw[hq]at a;cases hp:(parts ls[i]).1 with
 |nil=>rw[hp]at a;simp only[g7,l7,r7,cy,c8,h,aQ,b_,aL,aw,dB,cS,e,d,a,show(([]:aE au)).length=0 from rfl,show ah (((0:aN):ay)=0)=ao from rfl,show ah (((([]:aE au).length:aN):ay)=0)=ao from rfl,cw h (show ls.length<=9223372036854775807 by omega)]
 |cons w t=>rw[hp]at a hi f;have hi:jG w=true:=hi;have r:=(f w cD).1;have j:ah ((((w::t).length:aN):ay)=0)=false:=aF (by rw[bR];omega);have k:ah ((0:ay)<(((w::t).length:aN):ay))=true:=aC (by rw[bR];omega);have o:ah ((0:ay)<((w.size:aN):ay))=true:=aC (by omega);simp only[g7,l7,r7,cy,c8,h,aQ,b_,aL,aw,dB,cS,e,d,a,ax,j,k,show aR (0:ay)=0 from rfl,show(w::t).getD 0 ⟨#[]⟩=w from rfl,o,qi,hi,cw h (show ls.length<=9223372036854775807 by omega)]
theorem st2(hq:(parts ls[i]).2=ao)(hi:idle (parts ls[i]).1=aq)(A:acc.length<=70):g7 (m+1) ls i acc=(match E (parts ls[i]).1 with|none=>ai ([],((i+1:aN):ay))|some e=>bif ah (acc.length=70)then ai ([],((i+1:aN):ay))else g7 m ls (i+1) (acc++[e])):=by
 have r:ls.getD i ⟨#[]⟩=ls[i]:=by simp[dZ,h]
 obtain⟨j,a⟩:=mW.ok ls[i];obtain⟨s,k⟩:=qo hq;rw[hq]at a;cases hp:(parts ls[i]).1 with
 |nil=>rw[hp]at hi;cases hi
 |cons w t=>
  rw[hp]at a hi k s;have hi:jG w=false:=hi;have B:=(k w cD).1;have u:ah ((((w::t).length:aN):ay)=0)=false:=aF (by rw[bR];omega);have y:ah ((0:ay)<(((w::t).length:aN):ay))=true:=aC (by rw[bR];omega);have z:ah ((0:ay)<((w.size:aN):ay))=true:=aC (by omega);obtain⟨e,b,d,f,hE⟩:=oh.ok (w::t) (by simp) (by omega);rw[<-hE];have st:g7 (m+1) ls i acc=bif !b then ai ([],((i+1:aN):ay))else bif !gA e then ai ([],((i+1:aN):ay))else bif ah (((acc.length:aN):ay)=70)then ai ([],((i+1:aN):ay))else bif b8 (acc.length+1) 64 then g7 m ls (i+1) (acc++[e])else none:=by simp only[g7,l7,r7,cy,c8,h,aQ,b_,aL,aw,dB,cS,r,j,a,ax,u,y,show aR (0:ay)=0 from rfl,show(w::t).getD 0 ⟨#[]⟩=w from rfl,z,qi,hi,d,f,k6.LC,aZ,ax,kj,Ap,cw h (show ls.length<=9223372036854775807 by omega)];rfl
  have rm:b8 (acc.length+1) 64=true:=b0 (by omega) (by omega);have o:ah (((acc.length:aN):ay)=70)=ah (acc.length=70):=by rw[bZ];omega
  rw[st,rm,o];unfold kz.res;cases b<;>cases gA e<;>rfl
end
theorem run(ls:aE au)(hl:ls.length<=90):∀(m i:aN) (acc:aE Ev),i<=ls.length->ls.length-i<m->acc.length<=70->g7 m ls i acc=ai (rv (Cq i (ls.drop i) acc).1,(Cq i (ls.drop i) acc).2):=by
 intro m;induction m with
 |zero=>intro i acc _ h;omega
 |succ m ih=>
  intro i acc hi hm d;by_cases h:i<ls.length
  ·rw[cq h,Cq];cases hq:(parts ls[i]).2 with
   |false=>rw[st0 h hl acc m hq];rfl
   |true=>
    rw[aw];cases hd:idle (parts ls[i]).1 with
    |true=>rw[st1 h hl acc m hq hd,aw];exact ih (i+1) acc h (by omega) d
    |false=>
     rw[st2 h hl acc m hq hd d,ax];cases hE:E (parts ls[i]).1 with
     |none=>rfl
     |some e=>
      dsimp only;by_cases a:acc.length=70
      ·rw[aC a];rfl
      ·rw[aF a,ax,ax];exact ih (i+1) _ h (by omega) (by simp;omega)
  ·have:i=ls.length:=by omega
   subst this;rw[stop,cX,Cq]
theorem ok(s:au):c s=ao/\v s=(rv (eD s).1,(eD s).2):=by
 refine out _ ?_;unfold vo b;by_cases hs:(s.size:ay)>3000
 ·rw[aC hs,aw];unfold w6.eD;rw[aF (show¬s.size<=3000 by omega)];rfl
 ·have a:s.size<=3000:=by omega
  obtain⟨d,e⟩:=KH.ok s a;rw[aF hs,ax,d,e,aw,cy];unfold w6.eD;rw[aC a];by_cases hl:(((lines s).length:aN):ay)>90
  ·rw[aC hl,aw,aF (show¬(lines s).length<=90 by omega)];rfl
  ·rw[aF hl,ax,aw,aC (show(lines s).length<=90 by omega)];exact run (lines s) (by omega) ck 0 [] (bA _) ez (by simp)
end NQ
namespace sA
theorem ok(l:Row)(hl:l.length<=4294967296):c l=ao/\v l=l:=by refine out l ?_;unfold vo b;rw[show bB (aT [Ck.s] 0)+l.length=l.length by simp[aT],b0 (by omega) (by omega)];rfl
end sA
namespace iY
open _root_.Go.FG.Lib (rs)
theorem ok(w m:aE au)(s:aE (aE ay))(a:ay)(k:w.length<=1048576)(hm:m.length<=1048576)(j:iV.n9 s):c (rs w) (rs m) (rr s) a=ao/\v (rs w) (rs m) (rr s) a=(rs w,rs m,rr s,a):=by have d:=sA.ok (rs w) (by rw[Lib.cy];omega);have e:=sA.ok (rs m) (by rw[Lib.cy];omega);have f:=iV.ok s a j;exact out _ _ _ _ (by unfold vo b;rw[d.1,d.2,e.1,e.2,f.1,f.2,aw,aw,aw])
end iY
namespace n7
open _root_.Go.FG.Lib (rs rf rc)
theorem ok(p:Px)(hp:p.Fit 1048576):c p.now (re p.en) (rs p.w) (rs p.m) (rr p.s) p.a (rf p.fe) (rc p.cl) p.hits=ao/\v p.now (re p.en) (rs p.w) (rs p.m) (rr p.s) p.a (rf p.fe) (rc p.cl) p.hits=(p.now,re p.en,rs p.w,rs p.m,rr p.s,p.a,rf p.fe,rc p.cl,p.hits):=by have j:=hp.en;have k:=hp.fe;have f:=hp.cl;have d:=vL.ok (re p.en) (by rw[dv];omega);have e:=iY.ok p.w p.m p.s p.a hp.w hp.m ⟨hp.s.1,hp.s.2.1⟩;exact out _ _ _ _ _ _ _ _ _ (by unfold vo b;rw[d.1,d.2,e.1,e.2,aw,aw,b0 (by simp[aT,dI];omega) (by simp[aT,dI];omega),b0 (by simp[aT,eL];omega) (by simp[aT,eL];omega)];rfl)
end n7
namespace pb
theorem et(n a b:ay):j4.v n a b=ah (a<=n/\n<=b):=fc.et n a b
theorem ok(s:aE (aE ay))(a:ay)(r:iV.n9 s):c (rr s) a=ao/\v (rr s) a=fc.nL s a:=by
 refine out _ _ ?_;unfold vo b;have hl:=r.1;rw[gC]
 have d:∀i (h:i<s.length) (K0 K1:aY->Row->Row->ay->ay->Row->ay->ay->Row->ay->aA aY) (f k:aA aY) (x:ay)
   (h0:∀j:ay,K0 aq (Lib.ri s[i]) (rr s) s.length i (Lib.ri s[i]) x j (rr s) a=f) (z:∀j:ay,K1 aq (Lib.ri s[i]) (rr s) s.length i (Lib.ri s[i]) x j (rr s) a=k),x=(s[i].length:ay)->l5 ck K0 K1 ck aq (Lib.ri s[i]) (rr s) s.length (i:ay) (Lib.ri s[i]) x 0 (rr s) a=bif(s[i]).all fc.Lq then k else f:=λi h K0 K1 f k x h0 z C=>by
  subst C
  exact oM (s[i]) fc.Lq (λm (j:aN)=>l5 ck K0 K1 m aq (Lib.ri s[i]) (rr s) s.length (i:ay) (Lib.ri s[i]) s[i].length (j:ay) (rr s) a) f k
   (λm j e hp=>by have hl:=r.2 _ (bw h);unfold fc.Lq at hp;simp only[l5,r5,c8,e,aQ,b_,aL,aw,dB,Lib.fa,NW e,bN,et,hp,aZ,ax,cw e (by omega:s[i].length<=9223372036854775807)])
   (λm j e hp=>by unfold fc.Lq at hp;simp only[l5,r5,c8,e,aQ,b_,aL,aw,dB,Lib.fa,NW e,bN,et,hp,bG,h0])
   (λm=>by simp only[l5,r5,c8,bk,bg,ax,z]) ck (mS (by have:=r.2 _ (bw h);omega))
 have A:∀q:aE ay,fc.rP q=(q.all fc.Lq&&ah (q.length=16)):=λq=>Bool.and_comm ..
 have key:=oM s fc.rP (λm (i:aN)=>l2 ck (λ(t:aY) (_:Row) (_ _:ay) (_:Row) (_:ay)=>ai t) (λ(_:aY) (_:Row) (_ _:ay) (u:Row) (y:ay)=>bif(ah ((↑(bB u):ay)=3))then(ai (j4.v y 0 63))else(ai aq)) m aq (rr s) s.length (i:ay) (rr s) a) (ai aq) (ai (ah (s.length=3)&&ah (0<=a/\a<=63)))
  (λm i h hp=>by rw[A,aM]at hp;have o:=cL hp.2;simp only[l2,r2,gC,c8,h,aQ,b_,aL,aw,dB,H8 h,iH,Lib.fa];rw[d i h _ _ (ai aq) _ _ (λ_=>rfl) (λ_=>rfl) rfl,hp.1,aw,Lib.fa,o,show(((16:aN):ay) !=16)=aq from rfl,ax,cw h (by omega)])
  (λm i h hp=>by
   rw[A]at hp;simp only[l2,r2,gC,c8,h,aQ,b_,aL,aw,dB,H8 h,iH,Lib.fa];rw[d i h _ _ (ai aq) _ _ (λ_=>rfl) (λ_=>rfl) rfl];cases B:(s[i]).all fc.Lq with
   |false=>rfl
   |true=>rw[B,bj]at hp;have:=ur hp;rw[aw,Lib.fa,show((s[i].length:ay) !=16)=ao by simp;omega,aw])
  (λm=>by simp only[l2,r2,gC,c8,bk,bg,ax,et];rw[show ah ((s.length:ay)=3)=ah (s.length=3)by rw[bZ];omega];cases ah (s.length=3)<;>rfl) ck ez
 refine key.trans ?_;unfold fc.nL;cases s.all fc.rP<;>cases ah (s.length=3)<;>cases ah (0<=a/\a<=63)<;>rfl
end pb
namespace CE
theorem ok(n:ay)(h0:0<=n)(d:n<=4294967296):c n=ao/\v n=[]:=by
 refine out n ?_;unfold vo b;have e:bE (n-bE (0-0))=n:=by rw[show bE (0-0)=0 from rfl,Int.sub_zero,dq (by omega) (by omega)]
 rw[e,aF (show¬n<0 by omega),ax];by_cases a:n>0
 ·rw[aC a,aw,aC h0,aC (show n<=9223372036854775807 by omega),b0 (by simp;omega) (by simp;omega)];simp[dR]
 ·rw[aF a,ax]
end CE
namespace vR
theorem ok(p q:Row)(hp:p.length<=1048576)(hq:q.length<=1048576):c [[CV.l 9 p],[CV.l 9 q]]=ao/\v [[CV.l 9 p],[CV.l 9 q]]=p++q:=by
 refine out _ ?_;have w1:bE (0+(p.length:ay))=(p.length:ay):=by rw[Int.zero_add];exact dq (by omega) (by omega)
 have r:bE ((p.length:ay)+(q.length:ay))=(p.length:ay)+(q.length:ay):=dq (by omega) (by omega);have hg:=CE.ok ((p.length:ay)+(q.length:ay)) (by omega) (by omega);have f:ah ((p.length:ay)<0)=false:=aF (by omega);have j:ah ((p.length:ay)+(q.length:ay)<0)=false:=aF (by omega);have k:b8 (0+p.length) 16=true:=b0 (by omega) (by omega);have o:b8 (p.length+q.length) 16=true:=b0 (by omega) (by omega);have c0:iH (av [[CV.l 9 p],[CV.l 9 q]] 0 0)=p:=rfl;have d:iH (av [[CV.l 9 p],[CV.l 9 q]] 1 0)=q:=rfl;unfold vo b;obtain⟨n,e⟩:∃n,ck=n+3:=⟨18446744073709551613,rfl⟩
 generalize ck=B at e⊢;subst e;have k3:∀(R:Type) (K:Row->ay->Row->ay->ay->aA R) (S:Row),S=[[CV.l 9 p],[CV.l 9 q]]->l3 (n+3) K (n+3) S 0 S 2 0=K S ((p.length:ay)+(q.length:ay)) S 2 2:=by intro R K S a;subst a;simp only[l3,r3,bR,jz,show aR 0=0 from rfl,c0,w1,f,show bE (0+1)=1 from rfl,show aR 1=1 from rfl,d,r,j,show bE (1+1)=2 from rfl,ax,show ah ((0:ay)<2)=ao from rfl,show ah ((1:ay)<2)=ao from rfl,show ah ((2:ay)<2)=aq from rfl,show ah ((0:ay)<=0)=ao from rfl,show ah ((0:ay)<=1)=ao from rfl,show((0+1+1:aN):ay)=2 from rfl,aL,aw]
 have I_:∀(R:Type) (K:Row->ay->ay->Row->aA R) (S:Row),S=[[CV.l 9 p],[CV.l 9 q]]->M4 (n+3) K (n+3) S 2 0 []=K S 2 2 (p++q):=by intro R K S a;subst a;simp only[M4,wZ,bR,jz,show aR 0=0 from rfl,c0,k,show bE (0+1)=1 from rfl,show aR 1=1 from rfl,d,eJ,o,show bE (1+1)=2 from rfl,ax,show ah ((0:ay)<2)=ao from rfl,show ah ((1:ay)<2)=ao from rfl,show ah ((2:ay)<2)=aq from rfl,show ah ((0:ay)<=0)=ao from rfl,show ah ((0:ay)<=1)=ao from rfl,show((0+1+1:aN):ay)=2 from rfl,aL,aw]
 show l3 (n+3) _ (n+3) _ 0 _ 2 0=_;rw[k3 _ _ _ rfl,hg.1,hg.2,aw];exact I_ _ _ _ rfl
end vR
namespace qb
theorem ok(w m:aE au)(s:Row)(a:ay)(f:w.length<=1048576)(hm:m.length<=1048576):c (Lib.rs w) (Lib.rs m) s a=ao/\v (Lib.rs w) (Lib.rs m) s a=Lib.rs (w++m):=by
 have h:=vR.ok (Lib.rs w) (Lib.rs m) (by rw[Lib.cy];exact f) (by rw[Lib.cy];exact hm);have e:aP (aP (aT [Ck.l 9] 2) 0 [CV.l 9 (Lib.rs w)]) 1 [CV.l 9 (Lib.rs m)]=[[CV.l 9 (Lib.rs w)],[CV.l 9 (Lib.rs m)]]:=rfl;have d:Lib.rs w++Lib.rs m=Lib.rs (w++m):=by unfold Lib.rs;rw[cO]
 exact out _ _ _ _ (by unfold vo b;rw[e,h.1,h.2,aw,d])
end qb
namespace zA
theorem ok(l:aE au)(k:au)(hl:l.length<=4294967296):c (Lib.rs l) k=ao/\ah (v (Lib.rs l) k≥0)=eV.has l k:=by
 have h:=out (Lib.rs l) k (x:=fi (λi=>ah ((l.getD i ⟨#[]⟩)=k)) l.length 0) (by
  unfold vo b;rw[Lib.cy];refine nJ (λi=>ah ((l.getD i ⟨#[]⟩)=k)) l.length (λm (i:aN)=>l2 ck (λ(_:Row) (_:au) (d _ _:ay)=>ai d) (λ(_:Row) (_:au) (_ _ _:ay)=>ai (-1)) m (Lib.rs l) k 0 (l.length:ay) (i:ay)) ai (λm i hi hp=> ?_) (λm i hi hp=> ?_) (λm=> ?_) ck ez
  ·have hg:l.getD i ⟨#[]⟩=l[i]:=by simp[dZ,hi]
   rw[hg]at hp;have a:ah (k=l[i])=true:=by rw[<-hp,bZ];exact eq_comm
   simp only[l2,r2,Lib.cy,c8,hi,aQ,b_,aL,aw,dB,To hi,br,eG,a]
  ·have hg:l.getD i ⟨#[]⟩=l[i]:=by simp[dZ,hi]
   rw[hg]at hp;have a:ah (k=l[i])=false:=by rw[<-hp,bZ];exact eq_comm
   simp only[l2,r2,Lib.cy,c8,hi,aQ,b_,aL,aw,dB,To hi,br,eG,a,ax,cw hi (by omega:l.length<=9223372036854775807)]
  ·simp only[l2,r2,c8,bk,bg,ax])
 refine⟨h.1,?_⟩
 rw[h.2];exact Lib.IY l (λx=>ah (x=k)) _ (λi hi=>by simp[dZ,hi])
end zA
namespace rS
theorem ok(l:aE au)(k:au)(hl:l.length<=4294967296):c (Lib.rs l) k=ao/\v (Lib.rs l) k=eV.has l k:=by have h:=zA.ok l k hl;exact out _ _ (by unfold vo b;rw[h.1,h.2,aw])
end rS
namespace oI
open _root_.Go.FG.Lib (rs)
open eV (has without gl kY)
open jx (eC Jb mQ sg wQ)
theorem iq(k:au):My.v k=eC k:=fc.et _ _ _
theorem ok(w m:aE au)(s:aE (aE ay))(a:ay)(A:w.length<=1048576)(hm:m.length<=1048576)(z:iV.n9 s):c (rs w) (rs m) (rr s) a=ao/\v (rs w) (rs m) (rr s) a=sg w m s a:=by
 refine out _ _ _ _ ?_;have t:=pb.ok s a z;have u:=qb.ok w m (rr s) a A hm;unfold vo b;rw[u.1,u.2,aw,Lib.cy];have hl:(w++m).length<=2097152:=by rw[bW];omega
 have d:∀i,i<(w++m).length->rS.c (rs ((w++m).take i)) ((w++m).getD i ⟨#[]⟩)=ao/\rS.v (rs ((w++m).take i)) ((w++m).getD i ⟨#[]⟩)=has ((w++m).take i) ((w++m).getD i ⟨#[]⟩):=λi hi=>rS.ok _ _ (by rw[du];omega);have hk:∀i (hi:i<(w++m).length),br (av (rs (w++m)) i 0)=(w++m).getD i ⟨#[]⟩:=λi hi=>by rw[To hi,show(w++m).getD i ⟨#[]⟩=(w++m)[i]by rw[dK,e8 hi];rfl];rfl
 generalize y:w++m=L at hl d hk
 have key:=jE (Jb L) L.length (λn (i:aN)=>l3 ck (λ(B:aY) (_ _:ay) (_ _ _:Row) (_:ay) (_:Row)=>ai B) (λ(_:aY) (_ _:ay) (o r e:Row) (f:ay) (_:Row)=>bif(ah ((↑(bB o):ay)<=2))then(bif(ah ((↑(bB r):ay)<=4))then(bif(pb.c e f)then(ai (pb.v e f))else(aj))else(ai aq))else(ai aq)) n aq (L.length:ay) (i:ay) (rs w) (rs m) (rr s) a (rs L)) (ai aq) (ai (ah (w.length<=2)&&(ah (m.length<=4)&&fc.nL s a)))
  (λn i hi hp=>by
   unfold Jb at hp;rw[aM,dt]at hp;have j:fU 0 (i:ay) (L.length:ay)=true:=by simp[fU];omega
   simp only[l3,r3,Lib.cy,c8,hi,aQ,b_,aL,aw,dB,hk i hi,iq,hp.1,aZ,ax,j,wQ,(d i hi).1,(d i hi).2,hp.2,cw hi (by omega:L.length<=9223372036854775807)])
  (λn i hi hp=>by
   have j:fU 0 (i:ay) (L.length:ay)=true:=by simp[fU];omega
   unfold Jb at hp;cases k:eC (L.getD i ⟨#[]⟩)with
   |false=>simp only[l3,r3,Lib.cy,c8,hi,aQ,b_,aL,aw,dB,hk i hi,iq,k,bG]
   |true=>rw[k,bj,p6]at hp;simp only[l3,r3,Lib.cy,c8,hi,aQ,b_,aL,aw,dB,hk i hi,iq,k,aZ,ax,j,wQ,(d i hi).1,(d i hi).2,hp])
  (λn=>by simp only[l3,r3,Lib.cy,c8,bk,bg,ax,t.1,t.2,aw];rw[show ah ((w.length:ay)<=2)=ah (w.length<=2)by rw[bZ];omega,show ah ((m.length:ay)<=4)=ah (m.length<=4)by rw[bZ];omega];cases ah (w.length<=2)<;>cases ah (m.length<=4)<;>rfl) ck ez
 refine key.trans ?_;unfold sg mQ;rw[y];cases (cT L.length).all (Jb L)<;>rfl
end oI
namespace Gi
open _root_.Go.FG.Lib (rs)
open eV (has)
theorem Ut(w m:aE au)(k:au):has (w++m) k=(has w k||has m k):=by unfold has;rw[List.any_append]
theorem ok(w m:aE au)(s:Row)(a:ay)(k:au)(f:w.length<=1048576)(hm:m.length<=1048576):c (rs w) (rs m) s a k=ao/\v (rs w) (rs m) s a k=(has w k||has m k):=by have d:=qb.ok w m s a f hm;have e:=rS.ok (w++m) k (by rw[bW];omega);exact out _ _ _ _ _ (by unfold vo b;rw[d.1,d.2,e.1,e.2,aw,aw,Ut])
end Gi
namespace zw
open _root_.Go.FG.Lib (rs el oy rF rG rH En)
open eV (has)
open jx (sg)
open nk (Gk K4 uo)
theorem Dj(k:au)(s l:ay)(b:au):vM.v k s l b=gu.v k s l b:=rfl
theorem ok(i0:ay)(en:aE En)(w m:aE au)(s:aE (aE ay))(a:ay)(r6 r7:Row)(A:ay)(N:en.length<=1048576)(z:w.length<=1048576)(hm:m.length<=1048576)(M:iV.n9 s):
  c i0 (re en) (rs w) (rs m) (rr s) a r6 r7 A=ao/\v i0 (re en) (rs w) (rs m) (rr s) a r6 r7 A=K4 en w m s a:=by
 refine out _ _ _ _ _ _ _ _ _ ?_;have H:=oI.ok w m s a z hm M;have r:=λk=>Gi.ok w m (rr s) a k z hm;have I:=qb.ok w m (rr s) a z hm;unfold vo b;rw[dv]
 have key:=jE (Gk en w m) en.length (λn (i:aN)=>l2 ck (λ(B:aY) (_:Row) (_ _ _:ay) (_ _ _ _:Row) (_:ay) (_ _:Row) (_:ay)=>ai B) (λ(_:aY) (_:Row) (_ _ _:ay) (C e f j:Row) (o:ay) (_ _:Row) (_:ay)=>bif(oI.c e f j o)then(bif(oI.v e f j o)then(bif(qb.c e f j o)then(ai (ah ((↑(bB (qb.v e f j o)):ay)=(↑(bB C):ay))))else(aj))else(ai aq))else(aj)) n aq (re en) (en.length:ay) (i:ay) i0 (re en) (rs w) (rs m) (rr s) a r6 r7 A) (ai aq) (ai (sg w m s a&&ah (w.length+m.length=en.length)))
  (λn i hi hp=>by
   unfold Gk uo at hp;rw[aM,aM]at hp;obtain⟨t,u,K⟩:=hp;by_cases y:i=0
   ·subst y;simp only[l2,r2,dv,c8,hi,aQ,b_,aL,aw,dB,oy hi,rF hi,rG hi,rH hi,br,bN,Dj,t,aZ,ax,aF (show¬(((0:aN):ay)>0)by omega),(r _).1,(r _).2,K,cw hi (by omega:en.length<=9223372036854775807)]
   ·rw[aF y,nO]at u;have d:i-1<en.length:=by omega
    simp only[l2,r2,dv,c8,hi,aQ,b_,aL,aw,dB,oy hi,rF hi,rG hi,rH hi,br,bN,Dj,t,aZ,ax,aC (show(i:ay)>0 by omega),ly (show 0<i by omega) (by omega),d,oy d,u,(r _).1,(r _).2,K,cw hi (by omega:en.length<=9223372036854775807)])
  (λn i hi hp=>by
   unfold Gk uo at hp;cases t:gu.v (el en i).k (el en i).st (el en i).li (el en i).bo with
   |false=>simp only[l2,r2,dv,c8,hi,aQ,b_,aL,aw,dB,oy hi,rF hi,rG hi,rH hi,br,bN,Dj,t,bG]
   |true=>
    rw[t,bj]at hp;by_cases y:i=0
    ·subst y;rw[aC rfl,Mn,bj]at hp;simp only[l2,r2,dv,c8,hi,aQ,b_,aL,aw,dB,oy hi,rF hi,rG hi,rH hi,br,bN,Dj,t,aZ,bG,ax,aF (show¬(((0:aN):ay)>0)by omega),(r _).1,(r _).2,hp]
    ·rw[aF y,nO]at hp;have d:i-1<en.length:=by omega
     cases u:b7 (aG (el en (i-1)).k) (aG (el en i).k)with
     |false=>simp only[l2,r2,dv,c8,hi,aQ,b_,aL,aw,dB,oy hi,rF hi,rG hi,rH hi,br,bN,Dj,t,aZ,bG,ax,aC (show(i:ay)>0 by omega),ly (show 0<i by omega) (by omega),d,oy d,u]
     |true=>rw[u,bj]at hp;simp only[l2,r2,dv,c8,hi,aQ,b_,aL,aw,dB,oy hi,rF hi,rG hi,rH hi,br,bN,Dj,t,aZ,bG,ax,aC (show(i:ay)>0 by omega),ly (show 0<i by omega) (by omega),d,oy d,u,(r _).1,(r _).2,hp])
  (λn=>by simp only[l2,r2,c8,bk,bg,ax,H.1,H.2,I.1,I.2,aw,Lib.cy,dv,bW];rw[show ah (((w.length+m.length:aN):ay)=(en.length:ay))=ah (w.length+m.length=en.length)by rw[bZ];omega];cases sg w m s a<;>rfl) ck ez
 refine key.trans ?_;unfold K4;cases (cT en.length).all (Gk en w m)<;>rfl
end zw
namespace fM
def op(r:Row)(i:aN):aY:=ah (bN (av r i 2)=1)
def g(r:Row)(i j:aN):aY:= !(op r i&&(op r j&&cQ (aG (br (av r i 0))) (aG (br (av r j 0)))))
def val(r:Row):aY:=(cT r.length).all λi=>(cT i).all (g r i)
end fM
namespace p_
def p(d:Row)(a:au)(i:aN):aY:=GC.v (br (av d i 0)) (br (av d i 1)) (bN (av d i (1+1))) (bN (av d i (1+1+1))) (bN (av d i (1+1+1+1))) a
theorem ok(d:Row)(a:au)(hl:d.length<=4294967296):c d a=ao/\v d a=fi (p d a) d.length 0:=by
 refine out d a ?_;unfold vo b;refine nJ (p d a) d.length (λm (i:aN)=>l2 ck (λ(_:Row) (_:au) (e _ _:ay)=>ai e) (λ(_:Row) (_:au) (_ _ _:ay)=>ai (-1)) m d a 0 (d.length:ay) (i:ay)) ai (λm i hi hp=> ?_) (λm i hi hp=> ?_) (λm=> ?_) ck ez
 ·unfold p at hp;simp only[l2,r2,c8,b_,dB,hi,aQ,aL,aw,hp]
 ·unfold p at hp;simp only[l2,r2,c8,b_,dB,hi,aQ,aL,aw,hp,ax,cw hi (by omega:d.length<=9223372036854775807)]
 ·simp only[l2,r2,c8,bk,bg,ax]
end p_
namespace Is
theorem ok(i0:ay)(r1 r2 r3 r4:Row)(a:ay)(r6 r7:Row)(d:ay)(key:au)(hl:r6.length<=4294967296):c i0 r1 r2 r3 r4 a r6 r7 d key=ao/\v i0 r1 r2 r3 r4 a r6 r7 d key=fi (p_.p r6 key) r6.length 0:=by have h:=p_.ok r6 key hl;exact out _ _ _ _ _ _ _ _ _ _ (by unfold vo b;rw[h.1,h.2,aw])
end Is
namespace vP
def q(r:Row)(i:aN):aY:= !(fM.op r i&&(fi (p_.p r (br (av r i 0))) r.length 0 !=(i:ay)))
theorem same(r:Row)(i:aN)(hi:i<r.length):q r i=(cT i).all (fM.g r i):=by
 unfold q;cases e:fM.op r i with
 |false=>symm;rw[kQ,bG,bz];intro j _;unfold fM.g;rw[e];rfl
 |true=>
  rw[bj];have hp:∀j,p_.p r (br (av r i 0)) j= !fM.g r i j:=by intro j;unfold p_.p GC.v fM.g;rw[e,bj,Bool.not_not,eG,eG];unfold fM.op;rw[show ah (br (av r j 0)=br (av r i 0))=ah (br (av r i 0)=br (av r j 0))from by rw[bZ];exact eq_comm];cases ah (br (av r i 0)=br (av r j 0))<;>simp
  have a:p_.p r (br (av r i 0)) i=true:=by rw[hp];unfold fM.g;rw[e,eG];simp
  rcases mO (p_.p r (br (av r i 0))) r.length 0 with ⟨_,f⟩|⟨k,y,f,t,o,s⟩
  ·have:=f i (bA _) (by omega);rw[a]at this;cases this
  ·rw[t];by_cases hk:k=i
   ·subst hk;rw[bne_self_eq_false,bG];symm;rw[bz];intro j u;have:=s j (bA _) (by simpa using u);rw[hp]at this;simpa using this
   ·have d:k<i:=by
     rcases qy k i with h|h
     ·exact h
     ·have:=s i (bA _) (by omega);rw[a]at this;cases this
    rw[show((k:ay) !=(i:ay))=ao from by simp;omega,aZ];symm;rw[S5];refine⟨k,by simpa using d,?_⟩
    rw[hp]at o;simpa using o
theorem ok(i0:ay)(k o r s:Row)(f:ay)(a t:Row)(j:ay)(hl:a.length<=4294967296):c i0 k o r s f a t j=ao/\v i0 k o r s f a t j=fM.val a:=by
 refine out _ _ _ _ _ _ _ _ _ ?_;unfold vo b;have y:∀i,i<a.length->bE ((i:ay)+1)=((i+1:aN):ay):=λi h=>cw h (by omega);have e:=λkey=>Is.ok i0 k o r s f a t j key hl
 have key:=jE (q a) a.length (λm (i:aN)=>l2 ck (λ(u:aY) (_:Row) (_ _ _:ay) (_ _ _ _:Row) (_:ay) (_ _:Row) (_:ay)=>ai u) (λ(_:aY) (_:Row) (_ _ _:ay) (_ _ _ _:Row) (_:ay) (_ _:Row) (_:ay)=>ai ao) m aq a (a.length:ay) (i:ay) i0 k o r s f a t j) (ai aq) (ai ao)
  (λm i hi hp=>by
   unfold q fM.op at hp;cases d:ah (bN (av a i (1+1))=1)with
   |false=>simp only[l2,r2,c8,hi,aQ,b_,aL,aw,dB,d,ax,y i hi]
   |true=>rw[show ah (bN (av a i 2)=1)=ao from d,bj,dt]at hp;simp only[l2,r2,c8,hi,aQ,b_,aL,aw,dB,d,(e _).1,(e _).2,hp,ax,y i hi])
  (λm i hi hp=>by unfold q fM.op at hp;rw[p6,aM]at hp;obtain⟨d,z⟩:=hp;have d:ah (bN (av a i (1+1))=1)=true:=d;simp only[l2,r2,c8,hi,aQ,b_,aL,aw,dB,d,(e _).1,(e _).2,z])
  (λm=>by simp only[l2,r2,c8,bk,bg,ax]) ck ez
 refine key.trans ?_;rw[all_congr (λi hi=>same a i hi)];unfold fM.val;cases (cT a.length).all λi=>(cT i).all (fM.g a i)<;>rfl
end vP
namespace yf
open _root_.Go.FG.Lib (rf el Ga DT WH yS N0 N1)
open np (mX apart lW)
theorem et(n a b:ay):j4.v n a b=ah (a<=n/\n<=b):=fc.et n a b
theorem one(fe:aE Fe):fM.val (rf fe)=(cT fe.length).all (apart fe):=by
 unfold fM.val;rw[dI];refine all_congr (λi hi=> ?_);unfold apart;refine all_congr (λj d=> ?_);have a:j<fe.length:=by omega
 unfold fM.g fM.op lW;rw[Ga hi,Ga a,yS hi,yS a];simp only[br,bN,eG];rfl
theorem ok(i0:ay)(A B C H:Row)(y:ay)(fe:aE Fe)(I:Row)(z:ay)(X:fe.length<=1048576):
  c i0 A B C H y (rf fe) I z=ao/\v i0 A B C H y (rf fe) I z=((cT fe.length).all (λi=>mX i0 (el fe i))&&(ah (fe.length<=20)&&(cT fe.length).all (apart fe))):=by
 refine out _ _ _ _ _ _ _ _ _ ?_;have M:=vP.ok i0 A B C H y (rf fe) I z (by rw[dI];omega);rw[one]at M;unfold vo b;rw[dI]
 have key:=jE (λi=>mX i0 (el fe i)) fe.length (λn (i:aN)=>l2 ck (λ(N:aY) (_:Row) (_ _ _:ay) (_ _ _ _:Row) (_:ay) (_ _:Row) (_:ay)=>ai N) (λ(_:aY) (_:Row) (_ _ d:ay) (e f j o:Row) (r:ay) (a s:Row) (u:ay)=>bif(ah ((↑(bB a):ay)<=20))then(bif(vP.c d e f j o r a s u)then(ai (vP.v d e f j o r a s u))else(aj))else(ai aq)) n aq (rf fe) (fe.length:ay) (i:ay) i0 A B C H y (rf fe) I z) (ai aq) (ai (ah (fe.length<=20)&&(cT fe.length).all (apart fe)))
  (λn i hi hq=>by
   unfold mX at hq;simp only[aM]at hq;obtain⟨O,P,S,U,V⟩:=hq;have K:ah (((el fe i).t.size:ay)>400)= !decide (((el fe i).t.size:ay)<=400):=by rw[<-decide_not,bZ];omega
   simp only[l2,r2,dI,c8,hi,aQ,b_,aL,aw,dB,Ga hi,DT hi,WH hi,N0 hi,N1 hi,br,bN,et,oI.iq,K,O,P,S,U,V,aZ,ax,cw hi (by omega:fe.length<=9223372036854775807)])
  (λn i hi hq=>by
   unfold mX at hq;have K:ah (((el fe i).t.size:ay)>400)= !decide (((el fe i).t.size:ay)<=400):=by rw[<-decide_not,bZ];omega
   simp only[l2,r2,dI,c8,hi,aQ,b_,aL,aw,dB,Ga hi,DT hi,WH hi,N0 hi,N1 hi,br,bN,et,oI.iq,K];revert hq;cases jx.eC (el fe i).k<;>cases ah (((el fe i).t.size:ay)<=400)<;>cases ah (1<=(el fe i).sta/\(el fe i).sta<=3)<;>cases ah (0<=(el fe i).li/\(el fe i).li<=999999)<;>cases ah (0<=(el fe i).st/\(el fe i).st<=i0)<;>intro hq<;>first|rfl|cases hq)
  (λn=>by simp only[l2,r2,c8,bk,bg,ax,dI,M.1,M.2,aw];rw[show ah ((fe.length:ay)<=20)=ah (fe.length<=20)by rw[bZ];omega];cases ah (fe.length<=20)<;>rfl) ck ez
 refine key.trans ?_;cases (cT fe.length).all (λi=>mX i0 (el fe i))<;>rfl
end yf
namespace zx
open _root_.Go.FG.Lib (rf rc el JV NX NY NZ)
open jx (eC)
open jm (Gj)
open yf (et)
theorem step(N:aN)(g y A:aY->Row->ay->ay->ay->Row->Row->Row->Row->ay->Row->Row->ay->aA R)(i0:ay)(f j o r:Row)(d:ay)(fe:aE Fe)(cl:aE Cl)(e:ay)(i:aN)(hi:i<cl.length)(hl:cl.length<=1048576):
  r2 N g y A aq (rc cl) cl.length (i:ay) i0 f j o r d (rf fe) (rc cl) e=bif Gj i0 fe.length cl i then g aq (rc cl) cl.length ((i+1:aN):ay) i0 f j o r d (rf fe) (rc cl) e else y aq (rc cl) cl.length (i:ay) i0 f j o r d (rf fe) (rc cl) e:=by
 unfold Gj;have s:ah (((el cl i).got.size:ay)>400)= !decide (((el cl i).got.size:ay)<=400):=by rw[<-decide_not,bZ];omega
 have t:ah ((el cl i).age<0)= !decide (0<=(el cl i).age):=by rw[<-decide_not,bZ];omega
 by_cases u:i=0
 ·subst u;simp only[r2,eL,dI,c8,hi,aQ,b_,aL,aw,dB,JV hi,wc1 hi,wc2 hi,wc3 hi,NX hi,NY hi,NZ hi,br,bN,et,oI.iq,aF (show¬(((0:aN):ay)>0)by omega),ax,s,t,cw hi (by omega:cl.length<=9223372036854775807),Mn,bj];cases ah (1<=(el cl 0).id/\(el cl 0).id<=9)<;>cases eC (el cl 0).k<;>cases ah (1<=(el cl 0).sta/\(el cl 0).sta<=3)<;>cases ah (0<=(el cl 0).fe/\(el cl 0).fe<=(fe.length:ay))<;>cases ah (((el cl 0).got.size:ay)<=400)<;>cases ah (0<=(el cl 0).fr/\(el cl 0).fr<=i0)<;>cases ah (0<=(el cl 0).age)<;>rfl
 ·have a:i-1<cl.length:=by omega
  have z:ah ((el cl (i-1)).id≥(el cl i).id)= !decide ((el cl (i-1)).id<(el cl i).id):=by rw[<-decide_not,bZ];omega
  simp only[r2,eL,dI,c8,hi,aQ,b_,aL,aw,dB,JV hi,wc1 hi,wc2 hi,wc3 hi,NX hi,NY hi,NZ hi,br,bN,et,oI.iq,aC (show(i:ay)>0 by omega),ly (show 0<i by omega) (by omega),a,JV a,ax,s,t,z,cw hi (by omega:cl.length<=9223372036854775807),aF u,nO];cases ah (1<=(el cl i).id/\(el cl i).id<=9)<;>cases ah ((el cl (i-1)).id<(el cl i).id)<;>cases eC (el cl i).k<;>cases ah (1<=(el cl i).sta/\(el cl i).sta<=3)<;>cases ah (0<=(el cl i).fe/\(el cl i).fe<=(fe.length:ay))<;>cases ah (((el cl i).got.size:ay)<=400)<;>cases ah (0<=(el cl i).fr/\(el cl i).fr<=i0)<;>cases ah (0<=(el cl i).age)<;>rfl
theorem ok(i0:ay)(e f j k:Row)(a:ay)(fe:aE Fe)(cl:aE Cl)(d:ay)(hl:cl.length<=1048576):
  c i0 e f j k a (rf fe) (rc cl) d=ao/\v i0 e f j k a (rf fe) (rc cl) d=((cT cl.length).all (Gj i0 fe.length cl)&&ah (cl.length<=6)):=by
 refine out _ _ _ _ _ _ _ _ _ ?_;unfold vo b;rw[eL]
 have key:=jE (Gj i0 fe.length cl) cl.length (λn (i:aN)=>l2 ck (λ(o:aY) (_:Row) (_ _ _:ay) (_ _ _ _:Row) (_:ay) (_ _:Row) (_:ay)=>ai o) (λ(_:aY) (_:Row) (_ _ _:ay) (_ _ _ _:Row) (_:ay) (_ r:Row) (_:ay)=>ai (ah ((↑(bB r):ay)<=6))) n aq (rc cl) (cl.length:ay) (i:ay) i0 e f j k a (rf fe) (rc cl) d) (ai aq) (ai (ah (cl.length<=6)))
  (λn i hi hq=>by simp only[l2];rw[step _ _ _ _ _ _ _ _ _ _ _ _ _ i hi hl,hq];rfl)
  (λn i hi hq=>by simp only[l2];rw[step _ _ _ _ _ _ _ _ _ _ _ _ _ i hi hl,hq];rfl)
  (λn=>by simp only[l2,r2,c8,bk,bg,ax,eL];rw[show ah ((cl.length:ay)<=6)=ah (cl.length<=6)by rw[bZ];omega]) ck ez
 refine key.trans ?_;cases (cT cl.length).all (Gj i0 fe.length cl)<;>rfl
end zx
namespace Mx
open _root_.Go.FG.Lib (rs rf rc el En)
open nk (K4)
open np (mX apart)
open jm (Gj i_)
theorem ok(p:Px)(hp:p.Fit 1048576):c p.now (re p.en) (rs p.w) (rs p.m) (rr p.s) p.a (rf p.fe) (rc p.cl) p.hits=ao/\v p.now (re p.en) (rs p.w) (rs p.m) (rr p.s) p.a (rf p.fe) (rc p.cl) p.hits=i_ p:=by refine out _ _ _ _ _ _ _ _ _ ?_;have e:=zw.ok p.now p.en p.w p.m p.s p.a (rf p.fe) (rc p.cl) p.hits hp.en hp.w hp.m ⟨hp.s.1,hp.s.2.1⟩;have f:=yf.ok p.now (re p.en) (rs p.w) (rs p.m) (rr p.s) p.a p.fe (rc p.cl) p.hits hp.fe;have j:=zx.ok p.now (re p.en) (rs p.w) (rs p.m) (rr p.s) p.a p.fe p.cl p.hits hp.cl;unfold vo b i_;have d:∀n a b,j4.v n a b=ah (a<=n/\n<=b):=λn a b=>fc.et n a b;have k:AU.v p.hits=ah (0<=p.hits/\p.hits<=1000000000):=d p.hits 0 1000000000;rw[d,k,e.1,e.2,f.1,f.2,j.1,j.2,ET];cases ah (1<=p.now/\p.now<=1000000000)<;>cases K4 p.en p.w p.m p.s p.a<;>cases ah (p.fe.length<=20)<;>cases ah (p.cl.length<=6)<;>cases ah (0<=p.hits/\p.hits<=1000000000)<;>cases (cT p.fe.length).all (λi=>mX p.now (el p.fe i))<;>cases (cT p.fe.length).all (apart p.fe)<;>cases (cT p.cl.length).all (Gj p.now p.fe.length p.cl)<;>rfl
end Mx
namespace yk
def p(s:Row)(k:ay)(i:aN):aY:=ah (bN (av s i 0)=k)
theorem ok(d:Row)(n:ay)(hl:d.length<=4294967296):c d n=ao/\v d n=fi (p d n) d.length 0:=by
 refine out d n ?_;unfold vo b;refine nJ (p d n) d.length (λm (i:aN)=>l2 ck (λ(_:Row) (_:ay) (a _ _:ay)=>ai a) (λ(_:Row) (_:ay) (_ _ _:ay)=>ai (-1)) m d n 0 (d.length:ay) (i:ay)) ai (λm i hi hp=> ?_) (λm i hi hp=> ?_) (λm=> ?_) ck ez
 ·unfold p at hp;simp only[l2,r2,c8,b_,dB,hi,aQ,aL,aw,U97.v,hp]
 ·unfold p at hp;simp only[l2,r2,c8,b_,dB,hi,aQ,aL,aw,U97.v,hp,ax,cw hi (by omega:d.length<=9223372036854775807)]
 ·simp only[l2,r2,c8,bk,bg,ax]
end yk
namespace Mw
open _root_.Go.FG.Lib (rc el)
open fS (ll)
theorem ok(i0:ay)(r1 r2 r3 r4:Row)(a:ay)(r6:Row)(cl:aE Cl)(d id:ay)(hl:cl.length<=1048576):c i0 r1 r2 r3 r4 a r6 (rc cl) d id=ao/\ah (v i0 r1 r2 r3 r4 a r6 (rc cl) d id≥0)=ll cl id:=by
 have h:=yk.ok (rc cl) id (by rw[eL];omega);have o:=out i0 r1 r2 r3 r4 a r6 (rc cl) d id (by unfold vo b;rw[h.1,h.2,aw]);refine⟨o.1,?_⟩
 rw[o.2,eL];exact fS.IY cl (λx=>ah (x.id=id)) _ λi hi=>by unfold yk.p;rw[JV hi,eT hi];rfl
end Mw
namespace vU
def p(s:Row)(k:au)(i:aN):aY:=cQ (aG (br (av s i 0))) (aG k)
theorem ok(d:Row)(n:au)(hl:d.length<=4294967296):c d n=ao/\v d n=fi (p d n) d.length 0:=by
 refine out d n ?_;unfold vo b;refine nJ (p d n) d.length (λm (i:aN)=>l2 ck (λ(_:Row) (_:au) (a _ _:ay)=>ai a) (λ(_:Row) (_:au) (_ _ _:ay)=>ai (-1)) m d n 0 (d.length:ay) (i:ay)) ai (λm i hi hp=> ?_) (λm i hi hp=> ?_) (λm=> ?_) ck ez
 ·unfold p at hp;simp only[l2,r2,c8,b_,dB,hi,aQ,aL,aw,U79.v,hp]
 ·unfold p at hp;simp only[l2,r2,c8,b_,dB,hi,aQ,aL,aw,U79.v,hp,ax,cw hi (by omega:d.length<=9223372036854775807)]
 ·simp only[l2,r2,c8,bk,bg,ax]
end vU
namespace qa
theorem ok(i:aN)(key:au)(hi:i<3)(hk:key.size<=140737488355328):c (i:ay) key=ao/\v (i:ay) key=(f_.pl i key:ay):=by
 refine out _ _ ?_;unfold vo b;have e:(key++bytesOf (aP (aT [Ck.i ba] 1) 0 [CV.i ba (bF ba (bE (↑(ij (AB (di 64 (i:ay)) (di 64 255))):ay)))]))=f_.keyed i key:=by
  unfold f_.keyed;match i,hi with
  |0,_=>rfl
  |1,_=>rfl
  |2,_=>rfl
 have hs:=f_.B3 i key;have h:=uj.ok (f_.keyed i key) (by omega);have a:bC key+bC (bytesOf (aP (aT [Ck.i ba] 1) 0 [CV.i ba (bF ba (bE (↑(ij (AB (di 64 (i:ay)) (di 64 255))):ay)))]))=key.size+1:=by rw[pc,B2]
 rw[a,e,lJ,aw,h.1,h.2,aw];have hp:=f_.pl_int i key;have hl:=f_.BP i key;have d:=f_.JF i key;unfold f_.sm at hp d;rw[dq (by omega) (by omega),hp]
end qa
namespace nQ
open _root_.Go.FG.Lib (ri)
open dp (fR bq CH half A_ NF NG n_ tK sH)
theorem aco(K:au->ay->ay->ay->ay->Row->aA R)(s:aE (aE ay))(key:au)(y a:ay)(hs:s.length=3)(hq:∀q∈s,q.length=16/\∀n∈q,0<=n/\n<=15)(hk:key.size<=140737488355328):
  l5 ck K ck key 3 0 y a (rr s)=K key 3 3 y a (rr (CH s key)):=by
 refine(m_ fR s (λi q=>bq (f_.pl i key) q) (λm (i:aN) x=>l5 ck K m key 3 (i:ay) y a x) (λx=>K key 3 3 y a x) (λm i L h d u o=> ?_) (λm L u=> ?_) ck ez)
 ·have hp:=qa.ok i key (by omega) hk;have r:=f_.BP i key;obtain⟨k,z⟩:=hq _ (bw h);have t:av (L.map fR) i 0=CV.l 3 (ri s[i]):=by rw[A_ L i d,o]
  have e:f_.pl i key<s[i].length:=by omega
  have A:=z _ (bw e);have j:ah ((i:ay)<3)=true:=aC (by omega);simp only[l5,r5,bJ,c8,d,j,aQ,aw,hp.1,hp.2,b_,aL,dB,t,iH,Lib.fa,k,r,NW e,bN];unfold bq ea;rw[n_ e,ax,dq (x:=s[i][f_.pl i key]+1) (by omega) (by omega)];by_cases hd:s[i][f_.pl i key]<15
  ·rw[bh (by omega),aC hd,aw,NF _ _ _ e,NG _ _ _ d,cw d (by omega)]
  ·have f:s[i][f_.pl i key]=15:=by omega
   rw[bm (by omega),aF hd,ax,f,NF _ _ _ e,NG _ _ _ d,cw d (by omega)]
 ·have j:ah ((s.length:ay)<3)=false:=aF (by omega);simp only[l5,r5,j,ax,hs];rfl
theorem agY(K:aN->ay->ay->ay->ay->ay->ay->Row->aA R)(L:aE (aE ay))(i:aN)(h:i<L.length)(u w y a:ay)(hl:L.length<=1048576)(hq:L[i].length=16)(A:∀n∈L[i],0<=n/\n<=15):
  l18 ck K ck i u w 16 0 y a (L.map fR)=K i u w 16 16 y a ((L.set i (L[i].map λn=>cK n 2)).map fR):=by
 have o:L[i].mapIdx (λ_ n=>cK n 2)=L[i].map λn=>cK n 2:=by apply la<;>simp
 have key:=im (L[i].length) (λm (k:aN) x=>l18 ck K m i u w 16 (k:ay) y a x) (λk=>(L.set i (nM L[i] (λ_ n=>cK n 2) k)).map fR) (K i u w 16 16 y a ((L.set i (L[i].map λn=>cK n 2)).map fR)) (λm k hk=> ?_) (λm=> ?_) ck 0 (bA _) ez
 ·rw[B_,eZ]at key;exact key
 ·have C:=qv L[i] (λ_ n=>cK n 2) k (by omega);generalize t:nM L[i] (λ_ n=>cK n 2) k=U at C;have d:k<U.length:=by omega
  have j:U[k]=L[i][k]:=by subst t;exact wP _ _ _ hk _
  have e:U.set k (cK L[i][k] 2)=nM L[i] (λ_ n=>cK n 2) (k+1):=by subst t;exact tg L[i] (λ_ n=>cK n 2) k hk
  have s:i<(L.set i U).length:=by simpa using h
  have z:av ((L.set i U).map fR) i 0=CV.l 3 (ri U):=by rw[A_ _ _ s,j9]
  have r:=A _ (bw hk);have H:0<=cK L[i][k] 2:=Int.tdiv_nonneg r.1 (by omega);have B:cK L[i][k] 2<=15:=Ms (Int.tdiv_le_self _ r.1) r.2;have f:ah ((k:ay)<16)=true:=aC (by omega);simp only[l18,r18,bJ,b9,c8,h,d,f,aQ,aw,b_,aL,dB,z,iH,Lib.fa,NW d,bN,j];rw[dq (x:=cK L[i][k] 2) (by omega) (by omega),NF _ _ _ d,NG _ _ _ s,e,o_,cw hk (by omega)]
 ·have f:ah ((L[i].length:ay)<16)=false:=aF (by omega);simp only[l18,r18,f,ax];rw[qu,o,hq];rfl
theorem agW(K:ay->ay->ay->ay->Row->aA R)(s:aE (aE ay))(y a:ay)(hs:s.length=3)(hq:∀q∈s,q.length=16/\∀n∈q,0<=n/\n<=15):
  l15 ck K ck 3 0 y a (rr s)=K 3 3 y a (rr (half s)):=by
 have k:s.mapIdx (λ_ q=>q.map λn=>cK n 2)=half s:=by unfold half;apply la<;>simp
 rw[<-k];refine(m_ fR s (λ_ q=>q.map λn=>cK n 2) (λm (i:aN) x=>l15 ck K m 3 (i:ay) y a x) (λx=>K 3 3 y a x) (λm i L h f r d=> ?_) (λm L r=> ?_) ck ez)
 ·obtain⟨e,t⟩:=hq _ (bw h);have j:ah ((i:ay)<3)=true:=aC (by omega);have o:av (L.map fR) i 0=CV.l 3 (ri s[i]):=by rw[A_ L i f,d]
  simp only[l15,r15,bJ,c8,f,j,aQ,aw,b_,aL,dB,o,iH,Lib.fa,e];rw[show((16:aN):ay)=16 from rfl,agY _ L i f 3 i y a (by omega) (by rw[d];exact e) (by rw[d];exact t),cw f (by omega),d]
 ·have j:ah ((s.length:ay)<3)=false:=aF (by omega);simp only[l15,r15,j,ax,hs];rfl
theorem ok(s:aE (aE ay))(a:ay)(key:au)(k:iV.n9 s)(hk:key.size<=140737488355328):c (rr s) a key=ao/\v (rr s) a key=(rr (dp.val s a key).1,(dp.val s a key).2):=by
 refine out _ _ _ ?_;have f:=iV.ok s a k;have j:=pb.ok s a k;unfold vo b dp.val;rw[f.1,f.2,j.1,j.2,aw,aw];cases d:fc.nL s a with
 |false=>rfl
 |true=>
  obtain⟨hs,r,hq⟩:=tK d;obtain⟨e,o⟩:=sH (key:=key) hs hq;rw[aZ,ax,aw,gC,hs,show((3:aN):ay)=3 from rfl,aco _ s key _ _ hs hq hk,dq (x:=a+1) (by omega) (by omega)];by_cases hd:a+1=64
  ·rw[aF (show¬a+1<64 by omega),aC hd,aw,ax,gC,e,show((3:aN):ay)=3 from rfl,agW _ _ _ _ e o]
  ·rw[aC (show a+1<64 by omega),aF hd];rfl
end nQ
namespace rW
def p(s:Row)(k:au)(i:aN):aY:=cQ (aG (br (av s i 0))) (aG k)
theorem ok(d:Row)(n:au)(hl:d.length<=4294967296):c d n=ao/\v d n=fi (p d n) d.length 0:=by
 refine out d n ?_;unfold vo b;refine nJ (p d n) d.length (λm (i:aN)=>l2 ck (λ(_:Row) (_:au) (a _ _:ay)=>ai a) (λ(_:Row) (_:au) (_ _ _:ay)=>ai (-1)) m d n 0 (d.length:ay) (i:ay)) ai (λm i hi hp=> ?_) (λm i hi hp=> ?_) (λm=> ?_) ck ez
 ·unfold p at hp;simp only[l2,r2,c8,b_,dB,hi,aQ,aL,aw,zC.v,hp]
 ·unfold p at hp;simp only[l2,r2,c8,b_,dB,hi,aQ,aL,aw,zC.v,hp,ax,cw hi (by omega:d.length<=9223372036854775807)]
 ·simp only[l2,r2,c8,bk,bg,ax]
end rW
namespace vQ
def cn(y:aE CV):aY:=match y with|[.s _]=>ao|_=>aq
def cr(y:aE CV):aE CV:=[CV.s (br (y.getD 0 (.b aq)))]
theorem sK(h:cn y=ao):cr y=y:=by
 unfold cn at h;split at h
 ·rfl
 ·cases h
theorem lL(h:cn y=ao):y.length=1:=by rw[<-sK h];rfl
def keep(d:au)(y:aE CV):aY:= !List.beq (aG (br (y.getD 0 (.b aq)))) (aG d)
theorem gT(d:au){s:Row}{i:aN}(h:i<s.length):(s.take (i+1)).filter (keep d)=(s.take i).filter (keep d)++(bif keep d s[i]then [s[i]]else []):=by rw[bO h,fy];cases hk:keep d s[i]<;>simp[hk]
theorem run(N:aN)(a:Row)(d:au)(X:a.all cn=ao)(M:a.length<=9223372036854775807)(K:au->ay->ay->Row->aA R)(P:Row->aA R)
  (V:∀(j:aN) x,x.length=a.length->j<=a.length->K d j a.length x=P (x.take j)) (m j i:aN) (x:Row)
  (hi:j<i/\i<=a.length/\x.length=a.length/\(∀y∈x,y.length=1)/\x.take j=(a.take i).filter (keep d)/\x.drop i=a.drop i) (hm:a.length-i<m):
  l5 N K m d j i x=P (a.filter (keep d)):=by
 have I:∀y∈a,cn y=true:=bz.1 X
 refine fE (λm (s:aN×aN×Row)=>l5 N K m d s.1 s.2.1 s.2.2) (λs=>a.length-s.2.1)
  (λs=>s.1<s.2.1/\s.2.1<=a.length/\s.2.2.length=a.length/\(∀y∈s.2.2,y.length=1)/\s.2.2.take s.1=(a.take s.2.1).filter (keep d)/\s.2.2.drop s.2.1=a.drop s.2.1)
  (λ_=>P (a.filter (keep d))) (λm s hs=> ?_) m (j,i,x) hi hm
 obtain⟨j,i,x⟩:=s;obtain⟨S,U,z,A,u,H⟩:=hs;simp only at S U z A u H⊢;by_cases k:i<a.length
 ·right;have f:i<x.length:=by omega
  have o:j<x.length:=by omega
  have O:x[i]=a[i]:=by have t:=dQ f;have C:=dQ k;rw[H,C]at t;exact(jW t).1.symm
  have hd:x.drop (i+1)=a.drop (i+1):=by have t:=dQ f;have C:=dQ k;rw[H,C]at t;exact(jW t).2.symm
  have r:=I _ (bw k);have B:=gT d k;cases hk:keep d a[i]with
  |true=>
   refine⟨(j+1,i+1,x.set j a[i]),?_,by simp only;omega,trivial,?_⟩
   ·rw[hk,aw,<-u]at B;refine⟨by simp only;omega,by simp only;omega,by simpa using z,?_,?_,?_⟩
    ·intro y Y;rcases jl Y with h|h
     ·exact A y h
     ·rw[h];exact lL r
    ·rw[B];rw[bO (by simpa using o)];simp[vG]
    ·simp only;rw[vF (by omega)];exact hd
   ·have e:zC.v (br (av x i 0)) d=false:=by
     have:(!zC.v (br (av x i 0)) d)=true:=by rw[cz f,O];exact hk
     simpa using this
    have es:dV x j 0 [CV.s (br (av x i 0))]=x.set j a[i]:=by
     have hl:=A _ (bw o);rw[tO o,cz f,O];have:hS x[j] 0 (cr a[i])=a[i]:=by rw[sK r];unfold hS;have:=lL r;simp[hl,this,gy]
     unfold cr at this;rw[this]
    have b1:(j:ay)<(x.length:ay):=by omega
    simp only[l5,r5,c8,b_,dB,f,o,aQ,bj,aw,e,bG,es,cw k M,cw (show j<a.length by omega) M]
  |false=>
   refine⟨(j,i+1,x),?_,by simp only;omega,trivial,?_⟩
   ·rw[hk,ax,cZ,<-u]at B;exact⟨by simp only;omega,by simp only;omega,z,A,B.symm,hd⟩
   ·have e:zC.v (br (av x i 0)) d=true:=by
     have:(!zC.v (br (av x i 0)) d)=false:=by rw[cz f,O];exact hk
     simpa using this
    simp only[l5,r5,c8,b_,dB,f,aQ,bj,aw,e,aZ,ax,cw k M]
 ·left;have:i=a.length:=by omega
  subst this;rw[cE]at u;have e:=V j x z (by omega);rw[u]at e;have f:¬a.length<x.length:=by omega
  simp only[l5,r5,c8,f,bg,ax,e]
theorem ok(d:Row)(a:au)(C:d.all cn=ao)(O:d.length<=4294967296):c d a=ao/\v d a=d.filter (keep a):=by
 refine out d a ?_;have H:=rW.ok d a O;unfold vo b;rw[H.1,H.2,aw];rcases mO (rW.p d a) d.length 0 with ⟨h,r⟩|⟨k,_,N,hk,o,t⟩
 ·rw[h];have:d.filter (keep a)=d:=by rw[eh];intro y u;obtain⟨i,hi,rfl⟩:=c7 u;have:=r i (bA _) (by omega);unfold rW.p at this;rw[cz hi]at this;unfold keep;rw[this];rfl
  rw[this];rfl
 ·rw[hk];have f:k<d.length:=by omega
  have B:ah ((k:ay)=Ij 1)=false:=aF (by show¬(k:ay)= -1;omega);rw[B,ax,cw f (by omega)];have z:∀y∈d,cn y=true:=bz.1 C;refine run _ d a C (by omega) _ ai (λj x P S=> ?_) _ k (k+1) d ⟨by omega,by omega,rfl,λy u=>lL (z y u),?_,rfl⟩ ez
  ·have I:fU (j:ay) (d.length:ay) (d.length:ay)=true:=by simp[fU];omega
   have e:gG j x++aT [Ck.s] (d.length-j)++mE d.length x=gG j x++aT [Ck.s] (d.length-j):=by rw[gy (by omega),cZ]
   have hl:(gG j x).length=j:=by simp;omega
   simp only[P,dB,I,aw,e];rw[oN (by simp[fU];omega)];unfold dR;rw[show aR 0=0 from rfl,eK,og,oG (by omega),dH (by omega)]
  ·rw[gT a f];have K:keep a d[k]=false:=by unfold rW.p at o;rw[cz f]at o;unfold keep;rw[o];rfl
   have M:(d.take k).filter (keep a)=d.take k:=by
    rw[eh];intro y u;obtain⟨i,hi,rfl⟩:=c7 u;have A:i<k:=by simp at hi;omega
    have:=t i (bA _) A;unfold rW.p at this;rw[cz (by omega)]at this;rw[mJ];unfold keep;rw[this];rfl
   rw[K,M,ax,cZ]
end vQ
namespace jN
theorem aeE(l:aE au):(Lib.rs l).all vQ.cn=true:=by rw[bz];intro y a;unfold Lib.rs at a;obtain⟨z,_,rfl⟩:=cN.1 a;rfl
theorem aa_(l:aE au)(k:au):(Lib.rs l).filter (vQ.keep k)=Lib.rs (eV.without l k):=by unfold Lib.rs eV.without;rw[oE];congr 1;apply kr;intro x _;show(!List.beq (aG x) (aG k))=_;rw[eG]
theorem ok(l:aE au)(k:au)(hl:l.length<=1048576):c (Lib.rs l) k=ao/\v (Lib.rs l) k=Lib.rs (eV.without l k):=by have d:=sA.ok (Lib.rs l) (by rw[Lib.cy];omega);have a:=vQ.ok (Lib.rs l) k (aeE l) (by rw[Lib.cy];omega);rw[aa_]at a;exact out _ _ (by unfold vo b;rw[d.1,d.2,a.1,a.2,aw,aw])
end jN
namespace uX
open _root_.Go.FG.Lib (ri)
open lY (gs Fo)
theorem ok(s:aE (aE ay))(a:ay)(key:au)(o:iV.n9 s)(hk:key.size<=140737488355328):c (rr s) a key=ao/\v (rr s) a key=lY.val s a key:=by
 refine out _ _ _ ?_;have j:=pb.ok s a o;unfold vo b lY.val;rw[j.1,j.2,aw];cases e:fc.nL s a with
 |false=>rfl
 |true=>
  obtain⟨hs,y,hq⟩:=dp.tK e;rw[aZ,ax,aw,gC];have:=fE (λm (t:aN×ay)=>l5 ck (λ(_:au) (u:ay) (_:Row) (_ _:ay)=>ai u) m key t.2 (rr s) s.length (t.1:ay)) (λt=>s.length-t.1) (λt=>t.1<=s.length) (λt=>ai (gs key t.1 (s.drop t.1) t.2)) (λm t r=>by
   obtain⟨i,x⟩:=t;dsimp only at r⊢;by_cases h:i<s.length
   ·right;have hp:=qa.ok i key (by omega) hk;have f:=f_.BP i key;obtain⟨d,z⟩:=hq _ (bw h);have k:f_.pl i key<s[i].length:=by omega
    refine⟨(i+1,bif ah (s[i].getD (f_.pl i key) 0<x)then s[i].getD (f_.pl i key) 0 else x),by dsimp only;omega,by dsimp only;omega,by rw[<-Fo key s i h x],?_⟩
    simp only[l5,r5,gC,c8,h,aQ,aw,hp.1,hp.2,b_,aL,dB,H8 h,iH,Lib.fa,d,f,NW k,bN,cw h (by omega:s.length<=9223372036854775807)];rw[dp.n_ k];unfold ea;rw[ax];by_cases hd:s[i][f_.pl i key]<x
    ·rw[bm hd,aC hd,aw]
    ·rw[bh hd,aF hd,ax]
   ·left;have:i=s.length:=by omega
    subst this;simp only[l5,r5,gC,c8,bk,bg,ax,cX,gs]) ck (0,15) (bA _) (mS (by dsimp only;omega))
  simpa using this
end uX
namespace Mz
open _root_.Go.FG.Lib (rs)
open eV (has without gl kY vm gV o0)
open jx (eC Jb mQ sg)
open eH (B4 zer Qn SG mR vf kf JC sO BM)
theorem ok(w m:aE au)(s:aE (aE ay))(a:ay)(key:au)(y:w.length<=1048576)(hm:m.length<=1048576)(d:iV.n9 s)(hk:key.size<=140737488355328):
  c (rs w) (rs m) (rr s) a key=ao/\v (rs w) (rs m) (rr s) a key=(rs (eH.val w m s a key).1,rs (eH.val w m s a key).2.1,rr (eH.val w m s a key).2.2.1,(eH.val w m s a key).2.2.2.1,(eH.val w m s a key).2.2.2.2):=by
 refine out _ _ _ _ _ ?_;have C:=iY.ok w m s a y hm d;have H:=oI.ok w m s a y hm d;have I:=nQ.ok s a key d hk;have K:=rS.ok m key (by omega);have M:=jN.ok w key y;have N:=jN.ok m key hm;have P:=JC (a:=a) (key:=key) d;unfold vo b;simp only[ch,C.1,C.2,H.1,H.2,aw];unfold eH.val;cases hp:sg w m s a with
 |false=>rfl
 |true=>
  obtain⟨z,p2,p3,p4⟩:=BM hp;rw[oI.iq,bj];cases j:eC key with
  |false=>rfl
  |true=>
   have o:=kf j;have l6:=gV (l:=w) (k:=key);have l7:=gV (l:=m) (k:=key);simp only[aZ,ax,aw,I.1,I.2,K.1,K.2,M.1,M.2,N.1,N.2,B4,zer,Lib.cy,pc,bu];rw[b0 (n:=(without w key).length+1) (by omega) (by omega),b0 (n:=(without m key).length+1) (by omega) (by omega)];simp only[aw];cases e:has w key with
   |true=>
    have O:has m key=false:=by rw[kY];intro t;have:=(vf.1 z).2;rw[ej]at this;exact this.2.2 key (gl.1 e) key t rfl
    have X:=o0 e;rw[O,ax,aw,aC (show((without w key++[key]).length:ay)<=2 by rw[bW,bu];omega)];rfl
   |false=>
    rw[vm e];cases O:has m key with
    |true=>rfl
    |false=>
     simp only[ax];rw[show ah (((w++[key]).length:ay)<=2)=ah ((w++[key]).length<=2)by rw[bZ];omega];cases S:ah ((w++[key]).length<=2)with
     |true=>rfl
     |false=>
      have r:(w++[key]).length=3:=by have:=ur S;rw[bW,bu]at this⊢;omega
      have f:(w++[key]).getD 0 ⟨#[]⟩∈w++[key]:=sO (by omega);have V:((w++[key]).getD 0 ⟨#[]⟩).size<=30:=by
       rcases bc.1 f with h|h
       ·exact(kf (mR z (bY _ h))).2
       ·rw[a_]at h;rw[h];exact o.2
      have A:=uX.ok (dp.val s a key).1 (dp.val s a key).2 ((w++[key]).getD 0 ⟨#[]⟩) P (by omega);have i1:fU 1 ((w++[key]).length:ay) ((w++[key]).length:ay)=true:=by rw[r];rfl
      simp only[ax,aC (show(0:ay)<((w++[key]).length:ay)by omega),i1,aw,Qn,SG,zer,B4,Lib.cy,b0 (n:=m.length+1) (b:=16) (by omega) (by omega),A.1,A.2];rw[show ah ((m.length:ay)<4)=ah (m.length<4)by rw[bZ];omega];cases U:ah (m.length<4)with
      |true=>rfl
      |false=>
       have Y:m.length=4:=by have:=ur U;omega
       have u:m.getD 0 ⟨#[]⟩∈m:=sO (by omega);have h4:=(kf (mR z (bS _ u))).2;have B:=uX.ok (dp.val s a key).1 (dp.val s a key).2 (m.getD 0 ⟨#[]⟩) P (by omega);have i2:fU 1 (m.length:ay) (m.length:ay)=true:=by simp[fU];omega
       have h8:m.tail.length=3:=by rw[TQ];omega
       simp only[ax,aC (show(0:ay)<(m.length:ay)by omega),i2,aw,B4,b0 (n:=m.tail.length+1) (b:=16) (by omega) (by omega),B.1,B.2];cases ah (lY.val (dp.val s a key).1 (dp.val s a key).2 ((w++[key]).getD 0 ⟨#[]⟩)>lY.val (dp.val s a key).1 (dp.val s a key).2 (m.getD 0 ⟨#[]⟩))<;>rfl
end Mz
namespace H3
open _root_.Go.FG.Lib (rs)
open eV (without)
theorem ok(w m:aE au)(s:aE (aE ay))(a:ay)(key:au)(j:w.length<=1048576)(hm:m.length<=1048576)(k:iV.n9 s):c (rs w) (rs m) (rr s) a key=ao/\v (rs w) (rs m) (rr s) a key=(rs (without w key),rs (without m key),rr s,a):=by have d:=iY.ok w m s a j hm k;have e:=jN.ok w key j;have f:=jN.ok m key hm;exact out _ _ _ _ _ (by unfold vo b;rw[d.1,d.2,e.1,e.2,f.1,f.2];rfl)
end H3
namespace pj
open _root_.Go.FG.Lib (rc)
open fS (ll jn lid QH)
theorem ok(i0:ay)(r t u y:Row)(j:ay)(z:Row)(cl:aE Cl)(o:ay)(x:Cl)(cs:cl.Pairwise λa b=>a.id<b.id)(hn:ll cl x.id=aq)(hl:cl.length<=1048576):
  c i0 r t u y j z (rc cl) o x.id x.k x.fe x.fr x.sta x.got x.age=ao/\v i0 r t u y j z (rc cl) o x.id x.k x.fe x.fr x.sta x.got x.age=(i0,r,t,u,y,j,z,rc (jn cl x),o):=by
 refine out _ _ _ _ _ _ _ _ _ _ _ _ _ _ _ _ ?_;unfold vo b;have h2:=eL cl
 have:=tc (lid x.id) (rc cl) (λm (i:aN)=>l2 ck (λe N O P A B C H I K M S U V X Y f=>bif(ah (0<=e)&&ah (e<=(↑(bB f):ay))&&b8 (bB f+bB (aP (aT [Ck.i ak,Ck.s,Ck.i ak,Ck.i ak,Ck.i ak,Ck.s,Ck.i ak] 1) 0 [CV.i ak A,CV.s B,CV.i ak C,CV.i ak H,CV.i ak I,CV.s K,CV.i ak M])) 72)then(ai (N,S,U,V,X,O,Y,(Pu.sR f (aR e) (aP (aT [Ck.i ak,Ck.s,Ck.i ak,Ck.i ak,Ck.i ak,Ck.s,Ck.i ak] 1) 0 [CV.i ak A,CV.s B,CV.i ak C,CV.i ak H,CV.i ak I,CV.s K,CV.i ak M])),P))else(aj)) m (i:ay) i0 j o x.id x.k x.fe x.fr x.sta x.got x.age r t u y z (rc cl))
  (λa=>bif ah ((a:ay)<=((rc cl).length:ay))then ai (i0,r,t,u,y,j,z,Pu.sR (rc cl) a [Cl.row x],o)else aj)
  (λm i h hp=>by
   have d:ah (bN (av (rc cl) i 0)<x.id)=true:=by rw[cz h];exact hp
   simp only[l2,r2,c8,h,aQ,b_,aL,aw,dB,d,cw h (by omega:(rc cl).length<=9223372036854775807)])
  (λm i h hp=>by
   have d:ah (bN (av (rc cl) i 0)<x.id)=false:=by rw[cz h];exact hp
   simp only[l2,r2,c8,h,aQ,b_,aL,bj,gh,aw,ax,dB,d,gm,bu,b0 (n:=(rc cl).length+1) (b:=72) (by omega) (by omega)];rfl)
  (λm=>by simp only[l2,r2,c8,bk,bg,aQ,b_,aL,bj,gh,aw,ax,dB,gm,bu,b0 (n:=(rc cl).length+1) (b:=72) (by omega) (by omega)];rfl) ck ez
 refine this.trans ?_;have h1:=DO (lid x.id) (rc cl);rw[lJ,aw];unfold Pu.sR;rw[QH cs hn]
end pj
namespace PM
open _root_.Go.FG.Lib (rs rf rc En el)
open eV (without)
open jx (eC)
open jm (i_)
open fS (hit kZ put G2 Ng Gm ll jn uq sf Ab)
open fX (fN)
open Az (ib rj)
def res(q:Px×ay):ay×Row×Row×Row×Row×ay×Row×Row×ay×ay:=(q.1.now,re q.1.en,rs q.1.w,rs q.1.m,rr q.1.s,q.1.a,rf q.1.fe,rc q.1.cl,q.1.hits,q.2)
theorem HK(fe:aE Fe)(key:au):rf fe++aP (aT [Ck.s,Ck.s,Ck.i ak,Ck.i ak,Ck.i ak] 1) 0 [CV.s key,CV.s (az #[]),CV.i ak 1,CV.i ak 0,CV.i ak 0]=rf (fe++[uq key]):=by unfold Lib.rf;rw[cO];rfl
theorem Ah{i:aN}(hi:i<p.en.length)(a:ib p):bE (p.now-(el p.en i).st)=p.now-(el p.en i).st:=by have d:=a.now;have e:=(gu.FN (a.en _ (jt hi))).2.1;exact dq (by omega) (by omega)
theorem ok(p:Px)(id:ay)(key:au)(hp:p.Fit 1048576)(hv:key.size<=140737488355328):c p.now (re p.en) (rs p.w) (rs p.m) (rr p.s) p.a (rf p.fe) (rc p.cl) p.hits id key=ao/\v p.now (re p.en) (rs p.w) (rs p.m) (rr p.s) p.a (rf p.fe) (rc p.cl) p.hits id key=res (fS.ask p id key):=by
 have h1:=n7.ok p hp;have h2:=Mx.ok p hp;have M:=hp.cl;have O:=hp.fe;have ht:=hp.en;have I:iV.n9 p.s:=⟨hp.s.1,hp.s.2.1⟩
 have h3:=Mw.ok p.now (re p.en) (rs p.w) (rs p.m) (rr p.s) p.a (rf p.fe) p.cl p.hits id M;refine out _ _ _ _ _ _ _ _ _ _ _ ?_;unfold vo b fS.ask;simp only[ch,h1.1,h1.2,h2.1,h2.2,aw];cases hf:i_ p with
 |false=>rfl
 |true=>
 have K:ib p:=rj.1 hf;rw[aZ,ax,bj,show j4.v id 1 9=ah (1<=id/\id<=9)from fc.et _ _ _];cases hid:ah (1<=id/\id<=9)with
 |false=>rfl
 |true=>
 rw[aZ,ax,bj,oI.iq];cases he:eC key with
 |false=>rfl
 |true=>
 have hu:=eH.kf he;rw[aZ,ax,bj,h3.1,aw,h3.2];cases hc:ll p.cl id with
 |true=>rfl
 |false=>
 rw[ax,bG,bj,eL];by_cases h6:p.cl.length=6
 ·rw[aC (show(p.cl.length:ay)=6 by omega),aw,aF (show¬p.cl.length<6 by omega)];rfl
 have hr:=K.cll;rw[aF (show¬(p.cl.length:ay)=6 by omega),ax,aC (show p.cl.length<6 by omega),aw];have h4:=vU.ok (re p.en) key (by rw[dv];omega);have u:=Is.ok p.now (re p.en) (rs p.w) (rs p.m) (rr p.s) p.a (rf p.fe) (rc p.cl) p.hits key (by rw[dI];omega);have V:=Mz.ok p.w p.m p.s p.a key hp.w hp.m I (by omega);have B:=nQ.ok p.s p.a key I (by omega);have X:=H3.ok p.w p.m p.s p.a key hp.w hp.m I;have y:=Cj.ok (re p.en) key (fX.P8 _) (by rw[dv];omega);rw[fX.E']at y;have o:=λ(i0:ay) (q1 q2 q3 q4:Row) (i5:ay) (q6:Row) (i8:ay) (x:Cl) (hx:x.id=id)=>pj.ok i0 q1 q2 q3 q4 i5 q6 p.cl i8 x K.cs (by rw[hx];exact hc) M;rw[h4.1,aw,h4.2,dv];have hh:p.hits<=1000000000:=K.hits.2;have abe:0<=p.hits:=K.hits.1;have hy:=K.fl;have C:ea aq (bE (p.hits+1)) 1000000000=bif ah (p.hits<1000000000)then p.hits+1 else p.hits:=by
  rw[dq (by omega) (by omega)];unfold ea;rw[ax];by_cases h:p.hits<1000000000
  ·rw[aC h,aw,bh (by omega)]
  ·rw[aF h,ax,bm (by omega)];omega
 have hb:∀i (hi:i<p.fe.length),p_.p (rf p.fe) key i=Gm key p.fe[i]:=λi hi=>by unfold p_.p Gm GC.v;rw[Ga hi,WH hi,eT hi];simp only[br,bN,eG];cases ah (p.fe[i].k=key)<;>rfl
 have N:∀i (hi:i<p.en.length),vU.p (re p.en) key i=ah (p.en[i].k=key):=λi hi=>by unfold vU.p;rw[oy hi,eT hi];exact eG
 have wn:∀n:aN,n<=1048576->bE ((n:ay)+1)=(n:ay)+1:=λn hn=>dq (by omega) (by omega);have U:∀(n:aN) (fe:aE Fe),n<fe.length->br (av (rf fe) n 1)=(el fe n).t:=λn fe hn=>by rw[DT hn];rfl
 have P:b8 (p.fe.length+1) 56=true:=b0 (by omega) (by omega);have S:∀key:au,bB (aP (aT [Ck.s,Ck.s,Ck.i ak,Ck.i ak,Ck.i ak] 1) 0 [CV.s key,CV.s (az #[]),CV.i ak 1,CV.i ak 0,CV.i ak 0])=1:=λ_=>rfl;rcases Ab p.fe (Gm key) _ hb with ⟨f1,_,A⟩|⟨j,Y,f1,_,A⟩
 ·have A:Ng p.fe key=none:=A;rw[dI,f1]at u;rcases Ab p.en (λe=>ah (e.k=key)) _ N with ⟨H,r,_⟩|⟨i,hi,H,r,_⟩
  ·have r:G2 p.en key=none:=r;rw[H,r];unfold kZ;rw[A];dsimp only;by_cases ha:p.fe.length=20
   ·rw[aF (show¬p.fe.length<20 by omega)];simp only[show ah ((-1:ay)≥0)=aq from rfl,ax,u.1,u.2,aw,show ah ((-1:ay)<0)=ao from rfl,dI,aC (show(p.fe.length:ay)=20 by omega)];rfl
   ·have d:=o p.now (re p.en) (rs p.w) (rs p.m) (rr (dp.val p.s p.a key).1) (dp.val p.s p.a key).2 (rf (p.fe++[uq key])) p.hits ⟨id,key,(p.fe.length:ay)+1,0,1,(el (p.fe++[uq key]) p.fe.length).t,0⟩ rfl;dsimp only at d;rw[aC (show p.fe.length<20 by omega)];simp only[show ah ((-1:ay)≥0)=aq from rfl,ax,u.1,u.2,aw,show ah ((-1:ay)<0)=ao from rfl,dI,aF (show¬(p.fe.length:ay)=20 by omega),B.1,B.2,S,P,HK,bW,bu,dB,c8,aC (show p.fe.length<p.fe.length+1 by omega),U p.fe.length (p.fe++[uq key]) (by simp),wn _ O,d.1,d.2];rfl
  ·have r:G2 p.en key=ai (el p.en i):=r;rw[H,r];have f:Da.v (br (av (re p.en) i 0)) (bN (av (re p.en) i 1)) (bN (av (re p.en) i (1+1))) (br (av (re p.en) i (1+1+1))) p.now=sf (el p.en i) p.now:=by rw[oy hi,rF hi,rG hi,rH hi];rfl
   have g1:bN (av (re p.en) i 1)=(el p.en i).st:=by rw[rF hi];rfl
   have g3:br (av (re p.en) i (1+1+1))=(el p.en i).bo:=by rw[rH hi];rfl
   dsimp only;cases z:sf (el p.en i) p.now with
   |true=>
    have g0:br (av (re p.en) i 0)=(el p.en i).k:=by rw[oy hi];rfl
    have g2:bN (av (re p.en) i (1+1))=(el p.en i).li:=by rw[rG hi];rfl
    have f:Da.v (el p.en i).k (el p.en i).st (el p.en i).li (el p.en i).bo p.now=true:=z;have hw:=Ah (p:=p) hi K;have d:=o p.now (re p.en) (rs (eH.val p.w p.m p.s p.a key).1) (rs (eH.val p.w p.m p.s p.a key).2.1) (rr (eH.val p.w p.m p.s p.a key).2.2.1) (eH.val p.w p.m p.s p.a key).2.2.2.1 (rf p.fe) p.hits ⟨id,key,0,(el p.en i).st,2,(el p.en i).bo,p.now-(el p.en i).st⟩ rfl;dsimp only at d;simp only[aC (show((i:aN):ay)≥0 by omega),b_,c8,hi,aQ,aL,aw,dB,g0,g1,g2,g3,f,V.1,V.2,hw,d.1,d.2,C,dv];rfl
   |false=>
    rw[z]at f;unfold kZ;rw[A];dsimp only;by_cases ha:p.fe.length=20
    ·rw[aF (show¬p.fe.length<20 by omega)];simp only[aC (show((i:aN):ay)≥0 by omega),b_,c8,hi,aQ,aL,aw,ax,dB,dv,f,u.1,u.2,show ah ((-1:ay)<0)=ao from rfl,dI,aC (show(p.fe.length:ay)=20 by omega)];rfl
    ·have d:=o p.now (re (fN p.en key)) (rs (without p.w key)) (rs (without p.m key)) (rr (dp.val p.s p.a key).1) (dp.val p.s p.a key).2 (rf (p.fe++[uq key])) p.hits ⟨id,key,(p.fe.length:ay)+1,0,1,(el (p.fe++[uq key]) p.fe.length).t,0⟩ rfl;dsimp only at d;rw[aC (show p.fe.length<20 by omega)];simp only[aC (show((i:aN):ay)≥0 by omega),b_,dv,hi,aQ,aL,f,X.1,X.2,y.1,y.2,ax,u.1,u.2,aw,show ah ((-1:ay)<0)=ao from rfl,dI,aF (show¬(p.fe.length:ay)=20 by omega),B.1,B.2,S,P,HK,bW,bu,dB,c8,aC (show p.fe.length<p.fe.length+1 by omega),U p.fe.length (p.fe++[uq key]) (by simp),wn _ O,d.1,d.2];rfl
 ·have A:Ng p.fe key=ai j:=A;rw[dI,f1]at u;have nj:ah (((j:aN):ay)<0)=false:=aF (by omega);rcases Ab p.en (λe=>ah (e.k=key)) _ N with ⟨H,r,_⟩|⟨i,hi,H,r,_⟩
  ·have r:G2 p.en key=none:=r;rw[H,r];unfold kZ;rw[A];dsimp only;have d:=o p.now (re p.en) (rs p.w) (rs p.m) (rr (dp.val p.s p.a key).1) (dp.val p.s p.a key).2 (rf p.fe) p.hits ⟨id,key,(j:ay)+1,0,1,(el p.fe j).t,0⟩ rfl;dsimp only at d;simp only[show ah ((-1:ay)≥0)=aq from rfl,ax,u.1,u.2,aw,nj,dI,B.1,B.2,dB,b_,c8,Y,aQ,aL,U j p.fe Y,wn j (by omega),d.1,d.2];rfl
  ·have r:G2 p.en key=ai (el p.en i):=r;rw[H,r];have f:Da.v (br (av (re p.en) i 0)) (bN (av (re p.en) i 1)) (bN (av (re p.en) i (1+1))) (br (av (re p.en) i (1+1+1))) p.now=sf (el p.en i) p.now:=by rw[oy hi,rF hi,rG hi,rH hi];rfl
   have g1:bN (av (re p.en) i 1)=(el p.en i).st:=by rw[rF hi];rfl
   have g3:br (av (re p.en) i (1+1+1))=(el p.en i).bo:=by rw[rH hi];rfl
   dsimp only;cases z:sf (el p.en i) p.now with
   |true=>
    have g0:br (av (re p.en) i 0)=(el p.en i).k:=by rw[oy hi];rfl
    have g2:bN (av (re p.en) i (1+1))=(el p.en i).li:=by rw[rG hi];rfl
    have f:Da.v (el p.en i).k (el p.en i).st (el p.en i).li (el p.en i).bo p.now=true:=z;have hw:=Ah (p:=p) hi K;have d:=o p.now (re p.en) (rs (eH.val p.w p.m p.s p.a key).1) (rs (eH.val p.w p.m p.s p.a key).2.1) (rr (eH.val p.w p.m p.s p.a key).2.2.1) (eH.val p.w p.m p.s p.a key).2.2.2.1 (rf p.fe) p.hits ⟨id,key,0,(el p.en i).st,2,(el p.en i).bo,p.now-(el p.en i).st⟩ rfl;dsimp only at d;simp only[aC (show((i:aN):ay)≥0 by omega),b_,c8,hi,aQ,aL,aw,dB,g0,g1,g2,g3,f,V.1,V.2,hw,d.1,d.2,C,dv];rfl
   |false=>rw[z]at f;unfold kZ;rw[A];dsimp only;have d:=o p.now (re (fN p.en key)) (rs (without p.w key)) (rs (without p.m key)) (rr (dp.val p.s p.a key).1) (dp.val p.s p.a key).2 (rf p.fe) p.hits ⟨id,key,(j:ay)+1,0,1,(el p.fe j).t,0⟩ rfl;dsimp only at d;simp only[aC (show((i:aN):ay)≥0 by omega),b_,dv,hi,aQ,aL,f,X.1,X.2,y.1,y.2,ax,u.1,u.2,aw,nj,dI,B.1,B.2,dB,c8,Y,U j p.fe Y,wn j (by omega),d.1,d.2];rfl
end PM
namespace vN
open _root_.Go.FG.Lib (el En)
open fS (G2)
def res(o:aA En):au×ay×ay×au×aY:=match o with|some e=>(e.k,e.st,e.li,e.bo,ao)|none=>(⟨#[]⟩,0,0,⟨#[]⟩,aq)
theorem ok(now:ay)(en:aE En)(f j o:Row)(r:ay)(s t:Row)(u:ay)(key:au)(hl:en.length<=1048576):c now (re en) f j o r s t u key=ao/\v now (re en) f j o r s t u key=res (G2 en key):=by
 refine out _ _ _ _ _ _ _ _ _ _ ?_;unfold vo b G2
 have go:∀(d i n:aN),en.length-i<=d->i<=en.length->d<n->
   l2 ck (λ(_:au) (y:aY) (_ _:ay) (_ _ _ _:Row) (_:ay) (_ _:Row) (_:ay) (z:au) (A B:ay) (C:au)=>ai (z,A,B,C,y)) (λ(_:au) (_:aY) (_ _:ay) (_ _ _ _:Row) (_:ay) (_ _:Row) (_:ay) (_:au) (_ _:ay) (_:au)=>ai (((az #[]):au),0,0,((az #[]):au),aq)) n key aq (i:ay) now (re en) f j o r s t u (az #[]) 0 0 (az #[])=ai (res ((en.drop i).find? λe=>ah (e.k=key))):=by
  intro d
  induction d with
  |zero=>
   intro i n H I K;obtain⟨n,rfl⟩:∃a,n=a+1:=⟨n-1,by omega⟩
   have:i=en.length:=by omega
   subst this;simp only[l2,r2,dv,c8,bk,bg,ax,cX];rfl
  |succ d ih=>
   intro i n H I K;obtain⟨n,rfl⟩:∃a,n=a+1:=⟨n-1,by omega⟩
   by_cases hi:i<en.length
   ·rw[cq hi];have g:=ih (i+1) n (by omega) hi (by omega);simp only[l2,r2,dv,c8,hi,aQ,b_,aL,aw,dB,oy hi,rF hi,rG hi,rH hi,br,bN,eG,eT hi,cw hi (by omega:en.length<=9223372036854775807)];cases hk:ah (en[i].k=key)with
    |true=>rw[aw,List.find?_cons_of_pos (p:=λe:En=>ah (e.k=key)) hk];rfl
    |false=>rw[ax,Ik (p:=λe:En=>ah (e.k=key)) (by simp[hk])];exact g
   ·have:i=en.length:=by omega
    subst this;simp only[l2,r2,dv,c8,bk,bg,ax,cX];rfl
 have:=go en.length 0 ck (by omega) (bA _) ez;rw[eK]at this;exact this
end vN
namespace uh
open _root_.Go.FG.Lib (rs)
open eV (without)
theorem ok(w m:aE au)(s:aE (aE ay))(a:ay)(key:au)(k:w.length<=1048576)(hm:m.length<=1048576)(j:iV.n9 s):c (rs w) (rs m) (rr s) a key=ao/\v (rs w) (rs m) (rr s) a key=(rs (without w key),rs (without m key),rr s,a):=by have d:=nG.ok s a j;have e:=oK.ok w key k;have f:=oK.ok m key hm;exact out _ _ _ _ _ (by unfold vo b;rw[d.1,d.2,e.1,e.2,f.1,f.2];rfl)
end uh
namespace pL
open _root_.Go.FG.Lib (el oy rF rG rH En)
open fX (fN)
theorem ok(l:aE En)(k:au)(hl:l.length<=2097152):c (re l) k=ao/\v (re l) k=re (fN l k):=by
 refine out _ _ ?_;unfold vo b;have key:=im l.length (λn (i:aN) (x:Row)=>l3 ck (λ(_:Row) (_:au) (_:ay) (d:Row)=>ai d) n (re l) k (i:ay) x) (λi=>re (fN (l.take i) k)) (ai (re (fN l k))) (λn i hi=>by
  have a:(fN (l.take i) k).length<=i:=by refine cf (d_ ..) ?_;rw[du];omega
  have e:fN (l.take (i+1)) k=fN (l.take i) k++(bif !decide ((el l i).k=k)then [el l i]else []):=by unfold fN;rw[bO hi,fy,eT hi];cases hd:ah (l[i].k=k)<;>simp[hd]
  rw[e];simp only[l3,r3,dv,c8,hi,aQ,b_,aL,aw,dB,oy hi,rF hi,rG hi,rH hi,br,bN,eG,pc,bu,cw hi (by omega:l.length<=9223372036854775807)];rw[b0 (by omega) (by omega),aw];cases ah ((el l i).k=k)with
  |true=>rw[aZ,ax,ax,cZ]
  |false=>rw[bG,aw,aw];unfold Lib.re;rw[cO];rfl) (λn=>by
  simp only[l3,r3,dv,c8,bk,bg,ax,cE]) ck 0 (bA _) ez
 exact key
end pL
namespace lh
open _root_.Go.FG.Lib (rc el)
open fS (jn)
theorem tail(l:aE Cl)(x:Cl)(hl:l.length<=1048576)(c0:aE Cl)(e:c0.length<=1048577):
  l9 ck (λ(_:Row) (_ _:ay) (_:au) (_ _ _:ay) (_:au) (_:ay) (y:Row)=>ai y) ck (rc l) 0 x.id x.k x.fe x.fr x.sta x.got x.age (rc c0)=ai (rc (c0++l.filter λy=>ah (y.id>x.id))):=by
 refine Bj l (λy=>ah (y.id>x.id)) (λm (i:aN) acc=>l9 ck (λ(_:Row) (_ _:ay) (_:au) (_ _ _:ay) (_:au) (_:ay) (y:Row)=>ai y) m (rc l) (i:ay) x.id x.k x.fe x.fr x.sta x.got x.age (rc acc)) (λacc=>ai (rc acc)) c0
  (λm i acc h d hp=> ?_) (λm i acc h hp=> ?_) (λm acc=> ?_) ck ez
 ·have a:ah (l[i].id>x.id)=true:=hp;simp only[l9,r9,eL,c8,h,aQ,b_,aL,aw,dB,rc0 h,rc1 h,rc2 h,rc3 h,rc4 h,rc5 h,rc6 h,br,bN,a,pc,bu,cw h (by omega:l.length<=9223372036854775807),b0 (n:=acc.length+1) (b:=72) (by omega) (by omega)];unfold Lib.rc;rw[cO];rfl
 ·have a:ah (l[i].id>x.id)=false:=hp;simp only[l9,r9,eL,c8,h,aQ,b_,aL,aw,ax,dB,rc0 h,bN,a,cw h (by omega:l.length<=9223372036854775807)]
 ·simp only[l9,r9,eL,c8,bk,bg,ax]
theorem ok(l:aE Cl)(x:Cl)(hl:l.length<=1048576):c (rc l) x.id x.k x.fe x.fr x.sta x.got x.age=ao/\v (rc l) x.id x.k x.fe x.fr x.sta x.got x.age=rc (jn l x):=by
 refine out _ _ _ _ _ _ _ _ ?_;unfold vo b
 have key:=Bj l (λy=>ah (y.id<x.id))
  (λm (i:aN) acc=>l3 ck (λ(z:Row) (_ d:ay) (e:au) (f j o:ay) (r:au) (t:ay) (u:Row)=>bif(b8 (bB u+bB (aP (aT [Ck.i ak,Ck.s,Ck.i ak,Ck.i ak,Ck.i ak,Ck.s,Ck.i ak] 1) 0 [CV.i ak d,CV.s e,CV.i ak f,CV.i ak j,CV.i ak o,CV.s r,CV.i ak t])) 72)then(l9 ck (λ(_:Row) (_ _:ay) (_:au) (_ _ _:ay) (_:au) (_:ay) (A:Row)=>ai A) ck z 0 d e f j o r t (u++aP (aT [Ck.i ak,Ck.s,Ck.i ak,Ck.i ak,Ck.i ak,Ck.s,Ck.i ak] 1) 0 [CV.i ak d,CV.s e,CV.i ak f,CV.i ak j,CV.i ak o,CV.s r,CV.i ak t]))else(aj)) m (rc l) (i:ay) x.id x.k x.fe x.fr x.sta x.got x.age (rc acc))
  (λacc=>bif b8 (acc.length+1) 72 then l9 ck (λ(_:Row) (_ _:ay) (_:au) (_ _ _:ay) (_:au) (_:ay) (y:Row)=>ai y) ck (rc l) 0 x.id x.k x.fe x.fr x.sta x.got x.age (rc (acc++[x]))else aj) []
  (λm i acc h B hp=>by
   have a:ah (l[i].id<x.id)=true:=hp;have B:acc.length<=i:=by simpa using B
   simp only[l3,r3,eL,c8,h,aQ,b_,aL,aw,dB,rc0 h,rc1 h,rc2 h,rc3 h,rc4 h,rc5 h,rc6 h,br,bN,a,pc,bu,cw h (by omega:l.length<=9223372036854775807),b0 (n:=acc.length+1) (b:=72) (by omega) (by omega)];unfold Lib.rc;rw[cO];rfl)
  (λm i acc h hp=>by have a:ah (l[i].id<x.id)=false:=hp;simp only[l3,r3,eL,c8,h,aQ,b_,aL,aw,ax,dB,rc0 h,bN,a,cw h (by omega:l.length<=9223372036854775807)])
  (λm acc=>by simp only[l3,r3,eL,c8,bk,bg,ax,pc,bu];unfold Lib.rc;rw[cO];rfl) ck ez
 refine key.trans ?_;have C:=d_ (λy:Cl=>ah (y.id<x.id)) l;rw[eJ,b0 (by omega) (by omega),aw,tail l x hl _ (by simp;omega)];unfold jn;rw[ca]
end lh
namespace ug
theorem eq(k:au)(s l:ay)(b:au)(n:ay):Da.v k s l b n=ug.v k s l b n:=JY.eq k s l b n
end ug
namespace vJ
open _root_.Go.FG.Lib (rs rf rc En el)
open eV (without)
open jx (eC)
open jm (i_)
open np (lW)
open fS (hit kZ put G2 Ng Gm ll jn uq sf)
open fX (fN)
open Az (ib rj)
open PM (res Ah HK)
theorem find(P S:ay->au->ay->ay->ay->Row->Row->Row->Row->ay->Row->Row->ay->ay->ay->ay->ay->ay->ay->Row->Row->Row->Row->Row->Row->aA R)(cl:aE Cl)(hl:cl.length<=1048576)(id:ay)(key:au)(U O:ay)(K M N o:Row)(B:ay)(r:Row)(C H HV I a f k:ay)(s t u y z A:Row):
  (ll cl id=aq->l5 ck P S ck id key U 0 O K M N o B r (rc cl) C H HV I a f k s t u y z A=S id key U (cl.length:ay) O K M N o B r (rc cl) C H HV I a f k s t u y z A)/\
  (ll cl id=ao->∃j:ay,l5 ck P S ck id key U 0 O K M N o B r (rc cl) C H HV I a f k s t u y z A=P id key 1 j O K M N o B r (rc cl) C a f k a f k s t u y z A):=by
 have go:∀(d i n:aN),cl.length-i<=d->i<=cl.length->d<n->
   (((cl.drop i).any λx=>ah (x.id=id))=aq->l5 ck P S n id key U (i:ay) O K M N o B r (rc cl) C H HV I a f k s t u y z A=S id key U (cl.length:ay) O K M N o B r (rc cl) C H HV I a f k s t u y z A)/\
   (((cl.drop i).any λx=>ah (x.id=id))=ao->∃j:ay,l5 ck P S n id key U (i:ay) O K M N o B r (rc cl) C H HV I a f k s t u y z A=P id key 1 j O K M N o B r (rc cl) C a f k a f k s t u y z A):=by
  intro d
  induction d with
  |zero=>
   intro i n h1 h2 h3;obtain⟨n,rfl⟩:∃V,n=V+1:=⟨n-1,by omega⟩
   have:i=cl.length:=by omega
   subst this;rw[cX];exact⟨λ_=>by simp only[l5,r5,eL,c8,bk,bg,ax],λh=>by cases h⟩
  |succ d ih=>
   intro i n h1 h2 h3;obtain⟨n,rfl⟩:∃V,n=V+1:=⟨n-1,by omega⟩
   by_cases hi:i<cl.length
   ·rw[cq hi,List.any_cons];obtain⟨X,Y⟩:=ih (i+1) n (by omega) hi (by omega);have e:l5 ck P S (n+1) id key U (i:ay) O K M N o B r (rc cl) C H HV I a f k s t u y z A=bif ah (cl[i].id=id)then P id key 1 (i:ay) O K M N o B r (rc cl) C a f k a f k s t u y z A else l5 ck P S n id key U ((i+1:aN):ay) O K M N o B r (rc cl) C H HV I a f k s t u y z A:=by simp only[l5,r5,eL,c8,hi,aQ,b_,aL,aw,dB,rc0 hi,bN,cw hi (by omega:cl.length<=9223372036854775807)]
    rw[e];cases hc:ah (cl[i].id=id)with
    |true=>exact⟨λh=>by simp at h,λ_=>⟨i,rfl⟩⟩
    |false=>rw[nO,ax];exact⟨X,Y⟩
   ·have:i=cl.length:=by omega
    subst this;rw[cX];exact⟨λ_=>by simp only[l5,r5,eL,c8,bk,bg,ax],λh=>by cases h⟩
 have:=go cl.length 0 ck (by omega) (bA _) ez;rw[eK]at this;exact this
def sc(key:au):aE Fe->aN->ay×au->ay×au
 |[],_,s=>s|x::r,i,s=>sc key r (i+1) (bif Gm key x then((i:ay)+1,x.t)else s)
theorem scan(k0:au->aY->ay->ay->Row->Row->Row->Row->ay->Row->Row->ay->ay->ay->ay->ay->ay->ay->ay->au->ay->ay->ay->au->ay->Row->Row->Row->Row->Row->Row->aA R)(fe:aE Fe)(hl:fe.length<=1048576)(key:au)(h0:aY)(K:ay)(A B C H:Row)(M:ay)(I:Row)(N O P S U V X Y:ay)(t:au)(u y z:ay)(a e f j o r:Row):
  UO ck k0 ck key h0 0 K A B C H M (rf fe) I N O P S U V X Y t 0 u y (az #[]) z a e f j o r=k0 key h0 (fe.length:ay) K A B C H M (rf fe) I N O P S U V X Y t (sc key fe 0 (0,⟨#[]⟩)).1 u y (sc key fe 0 (0,⟨#[]⟩)).2 z a e f j o r:=by
 have go:∀(d i n:aN) (s:ay×au),fe.length-i<=d->i<=fe.length->d<n->
   UO ck k0 n key h0 (i:ay) K A B C H M (rf fe) I N O P S U V X Y t s.1 u y s.2 z a e f j o r=k0 key h0 (fe.length:ay) K A B C H M (rf fe) I N O P S U V X Y t (sc key (fe.drop i) i s).1 u y (sc key (fe.drop i) i s).2 z a e f j o r:=by
  intro d
  induction d with
  |zero=>
   intro i n s h1 h2 h3;obtain⟨n,rfl⟩:∃n',n=n'+1:=⟨n-1,by omega⟩
   have:i=fe.length:=by omega
   subst this;simp only[UO,r22,dI,c8,bk,bg,ax,cX,sc]
  |succ d ih=>
   intro i n s h1 h2 h3;obtain⟨n,rfl⟩:∃n',n=n'+1:=⟨n-1,by omega⟩
   by_cases hi:i<fe.length
   ·rw[cq hi];unfold sc;rw[<-ih (i+1) n _ (by omega) hi (by omega)];have w:=cw hi (by omega:fe.length<=9223372036854775807);have w2:((i+1:aN):ay)=(i:ay)+1:=by omega
    simp only[UO,r22,dI,c8,hi,aQ,b_,aL,aw,dB,Ga hi,DT hi,yS hi,br,bN,eG,w,eT hi];unfold Gm;cases ah (fe[i].k=key)<;>cases ah (fe[i].sta=1)<;>simp only[gh,vv,aL,kQ,aw,ax,w2]
   ·have:i=fe.length:=by omega
    subst this;simp only[UO,r22,dI,c8,bk,bg,ax,cX,sc]
 have:=go fe.length 0 ck (0,⟨#[]⟩) (by omega) (bA _) ez;rw[eK]at this;exact this
theorem Wt(key:au):∀(l:aE Fe) (i:aN) (s:ay×au),(∀x∈l,Gm key x=aq)->sc key l i s=s:=by
 intro l;induction l with
 |nil=>intro i s _;rfl
 |cons x l ih=>intro i s h;unfold sc;rw[h x (by simp),ax];exact ih _ _ λy a=>h y (by simp[a])
theorem acq(hp:fe.Pairwise λf g=>lW g f=aq)(key:au):sc key fe 0 (0,⟨#[]⟩)=match Ng fe key with|some j=>((j:ay)+1,(el fe j).t)|none=>(0,⟨#[]⟩):=by
 have go:∀(l:aE Fe) (i:aN),l.Pairwise (λf g=>lW g f=aq)->sc key l i (0,⟨#[]⟩)=match l.findIdx? (Gm key)with|some j=>(((i+j:aN):ay)+1,(el l j).t)|none=>(0,⟨#[]⟩):=by
  intro l;induction l with
  |nil=>intro i _;rfl
  |cons x l ih=>
   intro i h;rw[p8]at h;unfold sc;rw[List.findIdx?_cons];cases hq:Gm key x with
   |true=>
    have d:∀y∈l,Gm key y=false:=λy e=>by
     have a:=h.1 y e;unfold Gm at hq⊢;unfold lW at a;simp only[aM,bf]at hq;rw[hq.1,hq.2]at a;simp only[Bool.and_eq_false_iff,eR]at a⊢;rcases a with a|a
     ·exact .inr a
     ·rcases a with a|a
      ·exact cJ trivial a
      ·exact .inl a
    rw[aw,Wt key l _ _ d];rfl
   |false=>
    rw[ax,ih (i+1) h.2];cases l.findIdx? (Gm key)with
    |none=>rfl
    |some j=>simp only[db,if_false,hJ,show i+1+j=i+(j+1)by omega];rfl
 have:=go fe 0 hp;unfold Ng;rw[this];cases fe.findIdx? (Gm key)with
 |none=>rfl
 |some j=>dsimp only;rw[bV]
theorem ok(p:Px)(id:ay)(key:au)(hp:p.Fit 1048576)(hb:key.size<=140737488355328):c p.now (re p.en) (rs p.w) (rs p.m) (rr p.s) p.a (rf p.fe) (rc p.cl) p.hits id key=ao/\v p.now (re p.en) (rs p.w) (rs p.m) (rr p.s) p.a (rf p.fe) (rc p.cl) p.hits id key=res (fS.ask p id key):=by
 have h1:=kt.ok p hp;have h2:=jm.ok p hp;have y:=hp.cl;have B:=hp.fe;have S:=hp.en;have z:iV.n9 p.s:=⟨hp.s.1,hp.s.2.1⟩
 refine out _ _ _ _ _ _ _ _ _ _ _ ?_;unfold vo b fS.ask;simp only[ch,h1.1,h1.2,h2.1,h2.2,aw];cases Y:i_ p with
 |false=>rfl
 |true=>
 have I:ib p:=rj.1 Y;rw[aZ,ax,bj,show jX.v id 1 9=ah (1<=id/\id<=9)from fc.et _ _ _];cases hid:ah (1<=id/\id<=9)with
 |false=>rfl
 |true=>
 rw[aZ,ax,bj,show sw.v key=eC key from fc.et _ _ _];cases V:eC key with
 |false=>rfl
 |true=>
 have ha:=eH.kf V;rw[aZ,ax,bj,eL];have h3:=I.cll;by_cases h6:p.cl.length=6
 ·rw[aC (show(p.cl.length:ay)≥6 by omega),aw,aF (show¬p.cl.length<6 by omega),vv];rfl
 rw[aF (show¬(p.cl.length:ay)≥6 by omega),ax,aC (show p.cl.length<6 by omega),gh];cases C:ll p.cl id with
 |true=>obtain⟨j,f⟩:=(find _ _ p.cl y id key 0 p.now (re p.en) (rs p.w) (rs p.m) (rr p.s) p.a (rf p.fe) p.hits 0 0 0 p.now p.a p.hits (re p.en) (rs p.w) (rs p.m) (rr p.s) (rf p.fe) (rc p.cl)).2 C;refine f.trans ?_;rfl
 |false=>
 refine((find _ _ p.cl y id key 0 p.now (re p.en) (rs p.w) (rs p.m) (rr p.s) p.a (rf p.fe) p.hits 0 0 0 p.now p.a p.hits (re p.en) (rs p.w) (rs p.m) (rr p.s) (rf p.fe) (rc p.cl)).1 C).trans ?_;rw[bG,aw];have h4:=vN.ok p.now p.en (rs p.w) (rs p.m) (rr p.s) p.a (rf p.fe) (rc p.cl) p.hits key S;have h7:=eH.ok p.w p.m p.s p.a key hp.w hp.m z (by omega);have u:=dp.ok p.s p.a key z (by omega);have O:=uh.ok p.w p.m p.s p.a key hp.w hp.m z;have r:=pL.ok p.en key (by omega);have d:=λx:Cl=>lh.ok p.cl x y;have abe:=I.hits;have hc:=I.fl;have N:=acq I.ap key;have K:b8 (p.fe.length+1) 56=true:=b0 (by omega) (by omega);have M:∀key:au,bB (aP (aT [Ck.s,Ck.s,Ck.i ak,Ck.i ak,Ck.i ak] 1) 0 [CV.s key,CV.s (az #[]),CV.i ak 1,CV.i ak 0,CV.i ak 0])=1:=λ_=>rfl;have A:(el (p.fe++[uq key]) p.fe.length).t=⟨#[]⟩:=by rw[eT (by simp),List.getElem_append_right (by omega)];simp[uq]
 rw[h4.1,h4.2,aw];cases he:G2 p.en key with
 |some e=>
  have H:e∈p.en:=p7 he;obtain⟨i,hi,U⟩:=c7 H;dsimp only[vN.res];rw[aw,<-ug.eq,show Da.v e.k e.st e.li e.bo p.now=sf e p.now from rfl];cases h5:sf e p.now with
  |true=>
   have hw:bE (p.now-e.st)=p.now-e.st:=by have:=Ah (p:=p) hi I;rwa[eT hi,U]at this
   have f:=d ⟨id,key,0,e.st,2,e.bo,p.now-e.st⟩;dsimp only at f;rw[aw,h7.1,h7.2,aw,aw,hw,f.1,f.2,aw,aw];unfold res hit;cases hh:ah (p.hits<1000000000)with
   |true=>rw[bf]at hh;rw[aw,dq (by omega) (by omega)];rfl
   |false=>rfl
  |false=>
   rw[ax,ax];refine(scan _ p.fe B key ao p.now (re p.en) (rs p.w) (rs p.m) (rr p.s) p.a (rc p.cl) p.hits 0 0 0 p.now p.a p.hits id key 0 1 0 (re p.en) (rs p.w) (rs p.m) (rr p.s) (rf p.fe) (rc p.cl)).trans ?_;rw[N];unfold kZ;cases X:Ng p.fe key with
   |none=>
    dsimp only;by_cases P:p.fe.length=20
    ·rw[aF (show¬p.fe.length<20 by omega)];simp only[aQ,aw,dI,aC (show(p.fe.length:ay)≥20 by omega)];rfl
    ·rw[aC (show p.fe.length<20 by omega)];have f:=d ⟨id,key,(p.fe.length:ay)+1,0,1,⟨#[]⟩,0⟩;dsimp only at f;have o:((p.fe.length+1:aN):ay)=(p.fe.length:ay)+1:=by omega
     simp only[aQ,aw,ax,dI,aF (show¬(p.fe.length:ay)≥20 by omega),M,K,r.1,r.2,O.1,O.2,u.1,u.2,HK,bW,bu,o,f.1,f.2];unfold res put;rw[A];rfl
   |some j=>dsimp only;have f:=d ⟨id,key,(j:ay)+1,0,1,(el p.fe j).t,0⟩;dsimp only at f;simp only[aF (show¬(j:ay)+1=0 by omega),aw,ax,r.1,r.2,O.1,O.2,u.1,u.2,f.1,f.2];rfl
 |none=>
  dsimp only[vN.res];rw[ax];refine(scan _ p.fe B key aq p.now (re p.en) (rs p.w) (rs p.m) (rr p.s) p.a (rc p.cl) p.hits 0 0 0 p.now p.a p.hits id key 0 1 0 (re p.en) (rs p.w) (rs p.m) (rr p.s) (rf p.fe) (rc p.cl)).trans ?_;rw[N];unfold kZ;cases X:Ng p.fe key with
  |none=>
   dsimp only;by_cases P:p.fe.length=20
   ·rw[aF (show¬p.fe.length<20 by omega)];simp only[aQ,aw,dI,aC (show(p.fe.length:ay)≥20 by omega)];rfl
   ·rw[aC (show p.fe.length<20 by omega)];have f:=d ⟨id,key,(p.fe.length:ay)+1,0,1,⟨#[]⟩,0⟩;dsimp only at f;have o:((p.fe.length+1:aN):ay)=(p.fe.length:ay)+1:=by omega
    simp only[aQ,aw,ax,dI,aF (show¬(p.fe.length:ay)≥20 by omega),M,K,u.1,u.2,HK,bW,bu,o,f.1,f.2];unfold res put;rw[A];rfl
  |some j=>dsimp only;have f:=d ⟨id,key,(j:ay)+1,0,1,(el p.fe j).t,0⟩;dsimp only at f;simp only[aF (show¬(j:ay)+1=0 by omega),aw,ax,u.1,u.2,f.1,f.2];rfl
end vJ
namespace ui
open _root_.Go.FG.Lib (rs rf rc el)
open jm (i_)
theorem ok(p:Px)(f:ay)(hp:p.Fit 1048576):c p.now (re p.en) (rs p.w) (rs p.m) (rr p.s) p.a (rf p.fe) (rc p.cl) p.hits f=ao/\v p.now (re p.en) (rs p.w) (rs p.m) (rr p.s) p.a (rf p.fe) (rc p.cl) p.hits f=fw.sZ p f:=by
 have h:=jm.ok p hp;have e:=hp.fe;refine out _ _ _ _ _ _ _ _ _ _ ?_;unfold vo b fw.sZ;rw[h.1,h.2,aw,dI,dq (x:=(p.fe.length:ay)-1) (by omega) (by omega),show jX.v f 0 ((p.fe.length:ay)-1)=ah (0<=f/\f<=(p.fe.length:ay)-1)from fc.et _ _ _];cases i_ p with
 |false=>rfl
 |true=>
  cases hd:ah (0<=f/\f<=(p.fe.length:ay)-1)with
  |false=>rfl
  |true=>
   have:=cL hd;obtain⟨n,rfl⟩:∃n:aN,f=(n:ay):=⟨f.toNat,by omega⟩
   have d:n<p.fe.length:=by omega
   simp only[aw,bj,b_,c8,d,aQ,aL,dB,yS d,bN]
end ui
namespace N7
theorem put(s:ay)(t q:au)(j:(t.size:ay)<=400)(hs:1<=s/\s<=3):Th.v s t [] q=bif ah (s=1)&&(ah (1<=q.size/\q.size<=40)&&ah (t.size+q.size<=400))then(s,t++q,[],ao)else(s,t,[],aq):=by
 unfold Th.v;have f:kW.v s t []=true:=by unfold kW.v kW.rest;rw[aC hs,aC (show t.size<=400 by omega)];rfl
 by_cases a:s=1
 ·by_cases d:1<=q.size/\q.size<=40
  ·by_cases e:t.size+q.size<=400
   ·rw[bm ⟨f,a,d.1,d.2,e⟩,aC a,aC d,aC e];rfl
   ·rw[bh (by omega),aF e];simp
  ·rw[bh (by omega),aF d];simp
 ·rw[bh (by simp[a]),aF a];rfl
end N7
namespace rT
open _root_.Go.FG.Lib (rs rf rc el)
open tW (ec nS kJ)
theorem ok(p:Px)(f:aN)(st:ay)(H:f<p.fe.length)(hl:p.fe.length<=2097152)(O:p.cl.length<=2097152):
  c p.now (re p.en) (rs p.w) (rs p.m) (rr p.s) p.a (rf p.fe) (rc p.cl) p.hits (f:ay) st=ao/\v p.now (re p.en) (rs p.w) (rs p.m) (rr p.s) p.a (rf p.fe) (rc p.cl) p.hits (f:ay) st=(p.now,re p.en,rs p.w,rs p.m,rr p.s,p.a,rf p.fe,rc (nS p.cl f st (el p.fe f).t),p.hits):=by
 refine out _ _ _ _ _ _ _ _ _ _ _ ?_;unfold vo b;have key:=m_ Cl.row p.cl (λ_ c=>ec f st (el p.fe f).t c) (λn (i:aN) x=>l1 ck (λ(_ _ _ j k o:ay) (r u y z A B:Row)=>ai (j,r,u,y,z,k,A,B,o)) n (f:ay) st (i:ay) p.now p.a p.hits (re p.en) (rs p.w) (rs p.m) (rr p.s) (rf p.fe) x) (λx=>ai (p.now,re p.en,rs p.w,rs p.m,rr p.s,p.a,rf p.fe,x,p.hits)) (λn i L h e C d=> ?_) (λn L C=> ?_) ck ez
 ·rw[kJ]at key;exact key
 ·have I:av (L.map Cl.row) i 2=CV.i ak p.cl[i].fe:=by rw[e_ _ L i _ e,d];rfl
  have K:av (L.map Cl.row) i 4=CV.i ak p.cl[i].sta:=by rw[e_ _ L i _ e,d];rfl
  have s1:dV (L.map Cl.row) i 5 [CV.s (el p.fe f).t]=(L.set i {p.cl[i]with got:=(el p.fe f).t}).map Cl.row:=kl Cl.row L i 5 _ _ e (by rw[d];rfl);have M:i<(L.set i {p.cl[i]with got:=(el p.fe f).t}).length:=by simpa using e
  have N:dV ((L.set i {p.cl[i]with got:=(el p.fe f).t}).map Cl.row) i 4 [CV.i ak st]=((L.set i {p.cl[i]with got:=(el p.fe f).t}).set i {p.cl[i]with sta:=st,got:=(el p.fe f).t}).map Cl.row:=kl Cl.row _ i 4 _ _ M (by rw[j9];rfl);simp only[l1,r1,c8,e,H,bJ,b9,aQ,b_,aL,aw,dB,I,K,bN,s1,N,o_,dI,DT H,br,cw h (by omega:p.cl.length<=9223372036854775807),dq (x:=(f:ay)+1) (by omega) (by omega)];unfold ec;cases ah (p.cl[i].fe=(f:ay)+1)with
  |false=>rw[kQ,ax,ax,<-d,eZ]
  |true=>
   cases ah (p.cl[i].sta=1)with
   |false=>rw[bj,aw,ax,ax,<-d,eZ]
   |true=>rw[bj,aw,aw,aw]
 ·simp only[l1,r1,bJ,C,c8,bk,bg,ax]
end rT
namespace Cx
open _root_.Go.FG.Lib (rs rf rc el)
open fw (sZ Cp told jg nA jF wM)
theorem ok(p:Px)(f:ay)(q:au)(hp:p.Fit 1048576):c p.now (re p.en) (rs p.w) (rs p.m) (rr p.s) p.a (rf p.fe) (rc p.cl) p.hits f q=ao/\v p.now (re p.en) (rs p.w) (rs p.m) (rr p.s) p.a (rf p.fe) (rc p.cl) p.hits f q=(p.now,re p.en,rs p.w,rs p.m,rr p.s,p.a,rf (Cp p f q).1.fe,rc (Cp p f q).1.cl,p.hits,(Cp p f q).2):=by
 have u:=kt.ok p hp;have y:=ui.ok p f hp;have H:=hp.fe;have C:=hp.cl;refine out _ _ _ _ _ _ _ _ _ _ _ ?_;unfold vo b Cp;simp only[ch,u.1,u.2,y.1,y.2,aw];cases A:sZ p f with
 |false=>rfl
 |true=>
  obtain⟨n,rfl,j,r,B⟩:=jg A;have e:=fw.XB r n j;unfold np.mX at e;simp only[aM,bf]at e;have d:ES.v 1 (el p.fe n).t [] q=_:=N7.put 1 (el p.fe n).t q e.2.1 (by omega);rw[aC (show(1:ay)=1 from rfl),bj]at d;simp only[aZ,ax,aw,b_,c8,dI,j,aQ,aL,dB,DT j,br,d,bj];cases hs:ah (1<=q.size/\q.size<=40)&&ah ((el p.fe n).t.size+q.size<=400)with
  |false=>rfl
  |true=>
   have z:=wM p.fe n 1 [CV.s ((el p.fe n).t++q)] {el p.fe n with t:=(el p.fe n).t++q} j rfl;have o:n<(p.fe.set n {el p.fe n with t:=(el p.fe n).t++q}).length:=by rw[b9];exact j
   have k:=rT.ok {p with fe:=p.fe.set n {el p.fe n with t:=(el p.fe n).t++q}} n 1 o (by rw[b9];omega) (by dsimp only;omega);dsimp only at k;rw[jF j]at k;simp only[aZ,ax,aw,z,k.1,k.2];rfl
end Cx
namespace yi
open _root_.Go.FG.Lib (rs rf rc En el)
open fX (So fN mB)
open lA (Cs)
theorem ok(p:Px)(e:En)(r6 r7:Row)(hp:p.Fit 1048575)(B:So p.en)(j:∀x∈p.en,1<=x.k.size)(hk:e.k.size<=140737488355328):
  c p.now (re p.en) (rs p.w) (rs p.m) (rr p.s) p.a r6 r7 p.hits e.k e.st e.li e.bo=ao/\v p.now (re p.en) (rs p.w) (rs p.m) (rr p.s) p.a r6 r7 p.hits e.k e.st e.li e.bo=(p.now,re (Cs p e).en,rs (Cs p e).w,rs (Cs p e).m,rr (Cs p e).s,(Cs p e).a,r6,r7,p.hits):=by
 have C:=hp.en;have H:=hp.w;have hm:=hp.m;obtain⟨o,r,z⟩:=eH.JR p.w p.m p.s p.a e.k;have f:=eH.ok p.w p.m p.s p.a e.k (by omega) (by omega) ⟨cf hp.s.1 (by omega),λq hq=>cf (hp.s.2.1 q hq) (by omega)⟩ hk;refine out _ _ _ _ _ _ _ _ _ _ _ _ _ ?_;unfold vo b Cs;generalize eH.val p.w p.m p.s p.a e.k=V at f o r z;obtain⟨W,M,T,A,G⟩:=V;dsimp only at f o r⊢;have t:=pL.ok p.en G (by omega);have u:=sD.ok W M (rr T) A e.k (by omega) (by omega);have hd:=fX.v7 p.en G;have d:=fK.ok (re (fN p.en G)) e.k e.st e.li e.bo (by rw[dv];omega);rw[fX.s7]at d;simp only[ch,f.1,f.2,t.1,t.2,u.1,u.2,d.1,d.2,aw,eG];by_cases y:G=⟨#[]⟩
 ·subst y;rw[fX.drop_nil j]at d⊢;rw[aC rfl];simp only[aZ,ax,d.1,d.2,aw];cases eV.has W e.k||eV.has M e.k<;>rfl
 ·rw[aF y];simp only[bG,aw];cases eV.has W e.k||eV.has M e.k<;>rfl
end yi
namespace CA
open _root_.Go.FG.Lib (rs rf rc el)
open fw (sZ told jg nA jF wM)
open pZ (cls kX)
theorem ok(p:Px)(f life:ay)(hp:p.Fit 1048576):c p.now (re p.en) (rs p.w) (rs p.m) (rr p.s) p.a (rf p.fe) (rc p.cl) p.hits f life=ao/\v p.now (re p.en) (rs p.w) (rs p.m) (rr p.s) p.a (rf p.fe) (rc p.cl) p.hits f life=(p.now,re (cls p f life).1.en,rs (cls p f life).1.w,rs (cls p f life).1.m,rr (cls p f life).1.s,(cls p f life).1.a,rf (cls p f life).1.fe,rc (cls p f life).1.cl,p.hits,(cls p f life).2):=by
 have z:=kt.ok p hp;have A:=ui.ok p f hp;have N:=hp.fe;have M:=hp.cl;refine out _ _ _ _ _ _ _ _ _ _ _ ?_;unfold vo b cls;simp only[ch,z.1,z.2,A.1,A.2,aw];cases H:sZ p f with
 |false=>rfl
 |true=>
  obtain⟨n,rfl,e,r,I⟩:=jg H;obtain⟨so,ks,_,_,_,_,_,_,_,_,d⟩:=lA.FL r;have d:=d n e;unfold np.mX at d;rw[aM]at d;have C:=eH.kf d.1;rw[show jX.v life 0 999999=ah (0<=life/\life<=999999)from fc.et _ _ _];cases hl:ah (0<=life/\life<=999999)with
  |false=>rfl
  |true=>
   generalize hg:({el p.fe n with sta:=2,li:=life,st:=p.now}:Lib.Fe)=g;have hk:g.k=(el p.fe n).k:=by rw[<-hg]
   have u:g.t=(el p.fe n).t:=by rw[<-hg]
   have y:g.li=life:=by rw[<-hg]
   have gs:g.st=p.now:=by rw[<-hg]
   have B:=wM p.fe n 0 [CV.s (el p.fe n).k,CV.s (el p.fe n).t,CV.i ak 2,CV.i ak life,CV.i ak p.now] g e (by rw[<-hg];rfl);have K:n<(p.fe.set n g).length:=by rw[b9];exact e
   have j:=rT.ok {p with fe:=p.fe.set n g} n 2 K (by rw[b9];omega) (by dsimp only;omega);dsimp only at j;rw[jF e]at j;have o:=yi.ok (told p n g 2) (kX g) (rf (p.fe.set n g)) (rc (told p n g 2).cl) ((nA (lA.ju r)).le (by omega)) so ks (by show g.k.size<=_;rw[hk];omega);unfold kX at o;dsimp only[told]at o;rw[y,gs,hk,u]at o;unfold kX told;rw[u]at j;simp only[aZ,ax,aw,b_,c8,dI,e,aQ,aL,bj,dB,Ga e,DT e,WH e,N0 e,N1 e,bN,br,B,j.1,j.2,y,gs,hk,u];cases ah (life>0)with
   |true=>simp only[aw,o.1,o.2];subst hg;rfl
   |false=>subst hg;rfl
end CA
namespace CB
theorem ok(k:au)(s l:ay)(a:au):c k s l a=ao/\v k s l a=H5.val k s l a:=by
 refine out k s l a ?_;have d:=fj.ok (jr.v k s l a).1;unfold vo b H5.val;rw[d.1,d.2];unfold jr.v fj.val;by_cases h:gu.v k s l a=ao
 ·have e:=mh.tf h;have f:=mh.Av h;rw[bm h,bm h,bm (by dsimp only;omega)];rfl
 ·rw[bh h,bh h];rfl
end CB
namespace kG
open _root_.Go.FG.Lib (rd el)
open dz (put)
theorem tail(l:aE Fi)(n t:au)(k:ay)(hl:l.length<=1000000)(c0:aE Fi)(e:c0.length<=1000001):
  l9 ck (λ(_:ay) (_:Row) (_ _:au) (_:ay) (y:Row)=>ai y) ck 0 (rd l) n t k (rd c0)=ai (rd (c0++l.filter λx=> !(fX.eU x.n n||decide (x.n=n)))):=by
 refine Bj l (λx=> !(fX.eU x.n n||decide (x.n=n))) (λm (i:aN) acc=>l9 ck (λ(_:ay) (_:Row) (_ _:au) (_:ay) (y:Row)=>ai y) m (i:ay) (rd l) n t k (rd acc)) (λacc=>ai (rd acc)) c0
  (λm i acc h d hp=> ?_) (λm i acc h hp=> ?_) (λm acc=> ?_) ck ez
 ·have a:(!(b7 (aG l[i].n) (aG n)||decide (l[i].n=n)))=true:=hp;simp only[l9,r9,dX,c8,h,aQ,b_,aL,aw,dB,Hz h,Tm h,Tn h,br,bN,eG,a,pc,bu,cw h (by omega:l.length<=9223372036854775807),b0 (n:=acc.length+1) (b:=40) (by omega) (by omega)];unfold Lib.rd;rw[cO];rfl
 ·have a:(!(b7 (aG l[i].n) (aG n)||decide (l[i].n=n)))=false:=hp;simp only[l9,r9,dX,c8,h,aQ,b_,aL,aw,ax,dB,Hz h,br,eG,a,cw h (by omega:l.length<=9223372036854775807)]
 ·simp only[l9,r9,dX,c8,bk,bg,ax]
theorem ok(l:aE Fi)(n t:au)(k:ay)(hl:l.length<=1000000):c (rd l) n t k=ao/\v (rd l) n t k=rd (put l ⟨n,t,k⟩):=by
 refine out _ _ _ _ ?_;unfold vo b
 have key:=La l (λx=>fX.eU x.n n)
  (λm (i:aN)=>l3 ck (λ(_:ay) (z:Row) (j o:au) (r:ay)=>l9 ck (λ(_:ay) (_:Row) (_ _:au) (_:ay) (A:Row)=>ai A) ck 0 z j o r ([]++aP (aT [Ck.s,Ck.s,Ck.i ak] 1) 0 [CV.s j,CV.s o,CV.i ak r])) (λ(_:ay) (B:Row) (d e:au) (f:ay) (u:Row)=>bif(b8 (bB u+bB (aP (aT [Ck.s,Ck.s,Ck.i ak] 1) 0 [CV.s d,CV.s e,CV.i ak f])) 40)then(l9 ck (λ(_:ay) (_:Row) (_ _:au) (_:ay) (C:Row)=>ai C) ck 0 B d e f (u++aP (aT [Ck.s,Ck.s,Ck.i ak] 1) 0 [CV.s d,CV.s e,CV.i ak f]))else(aj)) m (i:ay) (rd l) n t k)
  (λm (i:aN) acc=>nT ck (λ(_:ay) (z:Row) (j o:au) (r:ay)=>l9 ck (λ(_:ay) (_:Row) (_ _:au) (_:ay) (A:Row)=>ai A) ck 0 z j o r ([]++aP (aT [Ck.s,Ck.s,Ck.i ak] 1) 0 [CV.s j,CV.s o,CV.i ak r])) (λ(_:ay) (B:Row) (d e:au) (f:ay) (u:Row)=>bif(b8 (bB u+bB (aP (aT [Ck.s,Ck.s,Ck.i ak] 1) 0 [CV.s d,CV.s e,CV.i ak f])) 40)then(l9 ck (λ(_:ay) (_:Row) (_ _:au) (_:ay) (C:Row)=>ai C) ck 0 B d e f (u++aP (aT [Ck.s,Ck.s,Ck.i ak] 1) 0 [CV.s d,CV.s e,CV.i ak f]))else(aj)) m (i:ay) (rd l) n t k (rd acc))
  (λacc=>bif b8 (acc.length+1) 40 then l9 ck (λ(_:ay) (_:Row) (_ _:au) (_:ay) (y:Row)=>ai y) ck 0 (rd l) n t k (rd (acc++[⟨n,t,k⟩]))else aj)
  (λm i h hp=>by have a:b7 (aG l[i].n) (aG n)=true:=hp;simp only[l3,r3,dX,c8,h,aQ,b_,aL,aw,dB,Hz h,Tm h,Tn h,br,bN,a,pc,cw h (by omega:l.length<=9223372036854775807)];rfl)
  (λm i h hp=>by have a:b7 (aG l[i].n) (aG n)=false:=hp;simp only[l3,r3,dX,c8,h,aQ,b_,aL,aw,ax,dB,Hz h,br,a,cw h (by omega:l.length<=9223372036854775807)])
  (λm=>by simp only[l3,r3,dX,c8,bk,bg,ax];rw[b0 (by simp) (by simp),aw];rfl)
  (λm i acc h H hp=>by have a:b7 (aG l[i].n) (aG n)=true:=hp;simp only[nT,uw,dX,c8,h,aQ,b_,aL,aw,dB,Hz h,Tm h,Tn h,br,bN,a,pc,bu,cw h (by omega:l.length<=9223372036854775807),b0 (n:=acc.length+1) (b:=40) (by omega) (by omega)];unfold Lib.rd;rw[cO];rfl)
  (λm i acc h hp=>by have a:b7 (aG l[i].n) (aG n)=false:=hp;simp only[nT,uw,dX,c8,h,aQ,b_,aL,aw,ax,dB,Hz h,br,a,cw h (by omega:l.length<=9223372036854775807)])
  (λm acc=>by simp only[nT,uw,dX,c8,bk,bg,ax,pc,bu];unfold Lib.rd;rw[cO];rfl) ck ez
 refine key.trans ?_;have I:=d_ (λx:Fi=>fX.eU x.n n) l;rw[b0 (by omega) (by omega),aw,tail l n t k hl _ (by simp;omega)];unfold put;rw[ca]
end kG
namespace lZ
open _root_.Go.FG.Lib (rd el)
open dz (without)
theorem ok(l:aE Fi)(n:au)(hl:l.length<=1000000):c (rd l) n=ao/\v (rd l) n=rd (without l n):=by
 refine out _ _ ?_;unfold vo b
 have key:=La l (λx=> !decide (x.n=n))
  (λm (i:aN)=>l3 ck (λ(_:au) (_:ay) (_:Row)=>ai ([]:Row)) (λ(_:au) (_:ay) (_:Row) (a:Row)=>ai a) m n (i:ay) (rd l))
  (λm (i:aN) acc=>nT ck (λ(_:au) (_:ay) (_:Row)=>ai ([]:Row)) (λ(_:au) (_:ay) (_:Row) (a:Row)=>ai a) m n (i:ay) (rd l) (rd acc)) (λacc=>ai (rd acc))
  (λm i h hp=>by simp only[l3,r3,dX,c8,h,aQ,b_,aL,aw,dB,Hz h,Tm h,Tn h,br,bN,eG,hp,pc,cw h (by omega:l.length<=9223372036854775807)];rfl)
  (λm i h hp=>by simp only[l3,r3,dX,c8,h,aQ,b_,aL,aw,ax,dB,Hz h,br,eG,hp,cw h (by omega:l.length<=9223372036854775807)])
  (λm=>by simp only[l3,r3,dX,c8,bk,bg,ax];rfl)
  (λm i acc h d hp=>by simp only[nT,uw,dX,c8,h,aQ,b_,aL,aw,dB,Hz h,Tm h,Tn h,br,bN,eG,hp,pc,bu,cw h (by omega:l.length<=9223372036854775807),b0 (n:=acc.length+1) (b:=40) (by omega) (by omega)];unfold Lib.rd;rw[cO];rfl)
  (λm i acc h hp=>by simp only[nT,uw,dX,c8,h,aQ,b_,aL,aw,ax,dB,Hz h,br,eG,hp,cw h (by omega:l.length<=9223372036854775807)])
  (λm acc=>by simp only[nT,uw,dX,c8,bk,bg,ax]) ck ez
 exact key
end lZ
namespace AX
open _root_.Go.FG.Lib (rd el)
open dz (without put S8 rZ act FA jJ)
open qS (res)
theorem Wc(d:aE Fi)(h:d.length<=1000000):fD.c (rd d)=ao/\fD.v (rd d)=rZ d:=fD.ok (rd d) (by rw[dX];omega)
theorem nm(n:au):u5.v n=ah (1<=(n.size:ay)/\(n.size:ay)<=8):=fD.mq _ _ _
theorem Q2{k:ay}(h:¬(1<=(n.size:ay)/\(n.size:ay)<=8)):rZ (put l ⟨n,t,k⟩)=false:=by
 cases hk:rZ (put l ⟨n,t,k⟩)with
 |false=>rfl
 |true=>have:=(jJ.1 hk).2.1 ⟨n,t,k⟩ (dz.pB.2 (.inl rfl));unfold dz.mX at this;simp only[aM,bf]at this;exact cJ this.1 h
theorem ok(l:aE Fi)(k:ay)(n t o:au)(hl:l.length<=1000)(ht:t.size<=2305843009213693952):c (rd l) k n t o=ao/\v (rd l) k n t o=res (act l k n t o):=by
 refine out _ _ _ _ _ ?_;unfold vo b h0;have P:=j0.ok (rd l) n (by rw[dX];omega);have S:=Wc l (by omega);rw[S.1,S.2,aw];unfold act;cases hk:rZ l with
 |false=>rfl
 |true=>
 rw[aZ,ax,bj,nm];obtain⟨q1,q2,q3⟩:=jJ.1 hk;have V:∀f∈l,(1<=(f.n.size:ay)/\(f.n.size:ay)<=8)/\(f.t.size:ay)<=20000/\f.kp<=(f.t.size:ay):=λf U=>by have:=q2 f U;unfold dz.mX at this;simp only[aM,bf,dt,eR]at this;omega
 by_cases B:1<=(n.size:ay)/\(n.size:ay)<=8;case neg=>
  rw[aF B,bG,aw]
  have M:l.find? (λx=>ah (x.n=n))=none:=by rw[TP];intro x hx;have:=(V x hx).1;simp only[bf];intro e;rw[e]at this;exact B this
  cases dz.jQ k t o with
  |false=>rfl
  |true=>
   rw[aw];unfold FA;rw[M];by_cases s:k=1
   ·rw[bm s];dsimp only;rw[Q2 B];rfl
   ·rw[bh s];rfl
 rw[aC B,aZ,ax,eG,eG,P.1,P.2,aw,dX];unfold ch;by_cases a:k=3\/o=⟨#[]⟩
 case neg=>
  rw[not_or]at a
  have:dz.jQ k t o=false:=by unfold dz.jQ;rw[aF a.1,aF a.2];simp
  rw[this,show(k !=3)=ao from bne_iff_ne.2 a.1,aw,aF a.2];rfl
 by_cases j:k=1\/t=⟨#[]⟩
 case neg=>
  rw[not_or]at j
  have:dz.jQ k t o=false:=by unfold dz.jQ;rw[aF j.1,aF j.2];simp
  rw[this,show(k !=1)=ao from bne_iff_ne.2 j.1,aw,aF j.2]
  rcases a with a|a
  ·subst a;rfl
  ·rw[aC a];cases (k !=3)<;>rfl
 have r:∀x:aA (Row×aY),(bif k !=3 then(bif !decide (o=⟨#[]⟩)then ai (([]:Row),aq)else(bif k !=1 then(bif !decide (t=⟨#[]⟩)then ai ([],aq)else x)else x))else(bif k !=1 then(bif !decide (t=⟨#[]⟩)then ai ([],aq)else x)else x))=x:=λx=>by
  rcases a with a|a<;>rcases j with j|j
  ·omega
  ·subst a;rw[aC j];rfl
  ·subst j;rw[aC a];rfl
  ·rw[aC a,aC j];cases (k !=3)<;>cases (k !=1)<;>rfl
 have H:=λ(m:aE Fi) (h3:m.length<=1000) (n t:au) (k:ay)=>kG.ok m n t k (by omega);have C:=lZ.ok l n (by omega);have h4:=dz.JW l n;have pl:=λ(m:aE Fi) (f:Fi) (hm:m.length<=1000)=>Wc (put m f) (cf (dz.rq f) (by omega));have fin:∀d:aE Fi,(bif !rZ d then ai (([]:Row),aq)else ai (rd d,ao))=ai (res (bif rZ d then ai d else aj)):=λd=>by cases rZ d<;>rfl
 by_cases z:1<=k/\k<=4;case neg=>
  have K:dz.jQ k t o=false:=by unfold dz.jQ;rw[aF z];rfl
  rw[K]
  refine(r _).trans ?_
  rcases qS.find l n with ⟨u,y⟩|⟨i,hi,u,y⟩
  ·rw[u,aF (show¬k=1 by omega)];rfl
  ·rw[u];dsimp only;rw[aF (show¬k=1 by omega),aF (show¬k=2 by omega),aF (show¬k=3 by omega),aF (show¬k=4 by omega),aF (show¬((i:aN):ay)<0 by omega),aC (show((i:aN):ay)≥0 by omega)];simp only[c8,hi,aQ,aL,bj,aw,ax];rfl
 have K:dz.jQ k t o=true:=by unfold dz.jQ;rw[aC z,bj,aM,dC,dC,bf,bf,bf,bf];exact⟨j.symm,a.symm⟩
 rw[K,aw];refine(r _).trans ?_;unfold FA;rcases qS.find l n with ⟨u,y⟩|⟨i,hi,u,y⟩
 ·rw[u,y];dsimp only;by_cases s:k=1
  ·subst s;have p:=H l hl n (⟨#[]⟩++t) 0;have d:=pl l ⟨n,⟨#[]⟩++t,0⟩ hl;have X:(⟨#[]⟩:au)++t=t:=k8;rw[show ah ((-1:ay)≥0)=aq from rfl,ax,aC (show(1:ay)=1 from rfl),aw,aC (show(⟨#[]⟩:au).size+t.size<=4611686018427387904 from by rw[show(⟨#[]⟩:au).size=0 from rfl];omega),aw,p.1,p.2,aw,d.1,d.2,aw,fin,X];rfl
  ·rw[show ah ((-1:ay)≥0)=aq from rfl,ax,aF s,ax,bh s];rfl
 ·have U:(el l i).n=n:=by have:=D' y;exact cL this
  have Y:=V _ (jt hi);rw[u,y];dsimp only;rw[aF (show¬((i:aN):ay)<0 by omega),aC (show((i:aN):ay)≥0 by omega),aw];simp only[c8,hi,aQ,dB,wd0 hi,wd1 hi,wd2 hi,br,bN,aL,bj,aw,ax];by_cases s:k=1
  ·subst s;have p:=H l hl (el l i).n ((el l i).t++t) (el l i).kp;have d:=pl l ⟨(el l i).n,(el l i).t++t,(el l i).kp⟩ hl;rw[aC (show(1:ay)=1 from rfl),aw,aC (show(el l i).t.size+t.size<=4611686018427387904 by omega),aw,p.1,p.2,aw,d.1,d.2,aw,fin];rfl
  rw[aF s,ax,bh s];by_cases N:k=2
  ·subst N;have p:=H l hl (el l i).n (el l i).t ((el l i).t.size:ay);have d:=pl l ⟨(el l i).n,(el l i).t,((el l i).t.size:ay)⟩ hl;rw[aC (show(2:ay)=2 from rfl),aw,p.1,p.2,aw,d.1,d.2,aw,fin];rfl
  rw[aF N,ax,bh N];by_cases k3:k=3
  ·subst k3;rw[aC (show(3:ay)=3 from rfl),aw,bm rfl];by_cases O:(el l i).kp=((el l i).t.size:ay)
   ·rw[aF (show¬(el l i).kp<((el l i).t.size:ay)by omega),ax,eG,nm];by_cases A:o=n
    ·rw[aC A,aw,bm (.inr A)];rfl
    ·rw[aF A,ax,bh (by rintro (h|h);exact h O;exact A h)];by_cases I:1<=(o.size:ay)/\(o.size:ay)<=8
     ·have p:=H (without l n) (by omega) o (el l i).t (el l i).kp;have d:=pl (without l n) ⟨o,(el l i).t,(el l i).kp⟩ (by omega);rw[aC I,aZ,ax,C.1,C.2,aw,p.1,p.2,aw,d.1,d.2,aw,fin]
     ·rw[aF I];dsimp only;rw[Q2 I];rfl
   ·rw[aC (show(el l i).kp<((el l i).t.size:ay)by omega),aw,bm (.inl O)];rfl
  rw[aF k3,ax,bh k3];have k4:k=4:=by omega
  subst k4;have d:=Wc (without l n) (by omega);rw[aC (show(4:ay)=4 from rfl),aw,C.1,C.2,aw,d.1,d.2,aw,fin]
end AX
namespace pM
open _root_.Go.FG.Lib (rd el)
open dz (jR act ra Ac wa0 wa1 wa2 wa3 ru zX)
theorem ok(l:aE Fi)(a:aE Ac)(hl:l.length<=1000)(M:a.length<=1000000)(C:∀x∈a,x.t.size<=2305843009213693952):c (rd l) (ra a)=ao/\v (rd l) (ra a)=(rd (jR l 0 a).1,((jR l 0 a).2:ay)):=by
 refine out _ _ ?_;unfold vo b;rw[fA,dX,b0 (by omega) (by omega),aw,show aT [Ck.s,Ck.s,Ck.i ak] 0++rd l=rd l from rfl]
 have key:∀(d i n:aN) (z:ay) (l:aE Fi),a.length-i<=d->i<=a.length->l.length<=1000->d<n->
   l3 ck (λ(_:Row) (H _:ay) (I:Row)=>ai (I,H)) (λ(K:Row) (_ _:ay) (r:Row)=>ai (r,(↑(bB K):ay))) n (ra a) z (i:ay) (rd l)=ai (rd (jR l i (a.drop i)).1,((jR l i (a.drop i)).2:ay)):=by
  intro d
  induction d with
  |zero=>
   intro i n z l y A u B;obtain⟨n,rfl⟩:∃j,n=j+1:=⟨n-1,by omega⟩
   have:i=a.length:=by omega
   subst this;simp only[l3,r3,c8,bk,bg,ax,ru,cX,jR]
  |succ d ih=>
   intro i n z l y A u B;obtain⟨n,rfl⟩:∃j,n=j+1:=⟨n-1,by omega⟩
   by_cases hi:i<a.length
   ·have hd:=AX.ok l (el a i).k (el a i).n (el a i).t (el a i).o u (C _ (jt hi));simp only[l3,r3,c8,ru,hi,aQ,b_,aL,aw,dB,wa0 hi,wa1 hi,wa2 hi,wa3 hi,br,bN,hd.1,hd.2,cw hi (by omega:a.length<=9223372036854775807)];rw[cq hi,<-eT hi];unfold jR;cases f:act l (el a i).k (el a i).n (el a i).t (el a i).o with
    |none=>rfl
    |some e=>have:=(zX f).2;exact ih (i+1) n z e (by omega) hi (by omega) (by omega)
   ·have:i=a.length:=by omega
    subst this;simp only[l3,r3,c8,bk,bg,ax,ru,cX,jR]
 exact key a.length 0 ck 0 l (by omega) (bA _) hl ez
end pM
namespace Cy
open _root_.Go.FG.Lib (rs rf rc rd En el Ga DT N0 N1)
open gL (Wo Ev closed)
open k7 (dk es)
open ig (u9)
open ew (ri u7 s_ ju)
open pZ (cls kX)
theorem ok{i:aN}(h:u9 i w)(hi:i<=71)(k id:ay)(t:au)(nn:ay)(left:Row)(h0:0<=nn):c w.p.now (re w.p.en) (rs w.p.w) (rs w.p.m) (rr w.p.s) w.p.a (rf w.p.fe) (rc w.p.cl) w.p.hits (rd (dk w.o)) (ri w.cd) (re w.bd) k id t nn left=ao/\v w.p.now (re w.p.en) (rs w.p.w) (rs w.p.m) (rr w.p.s) w.p.a (rf w.p.fe) (rc w.p.cl) w.p.hits (rd (dk w.o)) (ri w.cd) (re w.bd) k id t nn left=((closed w id (nn%1000000)).2,u7 (closed w id (nn%1000000)).1):=by
 refine out _ _ _ _ _ _ _ _ _ _ _ _ _ _ _ _ _ ?_;have hl:0<=nn%1000000/\nn%1000000<=999999:=by omega
 have hm:cx nn 1000000=nn%1000000:=eN h0;have O:=h.bd;have U:=h.tx hi;have P:=k7.Bd w.o;have A:=CA.ok w.p id (nn%1000000) (ju h.px);obtain⟨H,I⟩:=ig.IH (f:=id) h.px hl;obtain⟨s1,K⟩:=pZ.GV (p:=w.p) (f:=id) (life:=nn%1000000);have j:=ju H;unfold vo b;rw[hm];generalize nn%1000000=life at*
 rw[A.1,aw,A.2,ew.lt_eq];unfold closed u7;dsimp only;rw[<-s1,<-K];generalize cls w.p id life=Q at H I s1 K j;obtain⟨q,ok⟩:=Q;dsimp only at H I s1 K j⊢;rcases I with ⟨r1,r2⟩|⟨r1,n,V,N,u,X,rl⟩
 ·subst r1;rfl
 subst r1;rw[aw,bj];by_cases hz:life=0
 ·rw[aF (show¬life>0 by omega)];rfl
 rw[aC (show life>0 by omega),aw,aw];obtain⟨Y,t2⟩:=rl (by omega);have d:n<q.fe.length:=by rw[u,b9];exact N
 have z:el q.fe n={el w.p.fe n with sta:=2,li:=life,st:=w.p.now}:=by rw[u,fw.jF N]
 subst V;rw[dG];have C:=CB.ok (el q.fe n).k (el q.fe n).st (el q.fe n).li (el q.fe n).t;have hE:gu.v (el q.fe n).k (el q.fe n).st (el q.fe n).li (el q.fe n).t=true:=by rw[z];exact Y
 have S:=ig.I4 (e:=kX (el q.fe n)) hE;rw[H5.val,bm hE,show H5.jR (fj.fr (jr.sa (el q.fe n).k (el q.fe n).st (el q.fe n).li (el q.fe n).t))=dz.ra (iK.rM (iK.Gl (kX (el q.fe n))))from rfl]at C;have D:=pM.ok (dk w.o) (iK.rM (iK.Gl (kX (el q.fe n)))) (by omega) (by unfold iK.rM;simp) (λx B=>by
  unfold iK.rM at B;simp only[cm,ld,or_false]at B;rcases B with rfl|rfl
  ·show(iK.Gl (kX (el q.fe n))).size<=_;omega
  ·exact bA _)
 rw[k7.KZ (by omega)]at D;have room:∀y,b8 ((re w.bd).length+(aP (aT [Ck.s,Ck.i ak,Ck.i ak,Ck.s] 1) 0 y).length) 48=true:=λy=>by rw[dv,ew.tL];exact b0 (by omega) (by omega)
 have M:=s_ w.bd (kX (el q.fe n));unfold kX at M C D;dsimp only at M;have r:b8 ((aT [Ck.s,Ck.i ak,Ck.i ak,Ck.s] 0).length+(re w.bd).length) 48=true:=by rw[dv];exact b0 (by show(0+w.bd.length)*48<=_;omega) (by show 0+w.bd.length<=_;omega)
 simp only[ew.lt_eq,ew.ale,r,dI,c8,d,aQ,b_,aL,aw,dB,Ga d,DT d,N0 d,N1 d,br,bN,C.1,C.2,D.1,D.2,room,M,show kX (el q.fe n)=⟨(el q.fe n).k,(el q.fe n).st,(el q.fe n).li,(el q.fe n).t⟩from rfl];rfl
end Cy
namespace Cz
open _root_.Go.FG.Lib (rs rf rc el)
open fw (sZ Cm told jg nA jF wM)
theorem ok(p:Px)(f:ay)(hp:p.Fit 1048576):c p.now (re p.en) (rs p.w) (rs p.m) (rr p.s) p.a (rf p.fe) (rc p.cl) p.hits f=ao/\v p.now (re p.en) (rs p.w) (rs p.m) (rr p.s) p.a (rf p.fe) (rc p.cl) p.hits f=(p.now,re p.en,rs p.w,rs p.m,rr p.s,p.a,rf (Cm p f).1.fe,rc (Cm p f).1.cl,p.hits,(Cm p f).2):=by
 have k:=kt.ok p hp;have o:=ui.ok p f hp;have y:=hp.fe;have u:=hp.cl;refine out _ _ _ _ _ _ _ _ _ _ ?_;unfold vo b Cm;simp only[ch,k.1,k.2,o.1,o.2,aw];cases t:sZ p f with
 |false=>rfl
 |true=>
  obtain⟨n,rfl,e,_,_⟩:=jg t;have r:=wM p.fe n 2 [CV.i ak 3] {el p.fe n with sta:=3} e rfl;have j:n<(p.fe.set n {el p.fe n with sta:=3}).length:=by rw[b9];exact e
  have d:=rT.ok {p with fe:=p.fe.set n {el p.fe n with sta:=3}} n 3 j (by rw[b9];omega) (by dsimp only;omega);dsimp only at d;rw[jF e]at d;simp only[aZ,ax,aw,b_,c8,dI,e,aQ,aL,dB,r,d.1,d.2];rfl
end Cz
namespace vO
open _root_.Go.FG.Lib (rd En el wd0 wd1 wd2)
open dz (rZ)
open k7 (dk es)
open iK (tx base)
theorem one(f:Fi)(left:Row)(h:rZ [f]=ao)(hk:f.kp=(f.t.size:ay)):c (rd [f]) left=ao/\v (rd [f]) left=(rd [f],ao):=by
 have k:=fD.ok (rd [f]) (by rw[dX];simp);refine out _ _ ?_;unfold vo b;rw[k.1,aw,k.2,show fD.val (rd [f])=ao from h,aZ,ax];have h0:0<[f].length:=by simp
 have c0:av (rd [f]) 0 0=CV.s f.n:=wd0 (l:=[f]) h0;have r:av (rd [f]) 0 1=CV.s f.t:=wd1 (l:=[f]) h0;have u:av (rd [f]) 0 (1+1)=CV.i ak f.kp:=wd2 (l:=[f]) h0;have o:fU 0 (f.t.size:ay) (f.t.size:ay)=true:=by simp[fU]
 have ex:bx f.t 0 (aR (f.t.size:ay))=f.t:=qZ f.t;have w1:bE (0+1)=1:=rfl;have L:(rd [f]).length=1:=rfl;have step:∀(N m:aN),l5 ck (λ_ _ _=>ai (([]:Row),ao)) (λ_ _ _ d=>ai (d,ao)) (m+1) left 0 (rd [f])=l5a ck (λ_ _ _=>ai (([]:Row),ao)) (λ_ _ _ d=>ai (d,ao)) m left 1 (rd [f]) (rd [f]):=by
  intro N m;have A:aR 0=0:=rfl;simp only[l5,r5,L,A];generalize bN (av left 0 0)=z;simp only[c0,r,u,br,bN,hk,o,ex,w1];rw[show ah ((0:ay)<((1:aN):ay))=ao from rfl,aw,show(ah ((0:ay)<=0)&&ao)=ao from rfl,aw];have fin:([]++aP (aT [Ck.s,Ck.s,Ck.i ak] 1) 0 [CV.s f.n,CV.s f.t,CV.i ak (f.t.size:ay)]:Row)=rd [f]:=by
   unfold Lib.rd;rw[eJ];show [[CV.s f.n,CV.s f.t,CV.i ak (f.t.size:ay)]]=[Fi.row f]
   unfold Fi.row;rw[hk]
  simp only[fin];by_cases hl:(0:ay)<(left.length:ay)
  ·simp only[aC hl,aw,show ah ((0:ay)<=0)=ao from rfl,aL];by_cases a:z>(f.t.size:ay)
   ·simp only[aC a,aw,aF (show¬(f.t.size:ay)<(f.t.size:ay)by omega),ax]
   ·by_cases b:z<(f.t.size:ay)
    ·simp only[aF a,ax,aC b,aw]
    ·have e:z=(f.t.size:ay):=by omega
     simp only[aF a,ax,aF b,e,o,ex,fin,aw,show ah ((f.t.size:ay)<(f.t.size:ay))=aq from qe,show ah ((f.t.size:ay)>(f.t.size:ay))=aq from qe]
  ·simp only[aF hl,ax,aw,aF (show¬(f.t.size:ay)<(f.t.size:ay)by omega)];try rw[aF (show¬(0:ay)>(f.t.size:ay)by omega),ax]
   by_cases b:(0:ay)<(f.t.size:ay)
   ·rw[aC b,aw]
   ·rw[aF b,ax];have e:(f.t.size:ay)=0:=by omega
    rw[e]at ex fin;rw[show(0:ay).toNat=0 from rfl]at ex;rw[ex,fin]
 have j:∀(m:aN),l5a ck (λ_ _ _=>ai (([]:Row),ao)) (λ_ _ _ d=>ai (d,ao)) (m+1) left 1 (rd [f]) (rd [f])=ai (rd [f],ao):=by intro m;simp only[l5a,r5a,L,show ah ((1:ay)<((1:aN):ay))=aq from rfl,ax]
 obtain⟨n,y⟩:∃n,ck=n+2:=⟨ck-2,by have:=mS (n:=2) (by omega);omega⟩
 have key:∀N,N=n+2->l5 ck (λ_ _ _=>ai (([]:Row),ao)) (λ_ _ _ d=>ai (d,ao)) N left 0 (rd [f])=ai (rd [f],ao):=by rintro N rfl;rw[step ck (n+1),j n]
 exact key _ y
theorem ok(h:(tx (es o)).size<=20000)(left:Row):c (rd (dk o)) left=ao/\v (rd (dk o)) left=(rd (dk o),ao):=by
 cases o with
 |some l=>exact one _ left (k7.GY h) rfl
 |none=>
  have hd:rZ []=true:=k7.GY (o:=aj) h;have d:=fD.ok (rd []) (by rw[dX];simp);refine out _ _ ?_;unfold vo b;show(bif fD.c (rd [])then bif !fD.v (rd [])then _ else l5 ck _ _ ck left 0 (rd [])else aj)=_;rw[d.1,aw,d.2,show fD.val (rd [])=ao from hd,aZ,ax];obtain⟨n,e⟩:∃n,ck=n+1:=⟨ck-1,by have:=mS (n:=1) (by omega);omega⟩
  have key:∀N,N=n+1->l5 ck (λ_ _ _=>ai (([]:Row),ao)) (λ_ _ _ a=>ai (a,ao)) N left 0 (rd [])=ai (rd [],ao):=by rintro N rfl;rfl
  exact key _ e
end vO
namespace ni
open _root_.Go.FG.Lib (rs rf rc En el oy rF rG rH)
open fV (si sf one sS wG yv p0)
theorem ok(now:ay)(l:aE En)(hl:l.length<=1048576):
  c now (re l)=ao/\v now (re l)=(now,re (si now l).en,rs (si now l).w,rs (si now l).m,rr (si now l).s,(si now l).a,[],[],0):=by
 refine out _ _ ?_;unfold vo b;have key:=im l.length (λn (i:aN) (p:Px)=>l4 ck (λ(_:ay) (_:Row) (_ _ _ _ o r t:ay) (u y z A B C:Row)=>ai (o,u,y,z,A,r,B,C,t)) n now (re l) (i:ay) 0 0 0 now p.a 0 (re p.en) (rs p.w) (rs p.m) (rr p.s) [] []) (λi=>si now (l.take i)) (ai (now,re (si now l).en,rs (si now l).w,rs (si now l).m,rr (si now l).s,(si now l).a,[],[],0)) (λn i hi=>by
  have I:=sS now l i (by omega);have hs:=wG now l i hi;generalize si now (l.take i)=p at I hs;rw[hs];unfold one;have j:bE ((i:ay)+1)=((i+1:aN):ay):=cw hi (by omega);have d:ug.v (el l i).k (el l i).st (el l i).li (el l i).bo now=sf (el l i) now:=(ug.eq _ _ _ _ _).symm;cases f:sf (el l i) now with
  |false=>
   rw[f]at d;cases hq:gu.v (el l i).k (el l i).st (el l i).li (el l i).bo with
   |false=>simp only[l4,r4,dv,c8,hi,aQ,b_,aL,aw,dB,oy hi,rF hi,rG hi,rH hi,br,bN,hq,ax,j]
   |true=>simp only[l4,r4,dv,c8,hi,aQ,b_,aL,aw,dB,oy hi,rF hi,rG hi,rH hi,br,bN,hq,d,ax,j]
  |true=>rw[f]at d;have hq:=yv f;have hk:=(gu.FN hq).1;have e:=yi.ok p (el l i) [] [] (I.fit (by omega) (by omega)) I.so I.ks (by omega);rw[I.now,I.hits]at e;simp only[l4,r4,ch,dv,c8,hi,aQ,b_,aL,aw,dB,oy hi,rF hi,rG hi,rH hi,br,bN,hq,d,e.1,e.2,j]) (λn=>by
  simp only[l4,r4,dv,c8,bk,bg,ax,cE]) ck 0 (bA _) ez
 exact key
end ni
namespace vK
open _root_.Go.FG.Lib (rs rf rc rd En el oy rF rG rH)
open gL (Wo Ev zG l_)
open k7 (dk es)
open ig (u9)
open ew (ri u7 s_ ju)
theorem walk(N:aN)(L:aE En)(B:L.length<=1048576)(A:L.length<N)(K0 K1:ay->ay->ay->ay->Row->Row->Row->Row->Row->Row->Row->Row->Row->Row->Row->aA R)(now a5 f:ay)(j k o r s t u a d:Row):
  l7 N K0 K1 N 0 now a5 f (re L) (re []) j k o r s t u a d=K0 (L.length:ay) now a5 f (re L) (re (L.filter λe=>fV.sf e now)) j k o r s t u a d:=by
 have z:∀i,i<L.length->bE ((i:ay)+1)=((i+1:aN):ay):=λi h=>cw h (by omega)
 have key:=Bj L (λe=>fV.sf e now) (λm (i:aN) acc=>l7 N K0 K1 m (i:ay) now a5 f (re L) (re acc) j k o r s t u a d) (λacc=>K0 (L.length:ay) now a5 f (re L) (re acc) j k o r s t u a d) []
  (λm i acc hi y hp=>by rw[<-eT hi]at hp⊢;unfold fV.sf at hp;rw[ug.eq]at hp;simp only[l7,r7,dv,c8,hi,aQ,b_,aL,aw,dB,oy hi,rF hi,rG hi,rH hi,br,bN,hp,z i hi,ew.tL,ew.s_];rw[b0 (by simp at y;omega) (by simp at y;omega),aw])
  (λm i acc hi hp=>by rw[<-eT hi]at hp;unfold fV.sf at hp;rw[ug.eq]at hp;simp only[l7,r7,dv,c8,hi,aQ,b_,aL,aw,dB,oy hi,rF hi,rG hi,rH hi,br,bN,hp,z i hi,ax])
  (λm acc=>by simp only[l7,r7,dv,c8,bk,bg,ax])
  N A
 exact key
theorem ok{i:aN}(h:u9 i w)(hi:i<=71)(k id:ay)(t:au)(n:ay)(left:Row):c w.p.now (re w.p.en) (rs w.p.w) (rs w.p.m) (rr w.p.s) w.p.a (rf w.p.fe) (rc w.p.cl) w.p.hits (rd (dk w.o)) (ri w.cd) (re w.bd) k id t n left=ao/\v w.p.now (re w.p.en) (rs w.p.w) (rs w.p.m) (rr w.p.s) w.p.a (rf w.p.fe) (rc w.p.cl) w.p.hits (rd (dk w.o)) (ri w.cd) (re w.bd) k id t n left=u7 (zG w):=by
 refine out _ _ _ _ _ _ _ _ _ _ _ _ _ _ _ _ _ ?_;have O:=h.tx hi;have z:=h.len hi;have H:=k7.Bd w.o;have A:=vO.ok (o:=w.o) (by omega) left;have B:=(k7.Xz (o:=w.o) (by omega) h.eo).2;have K:=iK.Jd (es w.o);have y:=ig.Fk h.eo;have I:=ig.Bn w;have M:=ig.SJ _ y;have C:=jq.ok (rd (dk w.o)) (re (l_ w)) (by rw[dX];omega) (by rw[dv];omega);rw[k7.Xy (by omega) y]at C;have D:=pM.ok (dk w.o) (pd.sF (iK.tx (l_ w))) (by omega) (by unfold pd.sF;simp) (λx r=>by
  unfold pd.sF at r;simp only[cm,ld,or_false]at r;rcases r with rfl|rfl|rfl
  ·show(iK.tx (l_ w)).size<=_;omega
  ·exact bA _
  ·exact bA _)
 rw[k7.KY (by omega) (by omega)]at D;have E:=ni.ok w.p.now (l_ w) (by omega);unfold vo;generalize u:ck=N;have j:(iK.kp (es w.o)).length<N:=by rw[<-u];exact ez
 clear u;unfold b;rw[A.1,aw,A.2,ew.lt_eq];rw[show(rd (dk w.o),ao).2=ao from rfl,aw,show(rd (dk w.o),ao).1=rd (dk w.o)from rfl];rw[B.1,aw,B.2,ew.lt_eq,show aT [Ck.s,Ck.i ak,Ck.i ak,Ck.s] 0=re []from rfl,walk N (iK.kp (es w.o)) (by omega) j];have e:((f:aE En)->f=iK.kp (es w.o)->f.filter (λe=>fV.sf e w.p.now)=l_ w):=λ_ h=>by subst h;rfl
 rw[e _ rfl];simp only[ew.lt_eq,C.1,C.2,D.1,D.2,E.1,E.2,aw];have d:=fV.sS w.p.now (l_ w) (l_ w).length (bT _);rw[cE]at d;unfold u7 zG;dsimp only;rw[d.now,d.fe,d.cl,d.hits];rfl
end vK
namespace Tg
open _root_.Go.FG.Lib (rs rf rc rd En el)
open gL (Wo Ev closed zG l_ gA flag)
open k7 (dk es)
open ig (u9)
open ew (ri u7 s_ ju)
theorem fl(b:aY):zv.v b=flag b:=by cases b<;>rfl
theorem left(l:aE Lib.Cl)(id:ay):ah ((((l.filter λc=> !decide (c.id=id)).length:aN):ay)<(l.length:ay))=fS.ll l id:=by
 unfold fS.ll;cases h:l.any λx=>ah (x.id=id)with
 |true=>
  obtain⟨x,a,hp⟩:=List.any_eq_true.1 h;have:(l.filter λc=> !decide (c.id=id)).length<l.length:=by rw[List.length_filter_lt_length_iff_exists];exact⟨x,a,by simpa using hp⟩
  exact aC (by omega)
 |false=>
  rw[Xk]at h;have:l.filter (λc=> !decide (c.id=id))=l:=eh.2 λx a=>by have:=h x a;simpa using this
  rw[this];exact aF (by omega)
theorem ok{i:aN}(h:u9 i w)(hi:i<=71)(d:gA e=ao):c w.p.now (re w.p.en) (rs w.p.w) (rs w.p.m) (rr w.p.s) w.p.a (rf w.p.fe) (rc w.p.cl) w.p.hits (rd (dk w.o)) (ri w.cd) (re w.bd) e.k e.id e.t e.n e.l=ao/\v w.p.now (re w.p.en) (rs w.p.w) (rs w.p.m) (rr w.p.s) w.p.a (rf w.p.fe) (rc w.p.cl) w.p.hits (rd (dk w.o)) (ri w.cd) (re w.bd) e.k e.id e.t e.n e.l=((gL.act w e).2,u7 (gL.act w e).1):=by
 unfold gA at d;simp only[aM,bf]at d;obtain⟨hk,hid,C,B,hl⟩:=d;have hp:=ju h.px;refine out _ _ _ _ _ _ _ _ _ _ _ _ _ _ _ _ _ ?_;unfold vo b gL.act;by_cases j:e.k=1
 ·rw[aC j,aw];have A:=vJ.ok w.p e.id e.t hp (by omega);rw[A.1,aw,A.2,ew.lt_eq];try rfl
 rw[aF j,ax,ax];by_cases r:e.k=2
 ·rw[aC r,aw];have A:=Cx.ok w.p e.id e.t hp;rw[A.1,aw,A.2,ew.lt_eq,fl];unfold u7 fw.Cp;cases fw.sZ w.p e.id&&(ah (1<=e.t.size/\e.t.size<=40)&&ah ((el w.p.fe e.id.toNat).t.size+e.t.size<=400))<;>rfl
 rw[aF r,ax,ax];by_cases k3:e.k=3
 ·rw[aC k3,aw];have A:=Cy.ok h hi e.k e.id e.t e.n e.l B;rw[k3]at A;rw[k3,A.1,aw,A.2,ew.lt_eq];try rfl
 rw[aF k3,ax,ax];by_cases u:e.k=4
 ·rw[aC u,aw];have A:=Cz.ok w.p e.id hp;rw[A.1,aw,A.2,ew.lt_eq,fl];unfold u7 fw.Cm;cases fw.sZ w.p e.id<;>rfl
 rw[aF u,ax,ax];by_cases y:e.k=5
 ·rw[aC y,aw];have A:=rR.ok w.p e.n hp;rw[A.1,aw,A.2,ew.lt_eq];try rfl
 rw[aF y,ax,ax];by_cases z:e.k=6
 ·rw[aC z,aw];have A:=ud.ok w.p e.id hp;rw[A.1,aw,A.2,ew.lt_eq,fl];dsimp only;rw[eL,eL,show(ud.val w.p e.id).cl=w.p.cl.filter (λc=> !decide (c.id=e.id))from rfl,left];try rfl
 rw[aF z,ax,ax];have f:e.k=7:=by omega
 rw[aC f,aw];have A:=vK.ok h hi e.k e.id e.t e.n e.l;rw[f]at A;rw[f,A.1,aw,A.2,ew.lt_eq];try rfl
end Tg
namespace PK
open _root_.Go.FG.Lib (rs rf rc rd En el)
open gL (Wo Ev closed zG l_ gA flag)
open k7 (dk es)
open ig (u9)
open ew (ri u7 s_ ju)
theorem PQ(w:Wo)(e:Ev):(gL.act w e).1.cd=w.cd:=by
 unfold gL.act closed;cases ah (e.k=1)<;>cases ah (e.k=2)<;>cases ah (e.k=3)<;>cases ah (e.k=4)<;>cases ah (e.k=5)<;>cases ah (e.k=6)<;>(try rfl)
 all_goals
  dsimp only[aw,ax]
  cases (pZ.cls w.p e.id (e.n%1000000)).2&&ah (e.n%1000000>0)<;>rfl
theorem ok{i:aN}(h:u9 i w)(hi:i<=71)(j:gA e=ao):c w.p.now (re w.p.en) (rs w.p.w) (rs w.p.m) (rr w.p.s) w.p.a (rf w.p.fe) (rc w.p.cl) w.p.hits (rd (dk w.o)) (ri w.cd) (re w.bd) e.k e.id e.t e.n e.l=ao/\v w.p.now (re w.p.en) (rs w.p.w) (rs w.p.m) (rr w.p.s) w.p.a (rf w.p.fe) (rc w.p.cl) w.p.hits (rd (dk w.o)) (ri w.cd) (re w.bd) e.k e.id e.t e.n e.l=u7 (gL.step w e):=by
 refine out _ _ _ _ _ _ _ _ _ _ _ _ _ _ _ _ _ ?_;have A:=Tg.ok h hi j;have f:=h.cd;unfold vo b;rw[A.1,aw,A.2,ew.lt_eq];have d:(u7 (gL.act w e).1).2.2.2.2.2.2.2.2.2.2.1=ri w.cd:=by unfold u7;rw[PQ]
 have r1:b8 ((aT [Ck.i ak] 0).length+(ri w.cd).length) 8=true:=by rw[ew.fa];exact b0 (by show(0+w.cd.length)*8<=_;omega) (by show 0+w.cd.length<=_;omega)
 have r2:b8 ((ri w.cd).length+(aP (aT [Ck.i ak] 1) 0 [CV.i ak (gL.act w e).2]).length) 8=true:=by rw[ew.fa,ew.tL];exact b0 (by omega) (by omega)
 show(bif b8 ((aT [Ck.i ak] 0).length+((u7 (gL.act w e).1).2.2.2.2.2.2.2.2.2.2.1).length) 8 then _ else aj)=_;simp only[d,ew.alf,r1,r2,aw,ew.Y_];rfl
end PK
namespace S'
open _root_.Go.FG.Lib (rs rf rc rd En el)
open gL (Wo)
open k7 (dk)
open ig (u9)
open ew (ri u7 ju)
theorem ok{i:aN}(h:u9 i w)(hi:i<=71):c w.p.now (re w.p.en) (rs w.p.w) (rs w.p.m) (rr w.p.s) w.p.a (rf w.p.fe) (rc w.p.cl) w.p.hits (rd (dk w.o)) (ri w.cd) (re w.bd)=ao/\v w.p.now (re w.p.en) (rs w.p.w) (rs w.p.m) (rr w.p.s) w.p.a (rf w.p.fe) (rc w.p.cl) w.p.hits (rd (dk w.o)) (ri w.cd) (re w.bd)=u7 w:=by
 refine out _ _ _ _ _ _ _ _ _ _ _ _ ?_;have A:=kt.ok w.p (ju h.px);have f:=k7.Bd w.o;have e:=h.cd;have d:=h.bd;have r1:b8 ((aT [Ck.s,Ck.s,Ck.i ak] 0).length+(rd (dk w.o)).length) 40=true:=by rw[dX];exact b0 (by show(0+(dk w.o).length)*40<=_;omega) (by show 0+(dk w.o).length<=_;omega)
 have r2:b8 ((aT [Ck.i ak] 0).length+(ri w.cd).length) 8=true:=by rw[ew.fa];exact b0 (by show(0+w.cd.length)*8<=_;omega) (by show 0+w.cd.length<=_;omega)
 have r3:b8 ((aT [Ck.s,Ck.i ak,Ck.i ak,Ck.s] 0).length+(re w.bd).length) 48=true:=by rw[dv];exact b0 (by show(0+w.bd.length)*48<=_;omega) (by show 0+w.bd.length<=_;omega)
 unfold vo b;rw[A.1,aw,A.2,ew.lt_eq,r1,aw,r2,aw,r3,aw];rfl
end S'
namespace KG
open _root_.Go.FG.Lib (rs rf rc rd En el)
open gL (Wo Ev gA)
open k7 (dk es)
open ig (u9)
open ew (ri u7)
open k6 (rv kj wv0 wv1 wv2 wv3 wv4 run yJ qs Jx CL life W13 qh)
theorem chk(N:aN)(l:aE Ev)(hl:l.length<=1048576)(K:Row->aY->ay->ay->ay->ay->aA R)(f:aA R)(j:∀(i:ay),K (rv l) aq i 0 0 0=f):∀(d i n:aN) (b:aY),l.length-i<=d->i<=l.length->d<n->
  l3 N K n (rv l) b (i:ay) 0 0 0=bif(b&&(iA i (l.length-i)).all λi=>gA (el l i))then K (rv l) ao (l.length:ay) 0 0 0 else f:=by
 have fin:∀(n:aN) (b:aY),l3 N K (n+1) (rv l) b (l.length:ay) 0 0 0=bif(b&&(iA l.length (l.length-l.length)).all λi=>gA (el l i))then K (rv l) ao (l.length:ay) 0 0 0 else f:=by
  intro n b;simp only[l3,r3,kj,c8,bk,bg,ax,pf,TS,Cv,gh];cases b with
  |true=>rfl
  |false=>exact j _
 intro d;induction d with
 |zero=>
  intro i n b k o r;obtain⟨n,rfl⟩:∃m,n=m+1:=⟨n-1,by omega⟩
  have:i=l.length:=by omega
  subst this;exact fin n b
 |succ d ih=>
  intro i n b k o r;obtain⟨n,rfl⟩:∃m,n=m+1:=⟨n-1,by omega⟩
  by_cases hi:i<l.length
  ·cases b with
   |false=>simp only[l3,r3,kj,c8,hi,aQ,aw,ax,j,kQ]
   |true=>
    have a:bE ((i:ay)+1)=((i+1:aN):ay):=cw hi (by omega);have e:(iA i (l.length-i)).all (λi=>gA (el l i))=(gA (el l i)&&(iA (i+1) (l.length-(i+1))).all λi=>gA (el l i)):=by rw[show l.length-i=(l.length-(i+1))+1 by omega,List.range'_succ,jc]
    have s:=ih (i+1) n (gA (el l i)) (by omega) hi (by omega);rw[e,bj,<-s];simp only[l3,r3,kj,c8,hi,aQ,b_,aL,aw,dB,wv0 hi,wv1 hi,wv2 hi,wv3 hi,wv4 hi,bN,br,iH,k6.LC,a]
  ·have:i=l.length:=by omega
   subst this;exact fin n b
theorem go(N:aN)(l:aE Ev)(hl:l.length<=70)(r:∀e∈l,gA e=ao)(K:Row->ay->ay->ay->ay->ay->ay->ay->Row->Row->Row->Row->Row->Row->Row->Row->Row->aA R):∀(d i n:aN) (w:Wo),w=run (l.take i)->l.length-i<=d->i<=l.length->d<n->
  l10 N K n (rv l) (i:ay) 0 0 0 w.p.now w.p.a w.p.hits (re w.p.en) (rs w.p.w) (rs w.p.m) (rr w.p.s) (rf w.p.fe) (rc w.p.cl) (rd (dk w.o)) (ri w.cd) (re w.bd)=K (rv l) (l.length:ay) 0 0 0 (run l).p.now (run l).p.a (run l).p.hits (re (run l).p.en) (rs (run l).p.w) (rs (run l).p.m) (rr (run l).p.s) (rf (run l).p.fe) (rc (run l).p.cl) (rd (dk (run l).o)) (ri (run l).cd) (re (run l).bd):=by
 have fin:∀(n:aN) (w:Wo),w=run (l.take l.length)->l10 N K (n+1) (rv l) (l.length:ay) 0 0 0 w.p.now w.p.a w.p.hits (re w.p.en) (rs w.p.w) (rs w.p.m) (rr w.p.s) (rf w.p.fe) (rc w.p.cl) (rd (dk w.o)) (ri w.cd) (re w.bd)=K (rv l) (l.length:ay) 0 0 0 (run l).p.now (run l).p.a (run l).p.hits (re (run l).p.en) (rs (run l).p.w) (rs (run l).p.m) (rr (run l).p.s) (rf (run l).p.fe) (rc (run l).p.cl) (rd (dk (run l).o)) (ri (run l).cd) (re (run l).bd):=by intro n w f;rw[cE]at f;subst f;simp only[l10,wA,kj,c8,bk,bg,ax]
 intro d;induction d with
 |zero=>
  intro i n w f t k u;obtain⟨n,rfl⟩:∃m,n=m+1:=⟨n-1,by omega⟩
  have:i=l.length:=by omega
  subst this;exact fin n w f
 |succ d ih=>
  intro i n w f t k u;obtain⟨n,rfl⟩:∃m,n=m+1:=⟨n-1,by omega⟩
  by_cases hi:i<l.length
  ·have y:u9 i w:=by rw[f];exact yJ r i k
   have hE:=r _ (jt hi);have A:=PK.ok y (by omega) hE;have z:=ih (i+1) n (gL.step w (el l i)) (by rw[qs l i hi,f]) (by omega) hi (by omega);refine Eq.trans ?_ z;have j:bE ((i:ay)+1)=((i+1:aN):ay):=cw hi (by omega);simp only[l10,wA,kj,c8,hi,aQ,b_,aL,aw,dB,wv0 hi,wv1 hi,wv2 hi,wv3 hi,wv4 hi,bN,br,iH,j];rw[A.1,aw,A.2,ew.lt_eq];rfl
  ·have:i=l.length:=by omega
   subst this;exact fin n w f
theorem ok(l:aE Ev)(hl:l.length<=1048576):c (rv l)=ao/\v (rv l)=life l:=by
 refine out _ ?_;unfold vo;generalize j:ck=N;have a:l.length<N:=by rw[<-j];exact ez
 clear j;unfold b;simp only[kj];have e:(ah (l.length<=70)&&(iA 0 (l.length-0)).all λi=>gA (el l i))=CL l:=by unfold CL;rw[og,TT]
 have d:ah (((l.length:aN):ay)<=70)=ah (l.length<=70):=by rw[bZ];omega
 rw[d];rw[show l3 N _ N (rv l) (ah (l.length<=70)) 0 0 0 0=_ from chk N l hl _ (ai (0,[],[],[],[],0,[],[],0,[],[],[],aq)) (λ_=>rfl) l.length 0 N (ah (l.length<=70)) (by omega) (by omega) a,e];unfold life;cases hg:CL l with
 |false=>rfl
 |true=>obtain⟨f,k⟩:=qh.1 hg;rw[aw,aw,aZ,ax];refine(go N l f k _ l.length 0 N k6.w0 rfl (by omega) (by omega) a).trans ?_;have C:=S'.ok (Jx k) (by omega);rw[C.1,aw,C.2,ew.lt_eq];rfl
end KG
namespace adK
theorem lt_eq(x:α)(f:α->β):ch x f=f x:=by have h:∀y,y=ch x f->y=f x:=λy a=>a.trans (Eq.refl _);exact h _ (Eq.refl _)
end adK
namespace Io
open _root_.Go.FG.Lib (rc el)
open d' (shown ln room A' sp Cn)
theorem step(K:au->ay->ay->Row->Row->Row->Row->ay->Row->Row->ay->aA R)(i0:ay)(y z A e:Row)(t:ay)(f:Row)(u:ay)(l:aE Cl)(B:room l<=1000000000)(s:∀c∈l,A' c)(m i:aN)(h:i<l.length):
  l3 ck K (m+1) (shown (l.take i)) (i:ay) i0 y z A e t f (rc l) u=l3 ck K m (shown (l.take (i+1))) ((i+1:aN):ay) i0 y z A e t f (rc l) u:=by
 have a:=s _ (jt h);have j:=d'.num _ a.1;have k:=d'.num _ a.2;have s1:=iT.mr _ (d'.mv a.1).1 (d'.mv a.1).2;have H:=iT.mr _ (d'.mv a.2).1 (d'.mv a.2).2;have I:=d'.BU l i h;have M:(shown (l.take i)).size<=room l:=cf (d'.oY _ (λc a=>s c (ia a))) (d'.yG l i);rw[show l3 ck K (m+1)=r3 ck (l3 ck K m) K from rfl];unfold r3;have hl:l.length<=1000000000:=by
  have:∀l:aE Cl,l.length<=room l:=by
   intro l;induction l with
   |nil=>exact bT _
   |cons c r ih=>unfold room;simp only[bR];omega
  exact cf (this l) B
 rw[d'.take_succ l i h,show bE ((i:ay)+1)=((i+1:aN):ay)from dq (by omega) (by omega),eL];have e:((az #[ar 100,ar 111,ar 110,ar 101]):au).size=4:=rfl;have C:((az #[ar 119,ar 97,ar 105,ar 116,ar 115]):au).size=5:=rfl;have f:((az #[ar 102,ar 97,ar 105,ar 108,ar 101,ar 100]):au).size=6:=rfl;simp only[adK.lt_eq,dG,JV h,NX h,NY h,NZ h,bN,br,j.1,j.2,k.1,k.2,aw,aC (show(i:ay)<(l.length:ay)by omega),aC (show 0<=(i:ay)by omega),aL,dm,show sp.size=1 from rfl,show Cn.size=1 from rfl,e,C,f];have w1:∀{n:aN},n<=4000000000->ah (n<=4611686018427387904)=true:=λh=>aC (by omega);unfold d'.ln d'.st H0.v;by_cases o:(el l i).sta=1
 ·have d:¬(el l i).sta=2:=by omega
  simp only[aC o,aF d,aw,ax];repeat rw[w1 (by omega)]
  simp only[aw,c_]
 ·simp only[aF o,ax];by_cases d:(el l i).sta=2
  ·simp only[aC d,aw];repeat rw[w1 (by omega)]
   simp only[aw,c_]
  ·simp only[aF d,ax];repeat rw[w1 (by omega)]
   simp only[aw,c_]
theorem ok(i0:ay)(f j k o:Row)(d:ay)(s:Row)(l:aE Cl)(e:ay)(t:room l<=1000000000)(u:∀c∈l,A' c):c i0 f j k o d s (rc l) e=ao/\v i0 f j k o d s (rc l) e=shown l:=by
 refine out _ _ _ _ _ _ _ _ _ ?_;unfold vo b;have hl:l.length<=1000000000:=by
  have:∀l:aE Cl,l.length<=room l:=by
   intro l;induction l with
   |nil=>exact bT _
   |cons c r ih=>unfold room;simp only[bR];omega
  exact cf (this l) t
 have key:=im l.length (λm (i:aN) (x:au)=>l3 ck (λa (_ _:ay) (_ _ _ _:Row) (_:ay) (_ _:Row) (_:ay)=>ai a) m x (i:ay) i0 f j k o d s (rc l) e) (λi=>shown (l.take i)) (ai (shown l)) (λm i h=>step _ i0 f j k o d s e l t u m i h) (λm=>by rw[show l3 ck (λa (_ _:ay) (_ _ _ _:Row) (_:ay) (_ _:Row) (_:ay)=>ai a) (m+1)=r3 ck (l3 ck (λa (_ _:ay) (_ _ _ _:Row) (_:ay) (_ _:Row) (_:ay)=>ai a) m) (λa (_ _:ay) (_ _ _ _:Row) (_:ay) (_ _:Row) (_:ay)=>ai a)from rfl];unfold Io.r3;rw[eL,qe,ax,cE]) ck 0 (bA _) ez;exact key
end Io
namespace U6
open _root_.Go.FG.Lib (rs rf rc rd En el)
open iN (tl jo con wtx hd Tel yp w1)
open d' (sp Cn shown)
open iT (it)
open gL (Wo)
open ew (ri)
open w6 (eD)
theorem ahH(N:aN)(K:au->ay->ay->ay->ay->Row->Row->Row->Row->Row->Row->Row->Row->Row->aA R)(a b d:ay)(o r s t u y z A:Row)(l:aE ay)(hl:l.length<=70)(j:∀n∈l,yp n)(m i:aN)(h:i<l.length):
  l7 N K (m+1) (jo ((l.take i).map it)) (i:ay) a b d o r s t u y z (ri l) A=l7 N K m (jo ((l.take (i+1)).map it)) ((i+1:aN):ay) a b d o r s t u y z (ri l) A:=by
 have e:=j _ (jt h);have D:=iT.eq (el l i) (by have:=e.1;omega) (by have:=e.2;omega);have s1:=iN.Yo e;have B:=iN.QI hl j i;have f:av (ri l) i 0=CV.i ak (el l i):=fH _ l i 0 h;have k:bE ((i:ay)+1)=((i+1:aN):ay):=cw h (by omega);rw[show l7 N K (m+1)=r7 N (l7 N K m) K from rfl];unfold r7;by_cases h0:i=0
 ·subst h0;rw[iN.JO l 0 h];simp only[ew.fa,c8,h,aQ,aw,b_,aL,dB,f,bN,D.1,D.2,ew.lt_eq,k,show ah (((0:aN):ay)>0)=aq from rfl,ax,pJ,uU,eJ,dm];rw[w1 (by show 0+_<=_;omega),aw];rw[show jo []++it (el l 0)=jo [it (el l 0)]from by show(⟨#[]⟩:au)++_=_++⟨#[]⟩;rw[d'.tA,d'.Al]]
 ·have hp:ah ((i:ay)>0)=true:=aC (by omega);rw[iN.ahK l i h (by omega)];simp only[ew.fa,c8,h,aQ,aw,b_,aL,dB,f,bN,D.1,D.2,ew.lt_eq,k,hp,dm,show sp.size=1 from rfl];rw[w1 (by omega),w1 (by omega),aw,aw]
theorem P9(N:aN)(K:au->ay->ay->ay->ay->Row->Row->Row->Row->Row->Row->Row->Row->Row->aA R)(a b d:ay)(e f j k o r s t:Row)(l:aE ay)(hl:l.length<=70)(u:∀n∈l,yp n)(n:aN)(y:l.length<n):
  l7 N K n ⟨#[]⟩ 0 a b d e f j k o r s (ri l) t=K (jo (l.map it)) (l.length:ay) a b d e f j k o r s (ri l) t:=by refine im l.length (λm (i:aN) (x:au)=>l7 N K m x (i:ay) a b d e f j k o r s (ri l) t) (λi=>jo ((l.take i).map it)) _ (λm i h=>ahH N K a b d e f j k o r s t l hl u m i h) (λm=> ?_) n 0 (bA _) (by omega);rw[show l7 N K (m+1)=r7 N (l7 N K m) K from rfl];unfold r7;rw[ew.fa,qe,ax,cE]
theorem keys(N:aN)(K:au->ay->ay->ay->ay->Row->Row->Row->Row->Row->Row->Row->Row->Row->aA R)(x:au)(C:x.size<=10000)(a b d:ay)(f j o r s t u z:Row)(l:aE En)(hl:l.length<=1048576)(hk:∀e∈l,e.k.size<=30)(n:aN)(B:l.length<n):
  CN N K n x 0 a b d (re l) f j o r s t u z=K (x++tl (l.map (·.k))) (l.length:ay) a b d (re l) f j o r s t u z:=by
 have key:=im l.length (λm (i:aN) (y:au)=>CN N K m y (i:ay) a b d (re l) f j o r s t u z) (λi=>x++tl ((l.take i).map (·.k))) (K (x++tl (l.map (·.k))) (l.length:ay) a b d (re l) f j o r s t u z) (λm i h=> ?_) (λm=> ?_) n 0 (bA _) (by omega)
 ·rw[show x++tl ((l.take 0).map (·.k))=x from d'.tA x]at key;exact key
 ·have s1:=hk _ (jt h);have H:=iN.L7 hl hk i;have A:bE ((i:ay)+1)=((i+1:aN):ay):=cw h (by omega);rw[show CN N K (m+1)=Ns N (CN N K m) K from rfl,iN.aae l i h];unfold Ns;simp only[dv,c8,h,aQ,aw,b_,aL,dB,oy h,br,A,dm,show sp.size=1 from rfl];rw[w1 (by omega),w1 (by omega),aw,aw];simp only[c_]
 ·rw[show CN N K (m+1)=Ns N (CN N K m) K from rfl];unfold Ns;rw[dv,qe,ax,cE]
theorem ok(s:au):c s=ao/\v s=con s:=by
 refine out _ ?_;unfold vo;generalize o:ck=N;have k:∀{n:aN},n<=1048576->n<N:=λh=>by rw[<-o];exact ez
 clear o;unfold b;have A:=NQ.ok s;have F:=iN.G6 s;have S:=w6.DN s;have d:((az #[ar 104,ar 105,ar 116,ar 115,ar 32]):au).size=5:=rfl;have f:((az #[ar 32,ar 107,ar 101,ar 112,ar 116]):au).size=5:=rfl;have y:((az #[ar 102,ar 97,ar 117,ar 108,ar 116,ar 32]):au).size=6:=rfl;rw[A.1,aw,A.2,ew.lt_eq];dsimp only;unfold iN.con;by_cases h0:(eD s).2=0
 ·rw[bm h0,show((eD s).2 !=0)=aq from by rw[h0];rfl,ax];have L:=KG.ok (eD s).1 (by omega);have r:∀e∈(eD s).1,gL.gA e=true:=λe h=>(S.2 e h).1;have T:=iN.tel S.1 r;have t:k6.life (eD s).1=k6.W13 (k6.run (eD s).1) true:=by unfold k6.life;rw[k6.qh.2 ⟨S.1,r⟩,aw]
  rw[L.1,aw,L.2,ew.lt_eq,t];generalize k6.run (eD s).1=w at T;unfold k6.W13;dsimp only;rw[P9 N _ _ _ _ _ _ _ _ _ _ _ _ w.cd T.ln T.cd N (k (cf T.ln (by omega)))];have C:=Io.ok w.p.now (re w.p.en) (rs w.p.w) (rs w.p.m) (rr w.p.s) w.p.a (rf w.p.fe) w.p.cl w.p.hits (cf T.rm (by omega)) T.cl;have z:=T.px.hits;have D:=iT.eq w.p.hits (by omega) (by omega);have s1:=iT.mr w.p.hits (by omega) (by omega);have B:=cf (d'.oY _ T.cl) T.rm;have s3:=iN.QI T.ln T.cd w.cd.length;rw[cE]at s3;have u:=iN.L7 T.en T.ks w.p.en.length;rw[cE]at u;unfold iN.wtx iN.hd;by_cases j:w.cd=[]
  ·rw[ew.fa,bm j,j,aF (by simp),ax];simp only[C.1,C.2,D.1,D.2,ew.lt_eq,aw,dm,d,f,show(jo (([]:aE ay).map it)).size=0 from rfl];repeat rw[w1 (by omega)]
   simp only[aw];rw[keys N _ _ (by simp only[dm,d,f,show(jo (([]:aE ay).map it)).size=0 from rfl];omega) _ _ _ _ _ _ _ _ _ _ _ w.p.en T.en T.ks N (k T.en)];simp only[dm,d,f,show(jo (([]:aE ay).map it)).size=0 from rfl,show Cn.size=1 from rfl];rw[w1 (by omega),aw];simp only[c_];rfl
  ·have hl:0<w.cd.length:=NL.2 j;rw[ew.fa,bh j,lJ,aw];simp only[C.1,C.2,D.1,D.2,ew.lt_eq,aw,dm,d,f,show Cn.size=1 from rfl];repeat rw[w1 (by omega)]
   simp only[aw];rw[keys N _ _ (by simp only[dm,d,f,show Cn.size=1 from rfl];omega) _ _ _ _ _ _ _ _ _ _ _ w.p.en T.en T.ks N (k T.en)];simp only[dm,d,f,show Cn.size=1 from rfl];rw[w1 (by omega),aw];simp only[c_];rfl
 ·have D:=iT.eq (eD s).2 (by omega) (by omega);have s1:=iT.mr (eD s).2 (by omega) (by omega);rw[bh h0,bne_iff_ne.2 h0,aw];simp only[D.1,D.2,ew.lt_eq,aw,dm,y,show Cn.size=1 from rfl];rw[w1 (by omega),w1 (by omega),aw,aw];simp only[c_];rfl
end U6
namespace o7
open _root_.Go.FG.Lib (rs)
open vt (sp mk H7 bt sz)
open na (parts W ne F' within)
theorem wds(L:aE au)(K:Row->ay->ay->Row->aA (Row×aY))(hl:L.length<=601):l10 ck K ck (rs L) (L.length:ay) 0 []=K (rs L) (L.length:ay) (L.length:ay) (rs (L.filter ne)):=by
 have key:=im L.length (λm (i:aN) (t:Row)=>l10 ck K m (rs L) (L.length:ay) (i:ay) t) (λi=>rs ((L.take i).filter ne)) (K (rs L) (L.length:ay) (L.length:ay) (rs (L.filter ne))) (λm i h=>by
  have j:av (rs L) i 0=CV.s L[i]:=by rw[cz (by simp[Lib.rs];exact h)];simp[Lib.rs]
  have f:(rs L).length=L.length:=by simp[Lib.rs]
  have o:(rs ((L.take i).filter ne)).length<=601:=by have:=d_ ne (L.take i);rw[du]at this;simp only[Lib.rs,bJ];omega
  have k:(L.take (i+1)).filter ne=(L.take i).filter ne++(if ne L[i]then [L[i]]else []):=by rw[bO h,fy];cases d:ne L[i]<;>simp[d]
  have hq:(!List.beq (aG L[i]) (aG (az #[])))=ne L[i]:=by
   rw[_root_.Go.Lib.toList_data,_root_.Go.Lib.toList_data];unfold na.ne;show(!(L[i].data.toList==[]))=_;cases e:L[i].data.toList with
   |nil=>rw[show L[i].size=L[i].data.toList.length from rfl,e];rfl
   |cons a t=>rw[show L[i].size=L[i].data.toList.length from rfl,e];rfl
  simp only[l10,wA,c8,h,aQ,f,b_,aL,aw,dB,j,br,hq,cw h (show L.length<=9223372036854775807 by omega)];rw[k];cases d:ne L[i]with
  |false=>simp only[ax,db,if_false,cZ]
  |true=>rw[aw,show b8 (bB (rs ((L.take i).filter ne))+bB (aP (aT [Ck.s] 1) 0 [CV.s L[i]])) 16=ao from b0 (by rw[b9];simp only[fA];omega) (by rw[b9];simp only[fA];omega),aw];congr 1;simp[Lib.rs];rfl) (λm=>by
  simp only[l10,wA,c8,bk,bg,ax,cE]) ck 0 (bA _) ez
 exact key
theorem ok(s:au):c s=ao/\v s=(rs (parts s).1,(parts s).2):=by
 refine out _ ?_;unfold vo b;by_cases hs:(s.size:ay)>600
 ·rw[aC hs,aw];unfold na.parts;rw[aF (show¬s.size<=600 by omega)];rfl
 ·rw[aF hs,ax];have hs:s.size<=600:=by omega
  have key:∀(m i:aN),i<=s.size->s.size-i<m->(s.data.toList.take i).all F'=ao->∀K0 K1:au->aY->ay->Row->aA (Row×aY),(∀a b c d,K0 a b c d=ai ([],b))->
    (s.data.toList.all F'=ao->K1 s aq (s.size:ay) []=ai (rs (parts s).1,(parts s).2))->
    l5 ck K0 K1 m s aq (i:ay) []=ai (rs (parts s).1,(parts s).2):=by
   intro m
   induction m with
   |zero=>intro i _ h;omega
   |succ m ih=>
    intro i hi hm hd K0 K1 f j;by_cases h:i<s.size
    ·have u:=bt h;have hl:i<s.data.toList.length:=by rw[sz];exact h
     have z:(s.data.toList[i]).toNat<256:=CG _;have e:j4.v (bE (((s.data.toList[i]).toNat:aN):ay)) 32 126=F' s.data.toList[i]:=by rw[within,dq (by omega) (by omega)];unfold na.F';congr 1<;>(rw[bZ];omega)
     simp only[l5,r5,c8,h,aQ,b_,aL,aw,dB,u,e,cw h (show s.size<=9223372036854775807 by omega)];cases k:F' s.data.toList[i]with
     |false=>rw[bG,aw,f,na.bad (bw hl) k];rfl
     |true=>rw[aZ,ax];exact ih (i+1) h (by omega) (na.GL hl hd k) K0 K1 f j
    ·have:i=s.size:=by omega
     subst this;rw[dH (by rw[sz];omega)]at hd;simp only[l5,r5,c8,bk,bg,ax];exact j hd
  refine key ck 0 (bA _) ez rfl _ _ (λ_ _ _ _=>rfl) (λhd=> ?_);have r:=vt.L4 32 s (by omega);have t:=vt.L5 32 s;have y:=na.FI 32 s;rw[show((az #[ar 32]):au)=⟨#[32]⟩from rfl,r,aw,t];rw[show(rs (H7 32 s)).length=(H7 32 s).length from by simp[Lib.rs],wds (H7 32 s) _ (by omega)];dsimp only;unfold na.parts;rw[aC hs,hd];show(bif ah ((((rs (W s)).length:aN):ay)>10)then _ else ai (rs (W s),ao))=_;rw[show(rs (W s)).length=(W s).length from by simp[Lib.rs]];by_cases o:(W s).length<=10
  ·rw[qe,aC o];rfl
  ·rw[lJ,aF o];rfl
end o7
namespace C'
open _root_.Go.FG.Lib (rs)
open zk (iy)
open gL (Ev gA)
open kz (res fz cS cy ri1)
abbrev Z:au:=(az #[])
def told(e:Ev)(b:aY):aA Ev:=bif b then ai e else aj
theorem oa(e:Ev):told e (KI.v e.k e.id e.t e.n e.l)=res e true:=by unfold told kz.res;rw[k6.Am];rfl
theorem rc(h:s.size<=600):wY.c s=true:=by unfold wY.c;rw[Nat.ble_eq];omega
theorem FQ(s:au):wY.v s=iy s:=zk.abh s
abbrev T6:=ay×ay×au×ay×Row×aY
abbrev J0:aY->Row->ay->ay->ay->ay->au->ay->ay->ay->au->ay->aA T6:=λa k o r d e f j s t u y=>ai (d,e,f,j,[],a)
abbrev J1:aY->Row->ay->ay->ay->ay->au->ay->ay->ay->au->ay->aA T6:=λj k o r s t u y a d e f=>ai (a,d,e,f,[],KI.v a d e f [])
abbrev J2:aY->Row->ay->ay->ay->ay->au->ay->ay->ay->au->ay->Row->aA T6:=λk o r s a d e f t u y z j=>ai (a,d,e,f,j,k)
abbrev J3:aY->Row->ay->ay->ay->ay->au->ay->ay->ay->au->ay->Row->aA T6:=λk o r s t u y z a d e f j=>ai (a,d,e,f,j,KI.v a d e f j)
def G(o:aA T6)(x:aA Ev):Prop:=∃(e:Ev) (b:aY),o=ai (e.k,e.id,e.t,e.n,e.l,b)/\told e b=x
theorem sh(p:aE au)(hl:p.length<=600)(hs:∀x∈p,x.size<=600):∀(m i:aN) (acc:Row),i<=p.length->p.length-i<m->acc.length<=i->
  G (nT ck J0 J1 J2 J3 m aq (rs p) (p.length:ay) (i:ay) 0 0 Z 0 7 0 Z 0 acc) (res ⟨7,0,Z,0,(fz (p.drop i) acc).1⟩ (fz (p.drop i) acc).2):=by
 intro m;induction m with
 |zero=>intro i acc _ h;omega
 |succ m ih=>
  intro i acc hi hm j;by_cases h:i<p.length
  ·have f:p.drop i=p[i]::p.drop (i+1):=cq h;have a:p.getD i ⟨#[]⟩=p[i]:=by simp[dZ,h]
   have d:=rc (hs _ (bw h));have rm:b8 (bB acc+bB [[CV.i ak (iy p[i]).1]]) 8=true:=b0 (by simp;omega) (by simp;omega);rw[f,fz];cases e:(iy p[i]).2 with
   |true=>
    have st:nT ck J0 J1 J2 J3 (m+1) aq (rs p) (p.length:ay) (i:ay) 0 0 Z 0 7 0 Z 0 acc=nT ck J0 J1 J2 J3 m aq (rs p) (p.length:ay) ((i+1:aN):ay) 0 0 Z 0 7 0 Z 0 (acc++[[CV.i ak (iy p[i]).1]]):=by simp only[nT,uw,cy,c8,h,aQ,b_,aL,aw,ax,dB,cS,d,FQ,ri1,a,e,aZ,rm,cw h (show p.length<=9223372036854775807 by omega)]
    rw[st,aw];exact ih (i+1) _ h (by omega) (by simp;omega)
   |false=>
    rw[ax];refine⟨⟨7,0,Z,0,acc⟩,aq,?_,rfl⟩
    simp only[nT,uw,cy,c8,h,aQ,b_,aL,aw,ax,dB,cS,d,FQ,ri1,a,e,bG]
  ·have:i=p.length:=by omega
   subst this;rw[cX,fz];refine⟨⟨7,0,Z,0,acc⟩,_,?_,oa _⟩
   simp only[nT,uw,cy,c8,bk,bg,ax]
theorem ok(p:aE au)(hl:p.length<=600)(hs:∀x∈p,x.size<=600):∃(e:Ev) (b:aY),c (rs p)=ao/\v (rs p)=(e.k,e.id,e.t,e.n,e.l,b)/\told e b=res ⟨7,0,Z,0,(fz p []).1⟩ (fz p []).2:=by
 have key:G (vo (rs p)) (res ⟨7,0,Z,0,(fz p []).1⟩ (fz p []).2):=by
  have r:vo (rs p)=l3 ck J0 J1 J2 J3 (18446744073709551615+1) aq (rs p) ((rs p).length:ay) 0 0 0 Z 0 7 0 Z 0:=rfl;rw[r,cy];match p,hl,hs with
  |[],_,_=>refine⟨⟨7,0,Z,0,[]⟩,_,rfl,oa _⟩
  |x::p,hl,hs=>
   have hl:p.length+1<=600:=hl;have d:=rc (hs x cD);have h0:ah ((0:ay)<(((x::p).length:aN):ay))=true:=aC (by rw[bR];omega);have a:(x::p).getD 0 ⟨#[]⟩=x:=rfl;rw[fz];cases f:(iy x).2 with
   |true=>
    have st:l3 ck J0 J1 J2 J3 (18446744073709551615+1) aq (rs (x::p)) (((x::p).length:aN):ay) 0 0 0 Z 0 7 0 Z 0=nT ck J0 J1 J2 J3 18446744073709551615 aq (rs (x::p)) (((x::p).length:aN):ay) ((1:aN):ay) 0 0 Z 0 7 0 Z 0 ([]++[[CV.i ak (iy x).1]]):=by show r3 ck (l3 ck J0 J1 J2 J3 18446744073709551615) (nT ck J0 J1 J2 J3 18446744073709551615) J0 J1 J2 J3 aq (rs (x::p)) (((x::p).length:aN):ay) 0 0 0 Z 0 7 0 Z 0=_;unfold r3;rw[h0,aw,cy,h0,show ah ((0:ay)<=0)=ao from rfl,aL,aw,show aR 0=0 from rfl,cS,a,d,aw,FQ,f,aZ,ax,ri1];rfl
    rw[st,aw];exact sh (x::p) hl hs 18446744073709551615 1 _ (by simp) (by rw[bR];omega) (by simp)
   |false=>
    rw[ax];refine⟨⟨7,0,Z,0,[]⟩,aq,?_,rfl⟩
    show r3 ck (l3 ck J0 J1 J2 J3 18446744073709551615) (nT ck J0 J1 J2 J3 18446744073709551615) J0 J1 J2 J3 aq (rs (x::p)) (((x::p).length:aN):ay) 0 0 0 Z 0 7 0 Z 0=_;unfold r3;rw[h0,aw,cy,h0,show ah ((0:ay)<=0)=ao from rfl,aL,aw,show aR 0=0 from rfl,cS,a,d,aw,FQ,f,bG,aw]
 obtain⟨e,b,j,o⟩:=key;obtain⟨s,u⟩:=out _ j;exact⟨e,b,s,u,o⟩
end C'
namespace sE
open _root_.Go.FG.Lib (rs)
open zk (iy)
open gL (Ev gA)
open kz (WL wd res fz E yl cS cy jB)
open C' (told oa rc FQ Z T6 G)
abbrev K9:Type:=aY->au->Row->ay->ay->ay->ay->au->ay->ay->ay->au->ay->aA T6
abbrev J0:K9:=λa k o r s d e f j t u y z=>ai (d,e,f,j,[],a)
abbrev J1:K9:=λj k o r s t u y z a d e f=>ai (a,d,e,f,[],KI.v a d e f [])
abbrev g8(m:aN)(ks:au)(q:aE au)(i:aN)(k id:ay)(t:au)(n:ay):aA T6:=l8 ck J0 J1 m aq ks (rs q) (q.length:ay) (i:ay) 0 0 Z 0 k id t n
theorem Gx(h:G o x)(e:x=y):G o y:=e▸h
theorem fin(m:aN)(ks:au)(q:aE au)(k id:ay)(t:au)(n:ay):G (g8 (m+1) ks q q.length k id t n) (res ⟨k,id,t,n,[]⟩ ao):=by
 refine⟨⟨k,id,t,n,[]⟩,_,?_,oa _⟩
 simp only[g8,l8,r8,c8,bk,bg,ax]
section
variable {ks:au} {q:aE au} (hq:q.length<=600) (hs:∀x∈q,x.size<=600) {i:aN} (h:i<q.length) (hk:i<ks.size)
include hq hs h hk
theorem sti(m:aN)(d:fF ks i=105)(k id:ay)(t:au)(n:ay)(x:aA Ev)(j:G (g8 m ks q (i+1) k (iy (q.getD i ⟨#[]⟩)).1 t n) x):G (g8 (m+1) ks q i k id t n) (bif(iy (q.getD i ⟨#[]⟩)).2 then x else aj):=by
 have a:q.getD i ⟨#[]⟩=q[i]:=by simp[dZ,h]
 have e:=rc (hs _ (bw h));rw[a]at j⊢;cases f:(iy q[i]).2 with
 |true=>
  have st:g8 (m+1) ks q i k id t n=g8 m ks q (i+1) k (iy q[i]).1 t n:=by simp only[g8,l8,r8,cy,c8,h,hk,aQ,b_,aL,aw,ax,dB,cS,a,e,FQ,f,d,aZ,show ah (((105:aN):ay)=105)=ao from rfl,cw h (show q.length<=9223372036854775807 by omega)]
  rw[st,aw];exact j
 |false=>
  rw[ax];refine⟨⟨k,(iy q[i]).1,t,n,[]⟩,aq,?_,rfl⟩
  simp only[g8,l8,r8,cy,c8,h,hk,aQ,b_,aL,aw,ax,dB,cS,a,e,FQ,f,d,bG,show ah (((105:aN):ay)=105)=ao from rfl]
theorem stn(m:aN)(d:fF ks i=110)(k id:ay)(t:au)(n:ay)(x:aA Ev)(j:G (g8 m ks q (i+1) k id t (iy (q.getD i ⟨#[]⟩)).1) x):G (g8 (m+1) ks q i k id t n) (bif(iy (q.getD i ⟨#[]⟩)).2 then x else aj):=by
 have a:q.getD i ⟨#[]⟩=q[i]:=by simp[dZ,h]
 have e:=rc (hs _ (bw h));rw[a]at j⊢;cases f:(iy q[i]).2 with
 |true=>
  have st:g8 (m+1) ks q i k id t n=g8 m ks q (i+1) k id t (iy q[i]).1:=by simp only[g8,l8,r8,cy,c8,h,hk,aQ,b_,aL,aw,ax,dB,cS,a,e,FQ,f,d,aZ,show ah (((110:aN):ay)=105)=aq from rfl,show ah (((110:aN):ay)=110)=ao from rfl,cw h (show q.length<=9223372036854775807 by omega)]
  rw[st,aw];exact j
 |false=>
  rw[ax];refine⟨⟨k,id,t,(iy q[i]).1,[]⟩,aq,?_,rfl⟩
  simp only[g8,l8,r8,cy,c8,h,hk,aQ,b_,aL,aw,ax,dB,cS,a,e,FQ,f,d,bG,show ah (((110:aN):ay)=105)=aq from rfl,show ah (((110:aN):ay)=110)=ao from rfl]
theorem stt(m:aN)(e:fF ks i=116)(k id:ay)(t:au)(n:ay)(x:aA Ev)(d:G (g8 m ks q (i+1) k id (q.getD i ⟨#[]⟩) n) x):G (g8 (m+1) ks q i k id t n) x:=by
 have a:q.getD i ⟨#[]⟩=q[i]:=by simp[dZ,h]
 have f:=rc (hs _ (bw h));rw[a]at d;have st:g8 (m+1) ks q i k id t n=g8 m ks q (i+1) k id q[i] n:=by simp only[g8,l8,r8,cy,c8,h,hk,aQ,b_,aL,aw,ax,dB,cS,a,f,FQ,e,show ah (((116:aN):ay)=105)=aq from rfl,show ah (((116:aN):ay)=110)=aq from rfl,cw h (show q.length<=9223372036854775807 by omega)]
 rw[st];exact d
end
abbrev it:au:=⟨#[105,116]⟩
abbrev lR:au:=⟨#[105,110]⟩
abbrev ii:au:=⟨#[105]⟩
abbrev nn:au:=⟨#[110]⟩
def fm(w:au):ay×au:=bif ah (w=wd 0)then(1,it)else bif ah (w=wd 1)then(2,it)else bif ah (w=wd 2)then(3,lR)else bif ah (w=wd 3)then(4,ii)else bif ah (w=wd 4)then(5,nn)else bif ah (w=wd 5)then(6,ii)else bif ah (w=wd 6)then(7,Z)else(0,Z)
theorem po(w:au):H2.v w=fm w:=by unfold H2.v fm;simp only[yl];rfl
theorem Up(h:∀j,j<7->w≠wd j):fm w=(0,Z):=by unfold fm;simp only[aF (h 0 (by omega)),aF (h 1 (by omega)),aF (h 2 (by omega)),aF (h 3 (by omega)),aF (h 4 (by omega)),aF (h 5 (by omega)),aF (h 6 (by omega)),ax]
theorem aah(p:aE au):dR (rs p) (aR 1) (aR ((p.length:aN):ay))=rs (p.drop 1):=by unfold dR Lib.rs;rw[show aR 1=1 from rfl,dB,dH (by simp),List.map_drop]
theorem De(p:aE au)(hp:0<p.length)(kk:ay)(ks:au)(d:H2.v (p.getD 0 ⟨#[]⟩)=(kk,ks))(a:kk≠7)(h0:kk≠0)(e:ks.size<=2):
  vo (rs p)=bif(((p.length:aN):ay) !=((ks.size+1:aN):ay))then ai (kk,0,Z,0,[],aq)else g8 ck ks (p.drop 1) 0 kk 0 Z 0:=by unfold vo b;rw[cy,aC (show(0:ay)<((p.length:aN):ay)by omega),aw,show aR 0=0 from rfl,cS,d];dsimp only;rw[aF a,ax,aF h0,ax,dq (by omega) (by omega),aah,cy,show fU 1 ((p.length:aN):ay) ((p.length:aN):ay)=ao from by unfold fU;simp;omega,aw];rfl
theorem post(p:aE au)(hp:0<p.length)(hl:p.length<=600)(hs:∀x∈p,x.size<=600):G (vo (rs p)) (E p):=by
 have hq:(p.drop 1).length<=600:=by simp;omega
 have d:∀x∈p.drop 1,x.size<=600:=λx O=>hs x (kV O);have d0:(p.drop 1).getD 0 ⟨#[]⟩=p.getD 1 ⟨#[]⟩:=by simp[dZ]
 have t:(p.drop 1).getD 1 ⟨#[]⟩=p.getD 2 ⟨#[]⟩:=by simp[dZ]
 have kZ:∀(kk:ay) {x:aA Ev},x=aj->G (ai (kk,0,Z,0,[],aq)) x:=λkk x h=>⟨⟨kk,0,Z,0,[]⟩,aq,rfl,h.symm⟩
 have r:(ck)=18446744073709551613+1+1+1:=rfl;by_cases h0:p.getD 0 ⟨#[]⟩=wd 0
 ·rw[kz.E0 h0,De p hp 1 it (by rw[po,h0];decide+kernel) (by omega) (by omega) (by decide)];by_cases f:p.length=3
  ·have a:(p.drop 1).length=2:=by simp;omega
   rw[f,bm rfl,show((((3:aN)):ay) !=((it.size+1:aN):ay))=aq from rfl,ax,r];have k3:=fin 18446744073709551613 it (p.drop 1) 1 (iy (p.getD 1 ⟨#[]⟩)).1 (p.getD 2 ⟨#[]⟩) 0;rw[a]at k3;have s:=stt hq d (i:=1) (by omega) (show 1<it.size by decide) (18446744073709551613+1) rfl 1 (iy (p.getD 1 ⟨#[]⟩)).1 Z 0 _ (by rw[t];exact k3);have k:=sti hq d (i:=0) (by omega) (show 0<it.size by decide) (18446744073709551613+1+1) rfl 1 0 Z 0 _ (by rw[d0];exact s);rw[d0]at k;refine Gx k ?_;unfold kz.res;cases (iy (p.getD 1 ⟨#[]⟩)).2<;>rfl
  ·rw[bh f,show(((p.length:aN):ay) !=((it.size+1:aN):ay))=ao from bne_iff_ne.2 (by show((p.length:aN):ay)≠3;omega),aw];exact kZ _ rfl
 by_cases u:p.getD 0 ⟨#[]⟩=wd 1
 ·rw[kz.E1 u,De p hp 2 it (by rw[po,u];decide+kernel) (by omega) (by omega) (by decide)];by_cases f:p.length=3
  ·have a:(p.drop 1).length=2:=by simp;omega
   rw[f,bm rfl,show((((3:aN)):ay) !=((it.size+1:aN):ay))=aq from rfl,ax,r];have k3:=fin 18446744073709551613 it (p.drop 1) 2 (iy (p.getD 1 ⟨#[]⟩)).1 (p.getD 2 ⟨#[]⟩) 0;rw[a]at k3;have s:=stt hq d (i:=1) (by omega) (show 1<it.size by decide) (18446744073709551613+1) rfl 2 (iy (p.getD 1 ⟨#[]⟩)).1 Z 0 _ (by rw[t];exact k3);have k:=sti hq d (i:=0) (by omega) (show 0<it.size by decide) (18446744073709551613+1+1) rfl 2 0 Z 0 _ (by rw[d0];exact s);rw[d0]at k;refine Gx k ?_;unfold kz.res;cases (iy (p.getD 1 ⟨#[]⟩)).2<;>rfl
  ·rw[bh f,show(((p.length:aN):ay) !=((it.size+1:aN):ay))=ao from bne_iff_ne.2 (by show((p.length:aN):ay)≠3;omega),aw];exact kZ _ rfl
 by_cases y:p.getD 0 ⟨#[]⟩=wd 2
 ·rw[kz.E2 y,De p hp 3 lR (by rw[po,y];decide+kernel) (by omega) (by omega) (by decide)];by_cases f:p.length=3
  ·have a:(p.drop 1).length=2:=by simp;omega
   rw[f,bm rfl,show((((3:aN)):ay) !=((lR.size+1:aN):ay))=aq from rfl,ax,r];have k3:=fin 18446744073709551613 lR (p.drop 1) 3 (iy (p.getD 1 ⟨#[]⟩)).1 Z (iy (p.getD 2 ⟨#[]⟩)).1;rw[a]at k3;have s:=stn hq d (i:=1) (by omega) (show 1<lR.size by decide) (18446744073709551613+1) rfl 3 (iy (p.getD 1 ⟨#[]⟩)).1 Z 0 _ (by rw[t];exact k3);have k:=sti hq d (i:=0) (by omega) (show 0<lR.size by decide) (18446744073709551613+1+1) rfl 3 0 Z 0 _ (by rw[d0];exact s);rw[d0,t]at k;refine Gx k ?_;unfold kz.res;cases (iy (p.getD 1 ⟨#[]⟩)).2<;>cases (iy (p.getD 2 ⟨#[]⟩)).2<;>rfl
  ·rw[bh f,show(((p.length:aN):ay) !=((lR.size+1:aN):ay))=ao from bne_iff_ne.2 (by show((p.length:aN):ay)≠3;omega),aw];exact kZ _ rfl
 by_cases z:p.getD 0 ⟨#[]⟩=wd 3
 ·rw[kz.E3 z,De p hp 4 ii (by rw[po,z];decide+kernel) (by omega) (by omega) (by decide)];by_cases f:p.length=2
  ·have a:(p.drop 1).length=1:=by simp;omega
   rw[f,bm rfl,show((((2:aN)):ay) !=((ii.size+1:aN):ay))=aq from rfl,ax,r];have k3:=fin (18446744073709551613+1) ii (p.drop 1) 4 (iy (p.getD 1 ⟨#[]⟩)).1 Z 0;rw[a]at k3;have k:=sti hq d (i:=0) (by omega) (show 0<ii.size by decide) (18446744073709551613+1+1) rfl 4 0 Z 0 _ (by rw[d0];exact k3);rw[d0]at k;refine Gx k ?_;unfold kz.res;cases (iy (p.getD 1 ⟨#[]⟩)).2<;>rfl
  ·rw[bh f,show(((p.length:aN):ay) !=((ii.size+1:aN):ay))=ao from bne_iff_ne.2 (by show((p.length:aN):ay)≠2;omega),aw];exact kZ _ rfl
 by_cases A:p.getD 0 ⟨#[]⟩=wd 4
 ·rw[kz.E4 A,De p hp 5 nn (by rw[po,A];decide+kernel) (by omega) (by omega) (by decide)];by_cases f:p.length=2
  ·have a:(p.drop 1).length=1:=by simp;omega
   rw[f,bm rfl,show((((2:aN)):ay) !=((nn.size+1:aN):ay))=aq from rfl,ax,r];have k3:=fin (18446744073709551613+1) nn (p.drop 1) 5 0 Z (iy (p.getD 1 ⟨#[]⟩)).1;rw[a]at k3;have k:=stn hq d (i:=0) (by omega) (show 0<nn.size by decide) (18446744073709551613+1+1) rfl 5 0 Z 0 _ (by rw[d0];exact k3);rw[d0]at k;refine Gx k ?_;unfold kz.res;cases (iy (p.getD 1 ⟨#[]⟩)).2<;>rfl
  ·rw[bh f,show(((p.length:aN):ay) !=((nn.size+1:aN):ay))=ao from bne_iff_ne.2 (by show((p.length:aN):ay)≠2;omega),aw];exact kZ _ rfl
 by_cases B:p.getD 0 ⟨#[]⟩=wd 5
 ·rw[kz.E5 B,De p hp 6 ii (by rw[po,B];decide+kernel) (by omega) (by omega) (by decide)];by_cases f:p.length=2
  ·have a:(p.drop 1).length=1:=by simp;omega
   rw[f,bm rfl,show((((2:aN)):ay) !=((ii.size+1:aN):ay))=aq from rfl,ax,r];have k3:=fin (18446744073709551613+1) ii (p.drop 1) 6 (iy (p.getD 1 ⟨#[]⟩)).1 Z 0;rw[a]at k3;have k:=sti hq d (i:=0) (by omega) (show 0<ii.size by decide) (18446744073709551613+1+1) rfl 6 0 Z 0 _ (by rw[d0];exact k3);rw[d0]at k;refine Gx k ?_;unfold kz.res;cases (iy (p.getD 1 ⟨#[]⟩)).2<;>rfl
  ·rw[bh f,show(((p.length:aN):ay) !=((ii.size+1:aN):ay))=ao from bne_iff_ne.2 (by show((p.length:aN):ay)≠2;omega),aw];exact kZ _ rfl
 by_cases C:p.getD 0 ⟨#[]⟩=wd 6
 ·rw[kz.E6 C];obtain⟨e,b,I,K,M⟩:=C'.ok (p.drop 1) hq d;refine⟨e,b,?_,M⟩
  have H:H2.v (p.getD 0 ⟨#[]⟩)=(7,Z):=by rw[po,C];decide+kernel
  unfold vo sE.b;rw[cy,aC (show(0:ay)<((p.length:aN):ay)by omega),aw,show aR 0=0 from rfl,cS,H,show ah ((7:ay)=7)=ao from rfl,aw,aah,show fU 1 ((p.length:aN):ay) ((p.length:aN):ay)=ao from by unfold fU;simp;omega,aw,I,K,aw]
 ·have o:∀j,j<7->p.getD 0 ⟨#[]⟩≠wd j:=λj N=>by
   match j,N with
   |0,_=>exact h0
   |1,_=>exact u
   |2,_=>exact y
   |3,_=>exact z
   |4,_=>exact A
   |5,_=>exact B
   |6,_=>exact C
  have H:H2.v (p.getD 0 ⟨#[]⟩)=(0,Z):=by rw[po,Up o]
  rw[kz.En o];refine⟨⟨0,0,Z,0,[]⟩,aq,?_,rfl⟩
  unfold vo b;rw[cy,aC (show(0:ay)<((p.length:aN):ay)by omega),aw,show aR 0=0 from rfl,cS,H,show ah ((0:ay)=7)=aq from rfl,ax,show ah ((0:ay)=0)=ao from rfl,aw]
theorem ok(p:aE au)(hp:0<p.length)(hl:p.length<=600)(hs:∀x∈p,x.size<=600):∃(e:Ev) (b:aY),c (rs p)=ao/\v (rs p)=(e.k,e.id,e.t,e.n,e.l,b)/\told e b=E p:=by obtain⟨e,b,a,d⟩:=post p hp hl hs;obtain⟨f,j⟩:=out _ a;exact⟨e,b,f,j,d⟩
end sE
namespace NR
open _root_.Go.FG.Lib (rs)
open gL (Ev gA)
open k6 (rv Evr kj)
open na (parts W)
open kz (E cS cy res)
open Gn (lines)
open w6 (Cq eD idle jG qi Ap qo)
abbrev T2:=Row×ay
abbrev J0:ay->Row->ay->ay->Row->aA T2:=λa d e f j=>ai ([],a)
abbrev J1:ay->Row->ay->ay->Row->aA T2:=λd e f j a=>ai (a,0)
abbrev g7(m:aN)(ls:aE au)(i:aN)(acc:aE Ev):aA T2:=l8 ck J0 J1 m 0 (rs ls) (ls.length:ay) (i:ay) (rv acc)
theorem stop(m:aN)(ls:aE au)(acc:aE Ev):g7 (m+1) ls ls.length acc=ai (rv acc,0):=by simp only[g7,l8,r8,cy,c8,bk,bg,ax]
section
variable {ls:aE au} {i:aN} (h:i<ls.length) (hl:ls.length<=90) (acc:aE Ev) (m:aN)
include h hl
theorem st0(hq:(parts ls[i]).2=aq):g7 (m+1) ls i acc=ai ([],((i+1:aN):ay)):=by
 have e:ls.getD i ⟨#[]⟩=ls[i]:=by simp[dZ,h]
 obtain⟨d,a⟩:=o7.ok ls[i];rw[hq]at a;simp only[g7,l8,r8,cy,c8,h,aQ,b_,aL,aw,dB,cS,e,d,a,ax,bG,cw h (show ls.length<=9223372036854775807 by omega)]
theorem st1(hq:(parts ls[i]).2=ao)(hi:idle (parts ls[i]).1=ao):g7 (m+1) ls i acc=g7 m ls (i+1) acc:=by
 have e:ls.getD i ⟨#[]⟩=ls[i]:=by simp[dZ,h]
 obtain⟨d,a⟩:=o7.ok ls[i];have f:=(qo hq).2;rw[hq]at a;cases hp:(parts ls[i]).1 with
 |nil=>rw[hp]at a;simp only[g7,l8,r8,cy,c8,h,aQ,b_,aL,aw,dB,cS,e,d,a,show(([]:aE au)).length=0 from rfl,show ah (((0:aN):ay)=0)=ao from rfl,show ah (((([]:aE au).length:aN):ay)=0)=ao from rfl,cw h (show ls.length<=9223372036854775807 by omega)]
 |cons w t=>rw[hp]at a hi f;have hi:jG w=true:=hi;have r:=(f w cD).1;have j:ah ((((w::t).length:aN):ay)=0)=false:=aF (by rw[bR];omega);have k:ah ((0:ay)<(((w::t).length:aN):ay))=true:=aC (by rw[bR];omega);have o:ah ((0:ay)<((w.size:aN):ay))=true:=aC (by omega);simp only[g7,l8,r8,cy,c8,h,aQ,b_,aL,aw,dB,cS,e,d,a,ax,j,k,show aR (0:ay)=0 from rfl,show(w::t).getD 0 ⟨#[]⟩=w from rfl,o,qi,hi,cw h (show ls.length<=9223372036854775807 by omega)]
theorem st2(hq:(parts ls[i]).2=ao)(hi:idle (parts ls[i]).1=aq)(B:acc.length<=70):g7 (m+1) ls i acc=(match E (parts ls[i]).1 with|none=>ai ([],((i+1:aN):ay))|some e=>bif ah (acc.length=70)then ai ([],((i+1:aN):ay))else g7 m ls (i+1) (acc++[e])):=by
 have r:ls.getD i ⟨#[]⟩=ls[i]:=by simp[dZ,h]
 obtain⟨k,a⟩:=o7.ok ls[i];obtain⟨s,j⟩:=qo hq;rw[hq]at a;cases hp:(parts ls[i]).1 with
 |nil=>rw[hp]at hi;cases hi
 |cons w t=>
  rw[hp]at a hi j s;have hi:jG w=false:=hi;have C:=(j w cD).1;have y:ah ((((w::t).length:aN):ay)=0)=false:=aF (by rw[bR];omega);have z:ah ((0:ay)<(((w::t).length:aN):ay))=true:=aC (by rw[bR];omega);have A:ah ((0:ay)<((w.size:aN):ay))=true:=aC (by omega);obtain⟨e,b,d,f,hE⟩:=sE.ok (w::t) (by simp) (by omega) (λx u=>(j x u).2);rw[<-hE];have st:g7 (m+1) ls i acc=bif !b then ai ([],((i+1:aN):ay))else bif ah (((acc.length:aN):ay)=70)then ai ([],((i+1:aN):ay))else bif b8 (acc.length+1) 64 then g7 m ls (i+1) (acc++[e])else none:=by simp only[g7,l8,r8,cy,c8,h,aQ,b_,aL,aw,dB,cS,r,k,a,ax,y,z,show aR (0:ay)=0 from rfl,show(w::t).getD 0 ⟨#[]⟩=w from rfl,A,qi,hi,d,f,aZ,ax,kj,Ap,cw h (show ls.length<=9223372036854775807 by omega)];rfl
  have rm:b8 (acc.length+1) 64=true:=b0 (by omega) (by omega);have o:ah (((acc.length:aN):ay)=70)=ah (acc.length=70):=by rw[bZ];omega
  rw[st,rm,o];cases b<;>rfl
end
theorem run(ls:aE au)(hl:ls.length<=90):∀(m i:aN) (acc:aE Ev),i<=ls.length->ls.length-i<m->acc.length<=70->g7 m ls i acc=ai (rv (Cq i (ls.drop i) acc).1,(Cq i (ls.drop i) acc).2):=by
 intro m;induction m with
 |zero=>intro i acc _ h;omega
 |succ m ih=>
  intro i acc hi hm d;by_cases h:i<ls.length
  ·rw[cq h,Cq];cases hq:(parts ls[i]).2 with
   |false=>rw[st0 h hl acc m hq];rfl
   |true=>
    rw[aw];cases hd:idle (parts ls[i]).1 with
    |true=>rw[st1 h hl acc m hq hd,aw];exact ih (i+1) acc h (by omega) d
    |false=>
     rw[st2 h hl acc m hq hd d,ax];cases hE:E (parts ls[i]).1 with
     |none=>rfl
     |some e=>
      dsimp only;by_cases a:acc.length=70
      ·rw[aC a];rfl
      ·rw[aF a,ax,ax];exact ih (i+1) _ h (by omega) (by simp;omega)
  ·have:i=ls.length:=by omega
   subst this;rw[stop,cX,Cq]
theorem ok(s:au)(h:s.size<=4000000000):c s=ao/\v s=(rv (eD s).1,(eD s).2):=by
 refine out _ ?_;unfold vo b;have k:=vt.L4 10 s h;have o:=vt.L5 10 s;obtain⟨A,Z,j,a⟩:=Gn.DA s;have u:=na.FI 10 s;rw[j,bW,bu]at u;rw[show((az #[ar 10]):au)=⟨#[10]⟩from rfl,k,aw,o,j,cy,bW,bu];have r:bE (((A.length+1:aN):ay)-1)=((A.length:aN):ay):=by rw[dq (by omega) (by omega)];omega
 have t:(A++[Z]).getD A.length ⟨#[]⟩=Z:=by simp[dZ]
 have y:fU 0 ((A.length:aN):ay) ((A.length+1:aN):ay)=true:=by unfold fU;simp;omega
 have z:dR (rs (A++[Z])) (aR 0) A.length=rs A:=by unfold dR Lib.rs;rw[show aR 0=0 from rfl,eK,og,cO,List.take_left' (by simp)]
 rw[r,b_,aC (show((A.length:aN):ay)<((A.length+1:aN):ay)by omega),aL,aw,dB,cS,t,kz.yl,y,aw,z,cy];have fin:∀ls:aE au,lines s=ls->(bif ah (((s.size:aN):ay)>3000)then ai (([]:Row),(-1:ay))else bif ah (((ls.length:aN):ay)>90)then ai ([],-1)else g7 ck ls 0 [])=ai (rv (eD s).1,(eD s).2):=by
  intro ls e;unfold w6.eD;rw[e];by_cases hs:(s.size:ay)>3000
  ·rw[aC hs,aw,aF (show¬s.size<=3000 by omega)];rfl
  ·rw[aF hs,ax,aC (show s.size<=3000 by omega)];by_cases hl:((ls.length:aN):ay)>90
   ·rw[aC hl,aw,aF (show¬ls.length<=90 by omega)];rfl
   ·rw[aF hl,ax,aC (show ls.length<=90 by omega)];exact run ls (by omega) ck 0 [] (bA _) ez (by simp)
 by_cases d:Z.size=0
 ·rw[bm d]at a;have f:Z=⟨#[]⟩:=j6 (Array.size_eq_zero_iff.1 d);rw[aC f,aw];exact fin A a
 ·rw[bh d]at a;have f:¬Z=⟨#[]⟩:=λe=>d (by rw[e];rfl);rw[aF f,ax];rw[show A.length+1=(A++[Z]).length by simp];exact fin (A++[Z]) a
end NR
namespace H4
open _root_.Go.FG.Lib (rs rf rc)
open jm (i_)
theorem ok(p:Px)(f:ay)(hp:p.Fit 1048576):c p.now (re p.en) (rs p.w) (rs p.m) (rr p.s) p.a (rf p.fe) (rc p.cl) p.hits f=ao/\v p.now (re p.en) (rs p.w) (rs p.m) (rr p.s) p.a (rf p.fe) (rc p.cl) p.hits f=(i_ p&&ah (0<=f/\f<=(p.fe.length:ay)-1)):=by have h:=Mx.ok p hp;have d:=hp.fe;refine out _ _ _ _ _ _ _ _ _ _ ?_;unfold vo b;rw[h.1,h.2,aw,dI,dq (x:=(p.fe.length:ay)-1) (by omega) (by omega),show j4.v f 0 ((p.fe.length:ay)-1)=ah (0<=f/\f<=(p.fe.length:ay)-1)from fc.et _ _ _];cases i_ p<;>rfl
end H4
namespace NT
open _root_.Go.FG.Lib (rs rf rc el)
open tW (ec nS kJ)
theorem ok(p:Px)(f:aN)(H:f<p.fe.length)(hl:p.fe.length<=2097152)(N:p.cl.length<=2097152):
  c p.now (re p.en) (rs p.w) (rs p.m) (rr p.s) p.a (rf p.fe) (rc p.cl) p.hits (f:ay)=ao/\v p.now (re p.en) (rs p.w) (rs p.m) (rr p.s) p.a (rf p.fe) (rc p.cl) p.hits (f:ay)=(p.now,re p.en,rs p.w,rs p.m,rr p.s,p.a,rf p.fe,rc (nS p.cl f 1 (el p.fe f).t),p.hits):=by
 refine out _ _ _ _ _ _ _ _ _ _ ?_;unfold vo b;rw[eL];have key:=m_ Cl.row p.cl (λ_ c=>ec f 1 (el p.fe f).t c) (λn (i:aN) x=>l1 ck (λ(_ _ _ k o r:ay) (u y z A B C:Row)=>ai (k,y,z,A,B,o,C,u,r)) n (f:ay) (p.cl.length:ay) (i:ay) p.now p.a p.hits x (re p.en) (rs p.w) (rs p.m) (rr p.s) (rf p.fe)) (λx=>ai (p.now,re p.en,rs p.w,rs p.m,rr p.s,p.a,rf p.fe,x,p.hits)) (λn i L h j M d=> ?_) (λn L M=> ?_) ck ez
 ·rw[kJ]at key;exact key
 ·have I:av (L.map Cl.row) i (1+1)=CV.i ak p.cl[i].fe:=by rw[e_ _ L i _ j,d];rfl
  have K:av (L.map Cl.row) i (1+1+1+1)=CV.i ak p.cl[i].sta:=by rw[e_ _ L i _ j,d];rfl
  have s1:dV (L.map Cl.row) i 5 [CV.s (el p.fe f).t]=(L.set i {p.cl[i]with got:=(el p.fe f).t}).map Cl.row:=kl Cl.row L i 5 _ _ j (by rw[d];rfl);simp only[l1,r1,c8,h,j,H,bJ,b9,aQ,b_,aL,aw,dB,I,K,bN,s1,o_,dI,DT H,br,cw h (by omega:p.cl.length<=9223372036854775807),dq (x:=(f:ay)+1) (by omega) (by omega)];unfold ec;cases ah (p.cl[i].fe=(f:ay)+1)with
  |false=>rw[kQ,ax,ax,<-d,eZ]
  |true=>
   cases hd:ah (p.cl[i].sta=1)with
   |false=>rw[bj,aw,ax,ax,<-d,eZ]
   |true=>have e:=cL hd;rw[bj,aw,aw,aw];rw[show({p.cl[i]with sta:=1,got:=(el p.fe f).t}:Cl)={p.cl[i]with got:=(el p.fe f).t}by rw[<-e]]
 ·simp only[l1,r1,c8,bk,bg,ax]
end NT
namespace Ta
open _root_.Go.FG.Lib (rs rf rc el)
open fw (sZ Cp told jg nA jF wM)
theorem ok(p:Px)(f:ay)(q:au)(hp:p.Fit 1048576):c p.now (re p.en) (rs p.w) (rs p.m) (rr p.s) p.a (rf p.fe) (rc p.cl) p.hits f q=ao/\v p.now (re p.en) (rs p.w) (rs p.m) (rr p.s) p.a (rf p.fe) (rc p.cl) p.hits f q=(p.now,re p.en,rs p.w,rs p.m,rr p.s,p.a,rf (Cp p f q).1.fe,rc (Cp p f q).1.cl,p.hits,(Cp p f q).2):=by
 have u:=n7.ok p hp;have y:=H4.ok p f hp;have B:=hp.fe;have A:=hp.cl;refine out _ _ _ _ _ _ _ _ _ _ _ ?_;unfold vo b Cp;simp only[ch,u.1,u.2,y.1,y.2,aw];unfold sZ;cases e:jm.i_ p&&ah (0<=f/\f<=(p.fe.length:ay)-1)with
 |false=>rw[<-nc (jm.i_ p),e];rfl
 |true=>
  rw[<-nc (jm.i_ p),e,bj];rw[aM,bf]at e;obtain⟨n,rfl⟩:∃n:aN,f=(n:ay):=⟨f.toNat,by omega⟩
  have j:n<p.fe.length:=by omega
  have d:=fw.XB e.1 n j;unfold np.mX at d;simp only[aM,bf]at d;have k:=N7.put (el p.fe n).sta (el p.fe n).t q d.2.1 d.2.2.1;simp only[aZ,ax,aw,b_,c8,dI,j,aQ,aL,dB,yS j,DT j,bN,br,k];cases hs:ah ((el p.fe n).sta=1)&&(ah (1<=q.size/\q.size<=40)&&ah ((el p.fe n).t.size+q.size<=400))with
  |false=>rfl
  |true=>
   have z:=wM p.fe n 1 [CV.s ((el p.fe n).t++q)] {el p.fe n with t:=(el p.fe n).t++q} j rfl;have r:n<(p.fe.set n {el p.fe n with t:=(el p.fe n).t++q}).length:=by rw[b9];exact j
   have o:=NT.ok {p with fe:=p.fe.set n {el p.fe n with t:=(el p.fe n).t++q}} n r (by rw[b9];omega) (by dsimp only;omega);dsimp only at o;rw[jF j]at o;simp only[aZ,ax,aw,z,o.1,o.2];rfl
end Ta
namespace Iv
open _root_.Go.FG.Lib (rs rf rc el)
open tW (ec nS kJ)
theorem ok(p:Px)(f:aN)(st:ay)(C:f<p.fe.length)(hl:p.fe.length<=2097152)(O:p.cl.length<=2097152):
  c p.now (re p.en) (rs p.w) (rs p.m) (rr p.s) p.a (rf p.fe) (rc p.cl) p.hits (f:ay) st=ao/\v p.now (re p.en) (rs p.w) (rs p.m) (rr p.s) p.a (rf p.fe) (rc p.cl) p.hits (f:ay) st=(p.now,re p.en,rs p.w,rs p.m,rr p.s,p.a,rf p.fe,rc (nS p.cl f st (el p.fe f).t),p.hits):=by
 refine out _ _ _ _ _ _ _ _ _ _ _ ?_;unfold vo b;rw[eL];have key:=m_ Cl.row p.cl (λ_ c=>ec f st (el p.fe f).t c) (λn (i:aN) x=>l1 ck (λ(_ _ _ _ j k o:ay) (r u y z A B:Row)=>ai (j,u,y,z,A,k,B,r,o)) n (f:ay) st (p.cl.length:ay) (i:ay) p.now p.a p.hits x (re p.en) (rs p.w) (rs p.m) (rr p.s) (rf p.fe)) (λx=>ai (p.now,re p.en,rs p.w,rs p.m,rr p.s,p.a,rf p.fe,x,p.hits)) (λn i L h e M d=> ?_) (λn L M=> ?_) ck ez
 ·rw[kJ]at key;exact key
 ·have H:av (L.map Cl.row) i (1+1)=CV.i ak p.cl[i].fe:=by rw[e_ _ L i _ e,d];rfl
  have I:av (L.map Cl.row) i (1+1+1+1)=CV.i ak p.cl[i].sta:=by rw[e_ _ L i _ e,d];rfl
  have s1:dV (L.map Cl.row) i 4 [CV.i ak st]=(L.set i {p.cl[i]with sta:=st}).map Cl.row:=kl Cl.row L i 4 _ _ e (by rw[d];rfl);have K:i<(L.set i {p.cl[i]with sta:=st}).length:=by simpa using e
  have N:dV ((L.set i {p.cl[i]with sta:=st}).map Cl.row) i 5 [CV.s (el p.fe f).t]=((L.set i {p.cl[i]with sta:=st}).set i {p.cl[i]with sta:=st,got:=(el p.fe f).t}).map Cl.row:=kl Cl.row _ i 5 _ _ K (by rw[j9];rfl);simp only[l1,r1,c8,h,e,C,bJ,b9,aQ,b_,aL,aw,dB,H,I,bN,s1,N,o_,dI,DT C,br,cw h (by omega:p.cl.length<=9223372036854775807),dq (x:=(f:ay)+1) (by omega) (by omega)];unfold ec;cases ah (p.cl[i].fe=(f:ay)+1)with
  |false=>rw[kQ,ax,ax,<-d,eZ]
  |true=>
   cases ah (p.cl[i].sta=1)with
   |false=>rw[bj,aw,ax,ax,<-d,eZ]
   |true=>rw[bj,aw,aw,aw]
 ·simp only[l1,r1,c8,bk,bg,ax]
end Iv
namespace yh
open _root_.Go.FG.Lib (rs rf rc En el)
open fX (So fN mB)
open lA (Cs)
theorem ok(p:Px)(e:En)(r6 r7:Row)(hp:p.Fit 1048575)(o:So p.en)(hk:e.k.size<=140737488355328):
  c p.now (re p.en) (rs p.w) (rs p.m) (rr p.s) p.a r6 r7 p.hits e.k e.st e.li e.bo=ao/\v p.now (re p.en) (rs p.w) (rs p.m) (rr p.s) p.a r6 r7 p.hits e.k e.st e.li e.bo=(p.now,re (Cs p e).en,rs (Cs p e).w,rs (Cs p e).m,rr (Cs p e).s,(Cs p e).a,r6,r7,p.hits):=by have z:=hp.en;have B:=hp.w;have hm:=hp.m;obtain⟨r,t,y⟩:=eH.JR p.w p.m p.s p.a e.k;have d:=Mz.ok p.w p.m p.s p.a e.k (by omega) (by omega) ⟨cf hp.s.1 (by omega),λq hq=>cf (hp.s.2.1 q hq) (by omega)⟩ hk;refine out _ _ _ _ _ _ _ _ _ _ _ _ _ ?_;unfold vo b Cs;generalize eH.val p.w p.m p.s p.a e.k=V at d r t y;obtain⟨W,M,T,A,G⟩:=V;dsimp only at d r t⊢;have f:=Cj.ok (re p.en) G (fX.P8 _) (by rw[dv];omega);rw[fX.E']at f;have u:=Gi.ok W M (rr T) A e.k (by omega) (by omega);have hd:=fX.v7 p.en G;have j:=uf.ok (re (fN p.en G)) e.k e.st e.li e.bo (fX.BI (o.drop G)) (by rw[dv];omega);rw[fX.s7]at j;simp only[ch,d.1,d.2,f.1,f.2,u.1,u.2,j.1,j.2,aw];cases eV.has W e.k||eV.has M e.k<;>rfl
end yh
namespace Ti
open _root_.Go.FG.Lib (rs rf rc el)
open fw (sZ told jg nA jF wM)
open pZ (cls kX)
theorem ok(p:Px)(f life:ay)(hp:p.Fit 1048576):c p.now (re p.en) (rs p.w) (rs p.m) (rr p.s) p.a (rf p.fe) (rc p.cl) p.hits f life=ao/\v p.now (re p.en) (rs p.w) (rs p.m) (rr p.s) p.a (rf p.fe) (rc p.cl) p.hits f life=(p.now,re (cls p f life).1.en,rs (cls p f life).1.w,rs (cls p f life).1.m,rr (cls p f life).1.s,(cls p f life).1.a,rf (cls p f life).1.fe,rc (cls p f life).1.cl,p.hits,(cls p f life).2):=by
 have B:=n7.ok p hp;have C:=H4.ok p f hp;have S:=hp.fe;have P:=hp.cl;refine out _ _ _ _ _ _ _ _ _ _ _ ?_;unfold vo b cls;simp only[ch,B.1,B.2,C.1,C.2,aw];unfold sZ;cases j:jm.i_ p&&ah (0<=f/\f<=(p.fe.length:ay)-1)with
 |false=>rw[<-nc (jm.i_ p),j];rfl
 |true=>
  rw[<-nc (jm.i_ p),j,bj];rw[aM,bf]at j;obtain⟨n,rfl⟩:∃n:aN,f=(n:ay):=⟨f.toNat,by omega⟩
  have d:n<p.fe.length:=by omega
  obtain⟨so,_,_,_,_,_,_,_,_,_,e⟩:=lA.FL j.1;have e:=e n d;unfold np.mX at e;rw[aM]at e;have I:=eH.kf e.1;simp only[aZ,ax,aw,b_,c8,dI,d,aQ,aL,dB,yS d,bN];rw[show((el p.fe n).sta !=1)= !decide ((el p.fe n).sta=1)from rfl,show j4.v life 0 999999=ah (0<=life/\life<=999999)from fc.et _ _ _];cases hs:ah ((el p.fe n).sta=1)with
  |false=>rfl
  |true=>
   cases hl:ah (0<=life/\life<=999999)with
   |false=>rfl
   |true=>
    have H:=wM p.fe n 2 [CV.i ak 2] {el p.fe n with sta:=2} d rfl;have K:n<(p.fe.set n {el p.fe n with sta:=2}).length:=by rw[b9];exact d
    have z:=wM (p.fe.set n {el p.fe n with sta:=2}) n 3 [CV.i ak life] {el p.fe n with sta:=2,li:=life} K (by rw[jF d];rfl);rw[o_]at z;have M:n<(p.fe.set n {el p.fe n with sta:=2,li:=life}).length:=by rw[b9];exact d
    have u:=wM (p.fe.set n {el p.fe n with sta:=2,li:=life}) n 4 [CV.i ak p.now] {el p.fe n with sta:=2,li:=life,st:=p.now} M (by rw[jF d];rfl);rw[o_]at u;generalize hg:({el p.fe n with sta:=2,li:=life,st:=p.now}:Lib.Fe)=g at u;have y:n<(p.fe.set n g).length:=by rw[b9];exact d
    have r:=Iv.ok {p with fe:=p.fe.set n g} n 2 y (by rw[b9];omega) (by dsimp only;omega);dsimp only at r;rw[jF d]at r;have hk:g.k=(el p.fe n).k:=by rw[<-hg]
    have o:=yh.ok (told p n g 2) (kX g) (rf (p.fe.set n g)) (rc (told p n g 2).cl) ((nA (lA.ju j.1)).le (by omega)) so (by show g.k.size<=_;rw[hk];omega);have N:br (av (rf (p.fe.set n g)) n 0)=g.k:=by rw[Ga y,jF d];rfl
    have O:br (av (rf (p.fe.set n g)) n 1)=g.t:=by rw[DT y,jF d];rfl
    have A:g.li=life:=by rw[<-hg]
    have gs:g.st=p.now:=by rw[<-hg]
    unfold kX at o;dsimp only[told]at o;rw[A,gs]at o;unfold kX told;simp only[aZ,ax,aw,H,z,u,r.1,r.2,N,O,A,gs];cases ah (life>0)with
    |true=>simp only[aw,o.1,o.2];rfl
    |false=>rfl
end Ti
namespace Iu
open _root_.Go.FG.Lib (rd el)
open dz (jR act ra Ac wa0 wa1 wa2 wa3 ru zX)
theorem ok(l:aE Fi)(a:aE Ac)(hl:l.length<=1000)(K:a.length<=1000000)(H:∀x∈a,x.t.size<=2305843009213693952):c (rd l) (ra a)=ao/\v (rd l) (ra a)=(rd (jR l 0 a).1,((jR l 0 a).2:ay)):=by
 refine out _ _ ?_;unfold vo b;have z:=sr.ok (rd l) (by rw[dX];omega);rw[z.1,z.2,aw,ru]
 have key:∀(d i n:aN) (l:aE Fi),a.length-i<=d->i<=a.length->l.length<=1000->d<n->
   l3 ck (λ(_:Row) (I:ay) (_:Row) (_ _:ay) (r:Row)=>ai (r,I)) (λ(s:Row) (_:ay) (_:Row) (_ _:ay) (u:Row)=>ai (u,(↑(bB s):ay))) n (ra a) 0 (ra a) (a.length:ay) (i:ay) (rd l)=ai (rd (jR l i (a.drop i)).1,((jR l i (a.drop i)).2:ay)):=by
  intro d
  induction d with
  |zero=>
   intro i n l A B y C;obtain⟨n,rfl⟩:∃j,n=j+1:=⟨n-1,by omega⟩
   have:i=a.length:=by omega
   subst this;simp only[l3,r3,c8,bk,bg,ax,ru,cX,jR]
  |succ d ih=>
   intro i n l A B y C;obtain⟨n,rfl⟩:∃j,n=j+1:=⟨n-1,by omega⟩
   by_cases hi:i<a.length
   ·have hd:=qS.ok l (el a i).k (el a i).n (el a i).t (el a i).o y (H _ (jt hi));simp only[l3,r3,c8,ru,hi,aQ,b_,aL,aw,dB,wa0 hi,wa1 hi,wa2 hi,wa3 hi,br,bN,hd.1,hd.2,cw hi (by omega:a.length<=9223372036854775807)];rw[cq hi,<-eT hi];unfold jR;cases f:act l (el a i).k (el a i).n (el a i).t (el a i).o with
    |none=>rfl
    |some e=>have:=(zX f).2;exact ih (i+1) n e (by omega) hi (by omega) (by omega)
   ·have:i=a.length:=by omega
    subst this;simp only[l3,r3,c8,bk,bg,ax,ru,cX,jR]
 exact key a.length 0 ck l (by omega) (bA _) hl ez
end Iu
namespace Tc
open _root_.Go.FG.Lib (rs rf rc rd En el Ga DT N0 N1)
open gL (Wo Ev closed)
open k7 (dk es)
open ig (u9)
open ew (ri u7 s_ ju)
open pZ (cls kX)
theorem ok{i:aN}(h:u9 i w)(hi:i<=71)(id life:ay)(hl:0<=life/\life<=999999):c w.p.now (re w.p.en) (rs w.p.w) (rs w.p.m) (rr w.p.s) w.p.a (rf w.p.fe) (rc w.p.cl) w.p.hits (rd (dk w.o)) (ri w.cd) (re w.bd) id life=ao/\v w.p.now (re w.p.en) (rs w.p.w) (rs w.p.m) (rr w.p.s) w.p.a (rf w.p.fe) (rc w.p.cl) w.p.hits (rd (dk w.o)) (ri w.cd) (re w.bd) id life=((cls w.p id life).2,u7 (closed w id life).1):=by
 refine out _ _ _ _ _ _ _ _ _ _ _ _ _ _ ?_;have S:=h.bd;have X:=h.tx hi;have U:=k7.Bd w.o;have A:=Ti.ok w.p id life (ju h.px);obtain⟨H,I⟩:=ig.IH (f:=id) h.px hl;obtain⟨s1,K⟩:=pZ.GV (p:=w.p) (f:=id) (life:=life);have d:=ju H;unfold vo b;rw[A.1,aw,A.2,ew.lt_eq];unfold closed u7;dsimp only;rw[<-s1,<-K];generalize cls w.p id life=Q at H I s1 K d;obtain⟨q,ok⟩:=Q;dsimp only at H I s1 K d⊢;rcases I with ⟨r1,r2⟩|⟨r1,n,Y,N,u,h1,rl⟩
 ·subst r1;rfl
 subst r1;rw[aZ,ax];by_cases O:life=0
 ·rw[aC O,aw,bj,aF (show¬life>0 by omega)];rfl
 rw[aF O,ax,bj,aC (show life>0 by omega),aw];obtain⟨t1,t2⟩:=rl (by omega);have j:n<q.fe.length:=by rw[u,b9];exact N
 have r:el q.fe n={el w.p.fe n with sta:=2,li:=life,st:=w.p.now}:=by rw[u,fw.jF N]
 subst Y;rw[dG];have B:=Gi.ok q.w q.m (rr q.s) q.a (el q.fe n).k d.w d.m;have C:=H5.ok (el q.fe n).k (el q.fe n).st (el q.fe n).li (el q.fe n).t;have hE:gu.v (el q.fe n).k (el q.fe n).st (el q.fe n).li (el q.fe n).t=true:=by rw[r];exact t1
 have V:=ig.I4 (e:=kX (el q.fe n)) hE;rw[H5.val,bm hE,show H5.jR (fj.fr (jr.sa (el q.fe n).k (el q.fe n).st (el q.fe n).li (el q.fe n).t))=dz.ra (iK.rM (iK.Gl (kX (el q.fe n))))from rfl]at C;have D:=Iu.ok (dk w.o) (iK.rM (iK.Gl (kX (el q.fe n)))) (by omega) (by unfold iK.rM;simp) (λx z=>by
  unfold iK.rM at z;simp only[cm,ld,or_false]at z;rcases z with rfl|rfl
  ·show(iK.Gl (kX (el q.fe n))).size<=_;omega
  ·exact bA _)
 rw[k7.KZ (by omega)]at D;have P:(eV.has q.w (el q.fe n).k||eV.has q.m (el q.fe n).k)=true:=by rw[r];exact t2
 rw[P]at B;have room:∀y,b8 ((re w.bd).length+(aP (aT [Ck.s,Ck.i ak,Ck.i ak,Ck.s] 1) 0 y).length) 48=true:=λy=>by rw[dv,ew.tL];exact b0 (by omega) (by omega)
 have M:=s_ w.bd (kX (el q.fe n));unfold kX at M C D;dsimp only at M;simp only[ew.lt_eq,dI,c8,j,aQ,b_,aL,aw,dB,Ga j,DT j,N0 j,N1 j,br,bN,B.1,B.2,C.1,C.2,D.1,D.2,room,M,show kX (el q.fe n)=⟨(el q.fe n).k,(el q.fe n).st,(el q.fe n).li,(el q.fe n).t⟩from rfl]
end Tc
namespace Td
open _root_.Go.FG.Lib (rs rf rc el)
open fw (sZ Cm told jg nA jF wM)
theorem ok(p:Px)(f:ay)(hp:p.Fit 1048576):c p.now (re p.en) (rs p.w) (rs p.m) (rr p.s) p.a (rf p.fe) (rc p.cl) p.hits f=ao/\v p.now (re p.en) (rs p.w) (rs p.m) (rr p.s) p.a (rf p.fe) (rc p.cl) p.hits f=(p.now,re p.en,rs p.w,rs p.m,rr p.s,p.a,rf (Cm p f).1.fe,rc (Cm p f).1.cl,p.hits,(Cm p f).2):=by
 have o:=n7.ok p hp;have r:=H4.ok p f hp;have y:=hp.fe;have u:=hp.cl;refine out _ _ _ _ _ _ _ _ _ _ ?_;unfold vo b Cm;simp only[ch,o.1,o.2,r.1,r.2,aw];unfold sZ;cases d:jm.i_ p&&ah (0<=f/\f<=(p.fe.length:ay)-1)with
 |false=>rw[<-nc,d];rfl
 |true=>
  rw[<-nc,d,bj];rw[aM,bf]at d;obtain⟨n,rfl⟩:∃n:aN,f=(n:ay):=⟨f.toNat,by omega⟩
  have e:n<p.fe.length:=by omega
  simp only[aZ,ax,aw,b_,c8,dI,e,aQ,aL,dB,yS e,bN];cases hs:ah ((el p.fe n).sta=1)with
  |false=>rw[show((el p.fe n).sta !=1)= !decide ((el p.fe n).sta=1)from rfl,hs];rfl
  |true=>
   have t:=wM p.fe n 2 [CV.i ak 3] {el p.fe n with sta:=3} e rfl;have k:n<(p.fe.set n {el p.fe n with sta:=3}).length:=by rw[b9];exact e
   have j:=Iv.ok {p with fe:=p.fe.set n {el p.fe n with sta:=3}} n 3 k (by rw[b9];omega) (by dsimp only;omega);dsimp only at j;rw[jF e]at j;rw[show((el p.fe n).sta !=1)= !decide ((el p.fe n).sta=1)from rfl,hs];simp only[aZ,ax,aw,t,j.1,j.2];rfl
end Td
namespace Te
open _root_.Go.FG.Lib (rs rf rc)
open rR (tm later)
theorem md(n:ay):NU.c n 1000=ao/\NU.v n 1000=n%1000:=by
 refine NU.out _ _ ?_;unfold NU.vo NU.b;have t:=tm n;rw[show(!decide ((1000:ay)=0))=ao from rfl,aw,aw];congr 1;by_cases a:cx n 1000<0
 ·have e:=t.2 a;rw[e,dq (x:=n%1000) (by omega) (by omega),eN (by omega)];omega
 ·have e:=t.1 (by omega);rw[e,dq (x:=n%1000+1000) (by omega) (by omega),eN (by omega)];omega
theorem ok(p:Px)(n:ay)(hp:p.Fit 1048576):c p.now (re p.en) (rs p.w) (rs p.m) (rr p.s) p.a (rf p.fe) (rc p.cl) p.hits n=ao/\v p.now (re p.en) (rs p.w) (rs p.m) (rr p.s) p.a (rf p.fe) (rc p.cl) p.hits n=((rR.val p n).now,re p.en,rs p.w,rs p.m,rr p.s,p.a,rf p.fe,rc p.cl,p.hits):=by have h:=n7.ok p hp;have hm:=md n;refine out _ _ _ _ _ _ _ _ _ _ ?_;unfold vo b rR.val later;simp only[ch,h.1,h.2,hm.1,hm.2,aw];rw[dq (x:=1000000000-n%1000) (by omega) (by omega)];cases ah (p.now>1000000000-n%1000)<;>rfl
end Te
namespace rY
def p(s:Row)(k:ay)(i:aN):aY:=ah (bN (av s i 0)=k)
theorem ok(d:Row)(n:ay)(hl:d.length<=4294967296):c d n=ao/\v d n=fi (p d n) d.length 0:=by
 refine out d n ?_;unfold vo b;refine nJ (p d n) d.length (λm (i:aN)=>l2 ck (λ(_:Row) (_:ay) (a _ _:ay)=>ai a) (λ(_:Row) (_:ay) (_ _ _:ay)=>ai (-1)) m d n 0 (d.length:ay) (i:ay)) ai (λm i hi hp=> ?_) (λm i hi hp=> ?_) (λm=> ?_) ck ez
 ·unfold p at hp;simp only[l2,r2,c8,b_,dB,hi,aQ,aL,aw,NV.v,hp]
 ·unfold p at hp;simp only[l2,r2,c8,b_,dB,hi,aQ,aL,aw,NV.v,hp,ax,cw hi (by omega:d.length<=9223372036854775807)]
 ·simp only[l2,r2,c8,bk,bg,ax]
end rY
namespace KJ
def cn(y:aE CV):aY:=match y with|[.i ak _,.s _,.i ak _,.i ak _,.i ak _,.s _,.i ak _]=>ao|_=>aq
def cr(y:aE CV):aE CV:=[CV.i ak (bN (y.getD 0 (.b aq))),CV.s (br (y.getD 1 (.b aq))),CV.i ak (bN (y.getD 2 (.b aq))),CV.i ak (bN (y.getD 3 (.b aq))),CV.i ak (bN (y.getD 4 (.b aq))),CV.s (br (y.getD 5 (.b aq))),CV.i ak (bN (y.getD 6 (.b aq)))]
theorem sK(h:cn y=ao):cr y=y:=by
 unfold cn at h;split at h
 ·rfl
 ·cases h
theorem lL(h:cn y=ao):y.length=7:=by rw[<-sK h];rfl
def keep(d:ay)(y:aE CV):aY:= !decide (bN (y.getD 0 (.b aq))=d)
theorem gT(d:ay){s:Row}{i:aN}(h:i<s.length):(s.take (i+1)).filter (keep d)=(s.take i).filter (keep d)++(bif keep d s[i]then [s[i]]else []):=by rw[bO h,fy];cases hk:keep d s[i]<;>simp[hk]
theorem run(N:aN)(f:Row)(d:ay)(X:f.all cn=ao)(M:f.length<=9223372036854775807)(K:ay->ay->ay->Row->aA R)(P:Row->aA R)
  (V:∀(j:aN) x,x.length=f.length->j<=f.length->K d j f.length x=P (x.take j)) (m j i:aN) (x:Row)
  (hi:j<i/\i<=f.length/\x.length=f.length/\(∀y∈x,y.length=7)/\x.take j=(f.take i).filter (keep d)/\x.drop i=f.drop i) (hm:f.length-i<m):
  l5 N K m d j i x=P (f.filter (keep d)):=by
 have I:∀y∈f,cn y=true:=bz.1 X
 refine fE (λm (s:aN×aN×Row)=>l5 N K m d s.1 s.2.1 s.2.2) (λs=>f.length-s.2.1)
  (λs=>s.1<s.2.1/\s.2.1<=f.length/\s.2.2.length=f.length/\(∀y∈s.2.2,y.length=7)/\s.2.2.take s.1=(f.take s.2.1).filter (keep d)/\s.2.2.drop s.2.1=f.drop s.2.1)
  (λ_=>P (f.filter (keep d))) (λm s hs=> ?_) m (j,i,x) hi hm
 obtain⟨j,i,x⟩:=s;obtain⟨S,U,z,A,u,H⟩:=hs;simp only at S U z A u H⊢;by_cases k:i<f.length
 ·right;have a:i<x.length:=by omega
  have o:j<x.length:=by omega
  have O:x[i]=f[i]:=by have t:=dQ a;have C:=dQ k;rw[H,C]at t;exact(jW t).1.symm
  have hd:x.drop (i+1)=f.drop (i+1):=by have t:=dQ a;have C:=dQ k;rw[H,C]at t;exact(jW t).2.symm
  have r:=I _ (bw k);have B:=gT d k;cases hk:keep d f[i]with
  |true=>
   refine⟨(j+1,i+1,x.set j f[i]),?_,by simp only;omega,trivial,?_⟩
   ·rw[hk,aw,<-u]at B;refine⟨by simp only;omega,by simp only;omega,by simpa using z,?_,?_,?_⟩
    ·intro y Y;rcases jl Y with h|h
     ·exact A y h
     ·rw[h];exact lL r
    ·rw[B];rw[bO (by simpa using o)];simp[vG]
    ·simp only;rw[vF (by omega)];exact hd
   ·have e:NV.v (bN (av x i 0)) (br (av x i 1)) (bN (av x i (1+1))) (bN (av x i (1+1+1))) (bN (av x i (1+1+1+1))) (br (av x i (1+1+1+1+1))) (bN (av x i (1+1+1+1+1+1))) d=false:=by
     have:(!NV.v (bN (av x i 0)) (br (av x i 1)) (bN (av x i (1+1))) (bN (av x i (1+1+1))) (bN (av x i (1+1+1+1))) (br (av x i (1+1+1+1+1))) (bN (av x i (1+1+1+1+1+1))) d)=true:=by rw[cz a,O];exact hk
     simpa using this
    have es:dV x j 0 [CV.i ak (bN (av x i 0)),CV.s (br (av x i 1)),CV.i ak (bN (av x i (1+1))),CV.i ak (bN (av x i (1+1+1))),CV.i ak (bN (av x i (1+1+1+1))),CV.s (br (av x i (1+1+1+1+1))),CV.i ak (bN (av x i (1+1+1+1+1+1)))]=x.set j f[i]:=by
     have hl:=A _ (bw o);rw[tO o,cz a,cz a,cz a,cz a,cz a,cz a,cz a,O];have:hS x[j] 0 (cr f[i])=f[i]:=by rw[sK r];unfold hS;have:=lL r;simp[hl,this,gy]
     unfold cr at this;rw[this]
    have b1:(j:ay)<(x.length:ay):=by omega
    simp only[l5,r5,c8,b_,dB,a,o,aQ,bj,aw,e,bG,es,cw k M,cw (show j<f.length by omega) M]
  |false=>
   refine⟨(j,i+1,x),?_,by simp only;omega,trivial,?_⟩
   ·rw[hk,ax,cZ,<-u]at B;exact⟨by simp only;omega,by simp only;omega,z,A,B.symm,hd⟩
   ·have e:NV.v (bN (av x i 0)) (br (av x i 1)) (bN (av x i (1+1))) (bN (av x i (1+1+1))) (bN (av x i (1+1+1+1))) (br (av x i (1+1+1+1+1))) (bN (av x i (1+1+1+1+1+1))) d=true:=by
     have:(!NV.v (bN (av x i 0)) (br (av x i 1)) (bN (av x i (1+1))) (bN (av x i (1+1+1))) (bN (av x i (1+1+1+1))) (br (av x i (1+1+1+1+1))) (bN (av x i (1+1+1+1+1+1))) d)=false:=by rw[cz a,O];exact hk
     simpa using this
    simp only[l5,r5,c8,b_,dB,a,aQ,bj,aw,e,aZ,ax,cw k M]
 ·left;have:i=f.length:=by omega
  subst this;rw[cE]at u;have e:=V j x z (by omega);rw[u]at e;have a:¬f.length<x.length:=by omega
  simp only[l5,r5,c8,a,bg,ax,e]
theorem ok(d:Row)(a:ay)(C:d.all cn=ao)(O:d.length<=4294967296):c d a=ao/\v d a=d.filter (keep a):=by
 refine out d a ?_;have H:=rY.ok d a O;unfold vo b;rw[H.1,H.2,aw];rcases mO (rY.p d a) d.length 0 with ⟨h,r⟩|⟨k,_,N,hk,o,t⟩
 ·rw[h];have:d.filter (keep a)=d:=by rw[eh];intro y u;obtain⟨i,hi,rfl⟩:=c7 u;have:=r i (bA _) (by omega);unfold rY.p at this;rw[cz hi]at this;unfold keep;rw[this];rfl
  rw[this];rfl
 ·rw[hk];have f:k<d.length:=by omega
  have B:ah ((k:ay)=Ij 1)=false:=aF (by show¬(k:ay)= -1;omega);rw[B,ax,cw f (by omega)];have z:∀y∈d,cn y=true:=bz.1 C;refine run _ d a C (by omega) _ ai (λj x P S=> ?_) _ k (k+1) d ⟨by omega,by omega,rfl,λy u=>lL (z y u),?_,rfl⟩ ez
  ·have I:fU (j:ay) (d.length:ay) (d.length:ay)=true:=by simp[fU];omega
   have e:gG j x++aT [Ck.i ak,Ck.s,Ck.i ak,Ck.i ak,Ck.i ak,Ck.s,Ck.i ak] (d.length-j)++mE d.length x=gG j x++aT [Ck.i ak,Ck.s,Ck.i ak,Ck.i ak,Ck.i ak,Ck.s,Ck.i ak] (d.length-j):=by rw[gy (by omega),cZ]
   have hl:(gG j x).length=j:=by simp;omega
   simp only[P,dB,I,aw,e];rw[oN (by simp[fU];omega)];unfold dR;rw[show aR 0=0 from rfl,eK,og,oG (by omega),dH (by omega)]
  ·rw[gT a f];have K:keep a d[k]=false:=by unfold rY.p at o;rw[cz f]at o;unfold keep;rw[o];rfl
   have M:(d.take k).filter (keep a)=d.take k:=by
    rw[eh];intro y u;obtain⟨i,hi,rfl⟩:=c7 u;have A:i<k:=by simp at hi;omega
    have:=t i (bA _) A;unfold rY.p at this;rw[cz (by omega)]at this;rw[mJ];unfold keep;rw[this];rfl
   rw[K,M,ax,cZ]
end KJ
namespace Tf
open _root_.Go.FG.Lib (rs rf rc)
theorem aeC(l:aE Cl):(rc l).all KJ.cn=true:=by rw[bz];intro y a;unfold Lib.rc at a;obtain⟨z,_,rfl⟩:=cN.1 a;rfl
theorem aa_(l:aE Cl)(id:ay):(rc l).filter (KJ.keep id)=rc (l.filter λc=> !decide (c.id=id)):=by unfold Lib.rc;rw[oE];rfl
theorem ok(p:Px)(id:ay)(hp:p.Fit 1048576):c p.now (re p.en) (rs p.w) (rs p.m) (rr p.s) p.a (rf p.fe) (rc p.cl) p.hits id=ao/\v p.now (re p.en) (rs p.w) (rs p.m) (rr p.s) p.a (rf p.fe) (rc p.cl) p.hits id=(p.now,re p.en,rs p.w,rs p.m,rr p.s,p.a,rf p.fe,rc (ud.val p id).cl,p.hits):=by have h:=n7.ok p hp;have e:=hp.cl;have d:=KJ.ok (rc p.cl) id (aeC _) (by rw[eL];omega);rw[aa_]at d;exact out _ _ _ _ _ _ _ _ _ _ (by unfold vo b;simp only[ch,h.1,h.2,d.1,d.2,aw];rfl)
end Tf
namespace zt
theorem ok(d l:Row)(hd:d.length<=1048576)(hl:l.length<=1048576):c d l=ao/\v d l=jq.val d l:=by
 refine out d l ?_;have s:=jO.ok d (by omega);have t:=ue.ok d (az #[ar 110,ar 101,ar 119]) (by omega);have u:lI.val d (az #[ar 110,ar 101,ar 119])=lI.val d jq.nm:=rfl;unfold vo b jq.val;rw[s.1,s.2,aw];cases fD.val d with
 |false=>rfl
 |true=>
  rw[aZ,ax,aw];have y:∀(K0 K1:aY->au->Row->ay->ay->Row->aA (Row×aY)) (e:au->aA (Row×aY)) (h0:∀x i,K0 aq x l l.length i d=ai ([],aq)) (r:∀x i,K1 aq x l l.length i d=e x),l5 ck K0 K1 ck aq ⟨#[]⟩ l l.length 0 d=jq.fin (jq.fs l l.length 0 ⟨#[]⟩) (ai ([],aq)) e:=by
   intro K0 K1 e h0 r;refine jq.KU l hl (λm i acc=>l5 ck K0 K1 m aq acc l l.length (i:ay) d) _ e (λm i acc hi z A k=> ?_) (λm i acc hi k=> ?_) (λm acc=> ?_)
   ·have j:bE ((i:ay)+1)=((i+1:aN):ay):=dq (by omega) (by omega);have a:=mh.ok (br (av l i 0)) (bN (av l i 1)) (bN (av l i (1+1))) (br (av l i (1+1+1)));have f:mh.val (br (av l i 0)) (bN (av l i 1)) (bN (av l i (1+1))) (br (av l i (1+1+1)))=(fj.fr (jq.tx l i),ao):=by unfold mh.val;exact bm k
    simp only[l5,r5,c8,b_,dB,hi,aQ,aL,aw,ax,a.1,a.2,f,aZ,aC (show acc.size+(fj.fr (jq.tx l i)).size<=4611686018427387904 by omega),j]
   ·have a:=mh.ok (br (av l i 0)) (bN (av l i 1)) (bN (av l i (1+1))) (br (av l i (1+1+1)));have f:mh.val (br (av l i 0)) (bN (av l i 1)) (bN (av l i (1+1))) (br (av l i (1+1+1)))=(⟨#[]⟩,aq):=by unfold mh.val;rw[bh (by intro h;have o:jq.eo l i=true:=h;rw[k]at o;cases o)]
    simp only[l5,r5,c8,b_,dB,hi,aQ,aL,aw,a.1,a.2,f,bG];exact h0 acc i
   ·simp only[l5,r5,c8,bk,bg,ax];exact r acc _
  refine(y _ _ (λx=>ai (jq.jR (lI.val d jq.nm).2 x,ao)) (λ_ _=>rfl) (λx _=> ?_)).trans ?_
  ·rw[t.1,aw,t.2,u];cases (lI.val d jq.nm).2<;>rfl
  ·cases jq.fs l l.length 0 ⟨#[]⟩<;>rfl
end zt
namespace zu
open _root_.Go.FG.Lib (rs rf rc En el oy rF rG rH)
open fV (si sf one sS wG yv p0)
theorem ok(now:ay)(l:aE En)(hl:l.length<=1048576):
  c now (re l)=ao/\v now (re l)=(now,re (si now l).en,rs (si now l).w,rs (si now l).m,rr (si now l).s,(si now l).a,[],[],0):=by
 refine out _ _ ?_;unfold vo b;rw[dv];have key:=im l.length (λn (i:aN) (p:Px)=>l4 ck (λ(_:ay) (_:Row) (_ _ _ _ _ j o r:ay) (t u y z A B:Row)=>ai (j,t,u,y,z,o,A,B,r)) n now (re l) (l.length:ay) (i:ay) 0 0 0 now p.a 0 (re p.en) (rs p.w) (rs p.m) (rr p.s) [] []) (λi=>si now (l.take i)) (ai (now,re (si now l).en,rs (si now l).w,rs (si now l).m,rr (si now l).s,(si now l).a,[],[],0)) (λn i hi=>by
  have I:=sS now l i (by omega);have hs:=wG now l i hi;generalize si now (l.take i)=p at I hs;rw[hs];unfold one;have C:bE ((i:ay)+1)=((i+1:aN):ay):=cw hi (by omega);cases f:sf (el l i) now with
  |false=>have d:Da.v (el l i).k (el l i).st (el l i).li (el l i).bo now=false:=f;simp only[l4,r4,dv,c8,hi,aQ,b_,aL,aw,dB,oy hi,rF hi,rG hi,rH hi,br,bN,d,ax,C]
  |true=>have d:Da.v (el l i).k (el l i).st (el l i).li (el l i).bo now=true:=f;have hk:=(gu.FN (yv f)).1;have e:=yh.ok p (el l i) [] [] (I.fit (by omega) (by omega)) I.so (by omega);rw[I.now,I.hits]at e;simp only[l4,r4,ch,dv,c8,hi,aQ,b_,aL,aw,dB,oy hi,rF hi,rG hi,rH hi,br,bN,d,e.1,e.2,C]) (λn=>by
  simp only[l4,r4,c8,bk,bg,ax,cE]) ck 0 (bA _) ez
 exact key
end zu
namespace NS
open _root_.Go.FG.Lib (rs rf rc rd En el oy rF rG rH)
open gL (Wo Ev zG l_)
open k7 (dk es)
open ig (u9)
open ew (ri u7 s_ ju)
theorem walk(N:aN)(L:aE En)(B:L.length<=1048576)(A:L.length<N)(K0:ay->ay->ay->ay->ay->Row->Row->Row->Row->Row->Row->Row->Row->Row->Row->Row->aA R)(now a5 f:ay)(j k o r s t u a d:Row):
  l3 N K0 N (L.length:ay) 0 now a5 f (re []) (re L) j k o r s t u a d=K0 (L.length:ay) (L.length:ay) now a5 f (re (L.filter λe=>fV.sf e now)) (re L) j k o r s t u a d:=by
 have z:∀i,i<L.length->bE ((i:ay)+1)=((i+1:aN):ay):=λi h=>cw h (by omega)
 have key:=Bj L (λe=>fV.sf e now) (λm (i:aN) acc=>l3 N K0 m (L.length:ay) (i:ay) now a5 f (re acc) (re L) j k o r s t u a d) (λacc=>K0 (L.length:ay) (L.length:ay) now a5 f (re acc) (re L) j k o r s t u a d) []
  (λm i acc hi y hp=>by rw[<-eT hi]at hp⊢;unfold fV.sf at hp;simp only[l3,r3,dv,c8,hi,aQ,b_,aL,aw,dB,oy hi,rF hi,rG hi,rH hi,br,bN,hp,z i hi,ew.tL,ew.s_];rw[b0 (by simp at y;omega) (by simp at y;omega),aw])
  (λm i acc hi hp=>by rw[<-eT hi]at hp;unfold fV.sf at hp;simp only[l3,r3,dv,c8,hi,aQ,b_,aL,aw,dB,oy hi,rF hi,rG hi,rH hi,br,bN,hp,z i hi,ax])
  (λm acc=>by simp only[l3,r3,c8,bk,bg,ax])
  N A
 exact key
theorem ok{i:aN}(h:u9 i w)(hi:i<=71)(left:Row):c w.p.now (re w.p.en) (rs w.p.w) (rs w.p.m) (rr w.p.s) w.p.a (rf w.p.fe) (rc w.p.cl) w.p.hits (rd (dk w.o)) (ri w.cd) (re w.bd) left=ao/\v w.p.now (re w.p.en) (rs w.p.w) (rs w.p.m) (rr w.p.s) w.p.a (rf w.p.fe) (rc w.p.cl) w.p.hits (rd (dk w.o)) (ri w.cd) (re w.bd) left=u7 (zG w):=by
 refine out _ _ _ _ _ _ _ _ _ _ _ _ _ ?_;have K:=h.tx hi;have u:=h.len hi;have y:=k7.Bd w.o;have A:=vI.ok (dk w.o) left (by omega);rw[k7.Uc (by omega) left,show qS.res (ai (dk w.o))=(rd (dk w.o),ao)from rfl]at A;have B:=(k7.Xz (o:=w.o) (by omega) h.eo).1;have H:=iK.Jd (es w.o);have t:=ig.Fk h.eo;have z:=ig.Bn w;have I:=ig.SJ _ t;have C:=zt.ok (rd (dk w.o)) (re (l_ w)) (by rw[dX];omega) (by rw[dv];omega);rw[k7.Xy (by omega) t]at C;have D:=Iu.ok (dk w.o) (pd.sF (iK.tx (l_ w))) (by omega) (by unfold pd.sF;simp) (λx k=>by
  unfold pd.sF at k;simp only[cm,ld,or_false]at k;rcases k with rfl|rfl|rfl
  ·show(iK.tx (l_ w)).size<=_;omega
  ·exact bA _
  ·exact bA _)
 rw[k7.KY (by omega) (by omega)]at D;have E:=zu.ok w.p.now (l_ w) (by omega);unfold vo;generalize r:ck=N;have j:(iK.kp (es w.o)).length<N:=by rw[<-r];exact ez
 clear r;unfold b;rw[A.1,aw,A.2,ew.lt_eq];show(bif U101.c (rd (dk w.o))then ch (U101.v (rd (dk w.o))) _ else aj)=_;rw[B.1,aw,B.2,ew.lt_eq,dv,show aT [Ck.s,Ck.i ak,Ck.i ak,Ck.s] 0=re []from rfl,walk N (iK.kp (es w.o)) (by omega) j];have e:((f:aE En)->f=iK.kp (es w.o)->f.filter (λe=>fV.sf e w.p.now)=l_ w):=λ_ h=>by subst h;rfl
 rw[e _ rfl];simp only[ew.lt_eq,C.1,C.2,D.1,D.2,E.1,E.2,aw];have d:=fV.sS w.p.now (l_ w) (l_ w).length (bT _);rw[cE]at d;unfold u7 zG;dsimp only;rw[d.now,d.fe,d.cl,d.hits];rfl
end NS
namespace S_
open _root_.Go.FG.Lib (rs rf rc rd En el)
open gL (Wo Ev closed zG l_ gA flag)
open k7 (dk es)
open ig (u9)
open ew (ri u7 s_ ju)
theorem fl(b:aY):TW.v b=flag b:=by cases b<;>rfl
theorem ok{i:aN}(h:u9 i w)(hi:i<=71)(d:gA e=ao):c w.p.now (re w.p.en) (rs w.p.w) (rs w.p.m) (rr w.p.s) w.p.a (rf w.p.fe) (rc w.p.cl) w.p.hits (rd (dk w.o)) (ri w.cd) (re w.bd) e.k e.id e.t e.n e.l=ao/\v w.p.now (re w.p.en) (rs w.p.w) (rs w.p.m) (rr w.p.s) w.p.a (rf w.p.fe) (rc w.p.cl) w.p.hits (rd (dk w.o)) (ri w.cd) (re w.bd) e.k e.id e.t e.n e.l=((gL.act w e).2,u7 (gL.act w e).1):=by
 unfold gA at d;simp only[aM,bf]at d;obtain⟨hk,hid,C,z,hl⟩:=d;have hp:=ju h.px;refine out _ _ _ _ _ _ _ _ _ _ _ _ _ _ _ _ _ ?_;unfold vo b gL.act;by_cases f:e.k=1
 ·rw[aC f,aw];have A:=PM.ok w.p e.id e.t hp (by omega);rw[A.1,aw,A.2,ew.lt_eq];try rfl
 rw[aF f,ax,ax];by_cases j:e.k=2
 ·rw[aC j,aw];have A:=Ta.ok w.p e.id e.t hp;rw[A.1,aw,A.2,ew.lt_eq,fl];unfold u7 fw.Cp;cases fw.sZ w.p e.id&&(ah (1<=e.t.size/\e.t.size<=40)&&ah ((el w.p.fe e.id.toNat).t.size+e.t.size<=400))<;>rfl
 rw[aF j,ax,ax];by_cases k3:e.k=3
 ·rw[aC k3,aw,eN z];have A:=Tc.ok h hi e.id (e.n%1000000) (by omega);rw[A.1,aw,A.2,ew.lt_eq,fl];try rfl
 rw[aF k3,ax,ax];by_cases r:e.k=4
 ·rw[aC r,aw];have A:=Td.ok w.p e.id hp;rw[A.1,aw,A.2,ew.lt_eq,fl];unfold u7 fw.Cm;cases fw.sZ w.p e.id<;>rfl
 rw[aF r,ax,ax];by_cases u:e.k=5
 ·rw[aC u,aw];have A:=Te.ok w.p e.n hp;rw[A.1,aw,A.2,ew.lt_eq];try rfl
 rw[aF u,ax,ax];by_cases y:e.k=6
 ·rw[aC y,aw];have A:=Tf.ok w.p e.id hp;have B:=Mw.ok w.p.now (re w.p.en) (rs w.p.w) (rs w.p.m) (rr w.p.s) w.p.a (rf w.p.fe) w.p.cl w.p.hits e.id hp.cl;rw[B.1,aw,ew.lt_eq,A.1,aw,A.2,ew.lt_eq,fl,B.2];try rfl
 rw[aF y,ax,ax];have A:=NS.ok h hi e.l;rw[A.1,aw,A.2,ew.lt_eq];try rfl
end S_
namespace KF
open _root_.Go.FG.Lib (rs rf rc rd En el)
open gL (Wo Ev gA)
open k7 (dk es)
open ig (u9)
open ew (ri u7)
open k6 (rv kj wv0 wv1 wv2 wv3 wv4 run yJ qs CL life W13 qh)
theorem chk(N n:aN)(l:aE Ev)(hl:l.length<=1048576)(e:l.length<n)(K0 K1:Row->aY->Row->ay->ay->ay->ay->ay->aA R)(a:aA R)(d:∀i:ay,K0 (rv l) aq (rv l) (l.length:ay) i 0 0 0=a):
  l4 N K0 K1 n (rv l) aq (rv l) (l.length:ay) 0 0 0 0=bif(cT l.length).all λi=>gA (el l i)then K1 (rv l) aq (rv l) (l.length:ay) (l.length:ay) 0 0 0 else a:=by
 have f:∀i,i<l.length->bE ((i:ay)+1)=((i+1:aN):ay):=λi h=>cw h (by omega)
 have key:=jE (λi=>gA (el l i)) l.length (λm (i:aN)=>l4 N K0 K1 m (rv l) aq (rv l) (l.length:ay) (i:ay) 0 0 0) a (K1 (rv l) aq (rv l) (l.length:ay) (l.length:ay) 0 0 0)
  (λm i hi hp=>by simp only[l4,r4,kj,c8,hi,aQ,b_,aL,aw,dB,wv0 hi,wv1 hi,wv2 hi,wv3 hi,wv4 hi,bN,br,iH,k6.Am,hp,aZ,ax,f i hi])
  (λm i hi hp=>by simp only[l4,r4,kj,c8,hi,aQ,b_,aL,aw,dB,wv0 hi,wv1 hi,wv2 hi,wv3 hi,wv4 hi,bN,br,iH,k6.Am,hp,bG,d])
  (λm=>by simp only[l4,r4,c8,bk,bg,ax]) n e
 exact key
theorem go(N:aN)(l:aE Ev)(hl:l.length<=70)(t:∀e∈l,gA e=ao)(K:Row->ay->ay->ay->ay->ay->ay->ay->ay->Row->Row->Row->Row->Row->Row->Row->Row->Row->aA R):∀(d i n:aN) (w:Wo),w=run (l.take i)->l.length-i<=d->i<=l.length->d<n->
  M4 N K n (rv l) (l.length:ay) (i:ay) 0 0 0 w.p.now w.p.a w.p.hits (re w.p.en) (rs w.p.w) (rs w.p.m) (rr w.p.s) (rf w.p.fe) (rc w.p.cl) (rd (dk w.o)) (ri w.cd) (re w.bd)=K (rv l) (l.length:ay) (l.length:ay) 0 0 0 (run l).p.now (run l).p.a (run l).p.hits (re (run l).p.en) (rs (run l).p.w) (rs (run l).p.m) (rr (run l).p.s) (rf (run l).p.fe) (rc (run l).p.cl) (rd (dk (run l).o)) (ri (run l).cd) (re (run l).bd):=by
 have fin:∀(n:aN) (w:Wo),w=run (l.take l.length)->M4 N K (n+1) (rv l) (l.length:ay) (l.length:ay) 0 0 0 w.p.now w.p.a w.p.hits (re w.p.en) (rs w.p.w) (rs w.p.m) (rr w.p.s) (rf w.p.fe) (rc w.p.cl) (rd (dk w.o)) (ri w.cd) (re w.bd)=K (rv l) (l.length:ay) (l.length:ay) 0 0 0 (run l).p.now (run l).p.a (run l).p.hits (re (run l).p.en) (rs (run l).p.w) (rs (run l).p.m) (rr (run l).p.s) (rf (run l).p.fe) (rc (run l).p.cl) (rd (dk (run l).o)) (ri (run l).cd) (re (run l).bd):=by intro n w f;rw[cE]at f;subst f;simp only[M4,wZ,c8,bk,bg,ax]
 intro d;induction d with
 |zero=>
  intro i n w f y k z;obtain⟨n,rfl⟩:∃m,n=m+1:=⟨n-1,by omega⟩
  have:i=l.length:=by omega
  subst this;exact fin n w f
 |succ d ih=>
  intro i n w f y k z;obtain⟨n,rfl⟩:∃m,n=m+1:=⟨n-1,by omega⟩
  by_cases hi:i<l.length
  ·have r:u9 i w:=by rw[f];exact yJ t i k
   have hE:=t _ (jt hi);have A:=S_.ok r (by omega) hE;have B:=r.cd;have u:(gL.act w (el l i)).1.cd=w.cd:=PK.PQ w _;have rm:b8 ((ri w.cd).length+(aP (aT [Ck.i ak] 1) 0 [CV.i ak (gL.act w (el l i)).2]).length) 8=true:=by rw[ew.fa,ew.tL];exact b0 (by omega) (by omega)
   have C:=ih (i+1) n (gL.step w (el l i)) (by rw[qs l i hi,f]) (by omega) hi (by omega);refine Eq.trans ?_ C;have j:bE ((i:ay)+1)=((i+1:aN):ay):=cw hi (by omega);simp only[M4,wZ,kj,c8,hi,aQ,b_,aL,aw,dB,wv0 hi,wv1 hi,wv2 hi,wv3 hi,wv4 hi,bN,br,iH,j];rw[A.1,aw,A.2,ew.lt_eq];unfold u7;dsimp only;rw[u,rm,aw,ew.Y_];rfl
  ·have:i=l.length:=by omega
   subst this;exact fin n w f
theorem ok(l:aE Ev)(hl:l.length<=1048576):c (rv l)=ao/\v (rv l)=life l:=by
 refine out _ ?_;unfold vo;generalize d:ck=N;have a:l.length<N:=by rw[<-d];exact ez
 clear d;unfold b life CL;rw[kj];by_cases h:l.length<=70
 ·rw[aC h,bj,aF (show¬(l.length:ay)>70 by omega),ax];rw[chk N N l hl a _ _ (ai (0,[],[],[],[],0,[],[],0,[],[],[],aq)) (λ_=>rfl)];cases f:(cT l.length).all λi=>gA (el l i)with
  |false=>rfl
  |true=>have j:∀e∈l,gA e=true:=(qh.1 (by unfold CL;rw[f,aC h];rfl)).2;rw[aw,aw];simp only[kj];exact(go N l h j _ l.length 0 N k6.w0 rfl (by omega) (by omega) a).trans rfl
 ·rw[aF h,kQ,aC (show(l.length:ay)>70 by omega),aw,ax]
end KF
namespace Il
open _root_.Go.FG.Lib (rc el)
open d' (shown ln room A' sp Cn)
theorem step(K:au->Row->ay->ay->aA R)(l:aE Cl)(j:room l<=1000000000)(f:∀c∈l,A' c)(m i:aN)(h:i<l.length):
  l3 ck K (m+1) (shown (l.take i)) (rc l) (l.length:ay) (i:ay)=l3 ck K m (shown (l.take (i+1))) (rc l) (l.length:ay) ((i+1:aN):ay):=by
 have a:=f _ (jt h);have d:=d'.dec _ (d'.mv a.1);have e:=d'.dec _ (d'.mv a.2);have s1:=iT.mr _ (d'.mv a.1).1 (d'.mv a.1).2;have k:=iT.mr _ (d'.mv a.2).1 (d'.mv a.2).2;have s3:=d'.L6 (el l i).sta;have o:=d'.BU l i h;have s:(shown (l.take i)).size<=room l:=cf (d'.oY _ (λc a=>f c (ia a))) (d'.yG l i);rw[show l3 ck K (m+1)=r3 ck (l3 ck K m) K from rfl];unfold r3;have hl:l.length<=1000000000:=by
  have:∀l:aE Cl,l.length<=room l:=by
   intro l;induction l with
   |nil=>exact bT _
   |cons c r ih=>unfold room;simp only[bR];omega
  exact cf (this l) j
 rw[d'.take_succ l i h,show bE ((i:ay)+1)=((i+1:aN):ay)from dq (by omega) (by omega),eL];unfold d'.ln;simp only[dG,JV h,NX h,NY h,NZ h,bN,br,d'.ms,d.1,d.2,e.1,e.2,aw,aC (show(i:ay)<(l.length:ay)by omega),aC (show 0<=(i:ay)by omega),aL,dm,show sp.size=1 from rfl,show Cn.size=1 from rfl,show H0.v (el l i).sta=d'.st (el l i).sta from rfl];rw[lJ,lJ,lJ,lJ,lJ,lJ,lJ,lJ];rfl
theorem ok(i0:ay)(j k o s:Row)(e:ay)(t:Row)(l:aE Cl)(f:ay)(d:room l<=1000000000)(u:∀c∈l,A' c):c i0 j k o s e t (rc l) f=ao/\v i0 j k o s e t (rc l) f=shown l:=by
 refine out _ _ _ _ _ _ _ _ _ ?_;unfold vo b;rw[eL];have hl:l.length<=1000000000:=by
  have:∀l:aE Cl,l.length<=room l:=by
   intro l;induction l with
   |nil=>exact bT _
   |cons c r ih=>unfold room;simp only[bR];omega
  exact cf (this l) d
 have key:=im l.length (λm (i:aN) (x:au)=>l3 ck (λa (_:Row) (_ _:ay)=>ai a) m x (rc l) (l.length:ay) (i:ay)) (λi=>shown (l.take i)) (ai (shown l)) (λm i h=>step _ l d u m i h) (λm=>by rw[show l3 ck (λa (_:Row) (_ _:ay)=>ai a) (m+1)=r3 ck (l3 ck (λa (_:Row) (_ _:ay)=>ai a) m) (λa (_:Row) (_ _:ay)=>ai a)from rfl];unfold Il.r3;rw[qe,ax,cE]) ck 0 (bA _) ez;exact key
end Il
namespace U7
open _root_.Go.FG.Lib (rs rf rc rd En el)
open iN (tl jo con wtx hd Tel yp w1)
open d' (sp Cn shown)
open iT (it)
open gL (Wo)
open ew (ri)
open w6 (eD)
theorem P9(N:aN)(K:ay->ay->ay->ay->ay->Row->Row->Row->Row->Row->Row->Row->Row->Row->Row->aA R)(a b d:ay)(f j k o r t u y:Row)(l:aE ay)(hl:l.length<=70)(A:∀n∈l,yp n)(n:aN)(e:l.length<n):
  l7 N K n (l.length:ay) 0 a b d (aT [Ck.s] 0) (ri l) f j k o r t u y=K (l.length:ay) (l.length:ay) a b d (rs (l.map it)) (ri l) f j k o r t u y:=by
 refine im l.length (λm (i:aN) (x:Row)=>l7 N K m (l.length:ay) (i:ay) a b d x (ri l) f j k o r t u y) (λi=>rs ((l.take i).map it)) _ (λm i h=> ?_) (λm=> ?_) n 0 (bA _) (by omega)
 ·have e:=A _ (jt h);have D:=d'.dec (el l i) ⟨by have:=e.1;omega,by have:=e.2;omega⟩;have z:av (ri l) i 0=CV.i ak (el l i):=fH _ l i 0 h;have C:bE ((i:ay)+1)=((i+1:aN):ay):=cw h (by omega);rw[show l7 N K (m+1)=r7 N (l7 N K m) K from rfl,iN.JO l i h];unfold r7;have B:b8 (bB (rs ((l.take i).map it))+bB (aP (aT [Ck.s] 1) 0 [CV.s (it (el l i))])) 16=true:=by rw[Lib.cy,bJ,du];exact b0 (by show(_+1)*16<=_;omega) (by show _+1<=_;omega)
  simp only[ew.fa,c8,h,aQ,aw,b_,aL,dB,z,bN,D.1,D.2,ew.lt_eq,C,B,iN.Wn]
 ·rw[show l7 N K (m+1)=r7 N (l7 N K m) K from rfl];unfold r7;rw[qe,ax,cE]
theorem keys(N:aN)(K:au->ay->ay->Row->aA R)(x:au)(f:x.size<=10000)(l:aE En)(hl:l.length<=1048576)(hk:∀e∈l,e.k.size<=30)(n:aN)(d:l.length<n):
  CN N K n x (l.length:ay) 0 (re l)=K (x++tl (l.map (·.k))) (l.length:ay) (l.length:ay) (re l):=by
 have key:=im l.length (λm (i:aN) (y:au)=>CN N K m y (l.length:ay) (i:ay) (re l)) (λi=>x++tl ((l.take i).map (·.k))) (K (x++tl (l.map (·.k))) (l.length:ay) (l.length:ay) (re l)) (λm i h=> ?_) (λm=> ?_) n 0 (bA _) (by omega)
 ·rw[show x++tl ((l.take 0).map (·.k))=x from d'.tA x]at key;exact key
 ·have s1:=hk _ (jt h);have j:=iN.L7 hl hk i;have a:bE ((i:ay)+1)=((i+1:aN):ay):=cw h (by omega);rw[show CN N K (m+1)=Ns N (CN N K m) K from rfl,iN.aae l i h];unfold Ns;simp only[dv,c8,h,aQ,aw,b_,aL,dB,oy h,br,a,dm,show sp.size=1 from rfl];rw[w1 (by omega),w1 (by omega),aw,aw];simp only[c_]
 ·rw[show CN N K (m+1)=Ns N (CN N K m) K from rfl];unfold Ns;rw[qe,ax,cE]
theorem ok(s:au)(hs:s.size<=4000000000):c s=ao/\v s=con s:=by
 refine out _ ?_;unfold vo;generalize o:ck=N;have k:∀{n:aN},n<=1048576->n<N:=λh=>by rw[<-o];exact ez
 clear o;unfold b;have A:=NR.ok s hs;have F:=iN.G6 s;have S:=w6.DN s;have d:((az #[ar 104,ar 105,ar 116,ar 115,ar 32]):au).size=5:=rfl;have f:((az #[ar 32,ar 107,ar 101,ar 112,ar 116]):au).size=5:=rfl;have y:((az #[ar 102,ar 97,ar 117,ar 108,ar 116,ar 32]):au).size=6:=rfl;rw[A.1,aw,A.2,ew.lt_eq];dsimp only;unfold iN.con;by_cases h0:(eD s).2=0
 ·rw[bm h0,show((eD s).2 !=0)=aq from by rw[h0];rfl,ax];have L:=KF.ok (eD s).1 (by omega);have r:∀e∈(eD s).1,gL.gA e=true:=λe h=>(S.2 e h).1;have T:=iN.tel S.1 r;have t:k6.life (eD s).1=k6.W13 (k6.run (eD s).1) true:=by unfold k6.life;rw[k6.qh.2 ⟨S.1,r⟩,aw]
  rw[L.1,aw,L.2,ew.lt_eq,t];generalize k6.run (eD s).1=w at T;unfold k6.W13;dsimp only;rw[ew.fa,P9 N _ _ _ _ _ _ _ _ _ _ _ _ w.cd T.ln T.cd N (k (cf T.ln (by omega)))];have C:=Il.ok w.p.now (re w.p.en) (rs w.p.w) (rs w.p.m) (rr w.p.s) w.p.a (rf w.p.fe) w.p.cl w.p.hits (cf T.rm (by omega)) T.cl;have z:=T.px.hits;have D:=d'.dec w.p.hits ⟨by omega,by omega⟩;have s1:=iT.mr w.p.hits (by omega) (by omega);have B:=cf (d'.oY _ T.cl) T.rm;have s3:=iN.QI T.ln T.cd w.cd.length;rw[cE]at s3;have u:=iN.L7 T.en T.ks w.p.en.length;rw[cE]at u;have J:=iN.UI (w.cd.map it) (by rw[bJ];have:=T.ln;omega) (by omega);rw[J.1,aw,J.2,ew.lt_eq,eG,dv];unfold iN.wtx iN.hd;by_cases j:w.cd=[]
  ·rw[bm j,j,show ah (jo (([]:aE ay).map it)=((az #[]):au))=ao from aC rfl,aZ,ax];simp only[C.1,C.2,D.1,D.2,ew.lt_eq,aw,dm,d,f,show(jo (([]:aE ay).map it)).size=0 from rfl];repeat rw[w1 (by omega)]
   simp only[aw];rw[keys N _ _ (by simp only[dm,d,f,show(jo (([]:aE ay).map it)).size=0 from rfl];omega) w.p.en T.en T.ks N (k T.en)];simp only[dm,d,f,show(jo (([]:aE ay).map it)).size=0 from rfl,show Cn.size=1 from rfl];rw[w1 (by omega),aw];simp only[c_];rfl
  ·rw[bh j,aF (iN.ae5 j),bG,aw];simp only[C.1,C.2,D.1,D.2,ew.lt_eq,aw,dm,d,f,show Cn.size=1 from rfl];repeat rw[w1 (by omega)]
   simp only[aw];rw[keys N _ _ (by simp only[dm,d,f,show Cn.size=1 from rfl];omega) w.p.en T.en T.ks N (k T.en)];simp only[dm,d,f,show Cn.size=1 from rfl];rw[w1 (by omega),aw];simp only[c_];rfl
 ·have D:=d'.dec (eD s).2 ⟨by omega,by omega⟩;have s1:=iT.mr (eD s).2 (by omega) (by omega);rw[bh h0,bne_iff_ne.2 h0,aw];simp only[D.1,D.2,ew.lt_eq,aw,dm,y,show Cn.size=1 from rfl];rw[w1 (by omega),w1 (by omega),aw,aw];simp only[c_];rfl
end U7
namespace U3
open iN (con)
theorem run(a:au):vo a=ai true:=by
 unfold vo b;by_cases h:(a.size:ay)>1048576
 ·rw[aC h];rfl
 ·rw[aF h,ax];have S:=U6.ok a;have I:=U7.ok a (by omega);rw[S.1,aw,S.2,ew.lt_eq,I.1,aw,I.2,ew.lt_eq,sG];rfl
theorem law(a:au)(_:A):v a=true:=(out _ (run a)).2
theorem akh(a:au)(_:A):c a=true:=(out _ (run a)).1
end U3
end Go.FG
