/- What the functions come to, in plain numbers, texts and lists; last the law itself. No condition but those that each states. -/
import Derived.Test.YtpcfgiocpohbmaaGreatDoorPScriptb
import Derived.Test.YtpcfgiocpohbmaaGreatDoorFScripta
set_option linter.all false
set_option maxRecDepth 100000
set_option autoImplicit true
set_option relaxedAutoImplicit true
open BitVec renaming toNat->eg,and->jx,ofInt->cu
open Bool renaming true->ao,false->aq,and_self->aK,not_false->bH,not_true->aY,and_eq_true->aM,true_and->bj,not_eq_true'->di,not_eq_false'->iw,false_or->oD,true_or->OK,false_and->lH,not_not->A6,and_true->gE,and_false->wQ,false_eq_true->dq,or_eq_true->dN,and_assoc->nV
open ByteArray renaming mk->aw,extract->bx,toList->aF,size->bf,empty_append->lO,append_assoc->cY,ext->kQ,size_extract->vQ
open Decidable renaming decide->ah
open Go.IntKind renaming i64->ak,u8->a8,wrap->bG
open Go.Op renaming bytesLess->cf
open Int renaming toNat->aP,tdiv->cz,le_trans->OR,neg->s9,tmod->bQ,tmod_eq_emod_of_nonneg->dO,toNat_natCast->dX,emod_nonneg->FX,emod_lt_of_pos->Ba,lt_irrefl->AE,tdiv_eq_ediv_of_nonneg->d'
open List renaming drop_eq_getElem_cons->cJ,getD->eC,length->bD,drop_length->c_,drop_of_length_le->kC,set->aC,length_set->ch,take_zero->qB,append_assoc->cg,take_of_length_le->e8,length_drop->g_,map_nil->wb,append_nil->d_,mem_cons_self->cQ,length_cons->bT,getElem_mem->bF,length_nil->jU,nil_append->eR,map_append->cT,length_append->bU,length_take->dG,getD_eq_getElem?_getD->dc,getElem?_eq_getElem->fC,range->c7,beq->cD,all_eq_true->bE,all_eq_false->Vp,length_map->bK,ext_getElem->lP,set_getElem_self->fc,getElem_set_self->kT,set_set->pX,mem_map->cU,filter_map->pj,filter_congr->ld,length_singleton->bz,nodup_append->eK,mem_append->a_,mem_append_left->bZ,mem_singleton->a7,mem_append_right->bR,length_tail->V2,find?_cons_of_neg->Kg,drop_zero->gz,length_filter_le->eD,take_succ_eq_append_getElem->cE,filter_append->jc,take_length->cR,pairwise_cons->qT,mem_of_find?_eq_some->qS,getElem_of_mem->dW,find?_eq_none->V1,find?_some->FY,mem_cons->cF,not_mem_nil->lQ,any_eq_false->ZC,filter_eq_self->ka,range'->iT,range'_zero->V4,all_nil->DY,all_cons->iS,range_eq_range'->V5,mem_of_mem_take->iK,length_pos_iff->Qg,mem_of_mem_drop->lL,getElem?_append_left->dz,getElem?_append_right->de,foldl_append->nv
open Nat renaming le_refl->bW,lt_irrefl->bg,sub_self->qe,zero_le->bB,lt_or_ge->rL,le_trans->ca,zero_add->bV,sub_zero->H2,le_of_ble_eq_true->b8
open Option renaming some->ai,none->ay,map_some->jf
open UInt8 renaming toNat_lt->Ed,toNat_inj->Cw,ofNat->aj
open _root_ renaming ByteArray->ar,Nat->aN,Bool->aZ,Int->az,Option->aG,List->aE,decide_eq_true->aA,cond_true->au,decide_eq_false->aD,cond_false->ax,decide_true->aQ,decide_false->bc,if_pos->bm,if_neg->bk,congrArg->gu,decide_eq_decide->b7,of_decide_eq_true->cB,of_decide_eq_false->vz,decide_eq_true_eq->ba,decide_eq_false_iff_not->eZ,absurd->cO
namespace Go.FG
open _root_.Go.FG.Lib (Cl En Fe Fi Px GO all_congr j6 pA Cz qH eP beq_iff mz lT sV cw dB fG p6 cm dh G1 mR xW jz el e7 fM iY sn oY fi ox qK CS Nl yg iz gO fa gP uS mX eG ic lZ rc0 rc1 rc2 rc3 rc4 rc5 rc6 eQ rd Jv VG VH eA re dC fO ea h_ rf dV Qu sJ b6 rr J8 hJ rs VI p9 HC k9 Dy cj uA pc yJ dK FD oA DF yL rG rH uD nT iq vb sP u5 k_ c6 cG Qv wc1 wc2 wc3 YV YW YX wd0 wd1 wd2 rJ wG wH wI L5 J_ wf2 DI wf3 wf4)
variable {R:Type}
open gj (dd dd1 dd2)
open ed (qh Ee yp Hj VF shown)
open iB (So M' ik ua drop_nil BZ fU AY qO sG)
open dJ (Ac V6 BQ Jk vO lB ra sH wa0 wa1 wa2 wa3)
open OH (Stop)
open iV (H7 I6 ah4 rk kp ru)
open eV (jH pK ir pP wJ)
open fE (Le rD od)
open nA (NI gf pM yW u6)
open qE (H6 Qs zW)
open nz (apart oK)
open mj (ID lC)
open wN (ec qk mY)
open fA (GW mm yV nQ Ht Es yK)
open dy (CG qY AJ fR half sC LH LI)
open lS (B5)
open eO (q_ Nx kr sq mo Ah HD A2 Oo zer)
open oM (HI)
open wM (cls mS)
open gH (KK ye oc hit jn K5 lid wx Qt Jo)
open xD (KF kN Hd Lb)
open pe (sU)
open fV (zZ ui p0 tD yz)
open se (later tm)
open iN (Ev Wo closed il I0 flag oa)
open H9 (ja Kx Da)
open H_ (C8 jJ HF uB)
open L9 (Same Sb Kw lV IZ of_same Lx yE HJ)
open mh (Bk)
open dY (Cx FA)
open iF (Evr Wa Ei pJ Al Am rE j_ wv0 wv1 wv2 wv3 wv4)
open tE (xV uc B9 Lw)
open nf (QE Mc adb ahg parts HT within)
open FK (GZ G0 J7 qj i6 vl)
open kf (SL WL zR cS ri1 wd jX)
open H8 (lines Fj DR)
open wO (rh kJ idle rB uz dE)
open fP (Tel zT yU jo tl wtx)
open yX (P0 P3)
namespace o6
open kf (res fz E cL)
abbrev WS:Row:=rs WL
abbrev SS:Row:=Lib.ri SL
abbrev Z:ar:=(aw #[])
def cW{i:aN}:bn (av WS i 0)=wd i:=cS WL i
def rd(s:ar):kl.c s=ao/\kl.v s=i6 s:=kl.ok s
def rc(s:ar):kl.c s=true:=(rd s).1
def Hy(s:ar):kl.v s=i6 s:=(rd s).2
def ZJ{i:aN}(h:i<7):bO (av SS i 0)=SL.getD i 0:=by
 have key:∀j:Fin 7,bO (av SS j.val 0)=SL.getD j.val 0:=by decide+kernel
 exact key ⟨i,h⟩
section
variable {Q:Type} (K0 K3:Row->aZ->az->az->az->ar->az->Row->Row->aG Q) (K1:Row->aZ->az->az->ar->az->aG Q) (K2:Row->aZ->az->az->ar->az->Row->aG Q)
abbrev g4(m:aN)(p:aE ar)(i:aN):aG Q:=l4 cw K0 K1 K2 K3 m (rs p) aq (i:az) 0 0 Z 0 WS SS
variable {p:aE ar} (hp:0<p.length)
include hp
def no(m i:aN)(hi:i<7)(h:p.getD 0 ⟨#[]⟩≠wd i):g4 K0 K3 K1 K2 (m+1) p i=g4 K0 K3 K1 K2 m p (i+1):=by show r4 cw (l4 cw K0 K1 K2 K3 m) K0 K1 K2 K3 (rs p) aq (i:az) 0 0 Z 0 WS SS=_;unfold r4 bY bw;rw[dh,show WS.length=7 from rfl,aA hi,au,aA (show(0:az)<((rs p).length:az)by rw[cL];omega),au,cm,aK,au];rw[dK,cW,show aP 0=0 from rfl,cS p 0,zR,aD h,bH,au,cG hi (by omega)]
def sz(m i:aN)(hi:i<6)(h:p.getD 0 ⟨#[]⟩=wd i)(hs:(p.length:az)≠SL.getD i 0):g4 K0 K3 K1 K2 (m+1) p i=g4 K0 K3 K1 K2 m p (i+1):=by
 have a:i<7:=by omega
 have d:ah (SL.getD i 0>0)=true:=by
  have key:∀j:Fin 6,ah (SL.getD j.val 0>0)=true:=by decide+kernel
  exact key ⟨i,hi⟩
 show r4 cw (l4 cw K0 K1 K2 K3 m) K0 K1 K2 K3 (rs p) aq (i:az) 0 0 Z 0 WS SS=_;unfold r4 bY bw;rw[dh,show WS.length=7 from rfl,aA a,au,aA (show(0:az)<((rs p).length:az)by rw[cL];omega),au,cm,aK,au];rw[dK,cW,show aP 0=0 from rfl,cS p 0,zR,aA h,aY,ax,dh,show SS.length=7 from rfl,aA a,aK,au,ZJ a,d,au,au];rw[cL,show(((p.length:aN):az) !=SL.getD i 0)=ao from bne_iff_ne.2 hs,au,cG a (by omega)]
def skip:∀(k m:aN),k<=7->(∀j,j<k->p.getD 0 ⟨#[]⟩≠wd j)->g4 K0 K3 K1 K2 (m+k) p 0=g4 K0 K3 K1 K2 m p k
 |0,m,_,_=>rfl
 |k+1,m,hk,h=>by
  rw[show m+(k+1)=(m+1)+k by omega,skip k (m+1) (by omega) (λj a=>h j (by omega))];exact no K0 K3 K1 K2 hp m k (by omega) (h k (by omega))
def ahn(m:aN):g4 K0 K3 K1 K2 (m+1) p 7=K3 (rs p) aq 7 0 0 Z 0 WS SS:=by have _:=hp;show r4 cw (l4 cw K0 K1 K2 K3 m) K0 K1 K2 K3 (rs p) aq ((7:aN):az) 0 0 Z 0 WS SS=_;unfold r4 bY bw;rw[dh,show WS.length=7 from rfl,p6,ax];rfl
def rest:∀(k m:aN),k<=7->(∀j,7-k<=j->j<7->p.getD 0 ⟨#[]⟩≠wd j)->g4 K0 K3 K1 K2 (m+1+k) p (7-k)=K3 (rs p) aq 7 0 0 Z 0 WS SS
 |0,m,_,_=>ahn K0 K3 K1 K2 hp m
 |k+1,m,hk,h=>by
  rw[show m+1+(k+1)=(m+1+k)+1 by omega,no K0 K3 K1 K2 hp _ (7-(k+1)) (by omega) (h _ (bW _) (by omega)),show 7-(k+1)+1=7-k by omega];exact rest k m (by omega) (λj h1 h2=>h j (by omega) h2)
def none_(M:aN)(h:∀j,j<7->p.getD 0 ⟨#[]⟩≠wd j):g4 K0 K3 K1 K2 (M+8) p 0=K3 (rs p) aq 7 0 0 Z 0 WS SS:=by rw[show M+8=(M+1)+7 by omega,skip K0 K3 K1 K2 hp 7 (M+1) (by omega) h];exact ahn K0 K3 K1 K2 hp M
def off(M i:aN)(hi:i<6)(h:p.getD 0 ⟨#[]⟩=wd i)(hs:(p.length:az)≠SL.getD i 0):g4 K0 K3 K1 K2 (M+8) p 0=K3 (rs p) aq 7 0 0 Z 0 WS SS:=by rw[show M+8=(M+(8-i))+i by omega,skip K0 K3 K1 K2 hp i _ (by omega) (λj a e=>jX (by omega) (by omega) (by omega) (e.symm.trans h)),show M+(8-i)=(M+(7-i))+1 by omega,sz K0 K3 K1 K2 hp _ i hi h hs];have:=rest K0 K3 K1 K2 hp (7-(i+1)) M (by omega) (λj h1 h2 e=>jX h2 (by omega) (by omega) (e.symm.trans h));rw[show 7-(7-(i+1))=i+1 by omega]at this;rw[show M+(7-i)=M+1+(7-(i+1))by omega];exact this
def on(M i:aN)(hi:i<7)(h:p.getD 0 ⟨#[]⟩=wd i):g4 K0 K3 K1 K2 (M+8) p 0=g4 K0 K3 K1 K2 (M+(7-i)+1) p i:=by rw[show M+8=(M+(7-i)+1)+i by omega];exact skip K0 K3 K1 K2 hp i _ (by omega) (λj a e=>jX (by omega) (by omega) (by omega) (e.symm.trans h))
def adV(m:aN)(h:p.getD 0 ⟨#[]⟩=wd 0)(hl:p.length=3):g4 K0 K3 K1 K2 (m+1) p 0=K0 (rs p) (i6 (p.getD 1 ⟨#[]⟩)).2 0 1 (i6 (p.getD 1 ⟨#[]⟩)).1 (p.getD 2 ⟨#[]⟩) 0 WS SS:=by have _:=hp;show r4 cw (l4 cw K0 K1 K2 K3 m) K0 K1 K2 K3 (rs p) aq (0:az) 0 0 Z 0 WS SS=_;unfold r4 bY bw;rw[show ah ((0:az)<(WS.length:az))=ao from rfl,au,aA (show(0:az)<((rs p).length:az)by rw[cL];omega),au,show ah ((0:az)<=(0:az))=ao from rfl,aK,au];rw[show aP (0:az)=0 from rfl,cW,cS p 0,zR,aA h,aY,ax,show ah ((0:az)<(SS.length:az))=ao from rfl,aK,au,ZJ (show 0<7 by omega),show SL.getD 0 0=3 from rfl,show ah ((3:az)>0)=ao from rfl,au,au];rw[cL,hl,show(((3:aN):az) !=3)=aq from rfl,ax];simp only[show ah (bA ((0:az)+1)=1)=ao from by decide,au,ax,show ah ((1:az)<((3:aN):az))=ao from rfl,show ah ((2:az)<((3:aN):az))=ao from rfl,show aP (1:az)=1 from rfl,show aP (2:az)=2 from rfl,cS,rc,Hy,show bA ((0:az)+1)=1 from by decide];cases (i6 (p.getD 1 ⟨#[]⟩)).2<;>rfl
def amU(m:aN)(h:p.getD 0 ⟨#[]⟩=wd 1)(hl:p.length=3):g4 K0 K3 K1 K2 (m+1) p 1=K0 (rs p) (i6 (p.getD 1 ⟨#[]⟩)).2 1 2 (i6 (p.getD 1 ⟨#[]⟩)).1 (p.getD 2 ⟨#[]⟩) 0 WS SS:=by have _:=hp;show r4 cw (l4 cw K0 K1 K2 K3 m) K0 K1 K2 K3 (rs p) aq (1:az) 0 0 Z 0 WS SS=_;unfold r4 bY bw;rw[show ah ((1:az)<(WS.length:az))=ao from rfl,au,aA (show(0:az)<((rs p).length:az)by rw[cL];omega),au,show ah ((0:az)<=(1:az))=ao from rfl,aK,au];rw[show aP (1:az)=1 from rfl,cW,show aP (0:az)=0 from rfl,cS p 0,zR,aA h,aY,ax,show ah ((1:az)<(SS.length:az))=ao from rfl,aK,au,ZJ (show 1<7 by omega),show SL.getD 1 0=3 from rfl,show ah ((3:az)>0)=ao from rfl,au,au];rw[cL,hl,show(((3:aN):az) !=3)=aq from rfl,ax];simp only[show ah (bA ((1:az)+1)=1)=aq from by decide,show ah (bA ((1:az)+1)=2)=ao from by decide,au,ax,show ah ((1:az)<((3:aN):az))=ao from rfl,show ah ((2:az)<((3:aN):az))=ao from rfl,show aP (1:az)=1 from rfl,show aP (2:az)=2 from rfl,cS,rc,Hy,show bA ((1:az)+1)=2 from by decide];cases (i6 (p.getD 1 ⟨#[]⟩)).2<;>rfl
def amV(m:aN)(h:p.getD 0 ⟨#[]⟩=wd 2)(hl:p.length=3):g4 K0 K3 K1 K2 (m+1) p 2=K0 (rs p) ((i6 (p.getD 1 ⟨#[]⟩)).2&&(i6 (p.getD 2 ⟨#[]⟩)).2) 2 3 (i6 (p.getD 1 ⟨#[]⟩)).1 Z (i6 (p.getD 2 ⟨#[]⟩)).1 WS SS:=by have _:=hp;show r4 cw (l4 cw K0 K1 K2 K3 m) K0 K1 K2 K3 (rs p) aq (2:az) 0 0 Z 0 WS SS=_;unfold r4 bY bw;rw[show ah ((2:az)<(WS.length:az))=ao from rfl,au,aA (show(0:az)<((rs p).length:az)by rw[cL];omega),au,show ah ((0:az)<=(2:az))=ao from rfl,aK,au];rw[show aP (2:az)=2 from rfl,cW,show aP (0:az)=0 from rfl,cS p 0,zR,aA h,aY,ax,show ah ((2:az)<(SS.length:az))=ao from rfl,aK,au,ZJ (show 2<7 by omega),show SL.getD 2 0=3 from rfl,show ah ((3:az)>0)=ao from rfl,au,au];rw[cL,hl,show(((3:aN):az) !=3)=aq from rfl,ax];simp only[show ah (bA ((2:az)+1)=1)=aq from by decide,show ah (bA ((2:az)+1)=2)=aq from by decide,show ah (bA ((2:az)+1)=3)=ao from by decide,au,ax,show ah ((1:az)<((3:aN):az))=ao from rfl,show ah ((2:az)<((3:aN):az))=ao from rfl,show aP (1:az)=1 from rfl,show aP (2:az)=2 from rfl,cS,rc,Hy,show bA ((2:az)+1)=3 from by decide];cases (i6 (p.getD 1 ⟨#[]⟩)).2<;>rfl
def amW(m:aN)(h:p.getD 0 ⟨#[]⟩=wd 3)(hl:p.length=2):g4 K0 K3 K1 K2 (m+1) p 3=K0 (rs p) (i6 (p.getD 1 ⟨#[]⟩)).2 3 4 (i6 (p.getD 1 ⟨#[]⟩)).1 Z 0 WS SS:=by have _:=hp;show r4 cw (l4 cw K0 K1 K2 K3 m) K0 K1 K2 K3 (rs p) aq (3:az) 0 0 Z 0 WS SS=_;unfold r4 bY bw;rw[show ah ((3:az)<(WS.length:az))=ao from rfl,au,aA (show(0:az)<((rs p).length:az)by rw[cL];omega),au,show ah ((0:az)<=(3:az))=ao from rfl,aK,au];rw[show aP (3:az)=3 from rfl,cW,show aP (0:az)=0 from rfl,cS p 0,zR,aA h,aY,ax,show ah ((3:az)<(SS.length:az))=ao from rfl,aK,au,ZJ (show 3<7 by omega),show SL.getD 3 0=2 from rfl,show ah ((2:az)>0)=ao from rfl,au,au];rw[cL,hl,show(((2:aN):az) !=2)=aq from rfl,ax];simp only[show ah (bA ((3:az)+1)=1)=aq from by decide,show ah (bA ((3:az)+1)=2)=aq from by decide,show ah (bA ((3:az)+1)=3)=aq from by decide,show ah (bA ((3:az)+1)=4)=ao from by decide,au,ax,show ah ((1:az)<((2:aN):az))=ao from rfl,show aP (1:az)=1 from rfl,show aP (2:az)=2 from rfl,cS,rc,Hy,show bA ((3:az)+1)=4 from by decide];cases (i6 (p.getD 1 ⟨#[]⟩)).2<;>rfl
def amX(m:aN)(h:p.getD 0 ⟨#[]⟩=wd 4)(hl:p.length=2):g4 K0 K3 K1 K2 (m+1) p 4=K0 (rs p) (i6 (p.getD 1 ⟨#[]⟩)).2 4 5 0 Z (i6 (p.getD 1 ⟨#[]⟩)).1 WS SS:=by have _:=hp;show r4 cw (l4 cw K0 K1 K2 K3 m) K0 K1 K2 K3 (rs p) aq (4:az) 0 0 Z 0 WS SS=_;unfold r4 bY bw;rw[show ah ((4:az)<(WS.length:az))=ao from rfl,au,aA (show(0:az)<((rs p).length:az)by rw[cL];omega),au,show ah ((0:az)<=(4:az))=ao from rfl,aK,au];rw[show aP (4:az)=4 from rfl,cW,show aP (0:az)=0 from rfl,cS p 0,zR,aA h,aY,ax,show ah ((4:az)<(SS.length:az))=ao from rfl,aK,au,ZJ (show 4<7 by omega),show SL.getD 4 0=2 from rfl,show ah ((2:az)>0)=ao from rfl,au,au];rw[cL,hl,show(((2:aN):az) !=2)=aq from rfl,ax];simp only[show ah (bA ((4:az)+1)=1)=aq from by decide,show ah (bA ((4:az)+1)=2)=aq from by decide,show ah (bA ((4:az)+1)=3)=aq from by decide,show ah (bA ((4:az)+1)=4)=aq from by decide,show ah (bA ((4:az)+1)=6)=aq from by decide,show ah (bA ((4:az)+1)=5)=ao from by decide,au,ax,show ah ((1:az)<((2:aN):az))=ao from rfl,show aP (1:az)=1 from rfl,show aP (2:az)=2 from rfl,cS,rc,Hy,show bA ((4:az)+1)=5 from by decide];cases (i6 (p.getD 1 ⟨#[]⟩)).2<;>rfl
def amY(m:aN)(h:p.getD 0 ⟨#[]⟩=wd 5)(hl:p.length=2):g4 K0 K3 K1 K2 (m+1) p 5=K0 (rs p) (i6 (p.getD 1 ⟨#[]⟩)).2 5 6 (i6 (p.getD 1 ⟨#[]⟩)).1 Z 0 WS SS:=by have _:=hp;show r4 cw (l4 cw K0 K1 K2 K3 m) K0 K1 K2 K3 (rs p) aq (5:az) 0 0 Z 0 WS SS=_;unfold r4 bY bw;rw[show ah ((5:az)<(WS.length:az))=ao from rfl,au,aA (show(0:az)<((rs p).length:az)by rw[cL];omega),au,show ah ((0:az)<=(5:az))=ao from rfl,aK,au];rw[show aP (5:az)=5 from rfl,cW,show aP (0:az)=0 from rfl,cS p 0,zR,aA h,aY,ax,show ah ((5:az)<(SS.length:az))=ao from rfl,aK,au,ZJ (show 5<7 by omega),show SL.getD 5 0=2 from rfl,show ah ((2:az)>0)=ao from rfl,au,au];rw[cL,hl,show(((2:aN):az) !=2)=aq from rfl,ax];simp only[show ah (bA ((5:az)+1)=1)=aq from by decide,show ah (bA ((5:az)+1)=2)=aq from by decide,show ah (bA ((5:az)+1)=3)=aq from by decide,show ah (bA ((5:az)+1)=4)=aq from by decide,show ah (bA ((5:az)+1)=6)=ao from by decide,au,ax,show ah ((1:az)<((2:aN):az))=ao from rfl,show aP (1:az)=1 from rfl,show aP (2:az)=2 from rfl,cS,rc,Hy,show bA ((5:az)+1)=6 from by decide];cases (i6 (p.getD 1 ⟨#[]⟩)).2<;>rfl
end
def aof(K0:Row->aZ->aZ->az->az->az->ar->az->az->az->ar->az->aG Q)(K1:Row->aZ->aZ->az->az->az->ar->az->az->az->ar->az->Row->aG Q)(p:aE ar)(hl:p.length<=600)(a b:az)(c:ar)(d k id:az)(t:ar)(n:az)(Y:aZ->Row->aG Q)(e:∀f i r,K1 (rs p) f ao i a b c d k id t n r=Y f r):
  ∀(m i:aN) (acc:Row),i<=p.length->p.length-i<m->acc.length<=i->Aa cw K0 K1 m (rs p) ao ao (i:az) a b c d k id t n acc=Y (fz (p.drop i) acc).2 (fz (p.drop i) acc).1:=by
 intro m;induction m with
 |zero=>intro i acc _ h;omega
 |succ m ih=>
  intro i acc hi hm u;by_cases h:i<p.length
  ·have j:p.drop i=p[i]::p.drop (i+1):=cJ h;have o:p.getD i ⟨#[]⟩=p[i]:=by simp[eC,h]
   have rm:b_ (bD acc+bD [[CV.i ak (i6 p[i]).1]]) 8=true:=b6 (by simp;omega) (by simp;omega);rw[j,fz];have st:Aa cw K0 K1 (m+1) (rs p) ao ao (i:az) a b c d k id t n acc=Aa cw K0 K1 m (rs p) (i6 p[i]).2 ao ((i+1:aN):az) a b c d k id t n (acc++[[CV.i ak (i6 p[i]).1]]):=by simp only[Aa,Ju,cL,dh,h,aQ,cm,aK,au,dK,cS,rc,Hy,ri1,o,rm,cG h (show p.length<=9223372036854775807 by omega),bY,bw]
   rw[st];cases y:(i6 p[i]).2 with
   |true=>rw[au];exact ih (i+1) _ h (by omega) (by simp;omega)
   |false=>
    rw[ax];obtain⟨m,rfl⟩:∃s,m=s+1:=⟨m-1,by omega⟩
    rw[<-e aq ((i+1:aN):az)];by_cases h2:i+1<p.length
    ·simp only[Aa,Ju,cL,dh,h2,aQ,au,ax,bY,bw]
    ·simp only[Aa,Ju,cL,dh,h2,bc,ax,bY,bw]
  ·have:i=p.length:=by omega
   subst this;rw[c_,fz,<-e ao ((p.length:aN):az)];simp only[Aa,Ju,cL,dh,bg,bc,ax,bY,bw]
def aoj(K0:Row->aZ->aZ->az->az->az->ar->az->az->az->ar->az->aG Q)(K1:Row->aZ->aZ->az->az->az->ar->az->az->az->ar->az->Row->aG Q)(p:aE ar)(hp:0<p.length)(hl:p.length<=600)(a b:az)(c:ar)(d k id:az)(t:ar)(n:az)(Y:aZ->Row->aG Q)(j:∀f i r,K1 (rs p) f ao i a b c d k id t n r=Y f r)(u:K0 (rs p) ao ao 1 a b c d k id t n=Y ao [])(m:aN)(hm:p.length<m):
  l13 cw K0 K1 (m+1) (rs p) ao ao 1 a b c d k id t n=Y (fz (p.drop 1) []).2 (fz (p.drop 1) []).1:=by
 by_cases h:1<p.length
 ·have o:p.drop 1=p[1]::p.drop 2:=cJ h;have s:p.getD 1 ⟨#[]⟩=p[1]:=by simp[eC,h]
  rw[o,fz];have st:l13 cw K0 K1 (m+1) (rs p) ao ao 1 a b c d k id t n=Aa cw K0 K1 m (rs p) (i6 p[1]).2 ao ((2:aN):az) a b c d k id t n ([]++[[CV.i ak (i6 p[1]).1]]):=by have e:ah ((1:az)<((p.length:aN):az))=true:=aA (by omega);simp only[l13,r13,cL,e,show ah ((0:az)<=1)=ao from rfl,aK,au,show aP (1:az)=1 from rfl,cS,rc,Hy,ri1,s,show bA ((1:az)+1)=((2:aN):az)from by decide,bY,bw]
  rw[st];cases A:(i6 p[1]).2 with
  |true=>rw[au];exact aof K0 K1 p hl a b c d k id t n Y j m 2 _ h (by omega) (by simp)
  |false=>
   rw[ax];obtain⟨m,rfl⟩:∃y,m=y+1:=⟨m-1,by omega⟩
   rw[<-j aq ((2:aN):az)];by_cases h2:2<p.length
   ·simp only[Aa,Ju,cL,dh,h2,aQ,au,ax,bY,bw]
   ·simp only[Aa,Ju,cL,dh,h2,bc,ax,bY,bw]
 ·have z:p.length=1:=by omega
  have e:ah ((1:az)<((p.length:aN):az))=false:=aD (by omega);rw[show p.drop 1=[]from kC (by omega),fz,<-u];simp only[l13,r13,cL,e,ax,bY,bw]
def amZ(K0 K3:Row->aZ->az->az->az->ar->az->Row->Row->aG Q)(K1:Row->aZ->az->az->ar->az->aG Q)(K2:Row->aZ->az->az->ar->az->Row->aG Q)(p:aE ar)(hp:0<p.length)(hl:p.length<=600)(h:p.getD 0 ⟨#[]⟩=wd 6)(Y:aZ->Row->aG Q)(d:∀f r,K2 (rs p) f 7 0 Z 0 r=Y f r)(a:K1 (rs p) ao 7 0 Z 0=Y ao [])(m:aN):
  g4 K0 K3 K1 K2 (m+1) p 6=Y (fz (p.drop 1) []).2 (fz (p.drop 1) []).1:=by
 show r4 cw (l4 cw K0 K1 K2 K3 m) K0 K1 K2 K3 (rs p) aq (6:az) 0 0 Z 0 WS SS=_;unfold r4 bY bw;rw[show ah ((6:az)<(WS.length:az))=ao from rfl,au,aA (show(0:az)<((rs p).length:az)by rw[cL];omega),au,show ah ((0:az)<=(6:az))=ao from rfl,aK,au];rw[show aP (6:az)=6 from rfl,cW,show aP (0:az)=0 from rfl,cS p 0,zR,aA h,aY,ax,show ah ((6:az)<(SS.length:az))=ao from rfl,aK,au,ZJ (show 6<7 by omega),show SL.getD 6 0=0 from rfl,show ah ((0:az)>0)=aq from rfl,ax];simp only[show ah (bA ((6:az)+1)=1)=aq from by decide,show ah (bA ((6:az)+1)=2)=aq from by decide,show ah (bA ((6:az)+1)=3)=aq from by decide,show ah (bA ((6:az)+1)=4)=aq from by decide,show ah (bA ((6:az)+1)=6)=aq from by decide,show ah (bA ((6:az)+1)=5)=aq from by decide,ax,show bA ((6:az)+1)=7 from by decide];refine aoj _ _ p hp hl 0 0 Z 0 7 0 Z 0 Y (λf i r=> ?_) ?_ 18446744073709551615 (by omega)
 ·rw[<-d];cases f<;>rfl
 ·rw[<-a];rfl
def post(p:aE ar)(hp:0<p.length)(hl:p.length<=600):∃(e:Ev) (b:aZ),vo (rs p)=ai (e.k,e.id,e.t,e.n,e.l,b)/\res e b=E p:=by
 have hb:vo (rs p)=g4 (λX s Y u y z A h7 h9=>ai (u,y,z,A,([]:Row),s)) (λhe hf hh ho hr ht hu hv hx=>ai (0,0,Z,0,[],aq)) (λha B C H K M=>ai (C,H,K,M,[],B)) (λhc N O P S U V=>ai (O,P,S,U,V,N)) (18446744073709551608+8) p 0:=rfl;rw[hb];have lN:∀{x:aG Ev},x=ay->∃(e:Ev) (b:aZ),(ai ((0:az),(0:az),Z,(0:az),([]:Row),aq):aG (az×az×ar×az×Row×aZ))=ai (e.k,e.id,e.t,e.n,e.l,b)/\res e b=x:=λh=>⟨⟨0,0,Z,0,[]⟩,aq,rfl,h.symm⟩
 by_cases h0:p.getD 0 ⟨#[]⟩=wd 0
 ·rw[kf.E0 h0];by_cases a:p.length=3
  ·rw[on _ _ _ _ hp _ 0 (by omega) h0,adV _ _ _ _ hp _ h0 a,bm a];exact⟨⟨_,_,_,_,_⟩,_,rfl,rfl⟩
  ·rw[off _ _ _ _ hp _ 0 (by omega) h0 (by show((p.length:aN):az)≠3;omega),bk a];exact lN rfl
 by_cases h1:p.getD 0 ⟨#[]⟩=wd 1
 ·rw[kf.E1 h1];by_cases a:p.length=3
  ·rw[on _ _ _ _ hp _ 1 (by omega) h1,amU _ _ _ _ hp _ h1 a,bm a];exact⟨⟨_,_,_,_,_⟩,_,rfl,rfl⟩
  ·rw[off _ _ _ _ hp _ 1 (by omega) h1 (by show((p.length:aN):az)≠3;omega),bk a];exact lN rfl
 by_cases h2:p.getD 0 ⟨#[]⟩=wd 2
 ·rw[kf.E2 h2];by_cases a:p.length=3
  ·rw[on _ _ _ _ hp _ 2 (by omega) h2,amV _ _ _ _ hp _ h2 a,bm a];exact⟨⟨_,_,_,_,_⟩,_,rfl,rfl⟩
  ·rw[off _ _ _ _ hp _ 2 (by omega) h2 (by show((p.length:aN):az)≠3;omega),bk a];exact lN rfl
 by_cases h3:p.getD 0 ⟨#[]⟩=wd 3
 ·rw[kf.E3 h3];by_cases a:p.length=2
  ·rw[on _ _ _ _ hp _ 3 (by omega) h3,amW _ _ _ _ hp _ h3 a,bm a];exact⟨⟨_,_,_,_,_⟩,_,rfl,rfl⟩
  ·rw[off _ _ _ _ hp _ 3 (by omega) h3 (by show((p.length:aN):az)≠2;omega),bk a];exact lN rfl
 by_cases h4:p.getD 0 ⟨#[]⟩=wd 4
 ·rw[kf.E4 h4];by_cases a:p.length=2
  ·rw[on _ _ _ _ hp _ 4 (by omega) h4,amX _ _ _ _ hp _ h4 a,bm a];exact⟨⟨_,_,_,_,_⟩,_,rfl,rfl⟩
  ·rw[off _ _ _ _ hp _ 4 (by omega) h4 (by show((p.length:aN):az)≠2;omega),bk a];exact lN rfl
 by_cases o:p.getD 0 ⟨#[]⟩=wd 5
 ·rw[kf.E5 o];by_cases a:p.length=2
  ·rw[on _ _ _ _ hp _ 5 (by omega) o,amY _ _ _ _ hp _ o a,bm a];exact⟨⟨_,_,_,_,_⟩,_,rfl,rfl⟩
  ·rw[off _ _ _ _ hp _ 5 (by omega) o (by show((p.length:aN):az)≠2;omega),bk a];exact lN rfl
 by_cases h6:p.getD 0 ⟨#[]⟩=wd 6
 ·rw[kf.E6 h6,on _ _ _ _ hp _ 6 (by omega) h6,amZ _ _ _ _ p hp hl h6 (λf r=>ai (7,0,Z,0,r,f)) (λ_ _=>rfl) rfl];exact⟨⟨_,_,_,_,_⟩,_,rfl,rfl⟩
 ·have d:∀j,j<7->p.getD 0 ⟨#[]⟩≠wd j:=λj hj=>by
   match j,hj with
   |0,_=>exact h0
   |1,_=>exact h1
   |2,_=>exact h2
   |3,_=>exact h3
   |4,_=>exact h4
   |5,_=>exact o
   |6,_=>exact h6
  rw[none_ _ _ _ _ hp _ d,kf.En d];exact lN rfl
def ok(p:aE ar)(hp:0<p.length)(hl:p.length<=600):∃(e:Ev) (b:aZ),c (rs p)=ao/\v (rs p)=(e.k,e.id,e.t,e.n,e.l,b)/\res e b=E p:=by obtain⟨e,b,h1,h2⟩:=post p hp hl;obtain⟨a,d⟩:=out _ h1;exact⟨e,b,a,d,h2⟩
end o6
namespace MU
open tE (mk bt sz)
def Kq(acc:aE ar)(x:ar):rs acc++aC (aR [Ck.s] 1) 0 [CV.s x]=rs (acc++[x]):=by simp[Lib.rs];rfl
def run(s:ar)(hs:s.size<=3000)(K0:ar->az->az->Row->aG Row)(k:∀(b:aN) (acc:aE ar) a,b<=s.size->acc.length<=s.size->acc++(DR (s.data.toList.drop b) []).map mk=lines s->K0 s (b:az) a (rs acc)=ai (rs (lines s))):
  ∀(m i b:aN) (acc:aE ar),i<=s.size->s.size-i<m->b<=i->acc.length<=i->acc++(DR ((s.data.toList.drop b).take (i-b)) (s.data.toList.drop i)).map mk=lines s->
   l4 cw K0 m s (b:az) (i:az) (rs acc)=ai (rs (lines s)):=by
 intro m;induction m with
 |zero=>intro i b acc _ h;omega
 |succ m ih=>
  intro i b acc hi hm r u hw;have f:(rs acc).length=acc.length:=by simp[Lib.rs]
  have room:∀x:ar,b_ (bD (rs acc)+bD (aC (aR [Ck.s] 1) 0 [CV.s x])) 16=true:=λx=>
   b6 (by rw[ch,fa,f];omega) (by rw[ch,fa,f];omega)
  have o:gA (b:az) (i:az) (s.size:az)=true:=by unfold gA;simp;omega
  have y:bx s b i=mk ((s.data.toList.drop b).take (i-b)):=uc s b i;by_cases h:i<s.size
  ·have d:=bt h;have hl:i<s.data.toList.length:=by rw[sz];exact h
   have z:(s.data.toList[i]).toNat<256:=Ed _;have kX:s.data.toList.drop i=s.data.toList[i]::s.data.toList.drop (i+1):=cJ hl;have wi:=cG h (show s.size<=9223372036854775807 by omega);by_cases h3:s.data.toList[i]=10
   ·have j:ah ((((s.data.toList[i]).toNat:aN):az)=10)=true:=by rw[h3];rfl
    rw[kX,h3,DR,bm rfl]at hw;simp only[l4,r4,dh,h,aQ,cm,aK,au,dK,d,j,o,room,wi,Kq,y,bw];refine ih (i+1) (i+1) _ h (by omega) (bW _) (by simp;omega) ?_;rw[qe,qB,cg];exact hw
   ·have j:ah ((((s.data.toList[i]).toNat:aN):az)=10)=false:=by refine aD λe=>h3 (Cw.1 (by show _=10;omega))
    simp only[l4,r4,dh,h,aQ,cm,aK,au,ax,dK,d,j,wi,bw];refine ih (i+1) b acc h (by omega) (by omega) (by omega) ?_;rw[kX,DR,bk h3,<-xV r hl]at hw;exact hw
  ·have t:i=s.size:=by omega
   subst t;simp only[l4,r4,dh,bg,bc,ax,bw];refine k b acc _ r u ?_;rw[kC (show s.data.toList.length<=s.size by rw[sz];omega),e8 (by rw[g_,sz];omega)]at hw;exact hw
def ok(s:ar)(hs:s.size<=3000):c s=ao/\v s=rs (lines s):=by
 refine out _ ?_;unfold vo b bw;refine run s hs _ (λb acc a t r hw=> ?_) cw 0 0 [] (bB _) eG (bW _) (bW _) rfl;dsimp only;have d:(rs acc).length=acc.length:=by simp[Lib.rs]
 have room:∀x:ar,b_ (bD (rs acc)+bD (aC (aR [Ck.s] 1) 0 [CV.s x])) 16=true:=λx=>
  b6 (by rw[ch,fa,d];omega) (by rw[ch,fa,d];omega)
 have j:gA (b:az) (s.size:az) (s.size:az)=true:=by unfold gA;simp;omega
 have k:bx s b s.size=mk (s.data.toList.drop b):=by rw[uc,e8 (by rw[g_,sz];omega)]
 by_cases h4:b<s.size
 ·have f:¬s.data.toList.drop b=[]:=by intro e;have:=gu bD e;simp at this;omega
  rw[DR,bk f]at hw;simp only[dh,h4,aQ,au,j,dK,room,Kq,k];rw[<-hw];rfl
 ·have o:s.data.toList.drop b=[]:=kC (by rw[sz];omega);rw[DR,bm o,wb,d_]at hw;simp only[dh,h4,bc,ax,hw]
end MU
namespace BO
open iF (rv)
open nf (W)
open kf (E cL res)
open wO (sL)
abbrev T2:=Row×az
abbrev J0:az->az->Row->Row->Row->aG T2:=λa e d f j=>ai (d,a)
abbrev J1:az->az->Row->Row->Row->aG T2:=λd e f j a=>ai (a,0)
abbrev g7(m:aN)(ls:aE ar)(i:aN)(acc:aE Ev):aG T2:=l7 cw J0 J1 m 0 (i:az) [] (rs ls) (rv acc)
def stop(m:aN)(ls:aE ar)(acc:aE Ev):g7 (m+1) ls ls.length acc=ai (rv acc,0):=by simp only[g7,l7,r7,cL,dh,bg,bc,ax,bY,bw,cq,db,th]
section
variable {ls:aE ar} {i:aN} (h:i<ls.length) (hl:ls.length<=90) (acc:aE Ev) (m:aN)
include h hl
def st0(hq:(parts ls[i]).2=aq):g7 (m+1) ls i acc=ai ([],((i+1:aN):az)):=by
 have e:ls.getD i ⟨#[]⟩=ls[i]:=by simp[eC,h]
 obtain⟨d,a⟩:=nL.ok ls[i];rw[hq]at a;simp only[g7,l7,r7,cL,dh,h,aQ,cm,aK,au,dK,cS,e,d,a,ax,bH,cG h (show ls.length<=9223372036854775807 by omega),bY,bw,cq,db,th]
def st1(hq:(parts ls[i]).2=ao)(hi:idle (parts ls[i]).1=ao):g7 (m+1) ls i acc=g7 m ls (i+1) acc:=by
 have e:ls.getD i ⟨#[]⟩=ls[i]:=by simp[eC,h]
 obtain⟨d,a⟩:=nL.ok ls[i];have f:=(rB hq).2;rw[hq]at a;cases hp:(parts ls[i]).1 with
 |nil=>rw[hp]at a;simp only[g7,l7,r7,cL,dh,h,aQ,cm,aK,au,dK,cS,e,d,a,show(([]:aE ar)).length=0 from rfl,show ah (((0:aN):az)=0)=ao from rfl,show ah (((([]:aE ar).length:aN):az)=0)=ao from rfl,cG h (show ls.length<=9223372036854775807 by omega),bY,bw,cq,db,th]
 |cons w t=>rw[hp]at a hi f;have hi:kJ w=true:=hi;have hw:=(f w cQ).1;have j:ah ((((w::t).length:aN):az)=0)=false:=aD (by rw[bT];omega);have k:ah ((0:az)<(((w::t).length:aN):az))=true:=aA (by rw[bT];omega);have o:ah ((0:az)<((w.size:aN):az))=true:=aA (by omega);simp only[g7,l7,r7,cL,dh,h,aQ,cm,aK,au,dK,cS,e,d,a,ax,j,k,show aP (0:az)=0 from rfl,show(w::t).getD 0 ⟨#[]⟩=w from rfl,o,rh,hi,cG h (show ls.length<=9223372036854775807 by omega),bY,bw,cq,db,th]
def st2(hq:(parts ls[i]).2=ao)(hi:idle (parts ls[i]).1=aq)(A:acc.length<=70):g7 (m+1) ls i acc=(match E (parts ls[i]).1 with|none=>ai ([],((i+1:aN):az))|some e=>bif ah (acc.length=70)then ai ([],((i+1:aN):az))else g7 m ls (i+1) (acc++[e])):=by
 have r:ls.getD i ⟨#[]⟩=ls[i]:=by simp[eC,h]
 obtain⟨j,a⟩:=nL.ok ls[i];obtain⟨s,k⟩:=rB hq;rw[hq]at a;cases hp:(parts ls[i]).1 with
 |nil=>rw[hp]at hi;cases hi
 |cons w t=>
  rw[hp]at a hi k s;have hi:kJ w=false:=hi;have hw:=(k w cQ).1;have u:ah ((((w::t).length:aN):az)=0)=false:=aD (by rw[bT];omega);have y:ah ((0:az)<(((w::t).length:aN):az))=true:=aA (by rw[bT];omega);have z:ah ((0:az)<((w.size:aN):az))=true:=aA (by omega);obtain⟨e,b,d,f,hE⟩:=o6.ok (w::t) (by simp) (by omega);rw[<-hE];have st:g7 (m+1) ls i acc=bif !b then ai ([],((i+1:aN):az))else bif !il e then ai ([],((i+1:aN):az))else bif ah (((acc.length:aN):az)=70)then ai ([],((i+1:aN):az))else bif b_ (acc.length+1) 64 then g7 m ls (i+1) (acc++[e])else none:=by simp only[g7,l7,r7,cL,dh,h,aQ,cm,aK,au,dK,cS,r,j,a,ax,u,y,show aP (0:az)=0 from rfl,show(w::t).getD 0 ⟨#[]⟩=w from rfl,z,rh,hi,d,f,iF.NV,aY,ax,j_,sL,cG h (show ls.length<=9223372036854775807 by omega),bY,bw,cq,db,th];rfl
  have rm:b_ (acc.length+1) 64=true:=b6 (by omega) (by omega);have o:ah (((acc.length:aN):az)=70)=ah (acc.length=70):=by rw[b7];omega
  rw[st,rm,o];unfold kf.res;cases b<;>cases il e<;>rfl
end
def run(ls:aE ar)(hl:ls.length<=90):∀(m i:aN) (acc:aE Ev),i<=ls.length->ls.length-i<m->acc.length<=70->g7 m ls i acc=ai (rv (uz i (ls.drop i) acc).1,(uz i (ls.drop i) acc).2):=by
 intro m;induction m with
 |zero=>intro i acc _ h;omega
 |succ m ih=>
  intro i acc hi hm d;by_cases h:i<ls.length
  ·rw[cJ h,uz];cases hq:(parts ls[i]).2 with
   |false=>rw[st0 h hl acc m hq];rfl
   |true=>
    rw[au];cases hd:idle (parts ls[i]).1 with
    |true=>rw[st1 h hl acc m hq hd,au];exact ih (i+1) acc h (by omega) d
    |false=>
     rw[st2 h hl acc m hq hd d,ax];cases hE:E (parts ls[i]).1 with
     |none=>rfl
     |some e=>
      dsimp only;by_cases a:acc.length=70
      ·rw[aA a];rfl
      ·rw[aD a,ax,ax];exact ih (i+1) _ h (by omega) (by simp;omega)
  ·have:i=ls.length:=by omega
   subst this;rw[stop,c_,uz]
def ok(s:ar):c s=ao/\v s=(rv (dE s).1,(dE s).2):=by
 refine out _ ?_;unfold vo b bw;by_cases hs:(s.size:az)>3000
 ·rw[aA hs,au];unfold wO.dE;rw[aD (show¬s.size<=3000 by omega)];rfl
 ·have a:s.size<=3000:=by omega
  obtain⟨d,e⟩:=MU.ok s a;rw[aD hs,ax,d,e,au,cL];unfold wO.dE;rw[aA a];by_cases hl:(((lines s).length:aN):az)>90
  ·rw[aA hl,au,aD (show¬(lines s).length<=90 by omega)];rfl
  ·rw[aD hl,ax,au,aA (show(lines s).length<=90 by omega)];exact run (lines s) (by omega) cw 0 [] (bB _) eG (by simp)
end BO
namespace tT
def ok(l:Row)(hl:l.length<=4294967296):c l=ao/\v l=l:=by refine out l ?_;unfold vo b bw;rw[show bD (aR [Ck.s] 0)+l.length=l.length by simp[aR],b6 (by omega) (by omega)];rfl
end tT
namespace jy
def ok(w m:aE ar)(s:aE (aE az))(a:az)(hw:w.length<=1048576)(hm:m.length<=1048576)(d:jr.oZ s):c (rs w) (rs m) (rr s) a=ao/\v (rs w) (rs m) (rr s) a=(rs w,rs m,rr s,a):=by have h1:=tT.ok (rs w) (by rw[Lib.cL];omega);have h2:=tT.ok (rs m) (by rw[Lib.cL];omega);have h3:=jr.ok s a d;exact out _ _ _ _ (by unfold vo b bw;rw[h1.1,h1.2,h2.1,h2.2,h3.1,h3.2,au,au,au])
end jy
namespace oX
open _root_.Go.FG.Lib (rc)
def ok(p:Px)(hp:p.Fit 1048576):c p.now (re p.en) (rs p.w) (rs p.m) (rr p.s) p.a (rf p.fe) (rc p.cl) p.hits=ao/\v p.now (re p.en) (rs p.w) (rs p.m) (rr p.s) p.a (rf p.fe) (rc p.cl) p.hits=(p.now,re p.en,rs p.w,rs p.m,rr p.s,p.a,rf p.fe,rc p.cl,p.hits):=by have e:=hp.en;have f:=hp.fe;have d:=hp.cl;have h1:=xG.ok (re p.en) (by rw[dC];omega);have h2:=jy.ok p.w p.m p.s p.a hp.w hp.m ⟨hp.s.1,hp.s.2.1⟩;exact out _ _ _ _ _ _ _ _ _ (by unfold vo b bw dt;rw[h1.1,h1.2,h2.1,h2.2,au,au,b6 (by simp[aR,dV];omega) (by simp[aR,dV];omega),b6 (by simp[aR,eQ];omega) (by simp[aR,eQ];omega)];rfl)
end oX
namespace pZ
def eL(n a b:az):kP.v n a b=ah (a<=n/\n<=b):=fE.eL n a b
def ok(s:aE (aE az))(a:az)(r:jr.oZ s):c (rr s) a=ao/\v (rr s) a=fE.od s a:=by
 refine out _ _ ?_;unfold vo b;have hl:=r.1;rw[hJ]
 have d:∀i (h:i<s.length) (K0 K1:aZ->Row->Row->az->az->Row->az->az->Row->az->aG aZ) (f k:aG aZ) (x:az)
   (h0:∀j:az,K0 aq (Lib.ri s[i]) (rr s) s.length i (Lib.ri s[i]) x j (rr s) a=f) (h1:∀j:az,K1 aq (Lib.ri s[i]) (rr s) s.length i (Lib.ri s[i]) x j (rr s) a=k),x=(s[i].length:az)->l5 cw K0 K1 cw aq (Lib.ri s[i]) (rr s) s.length (i:az) (Lib.ri s[i]) x 0 (rr s) a=bif(s[i]).all fE.Le then k else f:=λi h K0 K1 f k x h0 h1 B=>by
  subst B
  exact pA (s[i]) fE.Le (λm (j:aN)=>l5 cw K0 K1 m aq (Lib.ri s[i]) (rr s) s.length (i:az) (Lib.ri s[i]) s[i].length (j:az) (rr s) a) f k
   (λm j e hp=>by have hl:=r.2 _ (bF h);unfold fE.Le at hp;simp only[l5,r5,dh,e,aQ,cm,aK,au,dK,Lib.fj,Qu e,bO,eL,hp,aY,ax,cG e (by omega:s[i].length<=9223372036854775807),bY])
   (λm j e hp=>by unfold fE.Le at hp;simp only[l5,r5,dh,e,aQ,cm,aK,au,dK,Lib.fj,Qu e,bO,eL,hp,bH,h0,bY])
   (λm=>by simp only[l5,r5,dh,bg,bc,ax,h1,bY]) cw (mX (by have:=r.2 _ (bF h);omega))
 have z:∀q:aE az,fE.rD q=(q.all fE.Le&&ah (q.length=16)):=λq=>Bool.and_comm ..
 have key:=pA s fE.rD (λm (i:aN)=>l2 cw (λ(t:aZ) (_:Row) (_ _:az) (_:Row) (_:az)=>ai t) (λ(_:aZ) (_:Row) (_ _:az) (u:Row) (y:az)=>bif(ah ((↑(bD u):az)=3))then(ai (kP.v y 0 63))else(ai aq)) m aq (rr s) s.length (i:az) (rr s) a) (ai aq) (ai (ah (s.length=3)&&ah (0<=a/\a<=63)))
  (λm i h hp=>by rw[z,aM]at hp;have o:=cB hp.2;simp only[l2,r2,hJ,dh,h,aQ,cm,aK,au,dK,J8 h,jd,Lib.fj,bY];rw[d i h _ _ (ai aq) _ _ (λ_=>rfl) (λ_=>rfl) rfl,hp.1,au,Lib.fj,o,show(((16:aN):az) !=16)=aq from rfl,ax,cG h (by omega)])
  (λm i h hp=>by
   rw[z]at hp;simp only[l2,r2,hJ,dh,h,aQ,cm,aK,au,dK,J8 h,jd,Lib.fj,bY];rw[d i h _ _ (ai aq) _ _ (λ_=>rfl) (λ_=>rfl) rfl];cases A:(s[i]).all fE.Le with
   |false=>rfl
   |true=>rw[A,bj]at hp;have:=vz hp;rw[au,Lib.fj,show((s[i].length:az) !=16)=ao by simp;omega,au])
  (λm=>by simp only[l2,r2,hJ,dh,bg,bc,ax,eL,bY];rw[show ah ((s.length:az)=3)=ah (s.length=3)by rw[b7];omega];cases ah (s.length=3)<;>rfl) cw eG
 refine key.trans ?_;unfold fE.od;cases s.all fE.rD<;>cases ah (s.length=3)<;>cases ah (0<=a/\a<=63)<;>rfl
end pZ
namespace D'
def ok(n:az)(h0:0<=n)(h1:n<=4294967296):c n=ao/\v n=[]:=by
 refine out n ?_;unfold vo b bw;have e:bA (n-bA (0-0))=n:=by rw[show bA (0-0)=0 from rfl,Int.sub_zero,c6 (by omega) (by omega)]
 rw[e,aD (show¬n<0 by omega),ax];by_cases a:n>0
 ·rw[aA a,au,aA h0,aA (show n<=9223372036854775807 by omega),b6 (by simp;omega) (by simp;omega)];simp[ez]
 ·rw[aD a,ax]
end D'
namespace xM
def ok(p q:Row)(hp:p.length<=1048576)(hq:q.length<=1048576):c [[CV.l 9 p],[CV.l 9 q]]=ao/\v [[CV.l 9 p],[CV.l 9 q]]=p++q:=by
 refine out _ ?_;have w1:bA (0+(p.length:az))=(p.length:az):=by rw[Int.zero_add];exact c6 (by omega) (by omega)
 have t:bA ((p.length:az)+(q.length:az))=(p.length:az)+(q.length:az):=c6 (by omega) (by omega);have hg:=D'.ok ((p.length:az)+(q.length:az)) (by omega) (by omega);have j:ah ((p.length:az)<0)=false:=aD (by omega);have k:ah ((p.length:az)+(q.length:az)<0)=false:=aD (by omega);have o:b_ (0+p.length) 16=true:=b6 (by omega) (by omega);have r:b_ (p.length+q.length) 16=true:=b6 (by omega) (by omega);have c0:jd (av [[CV.l 9 p],[CV.l 9 q]] 0 0)=p:=rfl;have e:jd (av [[CV.l 9 p],[CV.l 9 q]] 1 0)=q:=rfl;unfold vo b bw;obtain⟨n,f⟩:∃n,cw=n+3:=⟨18446744073709551613,rfl⟩
 generalize cw=B at f⊢;subst f;have s:∀(R:Type) (K:Row->az->Row->az->az->aG R) (S:Row),S=[[CV.l 9 p],[CV.l 9 q]]->l3 (n+3) K (n+3) S 0 S 2 0=K S ((p.length:az)+(q.length:az)) S 2 2:=by intro R K S a;subst a;simp only[l3,r3,bT,jU,show aP 0=0 from rfl,c0,w1,j,show bA (0+1)=1 from rfl,show aP 1=1 from rfl,e,t,k,show bA (1+1)=2 from rfl,ax,show ah ((0:az)<2)=ao from rfl,show ah ((1:az)<2)=ao from rfl,show ah ((2:az)<2)=aq from rfl,show ah ((0:az)<=0)=ao from rfl,show ah ((0:az)<=1)=ao from rfl,show((0+1+1:aN):az)=2 from rfl,aK,au,bY]
 have d:∀(R:Type) (K:Row->az->az->Row->aG R) (S:Row),S=[[CV.l 9 p],[CV.l 9 q]]->C1 (n+3) K (n+3) S 2 0 []=K S 2 2 (p++q):=by intro R K S a;subst a;simp only[C1,Ly,bT,jU,show aP 0=0 from rfl,c0,o,show bA (0+1)=1 from rfl,show aP 1=1 from rfl,e,eR,r,show bA (1+1)=2 from rfl,ax,show ah ((0:az)<2)=ao from rfl,show ah ((1:az)<2)=ao from rfl,show ah ((2:az)<2)=aq from rfl,show ah ((0:az)<=0)=ao from rfl,show ah ((0:az)<=1)=ao from rfl,show((0+1+1:aN):az)=2 from rfl,aK,au,bY,bw]
 show l3 (n+3) _ (n+3) _ 0 _ 2 0=_;rw[s _ _ _ rfl,hg.1,hg.2,au];exact d _ _ _ rfl
end xM
namespace qW
def ok(w m:aE ar)(s:Row)(a:az)(hw:w.length<=1048576)(hm:m.length<=1048576):c (Lib.rs w) (Lib.rs m) s a=ao/\v (Lib.rs w) (Lib.rs m) s a=Lib.rs (w++m):=by
 have h:=xM.ok (Lib.rs w) (Lib.rs m) (by rw[Lib.cL];exact hw) (by rw[Lib.cL];exact hm);have e:aC (aC (aR [Ck.l 9] 2) 0 [CV.l 9 (Lib.rs w)]) 1 [CV.l 9 (Lib.rs m)]=[[CV.l 9 (Lib.rs w)],[CV.l 9 (Lib.rs m)]]:=rfl;have d:Lib.rs w++Lib.rs m=Lib.rs (w++m):=by unfold Lib.rs;rw[cT]
 exact out _ _ _ _ (by unfold vo b bw;rw[e,h.1,h.2,au,d])
end qW
namespace Bj
def ok(l:aE ar)(k:ar)(hl:l.length<=4294967296):c (Lib.rs l) k=ao/\ah (v (Lib.rs l) k≥0)=eV.has l k:=by
 have h:=out (Lib.rs l) k (x:=fi (λi=>ah ((l.getD i ⟨#[]⟩)=k)) l.length 0) (by
  unfold vo b;rw[Lib.cL];refine ox (λi=>ah ((l.getD i ⟨#[]⟩)=k)) l.length (λm (i:aN)=>l2 cw (λ(_:Row) (_:ar) (d _ _:az)=>ai d) (λ(_:Row) (_:ar) (_ _ _:az)=>ai (-1)) m (Lib.rs l) k 0 (l.length:az) (i:az)) ai (λm i hi hp=> ?_) (λm i hi hp=> ?_) (λm=> ?_) cw eG
  ·have hg:l.getD i ⟨#[]⟩=l[i]:=by simp[eC,hi]
   rw[hg]at hp;have a:ah (k=l[i])=true:=by rw[<-hp,b7];exact eq_comm
   simp only[l2,r2,Lib.cL,dh,hi,aQ,cm,aK,au,dK,VI hi,bn,eP,a,bY]
  ·have hg:l.getD i ⟨#[]⟩=l[i]:=by simp[eC,hi]
   rw[hg]at hp;have a:ah (k=l[i])=false:=by rw[<-hp,b7];exact eq_comm
   simp only[l2,r2,Lib.cL,dh,hi,aQ,cm,aK,au,dK,VI hi,bn,eP,a,ax,cG hi (by omega:l.length<=9223372036854775807),bY]
  ·simp only[l2,r2,dh,bg,bc,ax,bY])
 refine⟨h.1,?_⟩
 rw[h.2];exact Lib.KP l (λx=>ah (x=k)) _ (λi hi=>by simp[eC,hi])
end Bj
namespace tc
def ok(l:aE ar)(k:ar)(hl:l.length<=4294967296):c (Lib.rs l) k=ao/\v (Lib.rs l) k=eV.has l k:=by have h:=Bj.ok l k hl;exact out _ _ (by unfold vo b bw;rw[h.1,h.2,au])
end tc
namespace pq
open eV (has without)
def iQ(k:ar):OX.v k=gf k:=fE.eL _ _ _
def ok(w m:aE ar)(s:aE (aE az))(a:az)(hw:w.length<=1048576)(hm:m.length<=1048576)(t:jr.oZ s):c (rs w) (rs m) (rr s) a=ao/\v (rs w) (rs m) (rr s) a=yW w m s a:=by
 refine out _ _ _ _ ?_;have h2:=pZ.ok s a t;have h3:=qW.ok w m (rr s) a hw hm;unfold vo b bw;rw[h3.1,h3.2,au,Lib.cL];have hl:(w++m).length<=2097152:=by rw[bU];omega
 have d:∀i,i<(w++m).length->tc.c (rs ((w++m).take i)) ((w++m).getD i ⟨#[]⟩)=ao/\tc.v (rs ((w++m).take i)) ((w++m).getD i ⟨#[]⟩)=has ((w++m).take i) ((w++m).getD i ⟨#[]⟩):=λi hi=>tc.ok _ _ (by rw[dG];omega);have hk:∀i (hi:i<(w++m).length),bn (av (rs (w++m)) i 0)=(w++m).getD i ⟨#[]⟩:=λi hi=>by rw[VI hi,show(w++m).getD i ⟨#[]⟩=(w++m)[i]by rw[dc,fC hi];rfl];rfl
 generalize r:w++m=L at hl d hk
 have key:=j6 (NI L) L.length (λn (i:aN)=>l3 cw (λ(u:aZ) (_ _:az) (_ _ _:Row) (_:az) (_:Row)=>ai u) (λ(_:aZ) (_ _:az) (k o e:Row) (f:az) (_:Row)=>bif(ah ((↑(bD k):az)<=2))then(bif(ah ((↑(bD o):az)<=4))then(bif(pZ.c e f)then(ai (pZ.v e f))else(ay))else(ai aq))else(ai aq)) n aq (L.length:az) (i:az) (rs w) (rs m) (rr s) a (rs L)) (ai aq) (ai (ah (w.length<=2)&&(ah (m.length<=4)&&fE.od s a)))
  (λn i hi hp=>by
   unfold NI at hp;rw[aM,di]at hp;have j:gA 0 (i:az) (L.length:az)=true:=by simp[gA];omega
   simp only[l3,r3,Lib.cL,dh,hi,aQ,cm,aK,au,dK,hk i hi,iQ,hp.1,aY,ax,j,u6,(d i hi).1,(d i hi).2,hp.2,cG hi (by omega:L.length<=9223372036854775807),bY,bw])
  (λn i hi hp=>by
   have j:gA 0 (i:az) (L.length:az)=true:=by simp[gA];omega
   unfold NI at hp;cases h1:gf (L.getD i ⟨#[]⟩)with
   |false=>simp only[l3,r3,Lib.cL,dh,hi,aQ,cm,aK,au,dK,hk i hi,iQ,h1,bH,bY,bw]
   |true=>rw[h1,bj,iw]at hp;simp only[l3,r3,Lib.cL,dh,hi,aQ,cm,aK,au,dK,hk i hi,iQ,h1,aY,ax,j,u6,(d i hi).1,(d i hi).2,hp,bY,bw])
  (λn=>by simp only[l3,r3,Lib.cL,dh,bg,bc,ax,h2.1,h2.2,au,bY,bw];rw[show ah ((w.length:az)<=2)=ah (w.length<=2)by rw[b7];omega,show ah ((m.length:az)<=4)=ah (m.length<=4)by rw[b7];omega];cases ah (w.length<=2)<;>cases ah (m.length<=4)<;>rfl) cw eG
 refine key.trans ?_;unfold yW pM;rw[r];cases (c7 L.length).all (NI L)<;>rfl
end pq
namespace H5
open eV (has)
def WH(w m:aE ar)(k:ar):has (w++m) k=(has w k||has m k):=by unfold has;rw[List.any_append]
def ok(w m:aE ar)(s:Row)(a:az)(k:ar)(hw:w.length<=1048576)(hm:m.length<=1048576):c (rs w) (rs m) s a k=ao/\v (rs w) (rs m) s a k=(has w k||has m k):=by have h1:=qW.ok w m s a hw hm;have h2:=tc.ok (w++m) k (by rw[bU];omega);exact out _ _ _ _ _ (by unfold vo b bw;rw[h1.1,h1.2,h2.1,h2.2,au,au,WH])
end H5
namespace Bh
open eV (has)
def ET(k:ar)(s l:az)(b:ar):xH.v k s l b=gU.v k s l b:=rfl
def ok(i0:az)(en:aE En)(w m:aE ar)(s:aE (aE az))(a:az)(r6 r7:Row)(y:az)(H:en.length<=1048576)(hw:w.length<=1048576)(hm:m.length<=1048576)(C:jr.oZ s):
  c i0 (re en) (rs w) (rs m) (rr s) a r6 r7 y=ao/\v i0 (re en) (rs w) (rs m) (rr s) a r6 r7 y=Qs en w m s a:=by
 refine out _ _ _ _ _ _ _ _ _ ?_;have h1:=pq.ok w m s a hw hm C;have h2:=λk=>H5.ok w m (rr s) a k hw hm;have h3:=qW.ok w m (rr s) a hw hm;unfold vo b bw;rw[dC]
 have key:=j6 (H6 en w m) en.length (λn (i:aN)=>l2 cw (λ(z:aZ) (_:Row) (_ _ _:az) (_ _ _ _:Row) (_:az) (_ _:Row) (_:az)=>ai z) (λ(_:aZ) (_:Row) (_ _ _:az) (A e f j:Row) (o:az) (_ _:Row) (_:az)=>bif(pq.c e f j o)then(bif(pq.v e f j o)then(bif(qW.c e f j o)then(ai (ah ((↑(bD (qW.v e f j o)):az)=(↑(bD A):az))))else(ay))else(ai aq))else(ay)) n aq (re en) (en.length:az) (i:az) i0 (re en) (rs w) (rs m) (rr s) a r6 r7 y) (ai aq) (ai (yW w m s a&&ah (w.length+m.length=en.length)))
  (λn i hi hp=>by
   unfold H6 zW at hp;rw[aM,aM]at hp;obtain⟨r,t,B⟩:=hp;by_cases u:i=0
   ·subst u;simp only[l2,r2,dC,dh,hi,aQ,cm,aK,au,dK,rJ hi,wG hi,wH hi,wI hi,bn,bO,ET,r,aY,ax,aD (show¬(((0:aN):az)>0)by omega),(h2 _).1,(h2 _).2,B,cG hi (by omega:en.length<=9223372036854775807),bY,bw]
   ·rw[aD u,oD]at t;have d:i-1<en.length:=by omega
    simp only[l2,r2,dC,dh,hi,aQ,cm,aK,au,dK,rJ hi,wG hi,wH hi,wI hi,bn,bO,ET,r,aY,ax,aA (show(i:az)>0 by omega),lZ (show 0<i by omega) (by omega),d,rJ d,t,(h2 _).1,(h2 _).2,B,cG hi (by omega:en.length<=9223372036854775807),bY,bw])
  (λn i hi hp=>by
   unfold H6 zW at hp;cases r:gU.v (el en i).k (el en i).st (el en i).li (el en i).bo with
   |false=>simp only[l2,r2,dC,dh,hi,aQ,cm,aK,au,dK,rJ hi,wG hi,wH hi,wI hi,bn,bO,ET,r,bH,bY,bw]
   |true=>
    rw[r,bj]at hp;by_cases u:i=0
    ·subst u;rw[aA rfl,OK,bj]at hp;simp only[l2,r2,dC,dh,hi,aQ,cm,aK,au,dK,rJ hi,wG hi,wH hi,wI hi,bn,bO,ET,r,aY,bH,ax,aD (show¬(((0:aN):az)>0)by omega),(h2 _).1,(h2 _).2,hp,bY,bw]
    ·rw[aD u,oD]at hp;have d:i-1<en.length:=by omega
     cases t:cf (aF (el en (i-1)).k) (aF (el en i).k)with
     |false=>simp only[l2,r2,dC,dh,hi,aQ,cm,aK,au,dK,rJ hi,wG hi,wH hi,wI hi,bn,bO,ET,r,aY,bH,ax,aA (show(i:az)>0 by omega),lZ (show 0<i by omega) (by omega),d,rJ d,t,bY,bw]
     |true=>rw[t,bj]at hp;simp only[l2,r2,dC,dh,hi,aQ,cm,aK,au,dK,rJ hi,wG hi,wH hi,wI hi,bn,bO,ET,r,aY,bH,ax,aA (show(i:az)>0 by omega),lZ (show 0<i by omega) (by omega),d,rJ d,t,(h2 _).1,(h2 _).2,hp,bY,bw])
  (λn=>by simp only[l2,r2,dh,bg,bc,ax,h1.1,h1.2,h3.1,h3.2,au,Lib.cL,dC,bU,bY,bw];rw[show ah (((w.length+m.length:aN):az)=(en.length:az))=ah (w.length+m.length=en.length)by rw[b7];omega];cases yW w m s a<;>rfl) cw eG
 refine key.trans ?_;unfold Qs;cases (c7 en.length).all (H6 en w m)<;>rfl
end Bh
namespace gd
def op(r:Row)(i:aN):aZ:=ah (bO (av r i 2)=1)
def g(r:Row)(i j:aN):aZ:= !(op r i&&(op r j&&cD (aF (bn (av r i 0))) (aF (bn (av r j 0)))))
def val(r:Row):aZ:=(c7 r.length).all λi=>(c7 i).all (g r i)
end gd
namespace qV
def p(d:Row)(a:ar)(i:aN):aZ:=Ip.v (bn (av d i 0)) (bn (av d i 1)) (bO (av d i (1+1))) (bO (av d i (1+1+1))) (bO (av d i (1+1+1+1))) a
def ok(d:Row)(a:ar)(hl:d.length<=4294967296):c d a=ao/\v d a=fi (p d a) d.length 0:=by
 refine out d a ?_;unfold vo b;refine ox (p d a) d.length (λm (i:aN)=>l2 cw (λ(_:Row) (_:ar) (e _ _:az)=>ai e) (λ(_:Row) (_:ar) (_ _ _:az)=>ai (-1)) m d a 0 (d.length:az) (i:az)) ai (λm i hi hp=> ?_) (λm i hi hp=> ?_) (λm=> ?_) cw eG
 ·unfold p at hp;simp only[l2,r2,dh,cm,dK,hi,aQ,aK,au,hp,bY]
 ·unfold p at hp;simp only[l2,r2,dh,cm,dK,hi,aQ,aK,au,hp,ax,cG hi (by omega:d.length<=9223372036854775807),bY]
 ·simp only[l2,r2,dh,bg,bc,ax,bY]
end qV
namespace Kn
def ok(i0:az)(r1 r2 r3 r4:Row)(a:az)(r6 r7:Row)(d:az)(key:ar)(hl:r6.length<=4294967296):c i0 r1 r2 r3 r4 a r6 r7 d key=ao/\v i0 r1 r2 r3 r4 a r6 r7 d key=fi (qV.p r6 key) r6.length 0:=by have h:=qV.ok r6 key hl;exact out _ _ _ _ _ _ _ _ _ _ (by unfold vo b bw;rw[h.1,h.2,au])
end Kn
namespace xK
def q(r:Row)(i:aN):aZ:= !(gd.op r i&&(fi (qV.p r (bn (av r i 0))) r.length 0 !=(i:az)))
def same(r:Row)(i:aN)(hi:i<r.length):q r i=(c7 i).all (gd.g r i):=by
 unfold q;cases e:gd.op r i with
 |false=>symm;rw[lH,bH,bE];intro j _;unfold gd.g;rw[e];rfl
 |true=>
  rw[bj];have hp:∀j,qV.p r (bn (av r i 0)) j= !gd.g r i j:=by intro j;unfold qV.p Ip.v gd.g;rw[e,bj,A6,eP,eP];unfold gd.op;rw[show ah (bn (av r j 0)=bn (av r i 0))=ah (bn (av r i 0)=bn (av r j 0))from by rw[b7];exact eq_comm];cases ah (bn (av r i 0)=bn (av r j 0))<;>simp
  have a:qV.p r (bn (av r i 0)) i=true:=by rw[hp];unfold gd.g;rw[e,eP];simp
  rcases qK (qV.p r (bn (av r i 0))) r.length 0 with ⟨_,h2⟩|⟨k,h1,h2,h3,h4,f⟩
  ·have:=h2 i (bB _) (by omega);rw[a]at this;cases this
  ·rw[h3];by_cases hk:k=i
   ·subst hk;rw[bne_self_eq_false,bH];symm;rw[bE];intro j o;have:=f j (bB _) (by simpa using o);rw[hp]at this;simpa using this
   ·have d:k<i:=by
     rcases rL k i with h|h
     ·exact h
     ·have:=f i (bB _) (by omega);rw[a]at this;cases this
    rw[show((k:az) !=(i:az))=ao from by simp;omega,aY];symm;rw[Vp];refine⟨k,by simpa using d,?_⟩
    rw[hp]at h4;simpa using h4
def ok(i0:az)(k o r s:Row)(f:az)(a t:Row)(j:az)(hl:a.length<=4294967296):c i0 k o r s f a t j=ao/\v i0 k o r s f a t j=gd.val a:=by
 refine out _ _ _ _ _ _ _ _ _ ?_;unfold vo b;have hw:∀i,i<a.length->bA ((i:az)+1)=((i+1:aN):az):=λi h=>cG h (by omega);have e:=λkey=>Kn.ok i0 k o r s f a t j key hl
 have key:=j6 (q a) a.length (λm (i:aN)=>l2 cw (λ(u:aZ) (_:Row) (_ _ _:az) (_ _ _ _:Row) (_:az) (_ _:Row) (_:az)=>ai u) (λ(_:aZ) (_:Row) (_ _ _:az) (_ _ _ _:Row) (_:az) (_ _:Row) (_:az)=>ai ao) m aq a (a.length:az) (i:az) i0 k o r s f a t j) (ai aq) (ai ao)
  (λm i hi hp=>by
   unfold q gd.op at hp;cases d:ah (bO (av a i (1+1))=1)with
   |false=>simp only[l2,r2,dh,hi,aQ,cm,aK,au,dK,d,ax,hw i hi,bY,bw]
   |true=>rw[show ah (bO (av a i 2)=1)=ao from d,bj,di]at hp;simp only[l2,r2,dh,hi,aQ,cm,aK,au,dK,d,(e _).1,(e _).2,hp,ax,hw i hi,bY,bw])
  (λm i hi hp=>by unfold q gd.op at hp;rw[iw,aM]at hp;obtain⟨d,y⟩:=hp;have d:ah (bO (av a i (1+1))=1)=true:=d;simp only[l2,r2,dh,hi,aQ,cm,aK,au,dK,d,(e _).1,(e _).2,y,bY,bw])
  (λm=>by simp only[l2,r2,dh,bg,bc,ax,bY,bw]) cw eG
 refine key.trans ?_;rw[all_congr (λi hi=>same a i hi)];unfold gd.val;cases (c7 a.length).all λi=>(c7 i).all (gd.g a i)<;>rfl
end xK
namespace zN
open nz (nN)
def eL(n a b:az):kP.v n a b=ah (a<=n/\n<=b):=fE.eL n a b
def one(fe:aE Fe):gd.val (rf fe)=(c7 fe.length).all (apart fe):=by
 unfold gd.val;rw[dV];refine all_congr (λi hi=> ?_);unfold apart;refine all_congr (λj d=> ?_);have a:j<fe.length:=by omega
 unfold gd.g gd.op oK;rw[L5 hi,L5 a,DI hi,DI a];simp only[bn,bO,eP];rfl
def ok(i0:az)(A B C H:Row)(y:az)(fe:aE Fe)(K:Row)(z:az)(X:fe.length<=1048576):
  c i0 A B C H y (rf fe) K z=ao/\v i0 A B C H y (rf fe) K z=((c7 fe.length).all (λi=>nN i0 (el fe i))&&(ah (fe.length<=20)&&(c7 fe.length).all (apart fe))):=by
 refine out _ _ _ _ _ _ _ _ _ ?_;have h1:=xK.ok i0 A B C H y (rf fe) K z (by rw[dV];omega);rw[one]at h1;unfold vo b bw;rw[dV]
 have key:=j6 (λi=>nN i0 (el fe i)) fe.length (λn (i:aN)=>l2 cw (λ(N:aZ) (_:Row) (_ _ _:az) (_ _ _ _:Row) (_:az) (_ _:Row) (_:az)=>ai N) (λ(_:aZ) (_:Row) (_ _ d:az) (e f j o:Row) (r:az) (a s:Row) (u:az)=>bif(ah ((↑(bD a):az)<=20))then(bif(xK.c d e f j o r a s u)then(ai (xK.v d e f j o r a s u))else(ay))else(ai aq)) n aq (rf fe) (fe.length:az) (i:az) i0 A B C H y (rf fe) K z) (ai aq) (ai (ah (fe.length<=20)&&(c7 fe.length).all (apart fe)))
  (λn i hi hq=>by
   unfold nN at hq;simp only[aM]at hq;obtain⟨O,P,S,U,V⟩:=hq;have M:ah (((el fe i).t.size:az)>400)= !decide (((el fe i).t.size:az)<=400):=by rw[<-decide_not,b7];omega
   simp only[l2,r2,dV,dh,hi,aQ,cm,aK,au,dK,L5 hi,J_ hi,wf2 hi,wf3 hi,wf4 hi,bn,bO,eL,pq.iQ,M,O,P,S,U,V,aY,ax,cG hi (by omega:fe.length<=9223372036854775807),bY])
  (λn i hi hq=>by
   unfold nN at hq;have M:ah (((el fe i).t.size:az)>400)= !decide (((el fe i).t.size:az)<=400):=by rw[<-decide_not,b7];omega
   simp only[l2,r2,dV,dh,hi,aQ,cm,aK,au,dK,L5 hi,J_ hi,wf2 hi,wf3 hi,wf4 hi,bn,bO,eL,pq.iQ,M,bY];revert hq;cases nA.gf (el fe i).k<;>cases ah (((el fe i).t.size:az)<=400)<;>cases ah (1<=(el fe i).sta/\(el fe i).sta<=3)<;>cases ah (0<=(el fe i).li/\(el fe i).li<=999999)<;>cases ah (0<=(el fe i).st/\(el fe i).st<=i0)<;>intro hq<;>first|rfl|cases hq)
  (λn=>by simp only[l2,r2,dh,bg,bc,ax,dV,h1.1,h1.2,au,bY];rw[show ah ((fe.length:az)<=20)=ah (fe.length<=20)by rw[b7];omega];cases ah (fe.length<=20)<;>rfl) cw eG
 refine key.trans ?_;cases (c7 fe.length).all (λi=>nN i0 (el fe i))<;>rfl
end zN
namespace Bi
open _root_.Go.FG.Lib (rc)
open zN (eL)
def step(N:aN)(g y A:aZ->Row->az->az->az->Row->Row->Row->Row->az->Row->Row->az->aG R)(i0:az)(f j o r:Row)(d:az)(fe:aE Fe)(cl:aE Cl)(e:az)(i:aN)(hi:i<cl.length)(hl:cl.length<=1048576):
  r2 N g y A aq (rc cl) cl.length (i:az) i0 f j o r d (rf fe) (rc cl) e=bif ID i0 fe.length cl i then g aq (rc cl) cl.length ((i+1:aN):az) i0 f j o r d (rf fe) (rc cl) e else y aq (rc cl) cl.length (i:az) i0 f j o r d (rf fe) (rc cl) e:=by
 unfold ID;have s:ah (((el cl i).got.size:az)>400)= !decide (((el cl i).got.size:az)<=400):=by rw[<-decide_not,b7];omega
 have t:ah ((el cl i).age<0)= !decide (0<=(el cl i).age):=by rw[<-decide_not,b7];omega
 by_cases u:i=0
 ·subst u;simp only[r2,eQ,dV,dh,hi,aQ,cm,aK,au,dK,Qv hi,wc1 hi,wc2 hi,wc3 hi,YV hi,YW hi,YX hi,bn,bO,eL,pq.iQ,aD (show¬(((0:aN):az)>0)by omega),ax,s,t,cG hi (by omega:cl.length<=9223372036854775807),OK,bj,bY];cases ah (1<=(el cl 0).id/\(el cl 0).id<=9)<;>cases gf (el cl 0).k<;>cases ah (1<=(el cl 0).sta/\(el cl 0).sta<=3)<;>cases ah (0<=(el cl 0).fe/\(el cl 0).fe<=(fe.length:az))<;>cases ah (((el cl 0).got.size:az)<=400)<;>cases ah (0<=(el cl 0).fr/\(el cl 0).fr<=i0)<;>cases ah (0<=(el cl 0).age)<;>rfl
 ·have a:i-1<cl.length:=by omega
  have z:ah ((el cl (i-1)).id≥(el cl i).id)= !decide ((el cl (i-1)).id<(el cl i).id):=by rw[<-decide_not,b7];omega
  simp only[r2,eQ,dV,dh,hi,aQ,cm,aK,au,dK,Qv hi,wc1 hi,wc2 hi,wc3 hi,YV hi,YW hi,YX hi,bn,bO,eL,pq.iQ,aA (show(i:az)>0 by omega),lZ (show 0<i by omega) (by omega),a,Qv a,ax,s,t,z,cG hi (by omega:cl.length<=9223372036854775807),aD u,oD,bY];cases ah (1<=(el cl i).id/\(el cl i).id<=9)<;>cases ah ((el cl (i-1)).id<(el cl i).id)<;>cases gf (el cl i).k<;>cases ah (1<=(el cl i).sta/\(el cl i).sta<=3)<;>cases ah (0<=(el cl i).fe/\(el cl i).fe<=(fe.length:az))<;>cases ah (((el cl i).got.size:az)<=400)<;>cases ah (0<=(el cl i).fr/\(el cl i).fr<=i0)<;>cases ah (0<=(el cl i).age)<;>rfl
def ok(i0:az)(e f j k:Row)(a:az)(fe:aE Fe)(cl:aE Cl)(d:az)(hl:cl.length<=1048576):
  c i0 e f j k a (rf fe) (rc cl) d=ao/\v i0 e f j k a (rf fe) (rc cl) d=((c7 cl.length).all (ID i0 fe.length cl)&&ah (cl.length<=6)):=by
 refine out _ _ _ _ _ _ _ _ _ ?_;unfold vo b;rw[eQ]
 have key:=j6 (ID i0 fe.length cl) cl.length (λn (i:aN)=>l2 cw (λ(o:aZ) (_:Row) (_ _ _:az) (_ _ _ _:Row) (_:az) (_ _:Row) (_:az)=>ai o) (λ(_:aZ) (_:Row) (_ _ _:az) (_ _ _ _:Row) (_:az) (_ r:Row) (_:az)=>ai (ah ((↑(bD r):az)<=6))) n aq (rc cl) (cl.length:az) (i:az) i0 e f j k a (rf fe) (rc cl) d) (ai aq) (ai (ah (cl.length<=6)))
  (λn i hi hq=>by simp only[l2];rw[step _ _ _ _ _ _ _ _ _ _ _ _ _ i hi hl,hq];rfl)
  (λn i hi hq=>by simp only[l2];rw[step _ _ _ _ _ _ _ _ _ _ _ _ _ i hi hl,hq];rfl)
  (λn=>by simp only[l2,r2,dh,bg,bc,ax,eQ,bY];rw[show ah ((cl.length:az)<=6)=ah (cl.length<=6)by rw[b7];omega]) cw eG
 refine key.trans ?_;cases (c7 cl.length).all (ID i0 fe.length cl)<;>rfl
end Bi
namespace OW
open _root_.Go.FG.Lib (rc)
open nz (nN)
def ok(p:Px)(hp:p.Fit 1048576):c p.now (re p.en) (rs p.w) (rs p.m) (rr p.s) p.a (rf p.fe) (rc p.cl) p.hits=ao/\v p.now (re p.en) (rs p.w) (rs p.m) (rr p.s) p.a (rf p.fe) (rc p.cl) p.hits=lC p:=by refine out _ _ _ _ _ _ _ _ _ ?_;have h1:=Bh.ok p.now p.en p.w p.m p.s p.a (rf p.fe) (rc p.cl) p.hits hp.en hp.w hp.m ⟨hp.s.1,hp.s.2.1⟩;have h2:=zN.ok p.now (re p.en) (rs p.w) (rs p.m) (rr p.s) p.a p.fe (rc p.cl) p.hits hp.fe;have h3:=Bi.ok p.now (re p.en) (rs p.w) (rs p.m) (rr p.s) p.a p.fe p.cl p.hits hp.cl;unfold vo b lC bw;have d:∀n a b,kP.v n a b=ah (a<=n/\n<=b):=λn a b=>fE.eL n a b;have e:Ct.v p.hits=ah (0<=p.hits/\p.hits<=1000000000):=d p.hits 0 1000000000;rw[d,e,h1.1,h1.2,h2.1,h2.2,h3.1,h3.2,GO];cases ah (1<=p.now/\p.now<=1000000000)<;>cases Qs p.en p.w p.m p.s p.a<;>cases ah (p.fe.length<=20)<;>cases ah (p.cl.length<=6)<;>cases ah (0<=p.hits/\p.hits<=1000000000)<;>cases (c7 p.fe.length).all (λi=>nN p.now (el p.fe i))<;>cases (c7 p.fe.length).all (apart p.fe)<;>cases (c7 p.cl.length).all (ID p.now p.fe.length p.cl)<;>rfl
end OW
namespace zQ
def p(s:Row)(k:az)(i:aN):aZ:=ah (bO (av s i 0)=k)
def ok(d:Row)(n:az)(hl:d.length<=4294967296):c d n=ao/\v d n=fi (p d n) d.length 0:=by
 refine out d n ?_;unfold vo b;refine ox (p d n) d.length (λm (i:aN)=>l2 cw (λ(_:Row) (_:az) (a _ _:az)=>ai a) (λ(_:Row) (_:az) (_ _ _:az)=>ai (-1)) m d n 0 (d.length:az) (i:az)) ai (λm i hi hp=> ?_) (λm i hi hp=> ?_) (λm=> ?_) cw eG
 ·unfold p at hp;simp only[l2,r2,dh,cm,dK,hi,aQ,aK,au,U97.v,hp,bY]
 ·unfold p at hp;simp only[l2,r2,dh,cm,dK,hi,aQ,aK,au,U97.v,hp,ax,cG hi (by omega:d.length<=9223372036854775807),bY]
 ·simp only[l2,r2,dh,bg,bc,ax,bY]
end zQ
namespace OV
open _root_.Go.FG.Lib (rc)
def ok(i0:az)(r1 r2 r3 r4:Row)(a:az)(r6:Row)(cl:aE Cl)(d id:az)(hl:cl.length<=1048576):c i0 r1 r2 r3 r4 a r6 (rc cl) d id=ao/\ah (v i0 r1 r2 r3 r4 a r6 (rc cl) d id≥0)=oc cl id:=by
 have h:=zQ.ok (rc cl) id (by rw[eQ];omega);have o:=out i0 r1 r2 r3 r4 a r6 (rc cl) d id (by unfold vo b bw;rw[h.1,h.2,au]);refine⟨o.1,?_⟩
 rw[o.2,eQ];exact gH.KP cl (λx=>ah (x.id=id)) _ λi hi=>by unfold zQ.p;rw[Qv hi,e7 hi];rfl
end OV
namespace xP
def p(s:Row)(k:ar)(i:aN):aZ:=cD (aF (bn (av s i 0))) (aF k)
def ok(d:Row)(n:ar)(hl:d.length<=4294967296):c d n=ao/\v d n=fi (p d n) d.length 0:=by
 refine out d n ?_;unfold vo b;refine ox (p d n) d.length (λm (i:aN)=>l2 cw (λ(_:Row) (_:ar) (a _ _:az)=>ai a) (λ(_:Row) (_:ar) (_ _ _:az)=>ai (-1)) m d n 0 (d.length:az) (i:az)) ai (λm i hi hp=> ?_) (λm i hi hp=> ?_) (λm=> ?_) cw eG
 ·unfold p at hp;simp only[l2,r2,dh,cm,dK,hi,aQ,aK,au,U79.v,hp,bY]
 ·unfold p at hp;simp only[l2,r2,dh,cm,dK,hi,aQ,aK,au,U79.v,hp,ax,cG hi (by omega:d.length<=9223372036854775807),bY]
 ·simp only[l2,r2,dh,bg,bc,ax,bY]
end xP
namespace tO
def ok(i:aN)(key:ar)(hi:i<3)(hk:key.size<=140737488355328):c (i:az) key=ao/\v (i:az) key=(gV.pl i key:az):=by
 refine out _ _ ?_;unfold vo b bw kE;have e:(key++bytesOf (aC (aR [Ck.i a8] 1) 0 [CV.i a8 (bG a8 (bA (↑(eg (jx (cu 64 (i:az)) (cu 64 255))):az)))]))=gV.keyed i key:=by
  unfold gV.keyed;match i,hi with
  |0,_=>rfl
  |1,_=>rfl
  |2,_=>rfl
 have hs:=gV.Dz i key;have h:=vq.ok (gV.keyed i key) (by omega);have a:bf key+bf (bytesOf (aC (aR [Ck.i a8] 1) 0 [CV.i a8 (bG a8 (bA (↑(eg (jx (cu 64 (i:az)) (cu 64 255))):az)))]))=key.size+1:=by rw[p9,Dy]
 rw[a,e,jz,au,h.1,h.2,au];have hp:=gV.pl_int i key;have hl:=gV.Dl i key;have d:=gV.LK i key;unfold gV.sm at hp d;rw[c6 (by omega) (by omega),hp]
end tO
namespace oH
open _root_.Go.FG.Lib (ri)
open dy (bq o0)
def ae8(K:ar->az->az->az->az->Row->aG R)(s:aE (aE az))(key:ar)(y a:az)(hs:s.length=3)(hq:∀q∈s,q.length=16/\∀n∈q,0<=n/\n<=15)(hk:key.size<=140737488355328):
  l5 cw K cw key 3 0 y a (rr s)=K key 3 3 y a (rr (CG s key)):=by
 refine(nT fR s (λi q=>bq (gV.pl i key) q) (λm (i:aN) x=>l5 cw K m key 3 (i:az) y a x) (λx=>K key 3 3 y a x) (λm i L h h2 t k=> ?_) (λm L t=> ?_) cw eG)
 ·have hp:=tO.ok i key (by omega) hk;have o:=gV.Dl i key;obtain⟨j,u⟩:=hq _ (bF h);have r:av (L.map fR) i 0=CV.l 3 (ri s[i]):=by rw[AJ L i h2,k]
  have d:gV.pl i key<s[i].length:=by omega
  have z:=u _ (bF d);have f:ah ((i:az)<3)=true:=aA (by omega);simp only[l5,r5,bK,dh,h2,f,aQ,au,hp.1,hp.2,cm,aK,dK,r,jd,Lib.fj,j,o,Qu d,bO,bY,bw];unfold bq eE;rw[o0 d,ax,c6 (x:=s[i][gV.pl i key]+1) (by omega) (by omega)];by_cases hd:s[i][gV.pl i key]<15
  ·rw[bk (by omega),aA hd,au,LH _ _ _ d,LI _ _ _ h2,cG h2 (by omega)]
  ·have e:s[i][gV.pl i key]=15:=by omega
   rw[bm (by omega),aD hd,ax,e,LH _ _ _ d,LI _ _ _ h2,cG h2 (by omega)]
 ·have f:ah ((s.length:az)<3)=false:=aD (by omega);simp only[l5,r5,f,ax,hs,bY,bw];rfl
def ajU(K:aN->az->az->az->az->az->az->Row->aG R)(L:aE (aE az))(i:aN)(h:i<L.length)(u w y a:az)(hl:L.length<=1048576)(hq:L[i].length=16)(z:∀n∈L[i],0<=n/\n<=15):
  l18 cw K cw i u w 16 0 y a (L.map fR)=K i u w 16 16 y a ((L.set i (L[i].map λn=>cz n 2)).map fR):=by
 have o:L[i].mapIdx (λ_ n=>cz n 2)=L[i].map λn=>cz n 2:=by apply lP<;>simp
 have key:=iz (L[i].length) (λm (k:aN) x=>l18 cw K m i u w 16 (k:az) y a x) (λk=>(L.set i (oA L[i] (λ_ n=>cz n 2) k)).map fR) (K i u w 16 16 y a ((L.set i (L[i].map λn=>cz n 2)).map fR)) (λm k hk=> ?_) (λm=> ?_) cw 0 (bB _) eG
 ·rw[DF,fc]at key;exact key
 ·have B:=rH L[i] (λ_ n=>cz n 2) k (by omega);generalize s:oA L[i] (λ_ n=>cz n 2) k=U at B;have d:k<U.length:=by omega
  have j:U[k]=L[i][k]:=by subst s;exact yL _ _ _ hk _
  have e:U.set k (cz L[i][k] 2)=oA L[i] (λ_ n=>cz n 2) (k+1):=by subst s;exact uD L[i] (λ_ n=>cz n 2) k hk
  have h2:i<(L.set i U).length:=by simpa using h
  have t:av ((L.set i U).map fR) i 0=CV.l 3 (ri U):=by rw[AJ _ _ h2,kT]
  have r:=z _ (bF hk);have C:0<=cz L[i][k] 2:=Int.tdiv_nonneg r.1 (by omega);have A:cz L[i][k] 2<=15:=OR (Int.tdiv_le_self _ r.1) r.2;have f:ah ((k:az)<16)=true:=aA (by omega);simp only[l18,r18,bK,ch,dh,h,d,f,aQ,au,cm,aK,dK,t,jd,Lib.fj,Qu d,bO,j,bY];rw[c6 (x:=cz L[i][k] 2) (by omega) (by omega),LH _ _ _ d,LI _ _ _ h2,e,pX,cG hk (by omega)]
 ·have f:ah ((L[i].length:az)<16)=false:=aD (by omega);simp only[l18,r18,f,ax,bY];rw[rG,o,hq];rfl
def ajS(K:az->az->az->az->Row->aG R)(s:aE (aE az))(y a:az)(hs:s.length=3)(hq:∀q∈s,q.length=16/\∀n∈q,0<=n/\n<=15):
  l15 cw K cw 3 0 y a (rr s)=K 3 3 y a (rr (half s)):=by
 have j:s.mapIdx (λ_ q=>q.map λn=>cz n 2)=half s:=by unfold half;apply lP<;>simp
 rw[<-j];refine(nT fR s (λ_ q=>q.map λn=>cz n 2) (λm (i:aN) x=>l15 cw K m 3 (i:az) y a x) (λx=>K 3 3 y a x) (λm i L h h2 o d=> ?_) (λm L o=> ?_) cw eG)
 ·obtain⟨e,r⟩:=hq _ (bF h);have f:ah ((i:az)<3)=true:=aA (by omega);have k:av (L.map fR) i 0=CV.l 3 (ri s[i]):=by rw[AJ L i h2,d]
  simp only[l15,r15,bK,dh,h2,f,aQ,au,cm,aK,dK,k,jd,Lib.fj,e,bY];rw[show((16:aN):az)=16 from rfl,ajU _ L i h2 3 i y a (by omega) (by rw[d];exact e) (by rw[d];exact r),cG h2 (by omega),d]
 ·have f:ah ((s.length:az)<3)=false:=aD (by omega);simp only[l15,r15,f,ax,hs,bY];rfl
def ok(s:aE (aE az))(a:az)(key:ar)(f:jr.oZ s)(hk:key.size<=140737488355328):c (rr s) a key=ao/\v (rr s) a key=(rr (dy.val s a key).1,(dy.val s a key).2):=by
 refine out _ _ _ ?_;have h1:=jr.ok s a f;have h2:=pZ.ok s a f;unfold vo b dy.val bw;rw[h1.1,h1.2,h2.1,h2.2,au,au];cases d:fE.od s a with
 |false=>rfl
 |true=>
  obtain⟨hs,k,hq⟩:=sC d;obtain⟨e,j⟩:=qY (key:=key) hs hq;rw[aY,ax,au,hJ,hs,show((3:aN):az)=3 from rfl,ae8 _ s key _ _ hs hq hk,c6 (x:=a+1) (by omega) (by omega)];by_cases hd:a+1=64
  ·rw[aD (show¬a+1<64 by omega),aA hd,au,ax,hJ,e,show((3:aN):az)=3 from rfl,ajS _ _ _ _ e j]
  ·rw[aA (show a+1<64 by omega),aD hd];rfl
end oH
namespace vt
def p(s:Row)(k:ar)(i:aN):aZ:=cD (aF (bn (av s i 0))) (aF k)
def ok(d:Row)(n:ar)(hl:d.length<=4294967296):c d n=ao/\v d n=fi (p d n) d.length 0:=by
 refine out d n ?_;unfold vo b;refine ox (p d n) d.length (λm (i:aN)=>l2 cw (λ(_:Row) (_:ar) (a _ _:az)=>ai a) (λ(_:Row) (_:ar) (_ _ _:az)=>ai (-1)) m d n 0 (d.length:az) (i:az)) ai (λm i hi hp=> ?_) (λm i hi hp=> ?_) (λm=> ?_) cw eG
 ·unfold p at hp;simp only[l2,r2,dh,cm,dK,hi,aQ,aK,au,D8.v,hp,bY]
 ·unfold p at hp;simp only[l2,r2,dh,cm,dK,hi,aQ,aK,au,D8.v,hp,ax,cG hi (by omega:d.length<=9223372036854775807),bY]
 ·simp only[l2,r2,dh,bg,bc,ax,bY]
end vt
namespace xL
def cn(y:aE CV):aZ:=match y with|[.s _]=>ao|_=>aq
def cr(y:aE CV):aE CV:=[CV.s (bn (y.getD 0 (.b aq)))]
def t_(h:cn y=ao):cr y=y:=by
 unfold cn at h;split at h
 ·rfl
 ·cases h
def keep(d:ar)(y:aE CV):aZ:= !List.beq (aF (bn (y.getD 0 (.b aq)))) (aF d)
def ok(d:Row)(a:ar)(A:d.all cn=ao)(B:d.length<=4294967296):c d a=ao/\v d a=d.filter (keep a):=by
 refine out d a ?_;have z:=vt.ok d a B;have f:∀y∈d,cn y=true:=bE.1 A;have hl:∀y,cn y=ao->y.length=1:=λy h=>by rw[<-t_ h];rfl
 unfold vo b bw;rw[z.1,z.2,au];rcases nU.first d (keep a) (vt.p d a) (λi h=>by unfold vt.p keep;rw[dB h,A6])with ⟨h,e⟩|⟨k,h,hk,e⟩
 ·rw[h,e];rfl
 ·rw[h,aD (show¬(k:az)=s9 1 by show¬(k:az)= -1;omega),ax,cG hk (by omega)];refine nU.run (λm=>l5 cw _ m) ai a (keep a) cn 1 hl d f (λm j i x hi r t o hw hq=> ?_) (λm j i x hi t hq=> ?_) (λm j x t r=> ?_) _ k (k+1) d ⟨by omega,by omega,rfl,λy C=>hl y (f y C),e,rfl⟩ eG
  ·have u:D8.v (bn (av x i 0)) a=false:=by rw[dB hi];exact(di _).mp hq
   have es:eH x j 0 [CV.s (bn (av x i 0))]=x.set j x[i]:=by simp only[dB hi];exact(gu (eH x j 0) (t_ o)).trans (nU.put r hw (hl _ o))
   simp only[l5,r5,dh,cm,dK,hi,r,aQ,bj,au,u,bH,es,cG hi (by omega),cG r (by omega),bY]
  ·have u:D8.v (bn (av x i 0)) a=true:=by rw[dB hi];exact(iw _).mp hq
   simp only[l5,r5,dh,cm,dK,hi,aQ,bj,au,u,aY,ax,cG hi (by omega),bY]
  ·rw[<-t];simp only[l5,r5,dh,bg,bc,ax,bY];exact nU.tail ai d x j t r
end xL
namespace ki
def ahl(l:aE ar):(Lib.rs l).all xL.cn=true:=by rw[bE];intro y a;unfold Lib.rs at a;obtain⟨z,_,rfl⟩:=cU.1 a;rfl
def adP(l:aE ar)(k:ar):(Lib.rs l).filter (xL.keep k)=Lib.rs (eV.without l k):=by unfold Lib.rs eV.without;rw[pj];congr 1;apply ld;intro x _;show(!List.beq (aF x) (aF k))=_;rw[eP]
def ok(l:aE ar)(k:ar)(hl:l.length<=1048576):c (Lib.rs l) k=ao/\v (Lib.rs l) k=Lib.rs (eV.without l k):=by have h1:=tT.ok (Lib.rs l) (by rw[Lib.cL];omega);have h2:=xL.ok (Lib.rs l) k (ahl l) (by rw[Lib.cL];omega);rw[adP]at h2;exact out _ _ (by unfold vo b bw;rw[h1.1,h1.2,h2.1,h2.2,au,au])
end ki
namespace wg
open _root_.Go.FG.Lib (ri)
open lS (gs)
def ok(s:aE (aE az))(a:az)(key:ar)(k:jr.oZ s)(hk:key.size<=140737488355328):c (rr s) a key=ao/\v (rr s) a key=lS.val s a key:=by
 refine out _ _ _ ?_;have h2:=pZ.ok s a k;unfold vo b lS.val bw;rw[h2.1,h2.2,au];cases e:fE.od s a with
 |false=>rfl
 |true=>
  obtain⟨hs,u,hq⟩:=dy.sC e;rw[aY,ax,au,hJ];have:=gP (λm (t:aN×az)=>l5 cw (λ(_:ar) (r:az) (_:Row) (_ _:az)=>ai r) m key t.2 (rr s) s.length (t.1:az)) (λt=>s.length-t.1) (λt=>t.1<=s.length) (λt=>ai (gs key t.1 (s.drop t.1) t.2)) (λm t o=>by
   obtain⟨i,x⟩:=t;dsimp only at o⊢;by_cases h:i<s.length
   ·right;have hp:=tO.ok i key (by omega) hk;have f:=gV.Dl i key;obtain⟨d,y⟩:=hq _ (bF h);have j:gV.pl i key<s[i].length:=by omega
    refine⟨(i+1,bif ah (s[i].getD (gV.pl i key) 0<x)then s[i].getD (gV.pl i key) 0 else x),by dsimp only;omega,by dsimp only;omega,by rw[<-B5 key s i h x],?_⟩
    simp only[l5,r5,hJ,dh,h,aQ,au,hp.1,hp.2,cm,aK,dK,J8 h,jd,Lib.fj,d,f,Qu j,bO,cG h (by omega:s.length<=9223372036854775807),bY,bw];rw[dy.o0 j];unfold eE;rw[ax];by_cases hd:s[i][gV.pl i key]<x
    ·rw[bm hd,aA hd,au]
    ·rw[bk hd,aD hd,ax]
   ·left;have:i=s.length:=by omega
    subst this;simp only[l5,r5,hJ,dh,bg,bc,ax,c_,gs,bY,bw]) cw (0,15) (bB _) (mX (by dsimp only;omega))
  simpa using this
end wg
namespace OY
open eV (has without)
def ok(w m:aE ar)(s:aE (aE az))(a:az)(key:ar)(hw:w.length<=1048576)(hm:m.length<=1048576)(d:jr.oZ s)(hk:key.size<=140737488355328):
  c (rs w) (rs m) (rr s) a key=ao/\v (rs w) (rs m) (rr s) a key=(rs (eO.val w m s a key).1,rs (eO.val w m s a key).2.1,rr (eO.val w m s a key).2.2.1,(eO.val w m s a key).2.2.2.1,(eO.val w m s a key).2.2.2.2):=by
 refine out _ _ _ _ _ ?_;have h1:=jy.ok w m s a hw hm d;have h2:=pq.ok w m s a hw hm d;have h3:=oH.ok s a key d hk;have B:=tc.ok m key (by omega);have h6:=ki.ok w key hw;have C:=ki.ok m key hm;have K:=HD (a:=a) (key:=key) d;unfold vo b bw dt;simp only[ic,h1.1,h1.2,h2.1,h2.2,au];unfold eO.val;cases hp:yW w m s a with
 |false=>rfl
 |true=>
  obtain⟨y,p2,p3,p4⟩:=Ah hp;rw[pq.iQ,bj];cases j:gf key with
  |false=>rfl
  |true=>
   have o:=kr j;have l6:=ir (l:=w) (k:=key);have l7:=ir (l:=m) (k:=key);simp only[aY,ax,au,h3.1,h3.2,B.1,B.2,h6.1,h6.2,C.1,C.2,A2,zer,Lib.cL,p9,bz];rw[b6 (n:=(without w key).length+1) (by omega) (by omega),b6 (n:=(without m key).length+1) (by omega) (by omega)];simp only[au];cases e:has w key with
   |true=>
    have H:has m key=false:=by rw[pK];intro t;have:=(sq.1 y).2;rw[eK]at this;exact this.2.2 key (jH.1 e) key t rfl
    have P:=pP e;rw[H,ax,au,aA (show((without w key++[key]).length:az)<=2 by rw[bU,bz];omega)];rfl
   |false=>
    rw[wJ e];cases H:has m key with
    |true=>rfl
    |false=>
     simp only[ax];rw[show ah (((w++[key]).length:az)<=2)=ah ((w++[key]).length<=2)by rw[b7];omega];cases M:ah ((w++[key]).length<=2)with
     |true=>rfl
     |false=>
      have r:(w++[key]).length=3:=by have:=vz M;rw[bU,bz]at this⊢;omega
      have f:(w++[key]).getD 0 ⟨#[]⟩∈w++[key]:=q_ (by omega);have O:((w++[key]).getD 0 ⟨#[]⟩).size<=30:=by
       rcases a_.1 f with h|h
       ·exact(kr (mo y (bZ _ h))).2
       ·rw[a7]at h;rw[h];exact o.2
      have z:=wg.ok (dy.val s a key).1 (dy.val s a key).2 ((w++[key]).getD 0 ⟨#[]⟩) K (by omega);have X:gA 1 ((w++[key]).length:az) ((w++[key]).length:az)=true:=by rw[r];rfl
      simp only[ax,aA (show(0:az)<((w++[key]).length:az)by omega),X,au,Nx,Oo,zer,A2,Lib.cL,b6 (n:=m.length+1) (b:=16) (by omega) (by omega),z.1,z.2,bw,dt];rw[show ah ((m.length:az)<4)=ah (m.length<4)by rw[b7];omega];cases N:ah (m.length<4)with
      |true=>rfl
      |false=>
       have S:m.length=4:=by have:=vz N;omega
       have u:m.getD 0 ⟨#[]⟩∈m:=q_ (by omega);have U:=(kr (mo y (bR _ u))).2;have A:=wg.ok (dy.val s a key).1 (dy.val s a key).2 (m.getD 0 ⟨#[]⟩) K (by omega);have Y:gA 1 (m.length:az) (m.length:az)=true:=by simp[gA];omega
       have V:m.tail.length=3:=by rw[V2];omega
       simp only[ax,aA (show(0:az)<(m.length:az)by omega),Y,au,A2,b6 (n:=m.tail.length+1) (b:=16) (by omega) (by omega),A.1,A.2,bw,dt];cases ah (lS.val (dy.val s a key).1 (dy.val s a key).2 ((w++[key]).getD 0 ⟨#[]⟩)>lS.val (dy.val s a key).1 (dy.val s a key).2 (m.getD 0 ⟨#[]⟩))<;>rfl
end OY
namespace J4
open eV (without)
def ok(w m:aE ar)(s:aE (aE az))(a:az)(key:ar)(hw:w.length<=1048576)(hm:m.length<=1048576)(d:jr.oZ s):c (rs w) (rs m) (rr s) a key=ao/\v (rs w) (rs m) (rr s) a key=(rs (without w key),rs (without m key),rr s,a):=by have h1:=jy.ok w m s a hw hm d;have h2:=ki.ok w key hw;have h3:=ki.ok m key hm;exact out _ _ _ _ _ (by unfold vo b bw dt;rw[h1.1,h1.2,h2.1,h2.2,h3.1,h3.2];rfl)
end J4
namespace qg
open _root_.Go.FG.Lib (rc)
def ok(i0:az)(r t u y:Row)(j:az)(z:Row)(cl:aE Cl)(o:az)(x:Cl)(cs:cl.Pairwise λa b=>a.id<b.id)(hn:oc cl x.id=aq)(hl:cl.length<=1048576):
  c i0 r t u y j z (rc cl) o x.id x.k x.fe x.fr x.sta x.got x.age=ao/\v i0 r t u y j z (rc cl) o x.id x.k x.fe x.fr x.sta x.got x.age=(i0,r,t,u,y,j,z,rc (jn cl x),o):=by
 refine out _ _ _ _ _ _ _ _ _ _ _ _ _ _ _ _ ?_;unfold vo b bw;have h9:=eQ cl
 have:=uA (lid x.id) (rc cl) (λm (i:aN)=>l2 cw (λe O P S A B C H K M N U V X Y h5 f=>bif(ah (0<=e)&&ah (e<=(↑(bD f):az))&&b_ (bD f+bD (aC (aR [Ck.i ak,Ck.s,Ck.i ak,Ck.i ak,Ck.i ak,Ck.s,Ck.i ak] 1) 0 [CV.i ak A,CV.s B,CV.i ak C,CV.i ak H,CV.i ak K,CV.s M,CV.i ak N])) 72)then(ai (O,U,V,X,Y,P,h5,(Pu.uh f (aP e) (aC (aR [Ck.i ak,Ck.s,Ck.i ak,Ck.i ak,Ck.i ak,Ck.s,Ck.i ak] 1) 0 [CV.i ak A,CV.s B,CV.i ak C,CV.i ak H,CV.i ak K,CV.s M,CV.i ak N])),S))else(ay)) m (i:az) i0 j o x.id x.k x.fe x.fr x.sta x.got x.age r t u y z (rc cl))
  (λa=>bif ah ((a:az)<=((rc cl).length:az))then ai (i0,r,t,u,y,j,z,Pu.uh (rc cl) a [Cl.row x],o)else ay)
  (λm i h hp=>by
   have d:ah (bO (av (rc cl) i 0)<x.id)=true:=by rw[dB h];exact hp
   simp only[l2,r2,dh,h,aQ,cm,aK,au,dK,d,cG h (by omega:(rc cl).length<=9223372036854775807),bY])
  (λm i h hp=>by
   have d:ah (bO (av (rc cl) i 0)<x.id)=false:=by rw[dB h];exact hp
   simp only[l2,r2,dh,h,aQ,cm,aK,bj,gE,au,ax,dK,d,gO,bz,b6 (n:=(rc cl).length+1) (b:=72) (by omega) (by omega),bY,bw];rfl)
  (λm=>by simp only[l2,r2,dh,bg,bc,aQ,cm,aK,bj,gE,au,ax,dK,gO,bz,b6 (n:=(rc cl).length+1) (b:=72) (by omega) (by omega),bY,bw];rfl) cw eG
 refine this.trans ?_;have h7:=FD (lid x.id) (rc cl);rw[jz,au];unfold Pu.uh;rw[K5 cs hn]
end qg
namespace Qo
open _root_.Go.FG.Lib (rc)
open eV (without)
open gH (lN put tC)
def res(q:Px×az):az×Row×Row×Row×Row×az×Row×Row×az×az:=(q.1.now,re q.1.en,rs q.1.w,rs q.1.m,rr q.1.s,q.1.a,rf q.1.fe,rc q.1.cl,q.1.hits,q.2)
def JH(fe:aE Fe)(key:ar):rf fe++aC (aR [Ck.s,Ck.s,Ck.i ak,Ck.i ak,Ck.i ak] 1) 0 [CV.s key,CV.s (aw #[]),CV.i ak 1,CV.i ak 0,CV.i ak 0]=rf (fe++[wx key]):=by unfold Lib.rf;rw[cT];rfl
def B4{i:aN}(hi:i<p.en.length)(a:ja p):bA (p.now-(el p.en i).st)=p.now-(el p.en i).st:=by have h1:=a.now;have h2:=(gU.DT (a.en _ (iY hi))).2.1;exact c6 (by omega) (by omega)
def ok(p:Px)(id:az)(key:ar)(hp:p.Fit 1048576)(hv:key.size<=140737488355328):c p.now (re p.en) (rs p.w) (rs p.m) (rr p.s) p.a (rf p.fe) (rc p.cl) p.hits id key=ao/\v p.now (re p.en) (rs p.w) (rs p.m) (rr p.s) p.a (rf p.fe) (rc p.cl) p.hits id key=res (gH.ask p id key):=by
 have h1:=oX.ok p hp;have h2:=OW.ok p hp;have M:=hp.cl;have O:=hp.fe;have ht:=hp.en;have H:jr.oZ p.s:=⟨hp.s.1,hp.s.2.1⟩
 have h3:=OV.ok p.now (re p.en) (rs p.w) (rs p.m) (rr p.s) p.a (rf p.fe) p.cl p.hits id M;refine out _ _ _ _ _ _ _ _ _ _ _ ?_;unfold vo b gH.ask jB nr iU p7 ng nh bY bw cq db du cC dm dP;simp only[ic,h1.1,h1.2,h2.1,h2.2,au];cases hf:lC p with
 |false=>rfl
 |true=>
 have K:ja p:=Da.1 hf;rw[aY,ax,bj,show kP.v id 1 9=ah (1<=id/\id<=9)from fE.eL _ _ _];cases hid:ah (1<=id/\id<=9)with
 |false=>rfl
 |true=>
 rw[aY,ax,bj,pq.iQ];cases he:gf key with
 |false=>rfl
 |true=>
 have hu:=eO.kr he;rw[aY,ax,bj,h3.1,au,h3.2];cases hc:oc p.cl id with
 |true=>rfl
 |false=>
 rw[ax,bH,bj,eQ];by_cases h6:p.cl.length=6
 ·rw[aA (show(p.cl.length:az)=6 by omega),au,aD (show¬p.cl.length<6 by omega)];rfl
 have hr:=K.cll;rw[aD (show¬(p.cl.length:az)=6 by omega),ax,aA (show p.cl.length<6 by omega),au];have h4:=xP.ok (re p.en) key (by rw[dC];omega);have u:=Kn.ok p.now (re p.en) (rs p.w) (rs p.m) (rr p.s) p.a (rf p.fe) (rc p.cl) p.hits key (by rw[dV];omega);have V:=OY.ok p.w p.m p.s p.a key hp.w hp.m H (by omega);have h8:=oH.ok p.s p.a key H (by omega);have X:=J4.ok p.w p.m p.s p.a key hp.w hp.m H;have y:=DQ.ok (re p.en) key (iB.M' _) (by rw[dC];omega);rw[iB.BZ]at y;have o:=λ(i0:az) (q1 q2 q3 q4:Row) (i5:az) (q6:Row) (i8:az) (x:Cl) (hx:x.id=id)=>qg.ok i0 q1 q2 q3 q4 i5 q6 p.cl i8 x K.cs (by rw[hx];exact hc) M;rw[h4.1,au,h4.2,dC];have hh:p.hits<=1000000000:=K.hits.2;have adV:0<=p.hits:=K.hits.1;have hy:=K.fl;have B:eE aq (bA (p.hits+1)) 1000000000=bif ah (p.hits<1000000000)then p.hits+1 else p.hits:=by
  rw[c6 (by omega) (by omega)];unfold eE;rw[ax];by_cases h:p.hits<1000000000
  ·rw[aA h,au,bk (by omega)]
  ·rw[aD h,ax,bm (by omega)];omega
 have hb:∀i (hi:i<p.fe.length),qV.p (rf p.fe) key i=Jo key p.fe[i]:=λi hi=>by unfold qV.p Jo Ip.v;rw[L5 hi,wf2 hi,e7 hi];simp only[bn,bO,eP];cases ah (p.fe[i].k=key)<;>rfl
 have N:∀i (hi:i<p.en.length),xP.p (re p.en) key i=ah (p.en[i].k=key):=λi hi=>by unfold xP.p;rw[rJ hi,e7 hi];exact eP
 have wn:∀n:aN,n<=1048576->bA ((n:az)+1)=(n:az)+1:=λn hn=>c6 (by omega) (by omega);have U:∀(n:aN) (fe:aE Fe),n<fe.length->bn (av (rf fe) n 1)=(el fe n).t:=λn fe hn=>by rw[J_ hn];rfl
 have P:b_ (p.fe.length+1) 56=true:=b6 (by omega) (by omega);have S:∀key:ar,bD (aC (aR [Ck.s,Ck.s,Ck.i ak,Ck.i ak,Ck.i ak] 1) 0 [CV.s key,CV.s (aw #[]),CV.i ak 1,CV.i ak 0,CV.i ak 0])=1:=λ_=>rfl;rcases ye p.fe (Jo key) _ hb with ⟨f1,_,A⟩|⟨j,Y,f1,_,A⟩
 ·have A:Qt p.fe key=none:=A;rw[dV,f1]at u;rcases ye p.en (λe=>ah (e.k=key)) _ N with ⟨C,r,_⟩|⟨i,hi,C,r,_⟩
  ·have r:KK p.en key=none:=r;rw[C,r];unfold lN;rw[A];dsimp only;by_cases ha:p.fe.length=20
   ·rw[aD (show¬p.fe.length<20 by omega)];simp only[show ah ((-1:az)≥0)=aq from rfl,ax,u.1,u.2,au,show ah ((-1:az)<0)=ao from rfl,dV,aA (show(p.fe.length:az)=20 by omega)];rfl
   ·have d:=o p.now (re p.en) (rs p.w) (rs p.m) (rr (dy.val p.s p.a key).1) (dy.val p.s p.a key).2 (rf (p.fe++[wx key])) p.hits ⟨id,key,(p.fe.length:az)+1,0,1,(el (p.fe++[wx key]) p.fe.length).t,0⟩ rfl;dsimp only at d;rw[aA (show p.fe.length<20 by omega)];simp only[show ah ((-1:az)≥0)=aq from rfl,ax,u.1,u.2,au,show ah ((-1:az)<0)=ao from rfl,dV,aD (show¬(p.fe.length:az)=20 by omega),h8.1,h8.2,S,P,JH,bU,bz,dK,dh,aA (show p.fe.length<p.fe.length+1 by omega),U p.fe.length (p.fe++[wx key]) (by simp),wn _ O,d.1,d.2];rfl
  ·have r:KK p.en key=ai (el p.en i):=r;rw[C,r];have f:EJ.v (bn (av (re p.en) i 0)) (bO (av (re p.en) i 1)) (bO (av (re p.en) i (1+1))) (bn (av (re p.en) i (1+1+1))) p.now=tC (el p.en i) p.now:=by rw[rJ hi,wG hi,wH hi,wI hi];rfl
   have g1:bO (av (re p.en) i 1)=(el p.en i).st:=by rw[wG hi];rfl
   have g3:bn (av (re p.en) i (1+1+1))=(el p.en i).bo:=by rw[wI hi];rfl
   dsimp only;cases z:tC (el p.en i) p.now with
   |true=>
    have g0:bn (av (re p.en) i 0)=(el p.en i).k:=by rw[rJ hi];rfl
    have g2:bO (av (re p.en) i (1+1))=(el p.en i).li:=by rw[wH hi];rfl
    have f:EJ.v (el p.en i).k (el p.en i).st (el p.en i).li (el p.en i).bo p.now=true:=z;have hw:=B4 (p:=p) hi K;have d:=o p.now (re p.en) (rs (eO.val p.w p.m p.s p.a key).1) (rs (eO.val p.w p.m p.s p.a key).2.1) (rr (eO.val p.w p.m p.s p.a key).2.2.1) (eO.val p.w p.m p.s p.a key).2.2.2.1 (rf p.fe) p.hits ⟨id,key,0,(el p.en i).st,2,(el p.en i).bo,p.now-(el p.en i).st⟩ rfl;dsimp only at d;simp only[aA (show((i:aN):az)≥0 by omega),cm,dh,hi,aQ,aK,au,dK,g0,g1,g2,g3,f,V.1,V.2,hw,d.1,d.2,B,dC];rfl
   |false=>
    rw[z]at f;unfold lN;rw[A];dsimp only;by_cases ha:p.fe.length=20
    ·rw[aD (show¬p.fe.length<20 by omega)];simp only[aA (show((i:aN):az)≥0 by omega),cm,dh,hi,aQ,aK,au,ax,dK,dC,f,u.1,u.2,show ah ((-1:az)<0)=ao from rfl,dV,aA (show(p.fe.length:az)=20 by omega)];rfl
    ·have d:=o p.now (re (ik p.en key)) (rs (without p.w key)) (rs (without p.m key)) (rr (dy.val p.s p.a key).1) (dy.val p.s p.a key).2 (rf (p.fe++[wx key])) p.hits ⟨id,key,(p.fe.length:az)+1,0,1,(el (p.fe++[wx key]) p.fe.length).t,0⟩ rfl;dsimp only at d;rw[aA (show p.fe.length<20 by omega)];simp only[aA (show((i:aN):az)≥0 by omega),cm,dC,hi,aQ,aK,f,X.1,X.2,y.1,y.2,ax,u.1,u.2,au,show ah ((-1:az)<0)=ao from rfl,dV,aD (show¬(p.fe.length:az)=20 by omega),h8.1,h8.2,S,P,JH,bU,bz,dK,dh,aA (show p.fe.length<p.fe.length+1 by omega),U p.fe.length (p.fe++[wx key]) (by simp),wn _ O,d.1,d.2];rfl
 ·have A:Qt p.fe key=ai j:=A;rw[dV,f1]at u;have nj:ah (((j:aN):az)<0)=false:=aD (by omega);rcases ye p.en (λe=>ah (e.k=key)) _ N with ⟨C,r,_⟩|⟨i,hi,C,r,_⟩
  ·have r:KK p.en key=none:=r;rw[C,r];unfold lN;rw[A];dsimp only;have d:=o p.now (re p.en) (rs p.w) (rs p.m) (rr (dy.val p.s p.a key).1) (dy.val p.s p.a key).2 (rf p.fe) p.hits ⟨id,key,(j:az)+1,0,1,(el p.fe j).t,0⟩ rfl;dsimp only at d;simp only[show ah ((-1:az)≥0)=aq from rfl,ax,u.1,u.2,au,nj,dV,h8.1,h8.2,dK,cm,dh,Y,aQ,aK,U j p.fe Y,wn j (by omega),d.1,d.2];rfl
  ·have r:KK p.en key=ai (el p.en i):=r;rw[C,r];have f:EJ.v (bn (av (re p.en) i 0)) (bO (av (re p.en) i 1)) (bO (av (re p.en) i (1+1))) (bn (av (re p.en) i (1+1+1))) p.now=tC (el p.en i) p.now:=by rw[rJ hi,wG hi,wH hi,wI hi];rfl
   have g1:bO (av (re p.en) i 1)=(el p.en i).st:=by rw[wG hi];rfl
   have g3:bn (av (re p.en) i (1+1+1))=(el p.en i).bo:=by rw[wI hi];rfl
   dsimp only;cases z:tC (el p.en i) p.now with
   |true=>
    have g0:bn (av (re p.en) i 0)=(el p.en i).k:=by rw[rJ hi];rfl
    have g2:bO (av (re p.en) i (1+1))=(el p.en i).li:=by rw[wH hi];rfl
    have f:EJ.v (el p.en i).k (el p.en i).st (el p.en i).li (el p.en i).bo p.now=true:=z;have hw:=B4 (p:=p) hi K;have d:=o p.now (re p.en) (rs (eO.val p.w p.m p.s p.a key).1) (rs (eO.val p.w p.m p.s p.a key).2.1) (rr (eO.val p.w p.m p.s p.a key).2.2.1) (eO.val p.w p.m p.s p.a key).2.2.2.1 (rf p.fe) p.hits ⟨id,key,0,(el p.en i).st,2,(el p.en i).bo,p.now-(el p.en i).st⟩ rfl;dsimp only at d;simp only[aA (show((i:aN):az)≥0 by omega),cm,dh,hi,aQ,aK,au,dK,g0,g1,g2,g3,f,V.1,V.2,hw,d.1,d.2,B,dC];rfl
   |false=>rw[z]at f;unfold lN;rw[A];dsimp only;have d:=o p.now (re (ik p.en key)) (rs (without p.w key)) (rs (without p.m key)) (rr (dy.val p.s p.a key).1) (dy.val p.s p.a key).2 (rf p.fe) p.hits ⟨id,key,(j:az)+1,0,1,(el p.fe j).t,0⟩ rfl;dsimp only at d;simp only[aA (show((i:aN):az)≥0 by omega),cm,dC,hi,aQ,aK,f,X.1,X.2,y.1,y.2,ax,u.1,u.2,au,nj,dV,h8.1,h8.2,dK,dh,Y,U j p.fe Y,wn j (by omega),d.1,d.2];rfl
end Qo
open Qo (B4 JH)
namespace xI
def res(o:aG En):ar×az×az×ar×aZ:=match o with|some e=>(e.k,e.st,e.li,e.bo,ao)|none=>(⟨#[]⟩,0,0,⟨#[]⟩,aq)
def ok(now:az)(en:aE En)(f j o:Row)(r:az)(s t:Row)(u:az)(key:ar)(hl:en.length<=1048576):c now (re en) f j o r s t u key=ao/\v now (re en) f j o r s t u key=res (KK en key):=by
 refine out _ _ _ _ _ _ _ _ _ _ ?_;unfold vo b KK
 have go:∀(d i n:aN),en.length-i<=d->i<=en.length->d<n->
   l2 cw (λ(_:ar) (y:aZ) (_ _:az) (_ _ _ _:Row) (_:az) (_ _:Row) (_:az) (z:ar) (A B:az) (C:ar)=>ai (z,A,B,C,y)) (λ(_:ar) (_:aZ) (_ _:az) (_ _ _ _:Row) (_:az) (_ _:Row) (_:az) (_:ar) (_ _:az) (_:ar)=>ai (((aw #[]):ar),0,0,((aw #[]):ar),aq)) n key aq (i:az) now (re en) f j o r s t u (aw #[]) 0 0 (aw #[])=ai (res ((en.drop i).find? λe=>ah (e.k=key))):=by
  intro d
  induction d with
  |zero=>
   intro i n h1 h2 h3;obtain⟨n,rfl⟩:∃a,n=a+1:=⟨n-1,by omega⟩
   have:i=en.length:=by omega
   subst this;simp only[l2,r2,dC,dh,bg,bc,ax,c_,bY];rfl
  |succ d ih=>
   intro i n h1 h2 h3;obtain⟨n,rfl⟩:∃a,n=a+1:=⟨n-1,by omega⟩
   by_cases hi:i<en.length
   ·rw[cJ hi];have g:=ih (i+1) n (by omega) hi (by omega);simp only[l2,r2,dC,dh,hi,aQ,cm,aK,au,dK,rJ hi,wG hi,wH hi,wI hi,bn,bO,eP,e7 hi,cG hi (by omega:en.length<=9223372036854775807),bY];cases hk:ah (en[i].k=key)with
    |true=>rw[au,List.find?_cons_of_pos (p:=λe:En=>ah (e.k=key)) hk];rfl
    |false=>rw[ax,Kg (p:=λe:En=>ah (e.k=key)) (by simp[hk])];exact g
   ·have:i=en.length:=by omega
    subst this;simp only[l2,r2,dC,dh,bg,bc,ax,c_,bY];rfl
 have:=go en.length 0 cw (by omega) (bB _) eG;rw[gz]at this;exact this
end xI
namespace vn
open eV (without)
def ok(w m:aE ar)(s:aE (aE az))(a:az)(key:ar)(hw:w.length<=1048576)(hm:m.length<=1048576)(d:jr.oZ s):c (rs w) (rs m) (rr s) a key=ao/\v (rs w) (rs m) (rr s) a key=(rs (without w key),rs (without m key),rr s,a):=by have h1:=oq.ok s a d;have h2:=py.ok w key hw;have h3:=py.ok m key hm;exact out _ _ _ _ _ (by unfold vo b bw;rw[h1.1,h1.2,h2.1,h2.2,h3.1,h3.2];rfl)
end vn
namespace qC
def ok(l:aE En)(k:ar)(hl:l.length<=2097152):c (re l) k=ao/\v (re l) k=re (ik l k):=by
 refine out _ _ ?_;unfold vo b;have key:=iz l.length (λn (i:aN) (x:Row)=>l3 cw (λ(_:Row) (_:ar) (_:az) (d:Row)=>ai d) n (re l) k (i:az) x) (λi=>re (ik (l.take i) k)) (ai (re (ik l k))) (λn i hi=>by
  have a:(ik (l.take i) k).length<=i:=by refine ca (eD ..) ?_;rw[dG];omega
  have e:ik (l.take (i+1)) k=ik (l.take i) k++(bif !decide ((el l i).k=k)then [el l i]else []):=by unfold ik;rw[cE hi,jc,e7 hi];cases hd:ah (l[i].k=k)<;>simp[hd]
  rw[e];simp only[l3,r3,dC,dh,hi,aQ,cm,aK,au,dK,rJ hi,wG hi,wH hi,wI hi,bn,bO,eP,p9,bz,cG hi (by omega:l.length<=9223372036854775807),bY,bw];rw[b6 (by omega) (by omega),au];cases ah ((el l i).k=k)with
  |true=>rw[aY,ax,ax,d_]
  |false=>rw[bH,au,au];unfold Lib.re;rw[cT];rfl) (λn=>by
  simp only[l3,r3,dC,dh,bg,bc,ax,cR,bY,bw]) cw 0 (bB _) eG
 exact key
end qC
namespace lR
open _root_.Go.FG.Lib (rc)
def tail(l:aE Cl)(x:Cl)(hl:l.length<=1048576)(c0:aE Cl)(e:c0.length<=1048577):
  l9 cw (λ(_:Row) (_ _:az) (_:ar) (_ _ _:az) (_:ar) (_:az) (y:Row)=>ai y) cw (rc l) 0 x.id x.k x.fe x.fr x.sta x.got x.age (rc c0)=ai (rc (c0++l.filter λy=>ah (y.id>x.id))):=by
 refine CS l (λy=>ah (y.id>x.id)) (λm (i:aN) acc=>l9 cw (λ(_:Row) (_ _:az) (_:ar) (_ _ _:az) (_:ar) (_:az) (y:Row)=>ai y) m (rc l) (i:az) x.id x.k x.fe x.fr x.sta x.got x.age (rc acc)) (λacc=>ai (rc acc)) c0
  (λm i acc h d hp=> ?_) (λm i acc h hp=> ?_) (λm acc=> ?_) cw eG
 ·have a:ah (l[i].id>x.id)=true:=hp;simp only[l9,r9,eQ,dh,h,aQ,cm,aK,au,dK,rc0 h,rc1 h,rc2 h,rc3 h,rc4 h,rc5 h,rc6 h,bn,bO,a,p9,bz,cG h (by omega:l.length<=9223372036854775807),b6 (n:=acc.length+1) (b:=72) (by omega) (by omega),bY,bw];unfold Lib.rc;rw[cT];rfl
 ·have a:ah (l[i].id>x.id)=false:=hp;simp only[l9,r9,eQ,dh,h,aQ,cm,aK,au,ax,dK,rc0 h,bO,a,cG h (by omega:l.length<=9223372036854775807),bY,bw]
 ·simp only[l9,r9,eQ,dh,bg,bc,ax,bY,bw]
def ok(l:aE Cl)(x:Cl)(hl:l.length<=1048576):c (rc l) x.id x.k x.fe x.fr x.sta x.got x.age=ao/\v (rc l) x.id x.k x.fe x.fr x.sta x.got x.age=rc (jn l x):=by
 refine out _ _ _ _ _ _ _ _ ?_;unfold vo b bw
 have key:=CS l (λy=>ah (y.id<x.id))
  (λm (i:aN) acc=>l3 cw (λ(z:Row) (_ d:az) (e:ar) (f j o:az) (r:ar) (t:az) (u:Row)=>bif(b_ (bD u+bD (aC (aR [Ck.i ak,Ck.s,Ck.i ak,Ck.i ak,Ck.i ak,Ck.s,Ck.i ak] 1) 0 [CV.i ak d,CV.s e,CV.i ak f,CV.i ak j,CV.i ak o,CV.s r,CV.i ak t])) 72)then(l9 cw (λ(_:Row) (_ _:az) (_:ar) (_ _ _:az) (_:ar) (_:az) (A:Row)=>ai A) cw z 0 d e f j o r t (u++aC (aR [Ck.i ak,Ck.s,Ck.i ak,Ck.i ak,Ck.i ak,Ck.s,Ck.i ak] 1) 0 [CV.i ak d,CV.s e,CV.i ak f,CV.i ak j,CV.i ak o,CV.s r,CV.i ak t]))else(ay)) m (rc l) (i:az) x.id x.k x.fe x.fr x.sta x.got x.age (rc acc))
  (λacc=>bif b_ (acc.length+1) 72 then l9 cw (λ(_:Row) (_ _:az) (_:ar) (_ _ _:az) (_:ar) (_:az) (y:Row)=>ai y) cw (rc l) 0 x.id x.k x.fe x.fr x.sta x.got x.age (rc (acc++[x]))else ay) []
  (λm i acc h B hp=>by
   have a:ah (l[i].id<x.id)=true:=hp;have B:acc.length<=i:=by simpa using B
   simp only[l3,r3,eQ,dh,h,aQ,cm,aK,au,dK,rc0 h,rc1 h,rc2 h,rc3 h,rc4 h,rc5 h,rc6 h,bn,bO,a,p9,bz,cG h (by omega:l.length<=9223372036854775807),b6 (n:=acc.length+1) (b:=72) (by omega) (by omega),bY,bw];unfold Lib.rc;rw[cT];rfl)
  (λm i acc h hp=>by have a:ah (l[i].id<x.id)=false:=hp;simp only[l3,r3,eQ,dh,h,aQ,cm,aK,au,ax,dK,rc0 h,bO,a,cG h (by omega:l.length<=9223372036854775807),bY,bw])
  (λm acc=>by simp only[l3,r3,eQ,dh,bg,bc,ax,p9,bz,bY,bw];unfold Lib.rc;rw[cT];rfl) cw eG
 refine key.trans ?_;have C:=eD (λy:Cl=>ah (y.id<x.id)) l;rw[eR,b6 (by omega) (by omega),au,tail l x hl _ (by simp;omega)];unfold jn;rw[cg]
end lR
namespace vm
def eq(k:ar)(s l:az)(b:ar)(n:az):EJ.v k s l b n=vm.v k s l b n:=L8.eq k s l b n
end vm
namespace xE
open _root_.Go.FG.Lib (rc)
open eV (without)
open gH (lN put tC)
open Qo (res)
def find(S U:az->ar->az->az->az->Row->Row->Row->Row->az->Row->Row->az->az->az->az->az->az->az->Row->Row->Row->Row->Row->Row->aG R)(cl:aE Cl)(hl:cl.length<=1048576)(id:az)(key:ar)(V P:az)(M N O o:Row)(B:az)(r:Row)(C H JR K a f k:az)(s t u y z A:Row):
  (oc cl id=aq->l5 cw S U cw id key V 0 P M N O o B r (rc cl) C H JR K a f k s t u y z A=U id key V (cl.length:az) P M N O o B r (rc cl) C H JR K a f k s t u y z A)/\
  (oc cl id=ao->∃j:az,l5 cw S U cw id key V 0 P M N O o B r (rc cl) C H JR K a f k s t u y z A=S id key 1 j P M N O o B r (rc cl) C a f k a f k s t u y z A):=by
 have go:∀(d i n:aN),cl.length-i<=d->i<=cl.length->d<n->
   (((cl.drop i).any λx=>ah (x.id=id))=aq->l5 cw S U n id key V (i:az) P M N O o B r (rc cl) C H JR K a f k s t u y z A=U id key V (cl.length:az) P M N O o B r (rc cl) C H JR K a f k s t u y z A)/\
   (((cl.drop i).any λx=>ah (x.id=id))=ao->∃j:az,l5 cw S U n id key V (i:az) P M N O o B r (rc cl) C H JR K a f k s t u y z A=S id key 1 j P M N O o B r (rc cl) C a f k a f k s t u y z A):=by
  intro d
  induction d with
  |zero=>
   intro i n h1 h2 h3;obtain⟨n,rfl⟩:∃X,n=X+1:=⟨n-1,by omega⟩
   have:i=cl.length:=by omega
   subst this;rw[c_];exact⟨λ_=>by simp only[l5,r5,eQ,dh,bg,bc,ax,bY],λh=>by cases h⟩
  |succ d ih=>
   intro i n h1 h2 h3;obtain⟨n,rfl⟩:∃X,n=X+1:=⟨n-1,by omega⟩
   by_cases hi:i<cl.length
   ·rw[cJ hi,List.any_cons];obtain⟨Y,g2⟩:=ih (i+1) n (by omega) hi (by omega);have e:l5 cw S U (n+1) id key V (i:az) P M N O o B r (rc cl) C H JR K a f k s t u y z A=bif ah (cl[i].id=id)then S id key 1 (i:az) P M N O o B r (rc cl) C a f k a f k s t u y z A else l5 cw S U n id key V ((i+1:aN):az) P M N O o B r (rc cl) C H JR K a f k s t u y z A:=by simp only[l5,r5,eQ,dh,hi,aQ,cm,aK,au,dK,rc0 hi,bO,cG hi (by omega:cl.length<=9223372036854775807),bY]
    rw[e];cases hc:ah (cl[i].id=id)with
    |true=>exact⟨λh=>by simp at h,λ_=>⟨i,rfl⟩⟩
    |false=>rw[oD,ax];exact⟨Y,g2⟩
   ·have:i=cl.length:=by omega
    subst this;rw[c_];exact⟨λ_=>by simp only[l5,r5,eQ,dh,bg,bc,ax,bY],λh=>by cases h⟩
 have:=go cl.length 0 cw (by omega) (bB _) eG;rw[gz]at this;exact this
def sc(key:ar):aE Fe->aN->az×ar->az×ar
 |[],_,s=>s|x::r,i,s=>sc key r (i+1) (bif Jo key x then((i:az)+1,x.t)else s)
def scan(k0:ar->aZ->az->az->Row->Row->Row->Row->az->Row->Row->az->az->az->az->az->az->az->az->ar->az->az->az->ar->az->Row->Row->Row->Row->Row->Row->aG R)(fe:aE Fe)(hl:fe.length<=1048576)(key:ar)(h0:aZ)(M:az)(A B C H:Row)(N:az)(K:Row)(O P S U V X Y h5:az)(t:ar)(u y z:az)(a e f j o r:Row):
  W5 cw k0 cw key h0 0 M A B C H N (rf fe) K O P S U V X Y h5 t 0 u y (aw #[]) z a e f j o r=k0 key h0 (fe.length:az) M A B C H N (rf fe) K O P S U V X Y h5 t (sc key fe 0 (0,⟨#[]⟩)).1 u y (sc key fe 0 (0,⟨#[]⟩)).2 z a e f j o r:=by
 have go:∀(d i n:aN) (s:az×ar),fe.length-i<=d->i<=fe.length->d<n->
   W5 cw k0 n key h0 (i:az) M A B C H N (rf fe) K O P S U V X Y h5 t s.1 u y s.2 z a e f j o r=k0 key h0 (fe.length:az) M A B C H N (rf fe) K O P S U V X Y h5 t (sc key (fe.drop i) i s).1 u y (sc key (fe.drop i) i s).2 z a e f j o r:=by
  intro d
  induction d with
  |zero=>
   intro i n s h1 h2 h3;obtain⟨n,rfl⟩:∃n',n=n'+1:=⟨n-1,by omega⟩
   have:i=fe.length:=by omega
   subst this;simp only[W5,r22,dV,dh,bg,bc,ax,c_,sc,bY]
  |succ d ih=>
   intro i n s h1 h2 h3;obtain⟨n,rfl⟩:∃n',n=n'+1:=⟨n-1,by omega⟩
   by_cases hi:i<fe.length
   ·rw[cJ hi];unfold sc;rw[<-ih (i+1) n _ (by omega) hi (by omega)];have w:=cG hi (by omega:fe.length<=9223372036854775807);have w2:((i+1:aN):az)=(i:az)+1:=by omega
    simp only[W5,r22,dV,dh,hi,aQ,cm,aK,au,dK,L5 hi,J_ hi,DI hi,bn,bO,eP,w,e7 hi,bY];unfold Jo;cases ah (fe[i].k=key)<;>cases ah (fe[i].sta=1)<;>simp only[gE,wQ,aK,lH,au,ax,w2]
   ·have:i=fe.length:=by omega
    subst this;simp only[W5,r22,dV,dh,bg,bc,ax,c_,sc,bY]
 have:=go fe.length 0 cw (0,⟨#[]⟩) (by omega) (bB _) eG;rw[gz]at this;exact this
def YI(key:ar):∀(l:aE Fe) (i:aN) (s:az×ar),(∀x∈l,Jo key x=aq)->sc key l i s=s:=by
 intro l;induction l with
 |nil=>intro i s _;rfl
 |cons x l ih=>intro i s h;unfold sc;rw[h x (by simp),ax];exact ih _ _ λy a=>h y (by simp[a])
def ae_(hp:fe.Pairwise λf g=>oK g f=aq)(key:ar):sc key fe 0 (0,⟨#[]⟩)=match Qt fe key with|some j=>((j:az)+1,(el fe j).t)|none=>(0,⟨#[]⟩):=by
 have go:∀(l:aE Fe) (i:aN),l.Pairwise (λf g=>oK g f=aq)->sc key l i (0,⟨#[]⟩)=match l.findIdx? (Jo key)with|some j=>(((i+j:aN):az)+1,(el l j).t)|none=>(0,⟨#[]⟩):=by
  intro l;induction l with
  |nil=>intro i _;rfl
  |cons x l ih=>
   intro i h;rw[qT]at h;unfold sc;rw[List.findIdx?_cons];cases hq:Jo key x with
   |true=>
    have a:∀y∈l,Jo key y=false:=λy d=>by
     have h2:=h.1 y d;unfold Jo at hq⊢;unfold oK at h2;simp only[aM,ba]at hq;rw[hq.1,hq.2]at h2;simp only[Bool.and_eq_false_iff,eZ]at h2⊢;rcases h2 with h2|h2
     ·exact .inr h2
     ·rcases h2 with h2|h2
      ·exact cO trivial h2
      ·exact .inl h2
    rw[au,YI key l _ _ a];rfl
   |false=>
    rw[ax,ih (i+1) h.2];cases l.findIdx? (Jo key)with
    |none=>rfl
    |some j=>simp only[dq,if_false,jf,show i+1+j=i+(j+1)by omega];rfl
 have:=go fe 0 hp;unfold Qt;rw[this];cases fe.findIdx? (Jo key)with
 |none=>rfl
 |some j=>dsimp only;rw[bV]
def ok(p:Px)(id:az)(key:ar)(hp:p.Fit 1048576)(hc:key.size<=140737488355328):c p.now (re p.en) (rs p.w) (rs p.m) (rr p.s) p.a (rf p.fe) (rc p.cl) p.hits id key=ao/\v p.now (re p.en) (rs p.w) (rs p.m) (rr p.s) p.a (rf p.fe) (rc p.cl) p.hits id key=res (gH.ask p id key):=by
 have h1:=lh.ok p hp;have h2:=mj.ok p hp;have u:=hp.cl;have A:=hp.fe;have S:=hp.en;have y:jr.oZ p.s:=⟨hp.s.1,hp.s.2.1⟩
 refine out _ _ _ _ _ _ _ _ _ _ _ ?_;unfold vo b gH.ask jB iU p7 ng CY nh bw cq db du cC dm dt p8 dP;simp only[ic,h1.1,h1.2,h2.1,h2.2,au];cases Y:lC p with
 |false=>rfl
 |true=>
 have H:ja p:=Da.1 Y;rw[aY,ax,bj,show kI.v id 1 9=ah (1<=id/\id<=9)from fE.eL _ _ _];cases hid:ah (1<=id/\id<=9)with
 |false=>rfl
 |true=>
 rw[aY,ax,bj,show tQ.v key=gf key from fE.eL _ _ _];cases V:gf key with
 |false=>rfl
 |true=>
 have hb:=eO.kr V;rw[aY,ax,bj,eQ];have h5:=H.cll;by_cases h6:p.cl.length=6
 ·rw[aA (show(p.cl.length:az)≥6 by omega),au,aD (show¬p.cl.length<6 by omega),wQ];rfl
 rw[aD (show¬(p.cl.length:az)≥6 by omega),ax,aA (show p.cl.length<6 by omega),gE];cases B:oc p.cl id with
 |true=>obtain⟨j,f⟩:=(find _ _ p.cl u id key 0 p.now (re p.en) (rs p.w) (rs p.m) (rr p.s) p.a (rf p.fe) p.hits 0 0 0 p.now p.a p.hits (re p.en) (rs p.w) (rs p.m) (rr p.s) (rf p.fe) (rc p.cl)).2 B;refine f.trans ?_;rfl
 |false=>
 refine((find _ _ p.cl u id key 0 p.now (re p.en) (rs p.w) (rs p.m) (rr p.s) p.a (rf p.fe) p.hits 0 0 0 p.now p.a p.hits (re p.en) (rs p.w) (rs p.m) (rr p.s) (rf p.fe) (rc p.cl)).1 B).trans ?_;rw[bH,au];have h4:=xI.ok p.now p.en (rs p.w) (rs p.m) (rr p.s) p.a (rf p.fe) (rc p.cl) p.hits key S;have h7:=eO.ok p.w p.m p.s p.a key hp.w hp.m y (by omega);have h8:=dy.ok p.s p.a key y (by omega);have O:=vn.ok p.w p.m p.s p.a key hp.w hp.m y;have r:=qC.ok p.en key (by omega);have d:=λx:Cl=>lR.ok p.cl x u;have adV:=H.hits;have hf:=H.fl;have N:=ae_ H.ap key;have K:b_ (p.fe.length+1) 56=true:=b6 (by omega) (by omega);have M:∀key:ar,bD (aC (aR [Ck.s,Ck.s,Ck.i ak,Ck.i ak,Ck.i ak] 1) 0 [CV.s key,CV.s (aw #[]),CV.i ak 1,CV.i ak 0,CV.i ak 0])=1:=λ_=>rfl;have z:(el (p.fe++[wx key]) p.fe.length).t=⟨#[]⟩:=by rw[e7 (by simp),List.getElem_append_right (by omega)];simp[wx]
 rw[h4.1,h4.2,au];cases he:KK p.en key with
 |some e=>
  have C:e∈p.en:=qS he;obtain⟨i,hi,U⟩:=dW C;dsimp only[xI.res];rw[au,<-vm.eq,show EJ.v e.k e.st e.li e.bo p.now=tC e p.now from rfl];cases ha:tC e p.now with
  |true=>
   have hw:bA (p.now-e.st)=p.now-e.st:=by have:=B4 (p:=p) hi H;rwa[e7 hi,U]at this
   have f:=d ⟨id,key,0,e.st,2,e.bo,p.now-e.st⟩;dsimp only at f;rw[au,h7.1,h7.2,au,au,hw,f.1,f.2,au,au];unfold res hit;cases hh:ah (p.hits<1000000000)with
   |true=>rw[ba]at hh;rw[au,c6 (by omega) (by omega)];rfl
   |false=>rfl
  |false=>
   rw[ax,ax];refine(scan _ p.fe A key ao p.now (re p.en) (rs p.w) (rs p.m) (rr p.s) p.a (rc p.cl) p.hits 0 0 0 p.now p.a p.hits id key 0 1 0 (re p.en) (rs p.w) (rs p.m) (rr p.s) (rf p.fe) (rc p.cl)).trans ?_;rw[N];unfold lN;cases X:Qt p.fe key with
   |none=>
    dsimp only;by_cases P:p.fe.length=20
    ·rw[aD (show¬p.fe.length<20 by omega)];simp only[aQ,au,dV,aA (show(p.fe.length:az)≥20 by omega)];rfl
    ·rw[aA (show p.fe.length<20 by omega)];have f:=d ⟨id,key,(p.fe.length:az)+1,0,1,⟨#[]⟩,0⟩;dsimp only at f;have o:((p.fe.length+1:aN):az)=(p.fe.length:az)+1:=by omega
     simp only[aQ,au,ax,dV,aD (show¬(p.fe.length:az)≥20 by omega),M,K,r.1,r.2,O.1,O.2,h8.1,h8.2,JH,bU,bz,o,f.1,f.2];unfold res put;rw[z];rfl
   |some j=>dsimp only;have f:=d ⟨id,key,(j:az)+1,0,1,(el p.fe j).t,0⟩;dsimp only at f;simp only[aD (show¬(j:az)+1=0 by omega),au,ax,r.1,r.2,O.1,O.2,h8.1,h8.2,f.1,f.2];rfl
 |none=>
  dsimp only[xI.res];rw[ax];refine(scan _ p.fe A key aq p.now (re p.en) (rs p.w) (rs p.m) (rr p.s) p.a (rc p.cl) p.hits 0 0 0 p.now p.a p.hits id key 0 1 0 (re p.en) (rs p.w) (rs p.m) (rr p.s) (rf p.fe) (rc p.cl)).trans ?_;rw[N];unfold lN;cases X:Qt p.fe key with
  |none=>
   dsimp only;by_cases P:p.fe.length=20
   ·rw[aD (show¬p.fe.length<20 by omega)];simp only[aQ,au,dV,aA (show(p.fe.length:az)≥20 by omega)];rfl
   ·rw[aA (show p.fe.length<20 by omega)];have f:=d ⟨id,key,(p.fe.length:az)+1,0,1,⟨#[]⟩,0⟩;dsimp only at f;have o:((p.fe.length+1:aN):az)=(p.fe.length:az)+1:=by omega
    simp only[aQ,au,ax,dV,aD (show¬(p.fe.length:az)≥20 by omega),M,K,h8.1,h8.2,JH,bU,bz,o,f.1,f.2];unfold res put;rw[z];rfl
  |some j=>dsimp only;have f:=d ⟨id,key,(j:az)+1,0,1,(el p.fe j).t,0⟩;dsimp only at f;simp only[aD (show¬(j:az)+1=0 by omega),au,ax,h8.1,h8.2,f.1,f.2];rfl
end xE
namespace vp
open _root_.Go.FG.Lib (rc)
def ok(p:Px)(f:az)(hp:p.Fit 1048576):c p.now (re p.en) (rs p.w) (rs p.m) (rr p.s) p.a (rf p.fe) (rc p.cl) p.hits f=ao/\v p.now (re p.en) (rs p.w) (rs p.m) (rr p.s) p.a (rf p.fe) (rc p.cl) p.hits f=fA.yV p f:=by
 have h:=mj.ok p hp;have e:=hp.fe;refine out _ _ _ _ _ _ _ _ _ _ ?_;unfold vo b fA.yV bY bw;rw[h.1,h.2,au,dV,c6 (x:=(p.fe.length:az)-1) (by omega) (by omega),show kI.v f 0 ((p.fe.length:az)-1)=ah (0<=f/\f<=(p.fe.length:az)-1)from fE.eL _ _ _];cases lC p with
 |false=>rfl
 |true=>
  cases hd:ah (0<=f/\f<=(p.fe.length:az)-1)with
  |false=>rfl
  |true=>
   have:=cB hd;obtain⟨n,rfl⟩:∃n:aN,f=(n:az):=⟨f.toNat,by omega⟩
   have d:n<p.fe.length:=by omega
   simp only[au,bj,cm,dh,d,aQ,aK,dK,DI d,bO]
end vp
namespace QB
def put(s:az)(t q:ar)(d:(t.size:az)<=400)(hs:1<=s/\s<=3):V'.v s t [] q=bif ah (s=1)&&(ah (1<=q.size/\q.size<=40)&&ah (t.size+q.size<=400))then(s,t++q,[],ao)else(s,t,[],aq):=by
 unfold V'.v;have a:lM.v s t []=true:=by unfold lM.v lM.rest;rw[aA hs,aA (show t.size<=400 by omega)];rfl
 by_cases h1:s=1
 ·by_cases h2:1<=q.size/\q.size<=40
  ·by_cases h3:t.size+q.size<=400
   ·rw[bm ⟨a,h1,h2.1,h2.2,h3⟩,aA h1,aA h2,aA h3];rfl
   ·rw[bk (by omega),aD h3];simp
  ·rw[bk (by omega),aD h2];simp
 ·rw[bk (by simp[h1]),aD h1];rfl
end QB
namespace td
open _root_.Go.FG.Lib (rc)
def ok(p:Px)(f:aN)(st:az)(C:f<p.fe.length)(hl:p.fe.length<=2097152)(N:p.cl.length<=2097152):
  c p.now (re p.en) (rs p.w) (rs p.m) (rr p.s) p.a (rf p.fe) (rc p.cl) p.hits (f:az) st=ao/\v p.now (re p.en) (rs p.w) (rs p.m) (rr p.s) p.a (rf p.fe) (rc p.cl) p.hits (f:az) st=(p.now,re p.en,rs p.w,rs p.m,rr p.s,p.a,rf p.fe,rc (qk p.cl f st (el p.fe f).t),p.hits):=by
 refine out _ _ _ _ _ _ _ _ _ _ _ ?_;unfold vo b;have key:=nT Cl.row p.cl (λ_ c=>ec f st (el p.fe f).t c) (λn (i:aN) x=>l1 cw (λ(_ _ _ e j k:az) (o r u y z A:Row)=>ai (e,o,r,u,y,j,z,A,k)) n (f:az) st (i:az) p.now p.a p.hits (re p.en) (rs p.w) (rs p.m) (rr p.s) (rf p.fe) x) (λx=>ai (p.now,re p.en,rs p.w,rs p.m,rr p.s,p.a,rf p.fe,x,p.hits)) (λn i L h h2 B d=> ?_) (λn L B=> ?_) cw eG
 ·rw[mY]at key;exact key
 ·have H:av (L.map Cl.row) i 2=CV.i ak p.cl[i].fe:=by rw[fG _ L i _ h2,d];rfl
  have K:av (L.map Cl.row) i 4=CV.i ak p.cl[i].sta:=by rw[fG _ L i _ h2,d];rfl
  have s1:eH (L.map Cl.row) i 5 [CV.s (el p.fe f).t]=(L.set i {p.cl[i]with got:=(el p.fe f).t}).map Cl.row:=k9 Cl.row L i 5 _ _ h2 (by rw[d];rfl);have h3:i<(L.set i {p.cl[i]with got:=(el p.fe f).t}).length:=by simpa using h2
  have M:eH ((L.set i {p.cl[i]with got:=(el p.fe f).t}).map Cl.row) i 4 [CV.i ak st]=((L.set i {p.cl[i]with got:=(el p.fe f).t}).set i {p.cl[i]with sta:=st,got:=(el p.fe f).t}).map Cl.row:=k9 Cl.row _ i 4 _ _ h3 (by rw[kT];rfl);simp only[l1,r1,dh,h2,C,bK,ch,aQ,cm,aK,au,dK,H,K,bO,s1,M,pX,dV,J_ C,bn,cG h (by omega:p.cl.length<=9223372036854775807),c6 (x:=(f:az)+1) (by omega) (by omega),bY];unfold ec;cases ah (p.cl[i].fe=(f:az)+1)with
  |false=>rw[lH,ax,ax,<-d,fc]
  |true=>
   cases ah (p.cl[i].sta=1)with
   |false=>rw[bj,au,ax,ax,<-d,fc]
   |true=>rw[bj,au,au,au]
 ·simp only[l1,r1,bK,B,dh,bg,bc,ax,bY]
end td
namespace D0
open _root_.Go.FG.Lib (rc)
open fA (told)
def ok(p:Px)(f:az)(q:ar)(hp:p.Fit 1048576):c p.now (re p.en) (rs p.w) (rs p.m) (rr p.s) p.a (rf p.fe) (rc p.cl) p.hits f q=ao/\v p.now (re p.en) (rs p.w) (rs p.m) (rr p.s) p.a (rf p.fe) (rc p.cl) p.hits f q=(p.now,re p.en,rs p.w,rs p.m,rr p.s,p.a,rf (Ht p f q).1.fe,rc (Ht p f q).1.cl,p.hits,(Ht p f q).2):=by
 have h1:=lh.ok p hp;have h2:=vp.ok p f hp;have A:=hp.fe;have z:=hp.cl;refine out _ _ _ _ _ _ _ _ _ _ _ ?_;unfold vo b Ht jB mB nh bY cq db du cC dm dt dP;simp only[ic,h1.1,h1.2,h2.1,h2.2,au];cases u:yV p f with
 |false=>rfl
 |true=>
  obtain⟨n,rfl,j,o,y⟩:=nQ u;have e:=fA.ZR o n j;unfold nz.nN at e;simp only[aM,ba]at e;have d:Ir.v 1 (el p.fe n).t [] q=_:=QB.put 1 (el p.fe n).t q e.2.1 (by omega);rw[aA (show(1:az)=1 from rfl),bj]at d;simp only[aY,ax,au,cm,dh,dV,j,aQ,aK,dK,J_ j,bn,d,bj];cases hs:ah (1<=q.size/\q.size<=40)&&ah ((el p.fe n).t.size+q.size<=400)with
  |false=>rfl
  |true=>
   have r:=Es p.fe n 1 [CV.s ((el p.fe n).t++q)] {el p.fe n with t:=(el p.fe n).t++q} j rfl;have k:n<(p.fe.set n {el p.fe n with t:=(el p.fe n).t++q}).length:=by rw[ch];exact j
   have h3:=td.ok {p with fe:=p.fe.set n {el p.fe n with t:=(el p.fe n).t++q}} n 1 k (by rw[ch];omega) (by dsimp only;omega);dsimp only at h3;rw[mm j]at h3;simp only[aY,ax,au,r,h3.1,h3.2];rfl
end D0
namespace zP
open _root_.Go.FG.Lib (rc)
def ok(p:Px)(e:En)(r6 r7:Row)(hp:p.Fit 1048575)(t:So p.en)(d:∀x∈p.en,1<=x.k.size)(hk:e.k.size<=140737488355328):
  c p.now (re p.en) (rs p.w) (rs p.m) (rr p.s) p.a r6 r7 p.hits e.k e.st e.li e.bo=ao/\v p.now (re p.en) (rs p.w) (rs p.m) (rr p.s) p.a r6 r7 p.hits e.k e.st e.li e.bo=(p.now,re (HI p e).en,rs (HI p e).w,rs (HI p e).m,rr (HI p e).s,(HI p e).a,r6,r7,p.hits):=by
 have u:=hp.en;have hw:=hp.w;have hm:=hp.m;obtain⟨f,j,r⟩:=eO.LW p.w p.m p.s p.a e.k;have h1:=eO.ok p.w p.m p.s p.a e.k (by omega) (by omega) ⟨ca hp.s.1 (by omega),λq hq=>ca (hp.s.2.1 q hq) (by omega)⟩ hk;refine out _ _ _ _ _ _ _ _ _ _ _ _ _ ?_;unfold vo b HI iU ng cq p8;generalize eO.val p.w p.m p.s p.a e.k=V at h1 f j r;obtain⟨W,M,T,A,G⟩:=V;dsimp only at h1 f j⊢;have h2:=qC.ok p.en G (by omega);have h3:=tW.ok W M (rr T) A e.k (by omega) (by omega);have hd:=iB.ua p.en G;have h4:=fZ.ok (re (ik p.en G)) e.k e.st e.li e.bo (by rw[dC];omega);rw[iB.sG]at h4;simp only[ic,h1.1,h1.2,h2.1,h2.2,h3.1,h3.2,h4.1,h4.2,au,eP];by_cases o:G=⟨#[]⟩
 ·subst o;rw[iB.drop_nil d]at h4⊢;rw[aA rfl];simp only[aY,ax,h4.1,h4.2,au];cases eV.has W e.k||eV.has M e.k<;>rfl
 ·rw[aD o];simp only[bH,au];cases eV.has W e.k||eV.has M e.k<;>rfl
end zP
namespace D6
open _root_.Go.FG.Lib (rc)
open fA (told)
def ok(p:Px)(f life:az)(hp:p.Fit 1048576):c p.now (re p.en) (rs p.w) (rs p.m) (rr p.s) p.a (rf p.fe) (rc p.cl) p.hits f life=ao/\v p.now (re p.en) (rs p.w) (rs p.m) (rr p.s) p.a (rf p.fe) (rc p.cl) p.hits f life=(p.now,re (cls p f life).1.en,rs (cls p f life).1.w,rs (cls p f life).1.m,rr (cls p f life).1.s,(cls p f life).1.a,rf (cls p f life).1.fe,rc (cls p f life).1.cl,p.hits,(cls p f life).2):=by
 have h1:=lh.ok p hp;have h2:=vp.ok p f hp;have H:=hp.fe;have C:=hp.cl;refine out _ _ _ _ _ _ _ _ _ _ _ ?_;unfold vo b cls jB mB pH nh bY cq db du cC dm dP;simp only[ic,h1.1,h1.2,h2.1,h2.2,au];cases z:yV p f with
 |false=>rfl
 |true=>
  obtain⟨n,rfl,e,j,A⟩:=nQ z;obtain⟨so,ks,_,_,_,_,_,_,_,_,d⟩:=oM.Hv j;have d:=d n e;unfold nz.nN at d;rw[aM]at d;have y:=eO.kr d.1;rw[show kI.v life 0 999999=ah (0<=life/\life<=999999)from fE.eL _ _ _];cases hl:ah (0<=life/\life<=999999)with
  |false=>rfl
  |true=>
   generalize hg:({el p.fe n with sta:=2,li:=life,st:=p.now}:Lib.Fe)=g;have hk:g.k=(el p.fe n).k:=by rw[<-hg]
   have o:g.t=(el p.fe n).t:=by rw[<-hg]
   have r:g.li=life:=by rw[<-hg]
   have gs:g.st=p.now:=by rw[<-hg]
   have u:=Es p.fe n 0 [CV.s (el p.fe n).k,CV.s (el p.fe n).t,CV.i ak 2,CV.i ak life,CV.i ak p.now] g e (by rw[<-hg];rfl);have B:n<(p.fe.set n g).length:=by rw[ch];exact e
   have h3:=td.ok {p with fe:=p.fe.set n g} n 2 B (by rw[ch];omega) (by dsimp only;omega);dsimp only at h3;rw[mm e]at h3;have h4:=zP.ok (told p n g 2) (mS g) (rf (p.fe.set n g)) (rc (told p n g 2).cl) ((yK (oM.jQ j)).le (by omega)) so ks (by show g.k.size<=_;rw[hk];omega);unfold mS at h4;dsimp only[told]at h4;rw[r,gs,hk,o]at h4;unfold mS told;rw[o]at h3;simp only[aY,ax,au,cm,dh,dV,e,aQ,aK,bj,dK,L5 e,J_ e,wf2 e,wf3 e,wf4 e,bO,bn,u,h3.1,h3.2,r,gs,hk,o];cases ah (life>0)with
   |true=>simp only[au,h4.1,h4.2];subst hg;rfl
   |false=>subst hg;rfl
end D6
namespace D7
def ok(k:ar)(s l:az)(a:ar):c k s l a=ao/\v k s l a=J6.val k s l a:=by
 refine out k s l a ?_;have d:=fI.ok (jN.v k s l a).1;unfold vo b J6.val bw;rw[d.1,d.2];unfold jN.v fI.val;by_cases h:gU.v k s l a=ao
 ·have h1:=mP.uC h;have h2:=mP.Cc h;rw[bm h,bm h,bm (by dsimp only;omega)];rfl
 ·rw[bk h,bk h];rfl
end D7
namespace lx
open dJ (put)
def tail(l:aE Fi)(n t:ar)(k:az)(hl:l.length<=1000000)(c0:aE Fi)(e:c0.length<=1000001):
  l9 cw (λ(_:az) (_:Row) (_ _:ar) (_:az) (y:Row)=>ai y) cw 0 (rd l) n t k (rd c0)=ai (rd (c0++l.filter λx=> !(iB.fU x.n n||decide (x.n=n)))):=by
 refine CS l (λx=> !(iB.fU x.n n||decide (x.n=n))) (λm (i:aN) acc=>l9 cw (λ(_:az) (_:Row) (_ _:ar) (_:az) (y:Row)=>ai y) m (i:az) (rd l) n t k (rd acc)) (λacc=>ai (rd acc)) c0
  (λm i acc h d hp=> ?_) (λm i acc h hp=> ?_) (λm acc=> ?_) cw eG
 ·have a:(!(cf (aF l[i].n) (aF n)||decide (l[i].n=n)))=true:=hp;simp only[l9,r9,eA,dh,h,aQ,cm,aK,au,dK,Jv h,VG h,VH h,bn,bO,eP,a,p9,bz,cG h (by omega:l.length<=9223372036854775807),b6 (n:=acc.length+1) (b:=40) (by omega) (by omega),bY,bw];unfold Lib.rd;rw[cT];rfl
 ·have a:(!(cf (aF l[i].n) (aF n)||decide (l[i].n=n)))=false:=hp;simp only[l9,r9,eA,dh,h,aQ,cm,aK,au,ax,dK,Jv h,bn,eP,a,cG h (by omega:l.length<=9223372036854775807),bY,bw]
 ·simp only[l9,r9,eA,dh,bg,bc,ax,bY,bw]
def ok(l:aE Fi)(n t:ar)(k:az)(hl:l.length<=1000000):c (rd l) n t k=ao/\v (rd l) n t k=rd (put l ⟨n,t,k⟩):=by
 refine out _ _ _ _ ?_;unfold vo b bw
 have key:=Nl l (λx=>iB.fU x.n n)
  (λm (i:aN)=>l3 cw (λ(_:az) (z:Row) (j o:ar) (r:az)=>l9 cw (λ(_:az) (_:Row) (_ _:ar) (_:az) (A:Row)=>ai A) cw 0 z j o r ([]++aC (aR [Ck.s,Ck.s,Ck.i ak] 1) 0 [CV.s j,CV.s o,CV.i ak r])) (λ(_:az) (B:Row) (d e:ar) (f:az) (u:Row)=>bif(b_ (bD u+bD (aC (aR [Ck.s,Ck.s,Ck.i ak] 1) 0 [CV.s d,CV.s e,CV.i ak f])) 40)then(l9 cw (λ(_:az) (_:Row) (_ _:ar) (_:az) (C:Row)=>ai C) cw 0 B d e f (u++aC (aR [Ck.s,Ck.s,Ck.i ak] 1) 0 [CV.s d,CV.s e,CV.i ak f]))else(ay)) m (i:az) (rd l) n t k)
  (λm (i:aN) acc=>oJ cw (λ(_:az) (z:Row) (j o:ar) (r:az)=>l9 cw (λ(_:az) (_:Row) (_ _:ar) (_:az) (A:Row)=>ai A) cw 0 z j o r ([]++aC (aR [Ck.s,Ck.s,Ck.i ak] 1) 0 [CV.s j,CV.s o,CV.i ak r])) (λ(_:az) (B:Row) (d e:ar) (f:az) (u:Row)=>bif(b_ (bD u+bD (aC (aR [Ck.s,Ck.s,Ck.i ak] 1) 0 [CV.s d,CV.s e,CV.i ak f])) 40)then(l9 cw (λ(_:az) (_:Row) (_ _:ar) (_:az) (C:Row)=>ai C) cw 0 B d e f (u++aC (aR [Ck.s,Ck.s,Ck.i ak] 1) 0 [CV.s d,CV.s e,CV.i ak f]))else(ay)) m (i:az) (rd l) n t k (rd acc))
  (λacc=>bif b_ (acc.length+1) 40 then l9 cw (λ(_:az) (_:Row) (_ _:ar) (_:az) (y:Row)=>ai y) cw 0 (rd l) n t k (rd (acc++[⟨n,t,k⟩]))else ay)
  (λm i h hp=>by have a:cf (aF l[i].n) (aF n)=true:=hp;simp only[l3,r3,eA,dh,h,aQ,cm,aK,au,dK,Jv h,VG h,VH h,bn,bO,a,p9,cG h (by omega:l.length<=9223372036854775807),bY];rfl)
  (λm i h hp=>by have a:cf (aF l[i].n) (aF n)=false:=hp;simp only[l3,r3,eA,dh,h,aQ,cm,aK,au,ax,dK,Jv h,bn,a,cG h (by omega:l.length<=9223372036854775807),bY])
  (λm=>by simp only[l3,r3,eA,dh,bg,bc,ax,bY];rw[b6 (by simp) (by simp),au];rfl)
  (λm i acc h H hp=>by have a:cf (aF l[i].n) (aF n)=true:=hp;simp only[oJ,vC,eA,dh,h,aQ,cm,aK,au,dK,Jv h,VG h,VH h,bn,bO,a,p9,bz,cG h (by omega:l.length<=9223372036854775807),b6 (n:=acc.length+1) (b:=40) (by omega) (by omega),bY,bw];unfold Lib.rd;rw[cT];rfl)
  (λm i acc h hp=>by have a:cf (aF l[i].n) (aF n)=false:=hp;simp only[oJ,vC,eA,dh,h,aQ,cm,aK,au,ax,dK,Jv h,bn,a,cG h (by omega:l.length<=9223372036854775807),bY,bw])
  (λm acc=>by simp only[oJ,vC,eA,dh,bg,bc,ax,p9,bz,bY,bw];unfold Lib.rd;rw[cT];rfl) cw eG
 refine key.trans ?_;have K:=eD (λx:Fi=>iB.fU x.n n) l;rw[b6 (by omega) (by omega),au,tail l n t k hl _ (by simp;omega)];unfold put;rw[cg]
end lx
namespace mI
open dJ (without)
def ok(l:aE Fi)(n:ar)(hl:l.length<=1000000):c (rd l) n=ao/\v (rd l) n=rd (without l n):=by
 refine out _ _ ?_;unfold vo b
 have key:=Nl l (λx=> !decide (x.n=n))
  (λm (i:aN)=>l3 cw (λ(_:ar) (_:az) (_:Row)=>ai ([]:Row)) (λ(_:ar) (_:az) (_:Row) (a:Row)=>ai a) m n (i:az) (rd l))
  (λm (i:aN) acc=>oJ cw (λ(_:ar) (_:az) (_:Row)=>ai ([]:Row)) (λ(_:ar) (_:az) (_:Row) (a:Row)=>ai a) m n (i:az) (rd l) (rd acc)) (λacc=>ai (rd acc))
  (λm i h hp=>by simp only[l3,r3,eA,dh,h,aQ,cm,aK,au,dK,Jv h,VG h,VH h,bn,bO,eP,hp,p9,cG h (by omega:l.length<=9223372036854775807),bY];rfl)
  (λm i h hp=>by simp only[l3,r3,eA,dh,h,aQ,cm,aK,au,ax,dK,Jv h,bn,eP,hp,cG h (by omega:l.length<=9223372036854775807),bY])
  (λm=>by simp only[l3,r3,eA,dh,bg,bc,ax,bY];rfl)
  (λm i acc h d hp=>by simp only[oJ,vC,eA,dh,h,aQ,cm,aK,au,dK,Jv h,VG h,VH h,bn,bO,eP,hp,p9,bz,cG h (by omega:l.length<=9223372036854775807),b6 (n:=acc.length+1) (b:=40) (by omega) (by omega),bY,bw];unfold Lib.rd;rw[cT];rfl)
  (λm i acc h hp=>by simp only[oJ,vC,eA,dh,h,aQ,cm,aK,au,ax,dK,Jv h,bn,eP,hp,cG h (by omega:l.length<=9223372036854775807),bY,bw])
  (λm acc=>by simp only[oJ,vC,eA,dh,bg,bc,ax,bY,bw]) cw eG
 exact key
end mI
namespace Cv
open dJ (without put act)
open sf (res)
def Yt(d:aE Fi)(h:d.length<=1000000):fT.c (rd d)=ao/\fT.v (rd d)=vO d:=fT.ok (rd d) (by rw[eA];omega)
def nm(n:ar):wm.v n=ah (1<=(n.size:az)/\(n.size:az)<=8):=fT.mW _ _ _
def To{k:az}(h:¬(1<=(n.size:az)/\(n.size:az)<=8)):vO (put l ⟨n,t,k⟩)=false:=by
 cases hk:vO (put l ⟨n,t,k⟩)with
 |false=>rfl
 |true=>have:=(lB.1 hk).2.1 ⟨n,t,k⟩ (dJ.qs.2 (.inl rfl));unfold dJ.nN at this;simp only[aM,ba]at this;exact cO this.1 h
def ok(l:aE Fi)(k:az)(n t o:ar)(hl:l.length<=1000)(ht:t.size<=2305843009213693952):c (rd l) k n t o=ao/\v (rd l) k n t o=res (act l k n t o):=by
 refine out _ _ _ _ _ ?_;unfold vo b h0 bw iU j7 bY kE;have h1:=kV.ok (rd l) n (by rw[eA];omega);have h2:=Yt l (by omega);rw[h2.1,h2.2,au];unfold act;cases hk:vO l with
 |false=>rfl
 |true=>
 rw[aY,ax,bj,nm];obtain⟨q1,q2,q3⟩:=lB.1 hk;have V:∀f∈l,(1<=(f.n.size:az)/\(f.n.size:az)<=8)/\(f.t.size:az)<=20000/\f.kp<=(f.t.size:az):=λf U=>by have:=q2 f U;unfold dJ.nN at this;simp only[aM,ba,di,eZ]at this;omega
 by_cases B:1<=(n.size:az)/\(n.size:az)<=8;case neg=>
  rw[aD B,bH,au]
  have N:l.find? (λx=>ah (x.n=n))=none:=by rw[V1];intro x hx;have:=(V x hx).1;simp only[ba];intro e;rw[e]at this;exact B this
  cases dJ.km k t o with
  |false=>rfl
  |true=>
   rw[au];unfold Jk;rw[N];by_cases s:k=1
   ·rw[bm s];dsimp only;rw[To B];rfl
   ·rw[bk s];rfl
 rw[aA B,aY,ax,eP,eP,h1.1,h1.2,au,eA];unfold ic;by_cases a:k=3\/o=⟨#[]⟩
 case neg=>
  rw[not_or]at a
  have:dJ.km k t o=false:=by unfold dJ.km;rw[aD a.1,aD a.2];simp
  rw[this,show(k !=3)=ao from bne_iff_ne.2 a.1,au,aD a.2];rfl
 by_cases j:k=1\/t=⟨#[]⟩
 case neg=>
  rw[not_or]at j
  have:dJ.km k t o=false:=by unfold dJ.km;rw[aD j.1,aD j.2];simp
  rw[this,show(k !=1)=ao from bne_iff_ne.2 j.1,au,aD j.2]
  rcases a with a|a
  ·subst a;rfl
  ·rw[aA a];cases (k !=3)<;>rfl
 have r:∀x:aG (Row×aZ),(bif k !=3 then(bif !decide (o=⟨#[]⟩)then ai (([]:Row),aq)else(bif k !=1 then(bif !decide (t=⟨#[]⟩)then ai ([],aq)else x)else x))else(bif k !=1 then(bif !decide (t=⟨#[]⟩)then ai ([],aq)else x)else x))=x:=λx=>by
  rcases a with a|a<;>rcases j with j|j
  ·omega
  ·subst a;rw[aA j];rfl
  ·subst j;rw[aA a];rfl
  ·rw[aA a,aA j];cases (k !=3)<;>cases (k !=1)<;>rfl
 have H:=λ(m:aE Fi) (h5:m.length<=1000) (n t:ar) (k:az)=>lx.ok m n t k (by omega);have C:=mI.ok l n (by omega);have h7:=dJ.L6 l n;have pl:=λ(m:aE Fi) (f:Fi) (hm:m.length<=1000)=>Yt (put m f) (ca (dJ.sF f) (by omega));have fin:∀d:aE Fi,(bif !vO d then ai (([]:Row),aq)else ai (rd d,ao))=ai (res (bif vO d then ai d else ay)):=λd=>by cases vO d<;>rfl
 by_cases z:1<=k/\k<=4;case neg=>
  have M:dJ.km k t o=false:=by unfold dJ.km;rw[aD z];rfl
  rw[M]
  refine(r _).trans ?_
  rcases sf.find l n with ⟨u,y⟩|⟨i,hi,u,y⟩
  ·rw[u,aD (show¬k=1 by omega)];rfl
  ·rw[u];dsimp only;rw[aD (show¬k=1 by omega),aD (show¬k=2 by omega),aD (show¬k=3 by omega),aD (show¬k=4 by omega),aD (show¬((i:aN):az)<0 by omega),aA (show((i:aN):az)≥0 by omega)];simp only[dh,hi,aQ,aK,bj,au,ax];rfl
 have M:dJ.km k t o=true:=by unfold dJ.km;rw[aA z,bj,aM,dN,dN,ba,ba,ba,ba];exact⟨j.symm,a.symm⟩
 rw[M,au];refine(r _).trans ?_;unfold Jk;rcases sf.find l n with ⟨u,y⟩|⟨i,hi,u,y⟩
 ·rw[u,y];dsimp only;by_cases s:k=1
  ·subst s;have p:=H l hl n (⟨#[]⟩++t) 0;have d:=pl l ⟨n,⟨#[]⟩++t,0⟩ hl;have X:(⟨#[]⟩:ar)++t=t:=lO;rw[show ah ((-1:az)≥0)=aq from rfl,ax,aA (show(1:az)=1 from rfl),au,aA (show(⟨#[]⟩:ar).size+t.size<=4611686018427387904 from by rw[show(⟨#[]⟩:ar).size=0 from rfl];omega),au,p.1,p.2,au,d.1,d.2,au,fin,X];rfl
  ·rw[show ah ((-1:az)≥0)=aq from rfl,ax,aD s,ax,bk s];rfl
 ·have U:(el l i).n=n:=by have:=FY y;exact cB this
  have Y:=V _ (iY hi);rw[u,y];dsimp only;rw[aD (show¬((i:aN):az)<0 by omega),aA (show((i:aN):az)≥0 by omega),au];simp only[dh,hi,aQ,dK,wd0 hi,wd1 hi,wd2 hi,bn,bO,aK,bj,au,ax];by_cases s:k=1
  ·subst s;have p:=H l hl (el l i).n ((el l i).t++t) (el l i).kp;have d:=pl l ⟨(el l i).n,(el l i).t++t,(el l i).kp⟩ hl;rw[aA (show(1:az)=1 from rfl),au,aA (show(el l i).t.size+t.size<=4611686018427387904 by omega),au,p.1,p.2,au,d.1,d.2,au,fin];rfl
  rw[aD s,ax,bk s];by_cases O:k=2
  ·subst O;have p:=H l hl (el l i).n (el l i).t ((el l i).t.size:az);have d:=pl l ⟨(el l i).n,(el l i).t,((el l i).t.size:az)⟩ hl;rw[aA (show(2:az)=2 from rfl),au,p.1,p.2,au,d.1,d.2,au,fin];rfl
  rw[aD O,ax,bk O];by_cases P:k=3
  ·subst P;rw[aA (show(3:az)=3 from rfl),au,bm rfl];by_cases S:(el l i).kp=((el l i).t.size:az)
   ·rw[aD (show¬(el l i).kp<((el l i).t.size:az)by omega),ax,eP,nm];by_cases A:o=n
    ·rw[aA A,au,bm (.inr A)];rfl
    ·rw[aD A,ax,bk (by rintro (h|h);exact h S;exact A h)];by_cases K:1<=(o.size:az)/\(o.size:az)<=8
     ·have p:=H (without l n) (by omega) o (el l i).t (el l i).kp;have d:=pl (without l n) ⟨o,(el l i).t,(el l i).kp⟩ (by omega);rw[aA K,aY,ax,C.1,C.2,au,p.1,p.2,au,d.1,d.2,au,fin]
     ·rw[aD K];dsimp only;rw[To K];rfl
   ·rw[aA (show(el l i).kp<((el l i).t.size:az)by omega),au,bm (.inl S)];rfl
  rw[aD P,ax,bk P];have k4:k=4:=by omega
  subst k4;have d:=Yt (without l n) (by omega);rw[aA (show(4:az)=4 from rfl),au,C.1,C.2,au,d.1,d.2,au,fin]
end Cv
namespace qD
open dJ (ko act)
def ok(l:aE Fi)(a:aE Ac)(hl:l.length<=1000)(N:a.length<=1000000)(C:∀x∈a,x.t.size<=2305843009213693952):c (rd l) (ra a)=ao/\v (rd l) (ra a)=(rd (ko l 0 a).1,((ko l 0 a).2:az)):=by
 refine out _ _ ?_;unfold vo b bw;rw[fa,eA,b6 (by omega) (by omega),au,show aR [Ck.s,Ck.s,Ck.i ak] 0++rd l=rd l from rfl]
 have key:∀(d i n:aN) (z:az) (l:aE Fi),a.length-i<=d->i<=a.length->l.length<=1000->d<n->
   l3 cw (λ(_:Row) (H _:az) (K:Row)=>ai (K,H)) (λ(M:Row) (_ _:az) (r:Row)=>ai (r,(↑(bD M):az))) n (ra a) z (i:az) (rd l)=ai (rd (ko l i (a.drop i)).1,((ko l i (a.drop i)).2:az)):=by
  intro d
  induction d with
  |zero=>
   intro i n z l y A u B;obtain⟨n,rfl⟩:∃j,n=j+1:=⟨n-1,by omega⟩
   have:i=a.length:=by omega
   subst this;simp only[l3,r3,dh,bg,bc,ax,sH,c_,ko,bY,bw]
  |succ d ih=>
   intro i n z l y A u B;obtain⟨n,rfl⟩:∃j,n=j+1:=⟨n-1,by omega⟩
   by_cases hi:i<a.length
   ·have hd:=Cv.ok l (el a i).k (el a i).n (el a i).t (el a i).o u (C _ (iY hi));simp only[l3,r3,dh,sH,hi,aQ,cm,aK,au,dK,wa0 hi,wa1 hi,wa2 hi,wa3 hi,bn,bO,hd.1,hd.2,cG hi (by omega:a.length<=9223372036854775807),bY,bw];rw[cJ hi,<-e7 hi];unfold ko;cases f:act l (el a i).k (el a i).n (el a i).t (el a i).o with
    |none=>rfl
    |some e=>have:=(BQ f).2;exact ih (i+1) n z e (by omega) hi (by omega) (by omega)
   ·have:i=a.length:=by omega
    subst this;simp only[l3,r3,dh,bg,bc,ax,sH,c_,ko,bY,bw]
 exact key a.length 0 cw 0 l (by omega) (bB _) hl eG
end qD
namespace D3
open _root_.Go.FG.Lib (rc)
open lj (dk es)
open dY (ri jQ)
def ok{i:aN}(h:Bk i w)(hi:i<=71)(k id:az)(t:ar)(nn:az)(left:Row)(h0:0<=nn):c w.p.now (re w.p.en) (rs w.p.w) (rs w.p.m) (rr w.p.s) w.p.a (rf w.p.fe) (rc w.p.cl) w.p.hits (rd (dk w.o)) (ri w.cd) (re w.bd) k id t nn left=ao/\v w.p.now (re w.p.en) (rs w.p.w) (rs w.p.m) (rr w.p.s) w.p.a (rf w.p.fe) (rc w.p.cl) w.p.hits (rd (dk w.o)) (ri w.cd) (re w.bd) k id t nn left=((closed w id (nn%1000000)).2,Cx (closed w id (nn%1000000)).1):=by
 refine out _ _ _ _ _ _ _ _ _ _ _ _ _ _ _ _ _ ?_;have hl:0<=nn%1000000/\nn%1000000<=999999:=by omega
 have hm:bQ nn 1000000=nn%1000000:=dO h0;have P:=h.bd;have V:=h.tx hi;have S:=lj.CL w.o;have A:=D6.ok w.p id (nn%1000000) (jQ h.px);obtain⟨H,K⟩:=mh.KE (f:=id) h.px hl;obtain⟨s1,M⟩:=wM.IK (p:=w.p) (f:=id) (life:=nn%1000000);have j:=jQ H;unfold vo b mB iU j7 bY bw cq db du cC dm je tn;rw[hm];generalize nn%1000000=life at*
 rw[A.1,au,A.2,dY.lt_eq];unfold closed Cx;dsimp only;rw[<-s1,<-M];generalize cls w.p id life=Q at H K s1 M j;obtain⟨q,ok⟩:=Q;dsimp only at H K s1 M j⊢;rcases K with ⟨r1,r2⟩|⟨r1,n,X,O,u,Y,rl⟩
 ·subst r1;rfl
 subst r1;rw[au,bj];by_cases hz:life=0
 ·rw[aD (show¬life>0 by omega)];rfl
 rw[aA (show life>0 by omega),au,au];obtain⟨t1,t2⟩:=rl (by omega);have d:n<q.fe.length:=by rw[u,ch];exact O
 have z:el q.fe n={el w.p.fe n with sta:=2,li:=life,st:=w.p.now}:=by rw[u,fA.mm O]
 subst X;rw[dX];have C:=D7.ok (el q.fe n).k (el q.fe n).st (el q.fe n).li (el q.fe n).t;have hE:gU.v (el q.fe n).k (el q.fe n).st (el q.fe n).li (el q.fe n).t=true:=by rw[z];exact t1
 have U:=mh.KV (e:=mS (el q.fe n)) hE;rw[J6.val,bm hE,show J6.ko (fI.fr (jN.tu (el q.fe n).k (el q.fe n).st (el q.fe n).li (el q.fe n).t))=dJ.ra (iV.rk (iV.I6 (mS (el q.fe n))))from rfl]at C;have D:=qD.ok (dk w.o) (iV.rk (iV.I6 (mS (el q.fe n)))) (by omega) (by unfold iV.rk;simp) (λx B=>by
  unfold iV.rk at B;simp only[cF,lQ,or_false]at B;rcases B with rfl|rfl
  ·show(iV.I6 (mS (el q.fe n))).size<=_;omega
  ·exact bB _)
 rw[lj.Nd (by omega)]at D;have room:∀y,b_ ((re w.bd).length+(aC (aR [Ck.s,Ck.i ak,Ck.i ak,Ck.s] 1) 0 y).length) 48=true:=λy=>by rw[dC,dY.nP];exact b6 (by omega) (by omega)
 have N:=FA w.bd (mS (el q.fe n));unfold mS at N C D;dsimp only at N;have r:b_ ((aR [Ck.s,Ck.i ak,Ck.i ak,Ck.s] 0).length+(re w.bd).length) 48=true:=by rw[dC];exact b6 (by show(0+w.bd.length)*48<=_;omega) (by show 0+w.bd.length<=_;omega)
 simp only[dY.lt_eq,dY.aoo,r,dV,dh,d,aQ,cm,aK,au,dK,L5 d,J_ d,wf3 d,wf4 d,bn,bO,C.1,C.2,D.1,D.2,room,N,show mS (el q.fe n)=⟨(el q.fe n).k,(el q.fe n).st,(el q.fe n).li,(el q.fe n).t⟩from rfl];rfl
end D3
namespace D4
open _root_.Go.FG.Lib (rc)
open fA (told)
def ok(p:Px)(f:az)(hp:p.Fit 1048576):c p.now (re p.en) (rs p.w) (rs p.m) (rr p.s) p.a (rf p.fe) (rc p.cl) p.hits f=ao/\v p.now (re p.en) (rs p.w) (rs p.m) (rr p.s) p.a (rf p.fe) (rc p.cl) p.hits f=(p.now,re p.en,rs p.w,rs p.m,rr p.s,p.a,rf (GW p f).1.fe,rc (GW p f).1.cl,p.hits,(GW p f).2):=by
 have h1:=lh.ok p hp;have h2:=vp.ok p f hp;have r:=hp.fe;have o:=hp.cl;refine out _ _ _ _ _ _ _ _ _ _ ?_;unfold vo b GW jB mB nh bY cq db du cC dm dP;simp only[ic,h1.1,h1.2,h2.1,h2.2,au];cases k:yV p f with
 |false=>rfl
 |true=>
  obtain⟨n,rfl,d,_,_⟩:=nQ k;have j:=Es p.fe n 2 [CV.i ak 3] {el p.fe n with sta:=3} d rfl;have e:n<(p.fe.set n {el p.fe n with sta:=3}).length:=by rw[ch];exact d
  have h3:=td.ok {p with fe:=p.fe.set n {el p.fe n with sta:=3}} n 3 e (by rw[ch];omega) (by dsimp only;omega);dsimp only at h3;rw[mm d]at h3;simp only[aY,ax,au,cm,dh,dV,d,aQ,aK,dK,j,h3.1,h3.2];rfl
end D4
namespace xJ
open lj (dk es)
open iV (tx base)
def one(f:Fi)(left:Row)(h:vO [f]=ao)(hk:f.kp=(f.t.size:az)):c (rd [f]) left=ao/\v (rd [f]) left=(rd [f],ao):=by
 have h1:=fT.ok (rd [f]) (by rw[eA];simp);refine out _ _ ?_;unfold vo b bw;rw[h1.1,au,h1.2,show fT.val (rd [f])=ao from h,aY,ax];have h0:0<[f].length:=by simp
 have c0:av (rd [f]) 0 0=CV.s f.n:=wd0 (l:=[f]) h0;have k:av (rd [f]) 0 1=CV.s f.t:=wd1 (l:=[f]) h0;have o:av (rd [f]) 0 (1+1)=CV.i ak f.kp:=wd2 (l:=[f]) h0;have j:gA 0 (f.t.size:az) (f.t.size:az)=true:=by simp[gA]
 have ex:bx f.t 0 (aP (f.t.size:az))=f.t:=sn f.t;have w1:bA (0+1)=1:=rfl;have L:(rd [f]).length=1:=rfl;have step:∀(N m:aN),l5 cw (λ_ _ _=>ai (([]:Row),ao)) (λ_ _ _ d=>ai (d,ao)) (m+1) left 0 (rd [f])=l5a cw (λ_ _ _=>ai (([]:Row),ao)) (λ_ _ _ d=>ai (d,ao)) m left 1 (rd [f]) (rd [f]):=by
  intro N m;have u:aP 0=0:=rfl;simp only[l5,r5,L,u,bY,bw];generalize bO (av left 0 0)=z;simp only[c0,k,o,bn,bO,hk,j,ex,w1];rw[show ah ((0:az)<((1:aN):az))=ao from rfl,au,show(ah ((0:az)<=0)&&ao)=ao from rfl,au];have fin:([]++aC (aR [Ck.s,Ck.s,Ck.i ak] 1) 0 [CV.s f.n,CV.s f.t,CV.i ak (f.t.size:az)]:Row)=rd [f]:=by
   unfold Lib.rd;rw[eR];show [[CV.s f.n,CV.s f.t,CV.i ak (f.t.size:az)]]=[Fi.row f]
   unfold Fi.row;rw[hk]
  simp only[fin];by_cases hl:(0:az)<(left.length:az)
  ·simp only[aA hl,au,show ah ((0:az)<=0)=ao from rfl,aK];by_cases a:z>(f.t.size:az)
   ·simp only[aA a,au,aD (show¬(f.t.size:az)<(f.t.size:az)by omega),ax]
   ·by_cases b:z<(f.t.size:az)
    ·simp only[aD a,ax,aA b,au,bw]
    ·have e:z=(f.t.size:az):=by omega
     simp only[aD a,ax,aD b,e,j,ex,fin,au,show ah ((f.t.size:az)<(f.t.size:az))=aq from p6,show ah ((f.t.size:az)>(f.t.size:az))=aq from p6,bw]
  ·simp only[aD hl,ax,au,aD (show¬(f.t.size:az)<(f.t.size:az)by omega)];try rw[aD (show¬(0:az)>(f.t.size:az)by omega),ax]
   by_cases b:(0:az)<(f.t.size:az)
   ·rw[aA b,au]
   ·rw[aD b,ax];have e:(f.t.size:az)=0:=by omega
    rw[e]at ex fin;rw[show(0:az).toNat=0 from rfl]at ex;rw[ex,fin]
 have last:∀(m:aN),l5a cw (λ_ _ _=>ai (([]:Row),ao)) (λ_ _ _ d=>ai (d,ao)) (m+1) left 1 (rd [f]) (rd [f])=ai (rd [f],ao):=by intro m;simp only[l5a,r5a,L,show ah ((1:az)<((1:aN):az))=aq from rfl,ax,bY,bw]
 obtain⟨n,r⟩:∃n,cw=n+2:=⟨cw-2,by have:=mX (n:=2) (by omega);omega⟩
 have key:∀N,N=n+2->l5 cw (λ_ _ _=>ai (([]:Row),ao)) (λ_ _ _ d=>ai (d,ao)) N left 0 (rd [f])=ai (rd [f],ao):=by rintro N rfl;rw[step cw (n+1),last n]
 exact key _ r
def ok(h:(tx (es o)).size<=20000)(left:Row):c (rd (dk o)) left=ao/\v (rd (dk o)) left=(rd (dk o),ao):=by
 cases o with
 |some l=>exact one _ left (lj.IP h) rfl
 |none=>
  have hd:vO []=true:=lj.IP (o:=ay) h;have h1:=fT.ok (rd []) (by rw[eA];simp);refine out _ _ ?_;unfold vo b bw;show(bif fT.c (rd [])then bif !fT.v (rd [])then _ else l5 cw _ _ cw left 0 (rd [])else ay)=_;rw[h1.1,au,h1.2,show fT.val (rd [])=ao from hd,aY,ax];obtain⟨n,d⟩:∃n,cw=n+1:=⟨cw-1,by have:=mX (n:=1) (by omega);omega⟩
  have key:∀N,N=n+1->l5 cw (λ_ _ _=>ai (([]:Row),ao)) (λ_ _ _ a=>ai (a,ao)) N left 0 (rd [])=ai (rd [],ao):=by rintro N rfl;rfl
  exact key _ d
end xJ
namespace n5
open _root_.Go.FG.Lib (rc)
open fV (tC one)
def ok(now:az)(l:aE En)(hl:l.length<=1048576):
  c now (re l)=ao/\v now (re l)=(now,re (tD now l).en,rs (tD now l).w,rs (tD now l).m,rr (tD now l).s,(tD now l).a,[],[],0):=by
 refine out _ _ ?_;unfold vo b;have key:=iz l.length (λn (i:aN) (p:Px)=>l4 cw (λ(_:az) (_:Row) (_ _ _ _ f j o:az) (r t u y z A:Row)=>ai (f,r,t,u,y,j,z,A,o)) n now (re l) (i:az) 0 0 0 now p.a 0 (re p.en) (rs p.w) (rs p.m) (rr p.s) [] []) (λi=>tD now (l.take i)) (ai (now,re (tD now l).en,rs (tD now l).w,rs (tD now l).m,rr (tD now l).s,(tD now l).a,[],[],0)) (λn i hi=>by
  have I:=ui now l i (by omega);have hs:=yz now l i hi;generalize tD now (l.take i)=p at I hs;rw[hs];unfold one;have hw:bA ((i:az)+1)=((i+1:aN):az):=cG hi (by omega);have d:vm.v (el l i).k (el l i).st (el l i).li (el l i).bo now=tC (el l i) now:=(vm.eq _ _ _ _ _).symm;cases e:tC (el l i) now with
  |false=>
   rw[e]at d;cases hq:gU.v (el l i).k (el l i).st (el l i).li (el l i).bo with
   |false=>simp only[l4,r4,dC,dh,hi,aQ,cm,aK,au,dK,rJ hi,wG hi,wH hi,wI hi,bn,bO,hq,ax,hw,pH,bY,cq,db,du,cC,dm,dP]
   |true=>simp only[l4,r4,dC,dh,hi,aQ,cm,aK,au,dK,rJ hi,wG hi,wH hi,wI hi,bn,bO,hq,d,ax,hw,pH,bY,cq,db,du,cC,dm,dP]
  |true=>rw[e]at d;have hq:=zZ e;have hk:=(gU.DT hq).1;have h4:=zP.ok p (el l i) [] [] (I.fit (by omega) (by omega)) I.so I.ks (by omega);rw[I.now,I.hits]at h4;simp only[l4,r4,ic,dC,dh,hi,aQ,cm,aK,au,dK,rJ hi,wG hi,wH hi,wI hi,bn,bO,hq,d,h4.1,h4.2,hw,pH,bY,cq,db,du,cC,dm,dP]) (λn=>by
  simp only[l4,r4,dC,dh,bg,bc,ax,cR,pH,bY,cq,db,du,cC,dm,dP]) cw 0 (bB _) eG
 exact key
end n5
namespace xF
open _root_.Go.FG.Lib (rc)
open lj (dk es)
open dY (ri jQ)
def walk(N:aN)(L:aE En)(A:L.length<=1048576)(z:L.length<N)(K0 K1:az->az->az->az->Row->Row->Row->Row->Row->Row->Row->Row->Row->Row->Row->aG R)(now a5 f:az)(j k o r s t u a d:Row):
  l7 N K0 K1 N 0 now a5 f (re L) (re []) j k o r s t u a d=K0 (L.length:az) now a5 f (re L) (re (L.filter λe=>fV.tC e now)) j k o r s t u a d:=by
 have hw:∀i,i<L.length->bA ((i:az)+1)=((i+1:aN):az):=λi h=>cG h (by omega)
 have key:=CS L (λe=>fV.tC e now) (λm (i:aN) acc=>l7 N K0 K1 m (i:az) now a5 f (re L) (re acc) j k o r s t u a d) (λacc=>K0 (L.length:az) now a5 f (re L) (re acc) j k o r s t u a d) []
  (λm i acc hi y hp=>by rw[<-e7 hi]at hp⊢;unfold fV.tC at hp;rw[vm.eq]at hp;simp only[l7,r7,dC,dh,hi,aQ,cm,aK,au,dK,rJ hi,wG hi,wH hi,wI hi,bn,bO,hp,hw i hi,dY.nP,dY.FA,bY,bw];rw[b6 (by simp at y;omega) (by simp at y;omega),au])
  (λm i acc hi hp=>by rw[<-e7 hi]at hp;unfold fV.tC at hp;rw[vm.eq]at hp;simp only[l7,r7,dC,dh,hi,aQ,cm,aK,au,dK,rJ hi,wG hi,wH hi,wI hi,bn,bO,hp,hw i hi,ax,bY,bw])
  (λm acc=>by simp only[l7,r7,dC,dh,bg,bc,ax,bY,bw])
  N z
 exact key
def ok{i:aN}(h:Bk i w)(hi:i<=71)(k id:az)(t:ar)(n:az)(left:Row):c w.p.now (re w.p.en) (rs w.p.w) (rs w.p.m) (rr w.p.s) w.p.a (rf w.p.fe) (rc w.p.cl) w.p.hits (rd (dk w.o)) (ri w.cd) (re w.bd) k id t n left=ao/\v w.p.now (re w.p.en) (rs w.p.w) (rs w.p.m) (rr w.p.s) w.p.a (rf w.p.fe) (rc w.p.cl) w.p.hits (rd (dk w.o)) (ri w.cd) (re w.bd) k id t n left=Cx (I0 w):=by
 refine out _ _ _ _ _ _ _ _ _ _ _ _ _ _ _ _ _ ?_;have P:=h.tx hi;have z:=h.len hi;have H:=lj.CL w.o;have A:=xJ.ok (o:=w.o) (by omega) left;have B:=(lj.ZP (o:=w.o) (by omega) h.eo).2;have M:=iV.K_ (es w.o);have y:=mh.G9 h.eo;have K:=mh.CX w;have O:=mh.U' _ y;have C:=jM.ok (rd (dk w.o)) (re (oa w)) (by rw[eA];omega) (by rw[dC];omega);rw[lj.ZO (by omega) y]at C;have D:=qD.ok (dk w.o) (pe.sU (iV.tx (oa w))) (by omega) (by unfold pe.sU;simp) (λx r=>by
  unfold pe.sU at r;simp only[cF,lQ,or_false]at r;rcases r with rfl|rfl|rfl
  ·show(iV.tx (oa w)).size<=_;omega
  ·exact bB _
  ·exact bB _)
 rw[lj.Nc (by omega) (by omega)]at D;have E:=n5.ok w.p.now (oa w) (by omega);unfold vo;generalize u:cw=N;have j:(iV.kp (es w.o)).length<N:=by rw[<-u];exact eG
 clear u;unfold b gb iU cq db du cC dm dP;rw[A.1,au,A.2,dY.lt_eq];rw[show(rd (dk w.o),ao).2=ao from rfl,au,show(rd (dk w.o),ao).1=rd (dk w.o)from rfl];rw[B.1,au,B.2,dY.lt_eq,show aR [Ck.s,Ck.i ak,Ck.i ak,Ck.s] 0=re []from rfl,walk N (iV.kp (es w.o)) (by omega) j];have e:((f:aE En)->f=iV.kp (es w.o)->f.filter (λe=>fV.tC e w.p.now)=oa w):=λ_ h=>by subst h;rfl
 rw[e _ rfl];simp only[dY.lt_eq,C.1,C.2,D.1,D.2,E.1,E.2,au];have d:=fV.ui w.p.now (oa w) (oa w).length (bW _);rw[cR]at d;unfold Cx I0;dsimp only;rw[d.now,d.fe,d.cl,d.hits];rfl
end xF
namespace VA
open _root_.Go.FG.Lib (rc)
open lj (dk es)
open dY (ri jQ)
def fl(b:aZ):Bg.v b=flag b:=by cases b<;>rfl
def left(l:aE Lib.Cl)(id:az):ah ((((l.filter λc=> !decide (c.id=id)).length:aN):az)<(l.length:az))=gH.oc l id:=by
 unfold gH.oc;cases h:l.any λx=>ah (x.id=id)with
 |true=>
  obtain⟨x,a,hp⟩:=List.any_eq_true.1 h;have:(l.filter λc=> !decide (c.id=id)).length<l.length:=by rw[List.length_filter_lt_length_iff_exists];exact⟨x,a,by simpa using hp⟩
  exact aA (by omega)
 |false=>
  rw[ZC]at h;have:l.filter (λc=> !decide (c.id=id))=l:=ka.2 λx a=>by have:=h x a;simpa using this
  rw[this];exact aD (by omega)
def ok{i:aN}(h:Bk i w)(hi:i<=71)(f:il e=ao):c w.p.now (re w.p.en) (rs w.p.w) (rs w.p.m) (rr w.p.s) w.p.a (rf w.p.fe) (rc w.p.cl) w.p.hits (rd (dk w.o)) (ri w.cd) (re w.bd) e.k e.id e.t e.n e.l=ao/\v w.p.now (re w.p.en) (rs w.p.w) (rs w.p.m) (rr w.p.s) w.p.a (rf w.p.fe) (rc w.p.cl) w.p.hits (rd (dk w.o)) (ri w.cd) (re w.bd) e.k e.id e.t e.n e.l=((iN.act w e).2,Cx (iN.act w e).1):=by
 unfold il at f;simp only[aM,ba]at f;obtain⟨hk,hid,C,B,hl⟩:=f;have hp:=jQ h.px;refine out _ _ _ _ _ _ _ _ _ _ _ _ _ _ _ _ _ ?_;unfold vo b iN.act jB mB pI jC mC cq db du cC dm je ni q9 ue dP tn;by_cases r:e.k=1
 ·rw[aA r,au];have A:=xE.ok w.p e.id e.t hp (by omega);rw[A.1,au,A.2,dY.lt_eq];try rfl
 rw[aD r,ax,ax];by_cases u:e.k=2
 ·rw[aA u,au];have A:=D0.ok w.p e.id e.t hp;rw[A.1,au,A.2,dY.lt_eq,fl];unfold Cx fA.Ht;cases fA.yV w.p e.id&&(ah (1<=e.t.size/\e.t.size<=40)&&ah ((el w.p.fe e.id.toNat).t.size+e.t.size<=400))<;>rfl
 rw[aD u,ax,ax];by_cases d:e.k=3
 ·rw[aA d,au];have A:=D3.ok h hi e.k e.id e.t e.n e.l B;rw[d]at A;rw[d,A.1,au,A.2,dY.lt_eq];try rfl
 rw[aD d,ax,ax];by_cases k4:e.k=4
 ·rw[aA k4,au];have A:=D4.ok w.p e.id hp;rw[A.1,au,A.2,dY.lt_eq,fl];unfold Cx fA.GW;cases fA.yV w.p e.id<;>rfl
 rw[aD k4,ax,ax];by_cases y:e.k=5
 ·rw[aA y,au];have A:=se.ok w.p e.n hp;rw[A.1,au,A.2,dY.lt_eq];try rfl
 rw[aD y,ax,ax];by_cases z:e.k=6
 ·rw[aA z,au];have A:=vi.ok w.p e.id hp;rw[A.1,au,A.2,dY.lt_eq,fl];dsimp only;rw[eQ,eQ,show(vi.val w.p e.id).cl=w.p.cl.filter (λc=> !decide (c.id=e.id))from rfl,left];try rfl
 rw[aD z,ax,ax];have j:e.k=7:=by omega
 rw[aA j,au];have A:=xF.ok h hi e.k e.id e.t e.n e.l;rw[j]at A;rw[j,A.1,au,A.2,dY.lt_eq];try rfl
end VA
namespace GN
open _root_.Go.FG.Lib (rc)
open lj (dk es)
open dY (ri jQ)
def R6(w:Wo)(e:Ev):(iN.act w e).1.cd=w.cd:=by
 unfold iN.act closed;cases ah (e.k=1)<;>cases ah (e.k=2)<;>cases ah (e.k=3)<;>cases ah (e.k=4)<;>cases ah (e.k=5)<;>cases ah (e.k=6)<;>(try rfl)
 all_goals
  dsimp only[au,ax]
  cases (wM.cls w.p e.id (e.n%1000000)).2&&ah (e.n%1000000>0)<;>rfl
def ok{i:aN}(h:Bk i w)(hi:i<=71)(j:il e=ao):c w.p.now (re w.p.en) (rs w.p.w) (rs w.p.m) (rr w.p.s) w.p.a (rf w.p.fe) (rc w.p.cl) w.p.hits (rd (dk w.o)) (ri w.cd) (re w.bd) e.k e.id e.t e.n e.l=ao/\v w.p.now (re w.p.en) (rs w.p.w) (rs w.p.m) (rr w.p.s) w.p.a (rf w.p.fe) (rc w.p.cl) w.p.hits (rd (dk w.o)) (ri w.cd) (re w.bd) e.k e.id e.t e.n e.l=Cx (iN.step w e):=by
 refine out _ _ _ _ _ _ _ _ _ _ _ _ _ _ _ _ _ ?_;have A:=VA.ok h hi j;have f:=h.cd;unfold vo b pI bw jC mC cq db du cC dm je ni ue;rw[A.1,au,A.2,dY.lt_eq];have d:(Cx (iN.act w e).1).2.2.2.2.2.2.2.2.2.2.1=ri w.cd:=by unfold Cx;rw[R6]
 have r1:b_ ((aR [Ck.i ak] 0).length+(ri w.cd).length) 8=true:=by rw[dY.fj];exact b6 (by show(0+w.cd.length)*8<=_;omega) (by show 0+w.cd.length<=_;omega)
 have r2:b_ ((ri w.cd).length+(aC (aR [Ck.i ak] 1) 0 [CV.i ak (iN.act w e).2]).length) 8=true:=by rw[dY.fj,dY.nP];exact b6 (by omega) (by omega)
 show(bif b_ ((aR [Ck.i ak] 0).length+((Cx (iN.act w e).1).2.2.2.2.2.2.2.2.2.2.1).length) 8 then _ else ay)=_;simp only[d,dY.aop,r1,r2,au,dY.aby];rfl
end GN
namespace Vu
open _root_.Go.FG.Lib (rc)
open lj (dk)
open dY (ri jQ)
def ok{i:aN}(h:Bk i w)(hi:i<=71):c w.p.now (re w.p.en) (rs w.p.w) (rs w.p.m) (rr w.p.s) w.p.a (rf w.p.fe) (rc w.p.cl) w.p.hits (rd (dk w.o)) (ri w.cd) (re w.bd)=ao/\v w.p.now (re w.p.en) (rs w.p.w) (rs w.p.m) (rr w.p.s) w.p.a (rf w.p.fe) (rc w.p.cl) w.p.hits (rd (dk w.o)) (ri w.cd) (re w.bd)=Cx w:=by
 refine out _ _ _ _ _ _ _ _ _ _ _ _ ?_;have A:=lh.ok w.p (jQ h.px);have f:=lj.CL w.o;have e:=h.cd;have d:=h.bd;have r1:b_ ((aR [Ck.s,Ck.s,Ck.i ak] 0).length+(rd (dk w.o)).length) 40=true:=by rw[eA];exact b6 (by show(0+(dk w.o).length)*40<=_;omega) (by show 0+(dk w.o).length<=_;omega)
 have r2:b_ ((aR [Ck.i ak] 0).length+(ri w.cd).length) 8=true:=by rw[dY.fj];exact b6 (by show(0+w.cd.length)*8<=_;omega) (by show 0+w.cd.length<=_;omega)
 have r3:b_ ((aR [Ck.s,Ck.i ak,Ck.i ak,Ck.s] 0).length+(re w.bd).length) 48=true:=by rw[dC];exact b6 (by show(0+w.bd.length)*48<=_;omega) (by show 0+w.bd.length<=_;omega)
 unfold vo b nh bw cq db du cC dm dP;rw[A.1,au,A.2,dY.lt_eq,r1,au,r2,au,r3,au];rfl
end Vu
namespace MT
open _root_.Go.FG.Lib (rc)
open lj (dk es)
open dY (ri)
open iF (rv run life)
def chk(N:aN)(l:aE Ev)(hl:l.length<=1048576)(K:Row->aZ->az->az->az->az->aG R)(f:aG R)(j:∀(i:az),K (rv l) aq i 0 0 0=f):∀(d i n:aN) (b:aZ),l.length-i<=d->i<=l.length->d<n->
  l3 N K n (rv l) b (i:az) 0 0 0=bif(b&&(iT i (l.length-i)).all λi=>il (el l i))then K (rv l) ao (l.length:az) 0 0 0 else f:=by
 have fin:∀(n:aN) (b:aZ),l3 N K (n+1) (rv l) b (l.length:az) 0 0 0=bif(b&&(iT l.length (l.length-l.length)).all λi=>il (el l i))then K (rv l) ao (l.length:az) 0 0 0 else f:=by
  intro n b;simp only[l3,r3,j_,dh,bg,bc,ax,qe,V4,DY,gE,bY];cases b with
  |true=>rfl
  |false=>exact j _
 intro d;induction d with
 |zero=>
  intro i n b h1 h2 h3;obtain⟨n,rfl⟩:∃m,n=m+1:=⟨n-1,by omega⟩
  have:i=l.length:=by omega
  subst this;exact fin n b
 |succ d ih=>
  intro i n b h1 h2 h3;obtain⟨n,rfl⟩:∃m,n=m+1:=⟨n-1,by omega⟩
  by_cases hi:i<l.length
  ·cases b with
   |false=>simp only[l3,r3,j_,dh,hi,aQ,au,ax,j,lH,bY]
   |true=>
    have a:bA ((i:az)+1)=((i+1:aN):az):=cG hi (by omega);have e:(iT i (l.length-i)).all (λi=>il (el l i))=(il (el l i)&&(iT (i+1) (l.length-(i+1))).all λi=>il (el l i)):=by rw[show l.length-i=(l.length-(i+1))+1 by omega,List.range'_succ,iS]
    have k:=ih (i+1) n (il (el l i)) (by omega) hi (by omega);rw[e,bj,<-k];simp only[l3,r3,j_,dh,hi,aQ,cm,aK,au,dK,wv0 hi,wv1 hi,wv2 hi,wv3 hi,wv4 hi,bO,bn,jd,iF.NV,a,bY]
  ·have:i=l.length:=by omega
   subst this;exact fin n b
def go(N:aN)(l:aE Ev)(hl:l.length<=70)(j:∀e∈l,il e=ao)(K:Row->az->az->az->az->az->az->az->Row->Row->Row->Row->Row->Row->Row->Row->Row->aG R):∀(d i n:aN) (w:Wo),w=run (l.take i)->l.length-i<=d->i<=l.length->d<n->
  l10 N K n (rv l) (i:az) 0 0 0 w.p.now w.p.a w.p.hits (re w.p.en) (rs w.p.w) (rs w.p.m) (rr w.p.s) (rf w.p.fe) (rc w.p.cl) (rd (dk w.o)) (ri w.cd) (re w.bd)=K (rv l) (l.length:az) 0 0 0 (run l).p.now (run l).p.a (run l).p.hits (re (run l).p.en) (rs (run l).p.w) (rs (run l).p.m) (rr (run l).p.s) (rf (run l).p.fe) (rc (run l).p.cl) (rd (dk (run l).o)) (ri (run l).cd) (re (run l).bd):=by
 have fin:∀(n:aN) (w:Wo),w=run (l.take l.length)->l10 N K (n+1) (rv l) (l.length:az) 0 0 0 w.p.now w.p.a w.p.hits (re w.p.en) (rs w.p.w) (rs w.p.m) (rr w.p.s) (rf w.p.fe) (rc w.p.cl) (rd (dk w.o)) (ri w.cd) (re w.bd)=K (rv l) (l.length:az) 0 0 0 (run l).p.now (run l).p.a (run l).p.hits (re (run l).p.en) (rs (run l).p.w) (rs (run l).p.m) (rr (run l).p.s) (rf (run l).p.fe) (rc (run l).p.cl) (rd (dk (run l).o)) (ri (run l).cd) (re (run l).bd):=by intro n w hw;rw[cR]at hw;subst hw;simp only[l10,Yz,j_,dh,bg,bc,ax,pI,bY,jC,cq,db,du,cC,dm,je,ni,q9]
 intro d;induction d with
 |zero=>
  intro i n w hw h1 h2 h3;obtain⟨n,rfl⟩:∃m,n=m+1:=⟨n-1,by omega⟩
  have:i=l.length:=by omega
  subst this;exact fin n w hw
 |succ d ih=>
  intro i n w hw h1 h2 h3;obtain⟨n,rfl⟩:∃m,n=m+1:=⟨n-1,by omega⟩
  by_cases hi:i<l.length
  ·have hW:Bk i w:=by rw[hw];exact Al j i h2
   have hE:=j _ (iY hi);have A:=GN.ok hW (by omega) hE;have k:=ih (i+1) n (iN.step w (el l i)) (by rw[rE l i hi,hw]) (by omega) hi (by omega);refine Eq.trans ?_ k;have f:bA ((i:az)+1)=((i+1:aN):az):=cG hi (by omega);simp only[l10,Yz,j_,dh,hi,aQ,cm,aK,au,dK,wv0 hi,wv1 hi,wv2 hi,wv3 hi,wv4 hi,bO,bn,jd,f,pI,bY,jC,cq,db,du,cC,dm,je,ni,q9];rw[A.1,au,A.2,dY.lt_eq];rfl
  ·have:i=l.length:=by omega
   subst this;exact fin n w hw
def ok(l:aE Ev)(hl:l.length<=1048576):c (rv l)=ao/\v (rv l)=life l:=by
 refine out _ ?_;unfold vo;generalize j:cw=N;have a:l.length<N:=by rw[<-j];exact eG
 clear j;unfold b ZU jC cq db du cC dm je ni q9;simp only[j_];have e:(ah (l.length<=70)&&(iT 0 (l.length-0)).all λi=>il (el l i))=Ei l:=by unfold Ei;rw[H2,V5]
 have d:ah (((l.length:aN):az)<=70)=ah (l.length<=70):=by rw[b7];omega
 rw[d];rw[show l3 N _ N (rv l) (ah (l.length<=70)) 0 0 0 0=_ from chk N l hl _ (ai (0,[],[],[],[],0,[],[],0,[],[],[],aq)) (λ_=>rfl) l.length 0 N (ah (l.length<=70)) (by omega) (by omega) a,e];unfold life;cases hg:Ei l with
 |false=>rfl
 |true=>obtain⟨f,k⟩:=pJ.1 hg;rw[au,au,aY,ax];refine(go N l f k _ l.length 0 N iF.w0 rfl (by omega) (by omega) a).trans ?_;have C:=Vu.ok (Am k) (by omega);rw[C.1,au,C.2,dY.lt_eq];rfl
end MT
namespace agr
def lt_eq(x:α)(f:α->β):ic x f=f x:=by have h:∀y,y=ic x f->y=f x:=λy a=>a.trans (Eq.refl _);exact h _ (Eq.refl _)
end agr
namespace Ki
open _root_.Go.FG.Lib (rc)
open ed (ln room sp)
def step(K:ar->az->az->Row->Row->Row->Row->az->Row->Row->az->aG R)(i0:az)(y z A e:Row)(t:az)(f:Row)(u:az)(l:aE Cl)(B:room l<=1000000000)(s:∀c∈l,Ee c)(m i:aN)(h:i<l.length):
  l3 cw K (m+1) (shown (l.take i)) (i:az) i0 y z A e t f (rc l) u=l3 cw K m (shown (l.take (i+1))) ((i+1:aN):az) i0 y z A e t f (rc l) u:=by
 have a:=s _ (iY h);have j:=ed.num _ a.1;have k:=ed.num _ a.2;have s1:=gj.jI _ (ed.m_ a.1).1 (ed.m_ a.1).2;have H:=gj.jI _ (ed.m_ a.2).1 (ed.m_ a.2).2;have M:=ed.Dq l i h;have N:(shown (l.take i)).size<=room l:=ca (ed.nF _ (λc a=>s c (iK a))) (ed.Aj l i);rw[show l3 cw K (m+1)=r3 cw (l3 cw K m) K from rfl];unfold r3 gb bY bw kE;have hl:l.length<=1000000000:=by
  have:∀l:aE Cl,l.length<=room l:=by
   intro l;induction l with
   |nil=>exact bW _
   |cons c r ih=>unfold room;simp only[bT];omega
  exact ca (this l) B
 rw[ed.take_succ l i h,show bA ((i:az)+1)=((i+1:aN):az)from c6 (by omega) (by omega),eQ];have e:((aw #[aj 100,aj 111,aj 110,aj 101]):ar).size=4:=rfl;have C:((aw #[aj 119,aj 97,aj 105,aj 116,aj 115]):ar).size=5:=rfl;have f:((aw #[aj 102,aj 97,aj 105,aj 108,aj 101,aj 100]):ar).size=6:=rfl;simp only[agr.lt_eq,dX,Qv h,YV h,YW h,YX h,bO,bn,j.1,j.2,k.1,k.2,au,aA (show(i:az)<(l.length:az)by omega),aA (show 0<=(i:az)by omega),aK,cj,show sp.size=1 from rfl,show Hj.size=1 from rfl,e,C,f];have w1:∀{n:aN},n<=4000000000->ah (n<=4611686018427387904)=true:=λh=>aA (by omega);unfold ed.ln ed.st JY.v;by_cases o:(el l i).sta=1
 ·have d:¬(el l i).sta=2:=by omega
  simp only[aA o,aD d,au,ax];repeat rw[w1 (by omega)]
  simp only[au,cY]
 ·simp only[aD o,ax];by_cases d:(el l i).sta=2
  ·simp only[aA d,au];repeat rw[w1 (by omega)]
   simp only[au,cY]
  ·simp only[aD d,ax];repeat rw[w1 (by omega)]
   simp only[au,cY]
def ok(i0:az)(f j k o:Row)(d:az)(s:Row)(l:aE Cl)(e:az)(t:room l<=1000000000)(u:∀c∈l,Ee c):c i0 f j k o d s (rc l) e=ao/\v i0 f j k o d s (rc l) e=shown l:=by
 refine out _ _ _ _ _ _ _ _ _ ?_;unfold vo b;have hl:l.length<=1000000000:=by
  have:∀l:aE Cl,l.length<=room l:=by
   intro l;induction l with
   |nil=>exact bW _
   |cons c r ih=>unfold room;simp only[bT];omega
  exact ca (this l) t
 have key:=iz l.length (λm (i:aN) (x:ar)=>l3 cw (λa (_ _:az) (_ _ _ _:Row) (_:az) (_ _:Row) (_:az)=>ai a) m x (i:az) i0 f j k o d s (rc l) e) (λi=>shown (l.take i)) (ai (shown l)) (λm i h=>step _ i0 f j k o d s e l t u m i h) (λm=>by rw[show l3 cw (λa (_ _:az) (_ _ _ _:Row) (_:az) (_ _:Row) (_:az)=>ai a) (m+1)=r3 cw (l3 cw (λa (_ _:az) (_ _ _ _:Row) (_:az) (_ _:Row) (_:az)=>ai a) m) (λa (_ _:az) (_ _ _ _:Row) (_:az) (_ _:Row) (_:az)=>ai a)from rfl];unfold Ki.r3 gb bY bw kE;rw[eQ,p6,ax,cR]) cw 0 (bB _) eG;exact key
end Ki
namespace U6
open _root_.Go.FG.Lib (rc)
open fP (hd w1)
open ed (sp)
open gj (it)
open dY (ri)
def akH(N:aN)(K:ar->az->az->az->az->Row->Row->Row->Row->Row->Row->Row->Row->Row->aG R)(a b d:az)(k o r s t u y z:Row)(l:aE az)(hl:l.length<=70)(j:∀n∈l,zT n)(m i:aN)(h:i<l.length):
  l7 N K (m+1) (jo ((l.take i).map it)) (i:az) a b d k o r s t u y (ri l) z=l7 N K m (jo ((l.take (i+1)).map it)) ((i+1:aN):az) a b d k o r s t u y (ri l) z:=by
 have e:=j _ (iY h);have D:=gj.eq (el l i) (by have:=e.1;omega) (by have:=e.2;omega);have s1:=fP.aaH e;have A:=fP.NH hl j i;have f:av (ri l) i 0=CV.i ak (el l i):=fM _ l i 0 h;have hw:bA ((i:az)+1)=((i+1:aN):az):=cG h (by omega);rw[show l7 N K (m+1)=r7 N (l7 N K m) K from rfl];unfold r7 gb bY bw kE;by_cases h0:i=0
 ·subst h0;rw[fP.LS l 0 h];simp only[dY.fj,dh,h,aQ,au,cm,aK,dK,f,bO,D.1,D.2,dY.lt_eq,hw,show ah (((0:aN):az)>0)=aq from rfl,ax,qB,wb,eR,cj];rw[w1 (by show 0+_<=_;omega),au];rw[show jo []++it (el l 0)=jo [it (el l 0)]from by show(⟨#[]⟩:ar)++_=_++⟨#[]⟩;rw[ed.qh,ed.yp]]
 ·have hp:ah ((i:az)>0)=true:=aA (by omega);rw[fP.akK l i h (by omega)];simp only[dY.fj,dh,h,aQ,au,cm,aK,dK,f,bO,D.1,D.2,dY.lt_eq,hw,hp,cj,show sp.size=1 from rfl];rw[w1 (by omega),w1 (by omega),au,au]
def Sl(N:aN)(K:ar->az->az->az->az->Row->Row->Row->Row->Row->Row->Row->Row->Row->aG R)(a b d:az)(e f j k o r s t:Row)(l:aE az)(hl:l.length<=70)(u:∀n∈l,zT n)(n:aN)(y:l.length<n):
  l7 N K n ⟨#[]⟩ 0 a b d e f j k o r s (ri l) t=K (jo (l.map it)) (l.length:az) a b d e f j k o r s (ri l) t:=by refine iz l.length (λm (i:aN) (x:ar)=>l7 N K m x (i:az) a b d e f j k o r s (ri l) t) (λi=>jo ((l.take i).map it)) _ (λm i h=>akH N K a b d e f j k o r s t l hl u m i h) (λm=> ?_) n 0 (bB _) (by omega);rw[show l7 N K (m+1)=r7 N (l7 N K m) K from rfl];unfold r7 gb bY bw kE;rw[dY.fj,p6,ax,cR]
def keys(N:aN)(K:ar->az->az->az->az->Row->Row->Row->Row->Row->Row->Row->Row->Row->aG R)(x:ar)(B:x.size<=10000)(a b d:az)(f j o r s t u z:Row)(l:aE En)(hl:l.length<=1048576)(hk:∀e∈l,e.k.size<=30)(n:aN)(A:l.length<n):
  Ek N K n x 0 a b d (re l) f j o r s t u z=K (x++tl (l.map (·.k))) (l.length:az) a b d (re l) f j o r s t u z:=by
 have key:=iz l.length (λm (i:aN) (y:ar)=>Ek N K m y (i:az) a b d (re l) f j o r s t u z) (λi=>x++tl ((l.take i).map (·.k))) (K (x++tl (l.map (·.k))) (l.length:az) a b d (re l) f j o r s t u z) (λm i h=> ?_) (λm=> ?_) n 0 (bB _) (by omega)
 ·rw[show x++tl ((l.take 0).map (·.k))=x from ed.qh x]at key;exact key
 ·have s1:=hk _ (iY h);have C:=fP.FC hl hk i;have hw:bA ((i:az)+1)=((i+1:aN):az):=cG h (by omega);rw[show Ek N K (m+1)=PX N (Ek N K m) K from rfl,fP.U5 l i h];unfold PX bY bw kE;simp only[dC,dh,h,aQ,au,cm,aK,dK,rJ h,bn,hw,cj,show sp.size=1 from rfl];rw[w1 (by omega),w1 (by omega),au,au];simp only[cY]
 ·rw[show Ek N K (m+1)=PX N (Ek N K m) K from rfl];unfold PX bY bw kE;rw[dC,p6,ax,cR]
def ok(s:ar):c s=ao/\v s=yU s:=by
 refine out _ ?_;unfold vo;generalize o:cw=N;have k:∀{n:aN},n<=1048576->n<N:=λh=>by rw[<-o];exact eG
 clear o;unfold b gb nh bw jC mC cq db du cC dm je ni kE;have A:=BO.ok s;have F:=fP.CR s;have S:=wO.Ao s;have d:((aw #[aj 104,aj 105,aj 116,aj 115,aj 32]):ar).size=5:=rfl;have f:((aw #[aj 32,aj 107,aj 101,aj 112,aj 116]):ar).size=5:=rfl;have y:((aw #[aj 102,aj 97,aj 117,aj 108,aj 116,aj 32]):ar).size=6:=rfl;rw[A.1,au,A.2,dY.lt_eq];dsimp only;unfold fP.yU;by_cases h0:(dE s).2=0
 ·rw[bm h0,show((dE s).2 !=0)=aq from by rw[h0];rfl,ax];have L:=MT.ok (dE s).1 (by omega);have r:∀e∈(dE s).1,iN.il e=true:=λe h=>(S.2 e h).1;have T:=fP.tel S.1 r;have t:iF.life (dE s).1=iF.Wa (iF.run (dE s).1) true:=by unfold iF.life;rw[iF.pJ.2 ⟨S.1,r⟩,au]
  rw[L.1,au,L.2,dY.lt_eq,t];generalize iF.run (dE s).1=w at T;unfold iF.Wa;dsimp only;rw[Sl N _ _ _ _ _ _ _ _ _ _ _ _ w.cd T.ln T.cd N (k (ca T.ln (by omega)))];have C:=Ki.ok w.p.now (re w.p.en) (rs w.p.w) (rs w.p.m) (rr w.p.s) w.p.a (rf w.p.fe) w.p.cl w.p.hits (ca T.rm (by omega)) T.cl;have z:=T.px.hits;have D:=gj.eq w.p.hits (by omega) (by omega);have s1:=gj.jI w.p.hits (by omega) (by omega);have B:=ca (ed.nF _ T.cl) T.rm;have s3:=fP.NH T.ln T.cd w.cd.length;rw[cR]at s3;have u:=fP.FC T.en T.ks w.p.en.length;rw[cR]at u;unfold fP.wtx fP.hd;by_cases j:w.cd=[]
  ·rw[dY.fj,bm j,j,aD (by simp),ax];simp only[C.1,C.2,D.1,D.2,dY.lt_eq,au,cj,d,f,show(jo (([]:aE az).map it)).size=0 from rfl];repeat rw[w1 (by omega)]
   simp only[au];rw[keys N _ _ (by simp only[cj,d,f,show(jo (([]:aE az).map it)).size=0 from rfl];omega) _ _ _ _ _ _ _ _ _ _ _ w.p.en T.en T.ks N (k T.en)];simp only[cj,d,f,show(jo (([]:aE az).map it)).size=0 from rfl,show Hj.size=1 from rfl];rw[w1 (by omega),au];simp only[cY];rfl
  ·have hl:0<w.cd.length:=Qg.2 j;rw[dY.fj,bk j,jz,au];simp only[C.1,C.2,D.1,D.2,dY.lt_eq,au,cj,d,f,show Hj.size=1 from rfl];repeat rw[w1 (by omega)]
   simp only[au];rw[keys N _ _ (by simp only[cj,d,f,show Hj.size=1 from rfl];omega) _ _ _ _ _ _ _ _ _ _ _ w.p.en T.en T.ks N (k T.en)];simp only[cj,d,f,show Hj.size=1 from rfl];rw[w1 (by omega),au];simp only[cY];rfl
 ·have D:=gj.eq (dE s).2 (by omega) (by omega);have s1:=gj.jI (dE s).2 (by omega) (by omega);rw[bk h0,bne_iff_ne.2 h0,au];simp only[D.1,D.2,dY.lt_eq,au,cj,y,show Hj.size=1 from rfl];rw[w1 (by omega),w1 (by omega),au,au];simp only[cY];rfl
end U6
namespace pU
open tE (sp mk bt sz)
open nf (W ne)
def wds(L:aE ar)(K:Row->az->az->Row->aG (Row×aZ))(hl:L.length<=601):l10 cw K cw (rs L) (L.length:az) 0 []=K (rs L) (L.length:az) (L.length:az) (rs (L.filter ne)):=by
 have key:=iz L.length (λm (i:aN) (t:Row)=>l10 cw K m (rs L) (L.length:az) (i:az) t) (λi=>rs ((L.take i).filter ne)) (K (rs L) (L.length:az) (L.length:az) (rs (L.filter ne))) (λm i h=>by
  have j:av (rs L) i 0=CV.s L[i]:=by rw[dB (by simp[Lib.rs];exact h)];simp[Lib.rs]
  have f:(rs L).length=L.length:=by simp[Lib.rs]
  have o:(rs ((L.take i).filter ne)).length<=601:=by have:=eD ne (L.take i);rw[dG]at this;simp only[Lib.rs,bK];omega
  have k:(L.take (i+1)).filter ne=(L.take i).filter ne++(if ne L[i]then [L[i]]else []):=by rw[cE h,jc];cases d:ne L[i]<;>simp[d]
  have hq:(!List.beq (aF L[i]) (aF (aw #[])))=ne L[i]:=by
   rw[_root_.Go.Lib.toList_data,_root_.Go.Lib.toList_data];unfold nf.ne;show(!(L[i].data.toList==[]))=_;cases e:L[i].data.toList with
   |nil=>rw[show L[i].size=L[i].data.toList.length from rfl,e];rfl
   |cons a t=>rw[show L[i].size=L[i].data.toList.length from rfl,e];rfl
  simp only[l10,Yz,dh,h,aQ,f,cm,aK,au,dK,j,bn,hq,cG h (show L.length<=9223372036854775807 by omega),bY,bw];rw[k];cases d:ne L[i]with
  |false=>simp only[ax,dq,if_false,d_]
  |true=>rw[au,show b_ (bD (rs ((L.take i).filter ne))+bD (aC (aR [Ck.s] 1) 0 [CV.s L[i]])) 16=ao from b6 (by rw[ch];simp only[fa];omega) (by rw[ch];simp only[fa];omega),au];congr 1;simp[Lib.rs];rfl) (λm=>by
  simp only[l10,Yz,dh,bg,bc,ax,cR,bY,bw]) cw 0 (bB _) eG
 exact key
def ok(s:ar):c s=ao/\v s=(rs (parts s).1,(parts s).2):=by
 refine out _ ?_;unfold vo b bw;by_cases hs:(s.size:az)>600
 ·rw[aA hs,au];unfold nf.parts;rw[aD (show¬s.size<=600 by omega)];rfl
 ·rw[aD hs,ax];have hs:s.size<=600:=by omega
  have key:∀(m i:aN),i<=s.size->s.size-i<m->(s.data.toList.take i).all HT=ao->∀K0 K1:ar->aZ->az->Row->aG (Row×aZ),(∀a b c d,K0 a b c d=ai ([],b))->
    (s.data.toList.all HT=ao->K1 s aq (s.size:az) []=ai (rs (parts s).1,(parts s).2))->
    l5 cw K0 K1 m s aq (i:az) []=ai (rs (parts s).1,(parts s).2):=by
   intro m
   induction m with
   |zero=>intro i _ h;omega
   |succ m ih=>
    intro i hi hm hd K0 K1 f j;by_cases h:i<s.size
    ·have u:=bt h;have hl:i<s.data.toList.length:=by rw[sz];exact h
     have z:(s.data.toList[i]).toNat<256:=Ed _;have e:kP.v (bA (((s.data.toList[i]).toNat:aN):az)) 32 126=HT s.data.toList[i]:=by rw[within,c6 (by omega) (by omega)];unfold nf.HT;congr 1<;>(rw[b7];omega)
     simp only[l5,r5,dh,h,aQ,cm,aK,au,dK,u,e,cG h (show s.size<=9223372036854775807 by omega),bw];cases k:HT s.data.toList[i]with
     |false=>rw[bH,au,f,nf.bad (bF hl) k];rfl
     |true=>rw[aY,ax];exact ih (i+1) h (by omega) (nf.Iz hl hd k) K0 K1 f j
    ·have:i=s.size:=by omega
     subst this;rw[e8 (by rw[sz];omega)]at hd;simp only[l5,r5,dh,bg,bc,ax,bw];exact j hd
  refine key cw 0 (bB _) eG rfl _ _ (λ_ _ _ _=>rfl) (λhd=> ?_);have r:=tE.Oj 32 s (by omega);have t:=tE.Ol 32 s;have y:=nf.Hr 32 s;rw[show((aw #[aj 32]):ar)=⟨#[32]⟩from rfl,r,au,t];rw[show(rs (Lw 32 s)).length=(Lw 32 s).length from by simp[Lib.rs],wds (Lw 32 s) _ (by omega)];dsimp only;unfold nf.parts;rw[aA hs,hd];show(bif ah ((((rs (W s)).length:aN):az)>10)then _ else ai (rs (W s),ao))=_;rw[show(rs (W s)).length=(W s).length from by simp[Lib.rs]];by_cases o:(W s).length<=10
  ·rw[p6,aA o];rfl
  ·rw[jz,aD o];rfl
end pU
namespace Ec
open kf (res fz cL)
abbrev Z:ar:=(aw #[])
def told(e:Ev)(b:aZ):aG Ev:=bif b then ai e else ay
def o4(e:Ev):told e (MV.v e.k e.id e.t e.n e.l)=res e true:=by unfold told kf.res;rw[iF.B_];rfl
def rc(h:s.size<=600):yT.c s=true:=by unfold yT.c;rw[Nat.ble_eq];omega
def Hy(s:ar):yT.v s=i6 s:=FK.adY s
abbrev T6:=az×az×ar×az×Row×aZ
abbrev J0:aZ->Row->az->az->az->az->ar->az->az->az->ar->az->aG T6:=λa k o r d e f j s t u y=>ai (d,e,f,j,[],a)
abbrev J1:aZ->Row->az->az->az->az->ar->az->az->az->ar->az->aG T6:=λj k o r s t u y a d e f=>ai (a,d,e,f,[],MV.v a d e f [])
abbrev J2:aZ->Row->az->az->az->az->ar->az->az->az->ar->az->Row->aG T6:=λk o r s a d e f t u y z j=>ai (a,d,e,f,j,k)
abbrev J3:aZ->Row->az->az->az->az->ar->az->az->az->ar->az->Row->aG T6:=λk o r s t u y z a d e f j=>ai (a,d,e,f,j,MV.v a d e f j)
def G(o:aG T6)(x:aG Ev):Prop:=∃(e:Ev) (b:aZ),o=ai (e.k,e.id,e.t,e.n,e.l,b)/\told e b=x
def sh(p:aE ar)(hl:p.length<=600)(hs:∀x∈p,x.size<=600):∀(m i:aN) (acc:Row),i<=p.length->p.length-i<m->acc.length<=i->
  G (oJ cw J0 J1 J2 J3 m aq (rs p) (p.length:az) (i:az) 0 0 Z 0 7 0 Z 0 acc) (res ⟨7,0,Z,0,(fz (p.drop i) acc).1⟩ (fz (p.drop i) acc).2):=by
 intro m;induction m with
 |zero=>intro i acc _ h;omega
 |succ m ih=>
  intro i acc hi hm j;by_cases h:i<p.length
  ·have f:p.drop i=p[i]::p.drop (i+1):=cJ h;have a:p.getD i ⟨#[]⟩=p[i]:=by simp[eC,h]
   have d:=rc (hs _ (bF h));have rm:b_ (bD acc+bD [[CV.i ak (i6 p[i]).1]]) 8=true:=b6 (by simp;omega) (by simp;omega);rw[f,fz];cases e:(i6 p[i]).2 with
   |true=>
    have st:oJ cw J0 J1 J2 J3 (m+1) aq (rs p) (p.length:az) (i:az) 0 0 Z 0 7 0 Z 0 acc=oJ cw J0 J1 J2 J3 m aq (rs p) (p.length:az) ((i+1:aN):az) 0 0 Z 0 7 0 Z 0 (acc++[[CV.i ak (i6 p[i]).1]]):=by simp only[oJ,vC,cL,dh,h,aQ,cm,aK,au,ax,dK,cS,d,Hy,ri1,a,e,aY,rm,cG h (show p.length<=9223372036854775807 by omega),bY,bw]
    rw[st,au];exact ih (i+1) _ h (by omega) (by simp;omega)
   |false=>
    rw[ax];refine⟨⟨7,0,Z,0,acc⟩,aq,?_,rfl⟩
    simp only[oJ,vC,cL,dh,h,aQ,cm,aK,au,ax,dK,cS,d,Hy,ri1,a,e,bH,bY,bw]
  ·have:i=p.length:=by omega
   subst this;rw[c_,fz];refine⟨⟨7,0,Z,0,acc⟩,_,?_,o4 _⟩
   simp only[oJ,vC,cL,dh,bg,bc,ax,bY,bw]
def ok(p:aE ar)(hl:p.length<=600)(hs:∀x∈p,x.size<=600):∃(e:Ev) (b:aZ),c (rs p)=ao/\v (rs p)=(e.k,e.id,e.t,e.n,e.l,b)/\told e b=res ⟨7,0,Z,0,(fz p []).1⟩ (fz p []).2:=by
 have key:G (vo (rs p)) (res ⟨7,0,Z,0,(fz p []).1⟩ (fz p []).2):=by
  have j:vo (rs p)=l3 cw J0 J1 J2 J3 (18446744073709551615+1) aq (rs p) ((rs p).length:az) 0 0 0 Z 0 7 0 Z 0:=rfl;rw[j,cL];match p,hl,hs with
  |[],_,_=>refine⟨⟨7,0,Z,0,[]⟩,_,rfl,o4 _⟩
  |x::p,hl,hs=>
   have hl:p.length+1<=600:=hl;have d:=rc (hs x cQ);have h0:ah ((0:az)<(((x::p).length:aN):az))=true:=aA (by rw[bT];omega);have a:(x::p).getD 0 ⟨#[]⟩=x:=rfl;rw[fz];cases f:(i6 x).2 with
   |true=>
    have st:l3 cw J0 J1 J2 J3 (18446744073709551615+1) aq (rs (x::p)) (((x::p).length:aN):az) 0 0 0 Z 0 7 0 Z 0=oJ cw J0 J1 J2 J3 18446744073709551615 aq (rs (x::p)) (((x::p).length:aN):az) ((1:aN):az) 0 0 Z 0 7 0 Z 0 ([]++[[CV.i ak (i6 x).1]]):=by show r3 cw (l3 cw J0 J1 J2 J3 18446744073709551615) (oJ cw J0 J1 J2 J3 18446744073709551615) J0 J1 J2 J3 aq (rs (x::p)) (((x::p).length:aN):az) 0 0 0 Z 0 7 0 Z 0=_;unfold r3 bY bw;rw[h0,au,cL,h0,show ah ((0:az)<=0)=ao from rfl,aK,au,show aP 0=0 from rfl,cS,a,d,au,Hy,f,aY,ax,ri1];rfl
    rw[st,au];exact sh (x::p) hl hs 18446744073709551615 1 _ (by simp) (by rw[bT];omega) (by simp)
   |false=>
    rw[ax];refine⟨⟨7,0,Z,0,[]⟩,aq,?_,rfl⟩
    show r3 cw (l3 cw J0 J1 J2 J3 18446744073709551615) (oJ cw J0 J1 J2 J3 18446744073709551615) J0 J1 J2 J3 aq (rs (x::p)) (((x::p).length:aN):az) 0 0 0 Z 0 7 0 Z 0=_;unfold r3 bY bw;rw[h0,au,cL,h0,show ah ((0:az)<=0)=ao from rfl,aK,au,show aP 0=0 from rfl,cS,a,d,au,Hy,f,bH,au]
 obtain⟨e,b,h1,h2⟩:=key;obtain⟨o,r⟩:=out _ h1;exact⟨e,b,o,r,h2⟩
end Ec
open Ec (T6)
namespace tX
open kf (res fz E cL)
open Ec (told o4 rc Hy Z G)
abbrev K9:Type:=aZ->ar->Row->az->az->az->az->ar->az->az->az->ar->az->aG T6
abbrev J0:K9:=λa k o r s d e f j t u y z=>ai (d,e,f,j,[],a)
abbrev J1:K9:=λj k o r s t u y z a d e f=>ai (a,d,e,f,[],MV.v a d e f [])
abbrev g8(m:aN)(ks:ar)(q:aE ar)(i:aN)(k id:az)(t:ar)(n:az):aG T6:=l8 cw J0 J1 m aq ks (rs q) (q.length:az) (i:az) 0 0 Z 0 k id t n
def Gx(h:G o x)(e:x=y):G o y:=e▸h
def fin(m:aN)(ks:ar)(q:aE ar)(k id:az)(t:ar)(n:az):G (g8 (m+1) ks q q.length k id t n) (res ⟨k,id,t,n,[]⟩ ao):=by
 refine⟨⟨k,id,t,n,[]⟩,_,?_,o4 _⟩
 simp only[g8,l8,r8,dh,bg,bc,ax,bY,bw]
section
variable {ks:ar} {q:aE ar} (hq:q.length<=600) (hs:∀x∈q,x.size<=600) {i:aN} (h:i<q.length) (hk:i<ks.size)
include hq hs h hk
def sti(m:aN)(d:fJ ks i=105)(k id:az)(t:ar)(n:az)(x:aG Ev)(j:G (g8 m ks q (i+1) k (i6 (q.getD i ⟨#[]⟩)).1 t n) x):G (g8 (m+1) ks q i k id t n) (bif(i6 (q.getD i ⟨#[]⟩)).2 then x else ay):=by
 have a:q.getD i ⟨#[]⟩=q[i]:=by simp[eC,h]
 have e:=rc (hs _ (bF h));rw[a]at j⊢;cases f:(i6 q[i]).2 with
 |true=>
  have st:g8 (m+1) ks q i k id t n=g8 m ks q (i+1) k (i6 q[i]).1 t n:=by simp only[g8,l8,r8,cL,dh,h,hk,aQ,cm,aK,au,ax,dK,cS,a,e,Hy,f,d,aY,show ah (((105:aN):az)=105)=ao from rfl,cG h (show q.length<=9223372036854775807 by omega),bY,bw]
  rw[st,au];exact j
 |false=>
  rw[ax];refine⟨⟨k,(i6 q[i]).1,t,n,[]⟩,aq,?_,rfl⟩
  simp only[g8,l8,r8,cL,dh,h,hk,aQ,cm,aK,au,ax,dK,cS,a,e,Hy,f,d,bH,show ah (((105:aN):az)=105)=ao from rfl,bY,bw]
def stn(m:aN)(d:fJ ks i=110)(k id:az)(t:ar)(n:az)(x:aG Ev)(j:G (g8 m ks q (i+1) k id t (i6 (q.getD i ⟨#[]⟩)).1) x):G (g8 (m+1) ks q i k id t n) (bif(i6 (q.getD i ⟨#[]⟩)).2 then x else ay):=by
 have a:q.getD i ⟨#[]⟩=q[i]:=by simp[eC,h]
 have e:=rc (hs _ (bF h));rw[a]at j⊢;cases f:(i6 q[i]).2 with
 |true=>
  have st:g8 (m+1) ks q i k id t n=g8 m ks q (i+1) k id t (i6 q[i]).1:=by simp only[g8,l8,r8,cL,dh,h,hk,aQ,cm,aK,au,ax,dK,cS,a,e,Hy,f,d,aY,show ah (((110:aN):az)=105)=aq from rfl,show ah (((110:aN):az)=110)=ao from rfl,cG h (show q.length<=9223372036854775807 by omega),bY,bw]
  rw[st,au];exact j
 |false=>
  rw[ax];refine⟨⟨k,id,t,(i6 q[i]).1,[]⟩,aq,?_,rfl⟩
  simp only[g8,l8,r8,cL,dh,h,hk,aQ,cm,aK,au,ax,dK,cS,a,e,Hy,f,d,bH,show ah (((110:aN):az)=105)=aq from rfl,show ah (((110:aN):az)=110)=ao from rfl,bY,bw]
def stt(m:aN)(e:fJ ks i=116)(k id:az)(t:ar)(n:az)(x:aG Ev)(d:G (g8 m ks q (i+1) k id (q.getD i ⟨#[]⟩) n) x):G (g8 (m+1) ks q i k id t n) x:=by
 have a:q.getD i ⟨#[]⟩=q[i]:=by simp[eC,h]
 have f:=rc (hs _ (bF h));rw[a]at d;have st:g8 (m+1) ks q i k id t n=g8 m ks q (i+1) k id q[i] n:=by simp only[g8,l8,r8,cL,dh,h,hk,aQ,cm,aK,au,ax,dK,cS,a,f,Hy,e,show ah (((116:aN):az)=105)=aq from rfl,show ah (((116:aN):az)=110)=aq from rfl,cG h (show q.length<=9223372036854775807 by omega),bY,bw]
 rw[st];exact d
end
abbrev it:ar:=⟨#[105,116]⟩
abbrev mK:ar:=⟨#[105,110]⟩
abbrev ii:ar:=⟨#[105]⟩
abbrev nn:ar:=⟨#[110]⟩
def fm(w:ar):az×ar:=bif ah (w=wd 0)then(1,it)else bif ah (w=wd 1)then(2,it)else bif ah (w=wd 2)then(3,mK)else bif ah (w=wd 3)then(4,ii)else bif ah (w=wd 4)then(5,nn)else bif ah (w=wd 5)then(6,ii)else bif ah (w=wd 6)then(7,Z)else(0,Z)
def ql(w:ar):JZ.v w=fm w:=by unfold JZ.v fm;simp only[zR];rfl
def WC(h:∀j,j<7->w≠wd j):fm w=(0,Z):=by unfold fm;simp only[aD (h 0 (by omega)),aD (h 1 (by omega)),aD (h 2 (by omega)),aD (h 3 (by omega)),aD (h 4 (by omega)),aD (h 5 (by omega)),aD (h 6 (by omega)),ax]
def acL(p:aE ar):ez (rs p) (aP 1) (aP ((p.length:aN):az))=rs (p.drop 1):=by unfold ez Lib.rs;rw[show aP 1=1 from rfl,dK,e8 (by simp),List.map_drop]
def EN(p:aE ar)(hp:0<p.length)(kk:az)(ks:ar)(d:JZ.v (p.getD 0 ⟨#[]⟩)=(kk,ks))(a:kk≠7)(h0:kk≠0)(e:ks.size<=2):
  vo (rs p)=bif(((p.length:aN):az) !=((ks.size+1:aN):az))then ai (kk,0,Z,0,[],aq)else g8 cw ks (p.drop 1) 0 kk 0 Z 0:=by unfold vo b bw cq db th;rw[cL,aA (show(0:az)<((p.length:aN):az)by omega),au,show aP 0=0 from rfl,cS,d];dsimp only;rw[aD a,ax,aD h0,ax,c6 (by omega) (by omega),acL,cL,show gA 1 ((p.length:aN):az) ((p.length:aN):az)=ao from by unfold gA;simp;omega,au];rfl
def post(p:aE ar)(hp:0<p.length)(hl:p.length<=600)(hs:∀x∈p,x.size<=600):G (vo (rs p)) (E p):=by
 have hq:(p.drop 1).length<=600:=by simp;omega
 have d:∀x∈p.drop 1,x.size<=600:=λx K=>hs x (lL K);have d0:(p.drop 1).getD 0 ⟨#[]⟩=p.getD 1 ⟨#[]⟩:=by simp[eC]
 have u:(p.drop 1).getD 1 ⟨#[]⟩=p.getD 2 ⟨#[]⟩:=by simp[eC]
 have lN:∀(kk:az) {x:aG Ev},x=ay->G (ai (kk,0,Z,0,[],aq)) x:=λkk x h=>⟨⟨kk,0,Z,0,[]⟩,aq,rfl,h.symm⟩
 have s:(cw)=18446744073709551613+1+1+1:=rfl;by_cases h0:p.getD 0 ⟨#[]⟩=wd 0
 ·rw[kf.E0 h0,EN p hp 1 it (by rw[ql,h0];decide+kernel) (by omega) (by omega) (by decide)];by_cases f:p.length=3
  ·have a:(p.drop 1).length=2:=by simp;omega
   rw[f,bm rfl,show((((3:aN)):az) !=((it.size+1:aN):az))=aq from rfl,ax,s];have o:=fin 18446744073709551613 it (p.drop 1) 1 (i6 (p.getD 1 ⟨#[]⟩)).1 (p.getD 2 ⟨#[]⟩) 0;rw[a]at o;have t:=stt hq d (i:=1) (by omega) (show 1<it.size by decide) (18446744073709551613+1) rfl 1 (i6 (p.getD 1 ⟨#[]⟩)).1 Z 0 _ (by rw[u];exact o);have k:=sti hq d (i:=0) (by omega) (show 0<it.size by decide) (18446744073709551613+1+1) rfl 1 0 Z 0 _ (by rw[d0];exact t);rw[d0]at k;refine Gx k ?_;unfold kf.res;cases (i6 (p.getD 1 ⟨#[]⟩)).2<;>rfl
  ·rw[bk f,show(((p.length:aN):az) !=((it.size+1:aN):az))=ao from bne_iff_ne.2 (by show((p.length:aN):az)≠3;omega),au];exact lN _ rfl
 by_cases h1:p.getD 0 ⟨#[]⟩=wd 1
 ·rw[kf.E1 h1,EN p hp 2 it (by rw[ql,h1];decide+kernel) (by omega) (by omega) (by decide)];by_cases f:p.length=3
  ·have a:(p.drop 1).length=2:=by simp;omega
   rw[f,bm rfl,show((((3:aN)):az) !=((it.size+1:aN):az))=aq from rfl,ax,s];have o:=fin 18446744073709551613 it (p.drop 1) 2 (i6 (p.getD 1 ⟨#[]⟩)).1 (p.getD 2 ⟨#[]⟩) 0;rw[a]at o;have t:=stt hq d (i:=1) (by omega) (show 1<it.size by decide) (18446744073709551613+1) rfl 2 (i6 (p.getD 1 ⟨#[]⟩)).1 Z 0 _ (by rw[u];exact o);have k:=sti hq d (i:=0) (by omega) (show 0<it.size by decide) (18446744073709551613+1+1) rfl 2 0 Z 0 _ (by rw[d0];exact t);rw[d0]at k;refine Gx k ?_;unfold kf.res;cases (i6 (p.getD 1 ⟨#[]⟩)).2<;>rfl
  ·rw[bk f,show(((p.length:aN):az) !=((it.size+1:aN):az))=ao from bne_iff_ne.2 (by show((p.length:aN):az)≠3;omega),au];exact lN _ rfl
 by_cases h2:p.getD 0 ⟨#[]⟩=wd 2
 ·rw[kf.E2 h2,EN p hp 3 mK (by rw[ql,h2];decide+kernel) (by omega) (by omega) (by decide)];by_cases f:p.length=3
  ·have a:(p.drop 1).length=2:=by simp;omega
   rw[f,bm rfl,show((((3:aN)):az) !=((mK.size+1:aN):az))=aq from rfl,ax,s];have o:=fin 18446744073709551613 mK (p.drop 1) 3 (i6 (p.getD 1 ⟨#[]⟩)).1 Z (i6 (p.getD 2 ⟨#[]⟩)).1;rw[a]at o;have t:=stn hq d (i:=1) (by omega) (show 1<mK.size by decide) (18446744073709551613+1) rfl 3 (i6 (p.getD 1 ⟨#[]⟩)).1 Z 0 _ (by rw[u];exact o);have k:=sti hq d (i:=0) (by omega) (show 0<mK.size by decide) (18446744073709551613+1+1) rfl 3 0 Z 0 _ (by rw[d0];exact t);rw[d0,u]at k;refine Gx k ?_;unfold kf.res;cases (i6 (p.getD 1 ⟨#[]⟩)).2<;>cases (i6 (p.getD 2 ⟨#[]⟩)).2<;>rfl
  ·rw[bk f,show(((p.length:aN):az) !=((mK.size+1:aN):az))=ao from bne_iff_ne.2 (by show((p.length:aN):az)≠3;omega),au];exact lN _ rfl
 by_cases h3:p.getD 0 ⟨#[]⟩=wd 3
 ·rw[kf.E3 h3,EN p hp 4 ii (by rw[ql,h3];decide+kernel) (by omega) (by omega) (by decide)];by_cases f:p.length=2
  ·have a:(p.drop 1).length=1:=by simp;omega
   rw[f,bm rfl,show((((2:aN)):az) !=((ii.size+1:aN):az))=aq from rfl,ax,s];have o:=fin (18446744073709551613+1) ii (p.drop 1) 4 (i6 (p.getD 1 ⟨#[]⟩)).1 Z 0;rw[a]at o;have k:=sti hq d (i:=0) (by omega) (show 0<ii.size by decide) (18446744073709551613+1+1) rfl 4 0 Z 0 _ (by rw[d0];exact o);rw[d0]at k;refine Gx k ?_;unfold kf.res;cases (i6 (p.getD 1 ⟨#[]⟩)).2<;>rfl
  ·rw[bk f,show(((p.length:aN):az) !=((ii.size+1:aN):az))=ao from bne_iff_ne.2 (by show((p.length:aN):az)≠2;omega),au];exact lN _ rfl
 by_cases h4:p.getD 0 ⟨#[]⟩=wd 4
 ·rw[kf.E4 h4,EN p hp 5 nn (by rw[ql,h4];decide+kernel) (by omega) (by omega) (by decide)];by_cases f:p.length=2
  ·have a:(p.drop 1).length=1:=by simp;omega
   rw[f,bm rfl,show((((2:aN)):az) !=((nn.size+1:aN):az))=aq from rfl,ax,s];have o:=fin (18446744073709551613+1) nn (p.drop 1) 5 0 Z (i6 (p.getD 1 ⟨#[]⟩)).1;rw[a]at o;have k:=stn hq d (i:=0) (by omega) (show 0<nn.size by decide) (18446744073709551613+1+1) rfl 5 0 Z 0 _ (by rw[d0];exact o);rw[d0]at k;refine Gx k ?_;unfold kf.res;cases (i6 (p.getD 1 ⟨#[]⟩)).2<;>rfl
  ·rw[bk f,show(((p.length:aN):az) !=((nn.size+1:aN):az))=ao from bne_iff_ne.2 (by show((p.length:aN):az)≠2;omega),au];exact lN _ rfl
 by_cases y:p.getD 0 ⟨#[]⟩=wd 5
 ·rw[kf.E5 y,EN p hp 6 ii (by rw[ql,y];decide+kernel) (by omega) (by omega) (by decide)];by_cases f:p.length=2
  ·have a:(p.drop 1).length=1:=by simp;omega
   rw[f,bm rfl,show((((2:aN)):az) !=((ii.size+1:aN):az))=aq from rfl,ax,s];have o:=fin (18446744073709551613+1) ii (p.drop 1) 6 (i6 (p.getD 1 ⟨#[]⟩)).1 Z 0;rw[a]at o;have k:=sti hq d (i:=0) (by omega) (show 0<ii.size by decide) (18446744073709551613+1+1) rfl 6 0 Z 0 _ (by rw[d0];exact o);rw[d0]at k;refine Gx k ?_;unfold kf.res;cases (i6 (p.getD 1 ⟨#[]⟩)).2<;>rfl
  ·rw[bk f,show(((p.length:aN):az) !=((ii.size+1:aN):az))=ao from bne_iff_ne.2 (by show((p.length:aN):az)≠2;omega),au];exact lN _ rfl
 by_cases h6:p.getD 0 ⟨#[]⟩=wd 6
 ·rw[kf.E6 h6];obtain⟨e,b,A,B,C⟩:=Ec.ok (p.drop 1) hq d;refine⟨e,b,?_,C⟩
  have z:JZ.v (p.getD 0 ⟨#[]⟩)=(7,Z):=by rw[ql,h6];decide+kernel
  unfold vo tX.b bw cq db th;rw[cL,aA (show(0:az)<((p.length:aN):az)by omega),au,show aP 0=0 from rfl,cS,z,show ah ((7:az)=7)=ao from rfl,au,acL,show gA 1 ((p.length:aN):az) ((p.length:aN):az)=ao from by unfold gA;simp;omega,au,A,B,au]
 ·have r:∀j,j<7->p.getD 0 ⟨#[]⟩≠wd j:=λj H=>by
   match j,H with
   |0,_=>exact h0
   |1,_=>exact h1
   |2,_=>exact h2
   |3,_=>exact h3
   |4,_=>exact h4
   |5,_=>exact y
   |6,_=>exact h6
  have z:JZ.v (p.getD 0 ⟨#[]⟩)=(0,Z):=by rw[ql,WC r]
  rw[kf.En r];refine⟨⟨0,0,Z,0,[]⟩,aq,?_,rfl⟩
  unfold vo b bw cq db th;rw[cL,aA (show(0:az)<((p.length:aN):az)by omega),au,show aP 0=0 from rfl,cS,z,show ah ((0:az)=7)=aq from rfl,ax,show ah ((0:az)=0)=ao from rfl,au]
def ok(p:aE ar)(hp:0<p.length)(hl:p.length<=600)(hs:∀x∈p,x.size<=600):∃(e:Ev) (b:aZ),c (rs p)=ao/\v (rs p)=(e.k,e.id,e.t,e.n,e.l,b)/\told e b=E p:=by obtain⟨e,b,h1,h2⟩:=post p hp hl hs;obtain⟨a,d⟩:=out _ h1;exact⟨e,b,a,d,h2⟩
end tX
namespace Qk
open iF (rv)
open nf (W)
open kf (E cL res)
open wO (sL)
abbrev T2:=Row×az
abbrev J0:az->Row->az->az->Row->aG T2:=λa d e f j=>ai ([],a)
abbrev J1:az->Row->az->az->Row->aG T2:=λd e f j a=>ai (a,0)
abbrev g7(m:aN)(ls:aE ar)(i:aN)(acc:aE Ev):aG T2:=l8 cw J0 J1 m 0 (rs ls) (ls.length:az) (i:az) (rv acc)
def stop(m:aN)(ls:aE ar)(acc:aE Ev):g7 (m+1) ls ls.length acc=ai (rv acc,0):=by simp only[g7,l8,r8,cL,dh,bg,bc,ax,bY,bw,cq,db,th]
section
variable {ls:aE ar} {i:aN} (h:i<ls.length) (hl:ls.length<=90) (acc:aE Ev) (m:aN)
include h hl
def st0(hq:(parts ls[i]).2=aq):g7 (m+1) ls i acc=ai ([],((i+1:aN):az)):=by
 have e:ls.getD i ⟨#[]⟩=ls[i]:=by simp[eC,h]
 obtain⟨d,a⟩:=pU.ok ls[i];rw[hq]at a;simp only[g7,l8,r8,cL,dh,h,aQ,cm,aK,au,dK,cS,e,d,a,ax,bH,cG h (show ls.length<=9223372036854775807 by omega),bY,bw,cq,db,th]
def st1(hq:(parts ls[i]).2=ao)(hi:idle (parts ls[i]).1=ao):g7 (m+1) ls i acc=g7 m ls (i+1) acc:=by
 have e:ls.getD i ⟨#[]⟩=ls[i]:=by simp[eC,h]
 obtain⟨d,a⟩:=pU.ok ls[i];have f:=(rB hq).2;rw[hq]at a;cases hp:(parts ls[i]).1 with
 |nil=>rw[hp]at a;simp only[g7,l8,r8,cL,dh,h,aQ,cm,aK,au,dK,cS,e,d,a,show(([]:aE ar)).length=0 from rfl,show ah (((0:aN):az)=0)=ao from rfl,show ah (((([]:aE ar).length:aN):az)=0)=ao from rfl,cG h (show ls.length<=9223372036854775807 by omega),bY,bw,cq,db,th]
 |cons w t=>rw[hp]at a hi f;have hi:kJ w=true:=hi;have hw:=(f w cQ).1;have j:ah ((((w::t).length:aN):az)=0)=false:=aD (by rw[bT];omega);have k:ah ((0:az)<(((w::t).length:aN):az))=true:=aA (by rw[bT];omega);have o:ah ((0:az)<((w.size:aN):az))=true:=aA (by omega);simp only[g7,l8,r8,cL,dh,h,aQ,cm,aK,au,dK,cS,e,d,a,ax,j,k,show aP (0:az)=0 from rfl,show(w::t).getD 0 ⟨#[]⟩=w from rfl,o,rh,hi,cG h (show ls.length<=9223372036854775807 by omega),bY,bw,cq,db,th]
def st2(hq:(parts ls[i]).2=ao)(hi:idle (parts ls[i]).1=aq)(B:acc.length<=70):g7 (m+1) ls i acc=(match E (parts ls[i]).1 with|none=>ai ([],((i+1:aN):az))|some e=>bif ah (acc.length=70)then ai ([],((i+1:aN):az))else g7 m ls (i+1) (acc++[e])):=by
 have r:ls.getD i ⟨#[]⟩=ls[i]:=by simp[eC,h]
 obtain⟨k,a⟩:=pU.ok ls[i];obtain⟨s,j⟩:=rB hq;rw[hq]at a;cases hp:(parts ls[i]).1 with
 |nil=>rw[hp]at hi;cases hi
 |cons w t=>
  rw[hp]at a hi j s;have hi:kJ w=false:=hi;have hw:=(j w cQ).1;have y:ah ((((w::t).length:aN):az)=0)=false:=aD (by rw[bT];omega);have z:ah ((0:az)<(((w::t).length:aN):az))=true:=aA (by rw[bT];omega);have A:ah ((0:az)<((w.size:aN):az))=true:=aA (by omega);obtain⟨e,b,d,f,hE⟩:=tX.ok (w::t) (by simp) (by omega) (λx u=>(j x u).2);rw[<-hE];have st:g7 (m+1) ls i acc=bif !b then ai ([],((i+1:aN):az))else bif ah (((acc.length:aN):az)=70)then ai ([],((i+1:aN):az))else bif b_ (acc.length+1) 64 then g7 m ls (i+1) (acc++[e])else none:=by simp only[g7,l8,r8,cL,dh,h,aQ,cm,aK,au,dK,cS,r,k,a,ax,y,z,show aP (0:az)=0 from rfl,show(w::t).getD 0 ⟨#[]⟩=w from rfl,A,rh,hi,d,f,aY,ax,j_,sL,cG h (show ls.length<=9223372036854775807 by omega),bY,bw,cq,db,th];rfl
  have rm:b_ (acc.length+1) 64=true:=b6 (by omega) (by omega);have o:ah (((acc.length:aN):az)=70)=ah (acc.length=70):=by rw[b7];omega
  rw[st,rm,o];cases b<;>rfl
end
def run(ls:aE ar)(hl:ls.length<=90):∀(m i:aN) (acc:aE Ev),i<=ls.length->ls.length-i<m->acc.length<=70->g7 m ls i acc=ai (rv (uz i (ls.drop i) acc).1,(uz i (ls.drop i) acc).2):=by
 intro m;induction m with
 |zero=>intro i acc _ h;omega
 |succ m ih=>
  intro i acc hi hm d;by_cases h:i<ls.length
  ·rw[cJ h,uz];cases hq:(parts ls[i]).2 with
   |false=>rw[st0 h hl acc m hq];rfl
   |true=>
    rw[au];cases hd:idle (parts ls[i]).1 with
    |true=>rw[st1 h hl acc m hq hd,au];exact ih (i+1) acc h (by omega) d
    |false=>
     rw[st2 h hl acc m hq hd d,ax];cases hE:E (parts ls[i]).1 with
     |none=>rfl
     |some e=>
      dsimp only;by_cases a:acc.length=70
      ·rw[aA a];rfl
      ·rw[aD a,ax,ax];exact ih (i+1) _ h (by omega) (by simp;omega)
  ·have:i=ls.length:=by omega
   subst this;rw[stop,c_,uz]
def ok(s:ar)(h:s.size<=4000000000):c s=ao/\v s=(rv (dE s).1,(dE s).2):=by
 refine out _ ?_;unfold vo b bY bw;have f:=tE.Oj 10 s h;have j:=tE.Ol 10 s;obtain⟨A,Z,h1,h2⟩:=H8.Fk s;have r:=nf.Hr 10 s;rw[h1,bU,bz]at r;rw[show((aw #[aj 10]):ar)=⟨#[10]⟩from rfl,f,au,j,h1,cL,bU,bz];have k:bA (((A.length+1:aN):az)-1)=((A.length:aN):az):=by rw[c6 (by omega) (by omega)];omega
 have o:(A++[Z]).getD A.length ⟨#[]⟩=Z:=by simp[eC]
 have t:gA 0 ((A.length:aN):az) ((A.length+1:aN):az)=true:=by unfold gA;simp;omega
 have u:ez (rs (A++[Z])) (aP 0) A.length=rs A:=by unfold ez Lib.rs;rw[show aP 0=0 from rfl,gz,H2,cT,List.take_left' (by simp)]
 rw[k,cm,aA (show((A.length:aN):az)<((A.length+1:aN):az)by omega),aK,au,dK,cS,o,kf.zR,t,au,u,cL];have fin:∀ls:aE ar,lines s=ls->(bif ah (((s.size:aN):az)>3000)then ai (([]:Row),(-1:az))else bif ah (((ls.length:aN):az)>90)then ai ([],-1)else g7 cw ls 0 [])=ai (rv (dE s).1,(dE s).2):=by
  intro ls e;unfold wO.dE;rw[e];by_cases hs:(s.size:az)>3000
  ·rw[aA hs,au,aD (show¬s.size<=3000 by omega)];rfl
  ·rw[aD hs,ax,aA (show s.size<=3000 by omega)];by_cases hl:((ls.length:aN):az)>90
   ·rw[aA hl,au,aD (show¬ls.length<=90 by omega)];rfl
   ·rw[aD hl,ax,aA (show ls.length<=90 by omega)];exact run ls (by omega) cw 0 [] (bB _) eG (by simp)
 by_cases a:Z.size=0
 ·rw[bm a]at h2;have d:Z=⟨#[]⟩:=kQ (Array.size_eq_zero_iff.1 a);rw[aA d,au];exact fin A h2
 ·rw[bk a]at h2;have d:¬Z=⟨#[]⟩:=λe=>a (by rw[e];rfl);rw[aD d,ax];rw[show A.length+1=(A++[Z]).length by simp];exact fin (A++[Z]) h2
end Qk
namespace J5
open _root_.Go.FG.Lib (rc)
def ok(p:Px)(f:az)(hp:p.Fit 1048576):c p.now (re p.en) (rs p.w) (rs p.m) (rr p.s) p.a (rf p.fe) (rc p.cl) p.hits f=ao/\v p.now (re p.en) (rs p.w) (rs p.m) (rr p.s) p.a (rf p.fe) (rc p.cl) p.hits f=(lC p&&ah (0<=f/\f<=(p.fe.length:az)-1)):=by have h:=OW.ok p hp;have d:=hp.fe;refine out _ _ _ _ _ _ _ _ _ _ ?_;unfold vo b bw;rw[h.1,h.2,au,dV,c6 (x:=(p.fe.length:az)-1) (by omega) (by omega),show kP.v f 0 ((p.fe.length:az)-1)=ah (0<=f/\f<=(p.fe.length:az)-1)from fE.eL _ _ _];cases lC p<;>rfl
end J5
namespace Qq
open _root_.Go.FG.Lib (rc)
def ok(p:Px)(f:aN)(C:f<p.fe.length)(hl:p.fe.length<=2097152)(N:p.cl.length<=2097152):
  c p.now (re p.en) (rs p.w) (rs p.m) (rr p.s) p.a (rf p.fe) (rc p.cl) p.hits (f:az)=ao/\v p.now (re p.en) (rs p.w) (rs p.m) (rr p.s) p.a (rf p.fe) (rc p.cl) p.hits (f:az)=(p.now,re p.en,rs p.w,rs p.m,rr p.s,p.a,rf p.fe,rc (qk p.cl f 1 (el p.fe f).t),p.hits):=by
 refine out _ _ _ _ _ _ _ _ _ _ ?_;unfold vo b;rw[eQ];have key:=nT Cl.row p.cl (λ_ c=>ec f 1 (el p.fe f).t c) (λn (i:aN) x=>l1 cw (λ(_ _ _ j k o:az) (r u y z A B:Row)=>ai (j,u,y,z,A,k,B,r,o)) n (f:az) (p.cl.length:az) (i:az) p.now p.a p.hits x (re p.en) (rs p.w) (rs p.m) (rr p.s) (rf p.fe)) (λx=>ai (p.now,re p.en,rs p.w,rs p.m,rr p.s,p.a,rf p.fe,x,p.hits)) (λn i L h h2 M d=> ?_) (λn L M=> ?_) cw eG
 ·rw[mY]at key;exact key
 ·have H:av (L.map Cl.row) i (1+1)=CV.i ak p.cl[i].fe:=by rw[fG _ L i _ h2,d];rfl
  have K:av (L.map Cl.row) i (1+1+1+1)=CV.i ak p.cl[i].sta:=by rw[fG _ L i _ h2,d];rfl
  have s1:eH (L.map Cl.row) i 5 [CV.s (el p.fe f).t]=(L.set i {p.cl[i]with got:=(el p.fe f).t}).map Cl.row:=k9 Cl.row L i 5 _ _ h2 (by rw[d];rfl);simp only[l1,r1,dh,h,h2,C,bK,ch,aQ,cm,aK,au,dK,H,K,bO,s1,pX,dV,J_ C,bn,cG h (by omega:p.cl.length<=9223372036854775807),c6 (x:=(f:az)+1) (by omega) (by omega),bY];unfold ec;cases ah (p.cl[i].fe=(f:az)+1)with
  |false=>rw[lH,ax,ax,<-d,fc]
  |true=>
   cases hd:ah (p.cl[i].sta=1)with
   |false=>rw[bj,au,ax,ax,<-d,fc]
   |true=>have e:=cB hd;rw[bj,au,au,au];rw[show({p.cl[i]with sta:=1,got:=(el p.fe f).t}:Cl)={p.cl[i]with got:=(el p.fe f).t}by rw[<-e]]
 ·simp only[l1,r1,dh,bg,bc,ax,bY]
end Qq
namespace Vv
open _root_.Go.FG.Lib (rc)
open fA (told)
def ok(p:Px)(f:az)(q:ar)(hp:p.Fit 1048576):c p.now (re p.en) (rs p.w) (rs p.m) (rr p.s) p.a (rf p.fe) (rc p.cl) p.hits f q=ao/\v p.now (re p.en) (rs p.w) (rs p.m) (rr p.s) p.a (rf p.fe) (rc p.cl) p.hits f q=(p.now,re p.en,rs p.w,rs p.m,rr p.s,p.a,rf (Ht p f q).1.fe,rc (Ht p f q).1.cl,p.hits,(Ht p f q).2):=by
 have h1:=oX.ok p hp;have h2:=J5.ok p f hp;have y:=hp.fe;have u:=hp.cl;refine out _ _ _ _ _ _ _ _ _ _ _ ?_;unfold vo b Ht jB nh bY cq db du cC dm dt dP;simp only[ic,h1.1,h1.2,h2.1,h2.2,au];unfold yV;cases e:mj.lC p&&ah (0<=f/\f<=(p.fe.length:az)-1)with
 |false=>rw[<-nV (mj.lC p),e];rfl
 |true=>
  rw[<-nV (mj.lC p),e,bj];rw[aM,ba]at e;obtain⟨n,rfl⟩:∃n:aN,f=(n:az):=⟨f.toNat,by omega⟩
  have j:n<p.fe.length:=by omega
  have d:=fA.ZR e.1 n j;unfold nz.nN at d;simp only[aM,ba]at d;have k:=QB.put (el p.fe n).sta (el p.fe n).t q d.2.1 d.2.2.1;simp only[aY,ax,au,cm,dh,dV,j,aQ,aK,dK,DI j,J_ j,bO,bn,k];cases hs:ah ((el p.fe n).sta=1)&&(ah (1<=q.size/\q.size<=40)&&ah ((el p.fe n).t.size+q.size<=400))with
  |false=>rfl
  |true=>
   have r:=Es p.fe n 1 [CV.s ((el p.fe n).t++q)] {el p.fe n with t:=(el p.fe n).t++q} j rfl;have o:n<(p.fe.set n {el p.fe n with t:=(el p.fe n).t++q}).length:=by rw[ch];exact j
   have h3:=Qq.ok {p with fe:=p.fe.set n {el p.fe n with t:=(el p.fe n).t++q}} n o (by rw[ch];omega) (by dsimp only;omega);dsimp only at h3;rw[mm j]at h3;simp only[aY,ax,au,r,h3.1,h3.2];rfl
end Vv
namespace Kp
open _root_.Go.FG.Lib (rc)
def ok(p:Px)(f:aN)(st:az)(B:f<p.fe.length)(hl:p.fe.length<=2097152)(N:p.cl.length<=2097152):
  c p.now (re p.en) (rs p.w) (rs p.m) (rr p.s) p.a (rf p.fe) (rc p.cl) p.hits (f:az) st=ao/\v p.now (re p.en) (rs p.w) (rs p.m) (rr p.s) p.a (rf p.fe) (rc p.cl) p.hits (f:az) st=(p.now,re p.en,rs p.w,rs p.m,rr p.s,p.a,rf p.fe,rc (qk p.cl f st (el p.fe f).t),p.hits):=by
 refine out _ _ _ _ _ _ _ _ _ _ _ ?_;unfold vo b;rw[eQ];have key:=nT Cl.row p.cl (λ_ c=>ec f st (el p.fe f).t c) (λn (i:aN) x=>l1 cw (λ(_ _ _ _ e j k:az) (o r u y z A:Row)=>ai (e,r,u,y,z,j,A,o,k)) n (f:az) st (p.cl.length:az) (i:az) p.now p.a p.hits x (re p.en) (rs p.w) (rs p.m) (rr p.s) (rf p.fe)) (λx=>ai (p.now,re p.en,rs p.w,rs p.m,rr p.s,p.a,rf p.fe,x,p.hits)) (λn i L h h2 K d=> ?_) (λn L K=> ?_) cw eG
 ·rw[mY]at key;exact key
 ·have C:av (L.map Cl.row) i (1+1)=CV.i ak p.cl[i].fe:=by rw[fG _ L i _ h2,d];rfl
  have H:av (L.map Cl.row) i (1+1+1+1)=CV.i ak p.cl[i].sta:=by rw[fG _ L i _ h2,d];rfl
  have s1:eH (L.map Cl.row) i 4 [CV.i ak st]=(L.set i {p.cl[i]with sta:=st}).map Cl.row:=k9 Cl.row L i 4 _ _ h2 (by rw[d];rfl);have h3:i<(L.set i {p.cl[i]with sta:=st}).length:=by simpa using h2
  have M:eH ((L.set i {p.cl[i]with sta:=st}).map Cl.row) i 5 [CV.s (el p.fe f).t]=((L.set i {p.cl[i]with sta:=st}).set i {p.cl[i]with sta:=st,got:=(el p.fe f).t}).map Cl.row:=k9 Cl.row _ i 5 _ _ h3 (by rw[kT];rfl);simp only[l1,r1,dh,h,h2,B,bK,ch,aQ,cm,aK,au,dK,C,H,bO,s1,M,pX,dV,J_ B,bn,cG h (by omega:p.cl.length<=9223372036854775807),c6 (x:=(f:az)+1) (by omega) (by omega),bY];unfold ec;cases ah (p.cl[i].fe=(f:az)+1)with
  |false=>rw[lH,ax,ax,<-d,fc]
  |true=>
   cases ah (p.cl[i].sta=1)with
   |false=>rw[bj,au,ax,ax,<-d,fc]
   |true=>rw[bj,au,au,au]
 ·simp only[l1,r1,dh,bg,bc,ax,bY]
end Kp
namespace zO
open _root_.Go.FG.Lib (rc)
def ok(p:Px)(e:En)(r6 r7:Row)(hp:p.Fit 1048575)(d:So p.en)(hk:e.k.size<=140737488355328):
  c p.now (re p.en) (rs p.w) (rs p.m) (rr p.s) p.a r6 r7 p.hits e.k e.st e.li e.bo=ao/\v p.now (re p.en) (rs p.w) (rs p.m) (rr p.s) p.a r6 r7 p.hits e.k e.st e.li e.bo=(p.now,re (HI p e).en,rs (HI p e).w,rs (HI p e).m,rr (HI p e).s,(HI p e).a,r6,r7,p.hits):=by have r:=hp.en;have hw:=hp.w;have hm:=hp.m;obtain⟨f,j,o⟩:=eO.LW p.w p.m p.s p.a e.k;have h1:=OY.ok p.w p.m p.s p.a e.k (by omega) (by omega) ⟨ca hp.s.1 (by omega),λq hq=>ca (hp.s.2.1 q hq) (by omega)⟩ hk;refine out _ _ _ _ _ _ _ _ _ _ _ _ _ ?_;unfold vo b HI iU ng cq p8;generalize eO.val p.w p.m p.s p.a e.k=V at h1 f j o;obtain⟨W,M,T,A,G⟩:=V;dsimp only at h1 f j⊢;have h2:=DQ.ok (re p.en) G (iB.M' _) (by rw[dC];omega);rw[iB.BZ]at h2;have h3:=H5.ok W M (rr T) A e.k (by omega) (by omega);have hd:=iB.ua p.en G;have h4:=vk.ok (re (ik p.en G)) e.k e.st e.li e.bo (iB.AY (d.drop G)) (by rw[dC];omega);rw[iB.sG]at h4;simp only[ic,h1.1,h1.2,h2.1,h2.2,h3.1,h3.2,h4.1,h4.2,au];cases eV.has W e.k||eV.has M e.k<;>rfl
end zO
namespace VB
open _root_.Go.FG.Lib (rc)
open fA (told)
def ok(p:Px)(f life:az)(hp:p.Fit 1048576):c p.now (re p.en) (rs p.w) (rs p.m) (rr p.s) p.a (rf p.fe) (rc p.cl) p.hits f life=ao/\v p.now (re p.en) (rs p.w) (rs p.m) (rr p.s) p.a (rf p.fe) (rc p.cl) p.hits f life=(p.now,re (cls p f life).1.en,rs (cls p f life).1.w,rs (cls p f life).1.m,rr (cls p f life).1.s,(cls p f life).1.a,rf (cls p f life).1.fe,rc (cls p f life).1.cl,p.hits,(cls p f life).2):=by
 have h1:=oX.ok p hp;have h2:=J5.ok p f hp;have N:=hp.fe;have M:=hp.cl;refine out _ _ _ _ _ _ _ _ _ _ _ ?_;unfold vo b cls jB mB pH nh bY cq db du cC dm dP;simp only[ic,h1.1,h1.2,h2.1,h2.2,au];unfold yV;cases j:mj.lC p&&ah (0<=f/\f<=(p.fe.length:az)-1)with
 |false=>rw[<-nV (mj.lC p),j];rfl
 |true=>
  rw[<-nV (mj.lC p),j,bj];rw[aM,ba]at j;obtain⟨n,rfl⟩:∃n:aN,f=(n:az):=⟨f.toNat,by omega⟩
  have d:n<p.fe.length:=by omega
  obtain⟨so,_,_,_,_,_,_,_,_,_,e⟩:=oM.Hv j.1;have e:=e n d;unfold nz.nN at e;rw[aM]at e;have A:=eO.kr e.1;simp only[aY,ax,au,cm,dh,dV,d,aQ,aK,dK,DI d,bO];rw[show((el p.fe n).sta !=1)= !decide ((el p.fe n).sta=1)from rfl,show kP.v life 0 999999=ah (0<=life/\life<=999999)from fE.eL _ _ _];cases hs:ah ((el p.fe n).sta=1)with
  |false=>rfl
  |true=>
   cases hl:ah (0<=life/\life<=999999)with
   |false=>rfl
   |true=>
    have z:=Es p.fe n 2 [CV.i ak 2] {el p.fe n with sta:=2} d rfl;have B:n<(p.fe.set n {el p.fe n with sta:=2}).length:=by rw[ch];exact d
    have u:=Es (p.fe.set n {el p.fe n with sta:=2}) n 3 [CV.i ak life] {el p.fe n with sta:=2,li:=life} B (by rw[mm d];rfl);rw[pX]at u;have C:n<(p.fe.set n {el p.fe n with sta:=2,li:=life}).length:=by rw[ch];exact d
    have o:=Es (p.fe.set n {el p.fe n with sta:=2,li:=life}) n 4 [CV.i ak p.now] {el p.fe n with sta:=2,li:=life,st:=p.now} C (by rw[mm d];rfl);rw[pX]at o;generalize hg:({el p.fe n with sta:=2,li:=life,st:=p.now}:Lib.Fe)=g at o;have r:n<(p.fe.set n g).length:=by rw[ch];exact d
    have h3:=Kp.ok {p with fe:=p.fe.set n g} n 2 r (by rw[ch];omega) (by dsimp only;omega);dsimp only at h3;rw[mm d]at h3;have hk:g.k=(el p.fe n).k:=by rw[<-hg]
    have h4:=zO.ok (told p n g 2) (mS g) (rf (p.fe.set n g)) (rc (told p n g 2).cl) ((yK (oM.jQ j.1)).le (by omega)) so (by show g.k.size<=_;rw[hk];omega);have H:bn (av (rf (p.fe.set n g)) n 0)=g.k:=by rw[L5 r,mm d];rfl
    have K:bn (av (rf (p.fe.set n g)) n 1)=g.t:=by rw[J_ r,mm d];rfl
    have y:g.li=life:=by rw[<-hg]
    have gs:g.st=p.now:=by rw[<-hg]
    unfold mS at h4;dsimp only[told]at h4;rw[y,gs]at h4;unfold mS told;simp only[aY,ax,au,z,u,o,h3.1,h3.2,H,K,y,gs];cases ah (life>0)with
    |true=>simp only[au,h4.1,h4.2];rfl
    |false=>rfl
end VB
namespace Ko
open dJ (ko act)
def ok(l:aE Fi)(a:aE Ac)(hl:l.length<=1000)(K:a.length<=1000000)(C:∀x∈a,x.t.size<=2305843009213693952):c (rd l) (ra a)=ao/\v (rd l) (ra a)=(rd (ko l 0 a).1,((ko l 0 a).2:az)):=by
 refine out _ _ ?_;unfold vo b bw;have h1:=tP.ok (rd l) (by rw[eA];omega);rw[h1.1,h1.2,au,sH]
 have key:∀(d i n:aN) (l:aE Fi),a.length-i<=d->i<=a.length->l.length<=1000->d<n->
   l3 cw (λ(_:Row) (H:az) (_:Row) (_ _:az) (r:Row)=>ai (r,H)) (λ(s:Row) (_:az) (_:Row) (_ _:az) (u:Row)=>ai (u,(↑(bD s):az))) n (ra a) 0 (ra a) (a.length:az) (i:az) (rd l)=ai (rd (ko l i (a.drop i)).1,((ko l i (a.drop i)).2:az)):=by
  intro d
  induction d with
  |zero=>
   intro i n l z A y B;obtain⟨n,rfl⟩:∃j,n=j+1:=⟨n-1,by omega⟩
   have:i=a.length:=by omega
   subst this;simp only[l3,r3,dh,bg,bc,ax,sH,c_,ko,bY,bw]
  |succ d ih=>
   intro i n l z A y B;obtain⟨n,rfl⟩:∃j,n=j+1:=⟨n-1,by omega⟩
   by_cases hi:i<a.length
   ·have hd:=sf.ok l (el a i).k (el a i).n (el a i).t (el a i).o y (C _ (iY hi));simp only[l3,r3,dh,sH,hi,aQ,cm,aK,au,dK,wa0 hi,wa1 hi,wa2 hi,wa3 hi,bn,bO,hd.1,hd.2,cG hi (by omega:a.length<=9223372036854775807),bY,bw];rw[cJ hi,<-e7 hi];unfold ko;cases f:act l (el a i).k (el a i).n (el a i).t (el a i).o with
    |none=>rfl
    |some e=>have:=(BQ f).2;exact ih (i+1) n e (by omega) hi (by omega) (by omega)
   ·have:i=a.length:=by omega
    subst this;simp only[l3,r3,dh,bg,bc,ax,sH,c_,ko,bY,bw]
 exact key a.length 0 cw l (by omega) (bB _) hl eG
end Ko
namespace Vw
open _root_.Go.FG.Lib (rc)
open lj (dk es)
open dY (ri jQ)
def ok{i:aN}(h:Bk i w)(hi:i<=71)(id life:az)(hl:0<=life/\life<=999999):c w.p.now (re w.p.en) (rs w.p.w) (rs w.p.m) (rr w.p.s) w.p.a (rf w.p.fe) (rc w.p.cl) w.p.hits (rd (dk w.o)) (ri w.cd) (re w.bd) id life=ao/\v w.p.now (re w.p.en) (rs w.p.w) (rs w.p.m) (rr w.p.s) w.p.a (rf w.p.fe) (rc w.p.cl) w.p.hits (rd (dk w.o)) (ri w.cd) (re w.bd) id life=((cls w.p id life).2,Cx (closed w id life).1):=by
 refine out _ _ _ _ _ _ _ _ _ _ _ _ _ _ ?_;have U:=h.bd;have Y:=h.tx hi;have V:=lj.CL w.o;have A:=VB.ok w.p id life (jQ h.px);obtain⟨H,K⟩:=mh.KE (f:=id) h.px hl;obtain⟨s1,M⟩:=wM.IK (p:=w.p) (f:=id) (life:=life);have d:=jQ H;unfold vo b mB iU j7 ng bY bw cq db du cC dm je tn;rw[A.1,au,A.2,dY.lt_eq];unfold closed Cx;dsimp only;rw[<-s1,<-M];generalize cls w.p id life=Q at H K s1 M d;obtain⟨q,ok⟩:=Q;dsimp only at H K s1 M d⊢;rcases K with ⟨r1,r2⟩|⟨r1,n,rn,O,u,h5,rl⟩
 ·subst r1;rfl
 subst r1;rw[aY,ax];by_cases P:life=0
 ·rw[aA P,au,bj,aD (show¬life>0 by omega)];rfl
 rw[aD P,ax,bj,aA (show life>0 by omega),au];obtain⟨t1,t2⟩:=rl (by omega);have j:n<q.fe.length:=by rw[u,ch];exact O
 have r:el q.fe n={el w.p.fe n with sta:=2,li:=life,st:=w.p.now}:=by rw[u,fA.mm O]
 subst rn;rw[dX];have B:=H5.ok q.w q.m (rr q.s) q.a (el q.fe n).k d.w d.m;have C:=J6.ok (el q.fe n).k (el q.fe n).st (el q.fe n).li (el q.fe n).t;have hE:gU.v (el q.fe n).k (el q.fe n).st (el q.fe n).li (el q.fe n).t=true:=by rw[r];exact t1
 have X:=mh.KV (e:=mS (el q.fe n)) hE;rw[J6.val,bm hE,show J6.ko (fI.fr (jN.tu (el q.fe n).k (el q.fe n).st (el q.fe n).li (el q.fe n).t))=dJ.ra (iV.rk (iV.I6 (mS (el q.fe n))))from rfl]at C;have D:=Ko.ok (dk w.o) (iV.rk (iV.I6 (mS (el q.fe n)))) (by omega) (by unfold iV.rk;simp) (λx z=>by
  unfold iV.rk at z;simp only[cF,lQ,or_false]at z;rcases z with rfl|rfl
  ·show(iV.I6 (mS (el q.fe n))).size<=_;omega
  ·exact bB _)
 rw[lj.Nd (by omega)]at D;have S:(eV.has q.w (el q.fe n).k||eV.has q.m (el q.fe n).k)=true:=by rw[r];exact t2
 rw[S]at B;have room:∀y,b_ ((re w.bd).length+(aC (aR [Ck.s,Ck.i ak,Ck.i ak,Ck.s] 1) 0 y).length) 48=true:=λy=>by rw[dC,dY.nP];exact b6 (by omega) (by omega)
 have N:=FA w.bd (mS (el q.fe n));unfold mS at N C D;dsimp only at N;simp only[dY.lt_eq,dV,dh,j,aQ,cm,aK,au,dK,L5 j,J_ j,wf3 j,wf4 j,bn,bO,B.1,B.2,C.1,C.2,D.1,D.2,room,N,show mS (el q.fe n)=⟨(el q.fe n).k,(el q.fe n).st,(el q.fe n).li,(el q.fe n).t⟩from rfl]
end Vw
namespace Vx
open _root_.Go.FG.Lib (rc)
open fA (told)
def ok(p:Px)(f:az)(hp:p.Fit 1048576):c p.now (re p.en) (rs p.w) (rs p.m) (rr p.s) p.a (rf p.fe) (rc p.cl) p.hits f=ao/\v p.now (re p.en) (rs p.w) (rs p.m) (rr p.s) p.a (rf p.fe) (rc p.cl) p.hits f=(p.now,re p.en,rs p.w,rs p.m,rr p.s,p.a,rf (GW p f).1.fe,rc (GW p f).1.cl,p.hits,(GW p f).2):=by
 have h1:=oX.ok p hp;have h2:=J5.ok p f hp;have r:=hp.fe;have o:=hp.cl;refine out _ _ _ _ _ _ _ _ _ _ ?_;unfold vo b GW jB mB nh bY cq db du cC dm dP;simp only[ic,h1.1,h1.2,h2.1,h2.2,au];unfold yV;cases d:mj.lC p&&ah (0<=f/\f<=(p.fe.length:az)-1)with
 |false=>rw[<-nV,d];rfl
 |true=>
  rw[<-nV,d,bj];rw[aM,ba]at d;obtain⟨n,rfl⟩:∃n:aN,f=(n:az):=⟨f.toNat,by omega⟩
  have e:n<p.fe.length:=by omega
  simp only[aY,ax,au,cm,dh,dV,e,aQ,aK,dK,DI e,bO];cases hs:ah ((el p.fe n).sta=1)with
  |false=>rw[show((el p.fe n).sta !=1)= !decide ((el p.fe n).sta=1)from rfl,hs];rfl
  |true=>
   have k:=Es p.fe n 2 [CV.i ak 3] {el p.fe n with sta:=3} e rfl;have j:n<(p.fe.set n {el p.fe n with sta:=3}).length:=by rw[ch];exact e
   have h3:=Kp.ok {p with fe:=p.fe.set n {el p.fe n with sta:=3}} n 3 j (by rw[ch];omega) (by dsimp only;omega);dsimp only at h3;rw[mm e]at h3;rw[show((el p.fe n).sta !=1)= !decide ((el p.fe n).sta=1)from rfl,hs];simp only[aY,ax,au,k,h3.1,h3.2];rfl
end Vx
namespace Vy
open _root_.Go.FG.Lib (rc)
def md(n:az):Qr.c n 1000=ao/\Qr.v n 1000=n%1000:=by
 refine Qr.out _ _ ?_;unfold Qr.vo Qr.b bw;have t:=tm n;rw[show(!decide ((1000:az)=0))=ao from rfl,au,au];congr 1;by_cases a:bQ n 1000<0
 ·have e:=t.2 a;rw[e,c6 (x:=n%1000) (by omega) (by omega),dO (by omega)];omega
 ·have e:=t.1 (by omega);rw[e,c6 (x:=n%1000+1000) (by omega) (by omega),dO (by omega)];omega
def ok(p:Px)(n:az)(hp:p.Fit 1048576):c p.now (re p.en) (rs p.w) (rs p.m) (rr p.s) p.a (rf p.fe) (rc p.cl) p.hits n=ao/\v p.now (re p.en) (rs p.w) (rs p.m) (rr p.s) p.a (rf p.fe) (rc p.cl) p.hits n=((se.val p n).now,re p.en,rs p.w,rs p.m,rr p.s,p.a,rf p.fe,rc p.cl,p.hits):=by have h:=oX.ok p hp;have hm:=md n;refine out _ _ _ _ _ _ _ _ _ _ ?_;unfold vo b se.val later bw cq db du cC dm dP;simp only[ic,h.1,h.2,hm.1,hm.2,au];rw[c6 (x:=1000000000-n%1000) (by omega) (by omega)];cases ah (p.now>1000000000-n%1000)<;>rfl
end Vy
namespace vv
def p(s:Row)(k:az)(i:aN):aZ:=ah (bO (av s i 0)=k)
def ok(d:Row)(n:az)(hl:d.length<=4294967296):c d n=ao/\v d n=fi (p d n) d.length 0:=by
 refine out d n ?_;unfold vo b;refine ox (p d n) d.length (λm (i:aN)=>l2 cw (λ(_:Row) (_:az) (a _ _:az)=>ai a) (λ(_:Row) (_:az) (_ _ _:az)=>ai (-1)) m d n 0 (d.length:az) (i:az)) ai (λm i hi hp=> ?_) (λm i hi hp=> ?_) (λm=> ?_) cw eG
 ·unfold p at hp;simp only[l2,r2,dh,cm,dK,hi,aQ,aK,au,VC.v,hp,bY]
 ·unfold p at hp;simp only[l2,r2,dh,cm,dK,hi,aQ,aK,au,VC.v,hp,ax,cG hi (by omega:d.length<=9223372036854775807),bY]
 ·simp only[l2,r2,dh,bg,bc,ax,bY]
end vv
namespace MX
def cn(y:aE CV):aZ:=match y with|[.i ak _,.s _,.i ak _,.i ak _,.i ak _,.s _,.i ak _]=>ao|_=>aq
def cr(y:aE CV):aE CV:=[CV.i ak (bO (y.getD 0 (.b aq))),CV.s (bn (y.getD 1 (.b aq))),CV.i ak (bO (y.getD 2 (.b aq))),CV.i ak (bO (y.getD 3 (.b aq))),CV.i ak (bO (y.getD 4 (.b aq))),CV.s (bn (y.getD 5 (.b aq))),CV.i ak (bO (y.getD 6 (.b aq)))]
def t_(h:cn y=ao):cr y=y:=by
 unfold cn at h;split at h
 ·rfl
 ·cases h
def keep(d:az)(y:aE CV):aZ:= !decide (bO (y.getD 0 (.b aq))=d)
def ok(d:Row)(a:az)(A:d.all cn=ao)(B:d.length<=4294967296):c d a=ao/\v d a=d.filter (keep a):=by
 refine out d a ?_;have z:=vv.ok d a B;have f:∀y∈d,cn y=true:=bE.1 A;have hl:∀y,cn y=ao->y.length=7:=λy h=>by rw[<-t_ h];rfl
 unfold vo b bw;rw[z.1,z.2,au];rcases nU.first d (keep a) (vv.p d a) (λi h=>by unfold vv.p keep;rw[dB h,A6])with ⟨h,e⟩|⟨k,h,hk,e⟩
 ·rw[h,e];rfl
 ·rw[h,aD (show¬(k:az)=s9 1 by show¬(k:az)= -1;omega),ax,cG hk (by omega)];refine nU.run (λm=>l5 cw _ m) ai a (keep a) cn 7 hl d f (λm j i x hi r t o hw hq=> ?_) (λm j i x hi t hq=> ?_) (λm j x t r=> ?_) _ k (k+1) d ⟨by omega,by omega,rfl,λy C=>hl y (f y C),e,rfl⟩ eG
  ·have u:VC.v (bO (av x i 0)) (bn (av x i 1)) (bO (av x i (1+1))) (bO (av x i (1+1+1))) (bO (av x i (1+1+1+1))) (bn (av x i (1+1+1+1+1))) (bO (av x i (1+1+1+1+1+1))) a=false:=by rw[dB hi];exact(di _).mp hq
   have es:eH x j 0 [CV.i ak (bO (av x i 0)),CV.s (bn (av x i 1)),CV.i ak (bO (av x i (1+1))),CV.i ak (bO (av x i (1+1+1))),CV.i ak (bO (av x i (1+1+1+1))),CV.s (bn (av x i (1+1+1+1+1))),CV.i ak (bO (av x i (1+1+1+1+1+1)))]=x.set j x[i]:=by simp only[dB hi];exact(gu (eH x j 0) (t_ o)).trans (nU.put r hw (hl _ o))
   simp only[l5,r5,dh,cm,dK,hi,r,aQ,bj,au,u,bH,es,cG hi (by omega),cG r (by omega),bY]
  ·have u:VC.v (bO (av x i 0)) (bn (av x i 1)) (bO (av x i (1+1))) (bO (av x i (1+1+1))) (bO (av x i (1+1+1+1))) (bn (av x i (1+1+1+1+1))) (bO (av x i (1+1+1+1+1+1))) a=true:=by rw[dB hi];exact(iw _).mp hq
   simp only[l5,r5,dh,cm,dK,hi,aQ,bj,au,u,aY,ax,cG hi (by omega),bY]
  ·rw[<-t];simp only[l5,r5,dh,bg,bc,ax,bY];exact nU.tail ai d x j t r
end MX
namespace Vz
open _root_.Go.FG.Lib (rc)
def ahj(l:aE Cl):(rc l).all MX.cn=true:=by rw[bE];intro y a;unfold Lib.rc at a;obtain⟨z,_,rfl⟩:=cU.1 a;rfl
def adP(l:aE Cl)(id:az):(rc l).filter (MX.keep id)=rc (l.filter λc=> !decide (c.id=id)):=by unfold Lib.rc;rw[pj];rfl
def ok(p:Px)(id:az)(hp:p.Fit 1048576):c p.now (re p.en) (rs p.w) (rs p.m) (rr p.s) p.a (rf p.fe) (rc p.cl) p.hits id=ao/\v p.now (re p.en) (rs p.w) (rs p.m) (rr p.s) p.a (rf p.fe) (rc p.cl) p.hits id=(p.now,re p.en,rs p.w,rs p.m,rr p.s,p.a,rf p.fe,rc (vi.val p id).cl,p.hits):=by have h:=oX.ok p hp;have d:=hp.cl;have h2:=MX.ok (rc p.cl) id (ahj _) (by rw[eQ];omega);rw[adP]at h2;exact out _ _ _ _ _ _ _ _ _ _ (by unfold vo b bw cq db du cC dm dP;simp only[ic,h.1,h.2,h2.1,h2.2,au];rfl)
end Vz
namespace Be
def ok(d l:Row)(hd:d.length<=1048576)(hl:l.length<=1048576):c d l=ao/\v d l=jM.val d l:=by
 refine out d l ?_;have r:=kj.ok d (by omega);have s:=vj.ok d (aw #[aj 110,aj 101,aj 119]) (by omega);have t:ml.val d (aw #[aj 110,aj 101,aj 119])=ml.val d jM.nm:=rfl;unfold vo b jM.val bw;rw[r.1,r.2,au];cases fT.val d with
 |false=>rfl
 |true=>
  rw[aY,ax,au];have u:∀(K0 K1:aZ->ar->Row->az->az->Row->aG (Row×aZ)) (e:ar->aG (Row×aZ)) (h0:∀x i,K0 aq x l l.length i d=ai ([],aq)) (h1:∀x i,K1 aq x l l.length i d=e x),l5 cw K0 K1 cw aq ⟨#[]⟩ l l.length 0 d=jM.fin (jM.fs l l.length 0 ⟨#[]⟩) (ai ([],aq)) e:=by
   intro K0 K1 e h0 h1;refine jM.M9 l hl (λm i acc=>l5 cw K0 K1 m aq acc l l.length (i:az) d) _ e (λm i acc hi y z k=> ?_) (λm i acc hi k=> ?_) (λm acc=> ?_)
   ·have j:bA ((i:az)+1)=((i+1:aN):az):=c6 (by omega) (by omega);have a:=mP.ok (bn (av l i 0)) (bO (av l i 1)) (bO (av l i (1+1))) (bn (av l i (1+1+1)));have f:mP.val (bn (av l i 0)) (bO (av l i 1)) (bO (av l i (1+1))) (bn (av l i (1+1+1)))=(fI.fr (jM.tx l i),ao):=by unfold mP.val;exact bm k
    simp only[l5,r5,dh,cm,dK,hi,aQ,aK,au,ax,a.1,a.2,f,aY,aA (show acc.size+(fI.fr (jM.tx l i)).size<=4611686018427387904 by omega),j,bY,bw]
   ·have a:=mP.ok (bn (av l i 0)) (bO (av l i 1)) (bO (av l i (1+1))) (bn (av l i (1+1+1)));have f:mP.val (bn (av l i 0)) (bO (av l i 1)) (bO (av l i (1+1))) (bn (av l i (1+1+1)))=(⟨#[]⟩,aq):=by unfold mP.val;rw[bk (by intro h;have o:jM.eo l i=true:=h;rw[k]at o;cases o)]
    simp only[l5,r5,dh,cm,dK,hi,aQ,aK,au,a.1,a.2,f,bH,bY,bw];exact h0 acc i
   ·simp only[l5,r5,dh,bg,bc,ax,bY,bw];exact h1 acc _
  refine(u _ _ (λx=>ai (jM.ko (ml.val d jM.nm).2 x,ao)) (λ_ _=>rfl) (λx _=> ?_)).trans ?_
  ·rw[s.1,au,s.2,t];cases (ml.val d jM.nm).2<;>rfl
  ·cases jM.fs l l.length 0 ⟨#[]⟩<;>rfl
end Be
namespace Bf
open _root_.Go.FG.Lib (rc)
open fV (tC one)
def ok(now:az)(l:aE En)(hl:l.length<=1048576):
  c now (re l)=ao/\v now (re l)=(now,re (tD now l).en,rs (tD now l).w,rs (tD now l).m,rr (tD now l).s,(tD now l).a,[],[],0):=by
 refine out _ _ ?_;unfold vo b;rw[dC];have key:=iz l.length (λn (i:aN) (p:Px)=>l4 cw (λ(_:az) (_:Row) (_ _ _ _ _ f j o:az) (r t u y z A:Row)=>ai (f,r,t,u,y,j,z,A,o)) n now (re l) (l.length:az) (i:az) 0 0 0 now p.a 0 (re p.en) (rs p.w) (rs p.m) (rr p.s) [] []) (λi=>tD now (l.take i)) (ai (now,re (tD now l).en,rs (tD now l).w,rs (tD now l).m,rr (tD now l).s,(tD now l).a,[],[],0)) (λn i hi=>by
  have I:=ui now l i (by omega);have hs:=yz now l i hi;generalize tD now (l.take i)=p at I hs;rw[hs];unfold one;have hw:bA ((i:az)+1)=((i+1:aN):az):=cG hi (by omega);cases e:tC (el l i) now with
  |false=>have d:EJ.v (el l i).k (el l i).st (el l i).li (el l i).bo now=false:=e;simp only[l4,r4,dC,dh,hi,aQ,cm,aK,au,dK,rJ hi,wG hi,wH hi,wI hi,bn,bO,d,ax,hw,pH,bY,cq,db,du,cC,dm,dP]
  |true=>have d:EJ.v (el l i).k (el l i).st (el l i).li (el l i).bo now=true:=e;have hk:=(gU.DT (zZ e)).1;have h4:=zO.ok p (el l i) [] [] (I.fit (by omega) (by omega)) I.so (by omega);rw[I.now,I.hits]at h4;simp only[l4,r4,ic,dC,dh,hi,aQ,cm,aK,au,dK,rJ hi,wG hi,wH hi,wI hi,bn,bO,d,h4.1,h4.2,hw,pH,bY,cq,db,du,cC,dm,dP]) (λn=>by
  simp only[l4,r4,dh,bg,bc,ax,cR,pH,bY,cq,db,du,cC,dm,dP]) cw 0 (bB _) eG
 exact key
end Bf
namespace Qp
open _root_.Go.FG.Lib (rc)
open lj (dk es)
open dY (ri jQ)
def walk(N:aN)(L:aE En)(A:L.length<=1048576)(z:L.length<N)(K0:az->az->az->az->az->Row->Row->Row->Row->Row->Row->Row->Row->Row->Row->Row->aG R)(now a5 f:az)(j k o r s t u a d:Row):
  l3 N K0 N (L.length:az) 0 now a5 f (re []) (re L) j k o r s t u a d=K0 (L.length:az) (L.length:az) now a5 f (re (L.filter λe=>fV.tC e now)) (re L) j k o r s t u a d:=by
 have hw:∀i,i<L.length->bA ((i:az)+1)=((i+1:aN):az):=λi h=>cG h (by omega)
 have key:=CS L (λe=>fV.tC e now) (λm (i:aN) acc=>l3 N K0 m (L.length:az) (i:az) now a5 f (re acc) (re L) j k o r s t u a d) (λacc=>K0 (L.length:az) (L.length:az) now a5 f (re acc) (re L) j k o r s t u a d) []
  (λm i acc hi y hp=>by rw[<-e7 hi]at hp⊢;unfold fV.tC at hp;simp only[l3,r3,dC,dh,hi,aQ,cm,aK,au,dK,rJ hi,wG hi,wH hi,wI hi,bn,bO,hp,hw i hi,dY.nP,dY.FA,bY,bw];rw[b6 (by simp at y;omega) (by simp at y;omega),au])
  (λm i acc hi hp=>by rw[<-e7 hi]at hp;unfold fV.tC at hp;simp only[l3,r3,dC,dh,hi,aQ,cm,aK,au,dK,rJ hi,wG hi,wH hi,wI hi,bn,bO,hp,hw i hi,ax,bY,bw])
  (λm acc=>by simp only[l3,r3,dh,bg,bc,ax,bY,bw])
  N z
 exact key
def ok{i:aN}(h:Bk i w)(hi:i<=71)(left:Row):c w.p.now (re w.p.en) (rs w.p.w) (rs w.p.m) (rr w.p.s) w.p.a (rf w.p.fe) (rc w.p.cl) w.p.hits (rd (dk w.o)) (ri w.cd) (re w.bd) left=ao/\v w.p.now (re w.p.en) (rs w.p.w) (rs w.p.m) (rr w.p.s) w.p.a (rf w.p.fe) (rc w.p.cl) w.p.hits (rd (dk w.o)) (ri w.cd) (re w.bd) left=Cx (I0 w):=by
 refine out _ _ _ _ _ _ _ _ _ _ _ _ _ ?_;have M:=h.tx hi;have u:=h.len hi;have y:=lj.CL w.o;have A:=xD.ok (dk w.o) left (by omega);rw[lj.Wp (by omega) left,show sf.res (ai (dk w.o))=(rd (dk w.o),ao)from rfl]at A;have B:=(lj.ZP (o:=w.o) (by omega) h.eo).1;have H:=iV.K_ (es w.o);have t:=mh.G9 h.eo;have z:=mh.CX w;have K:=mh.U' _ t;have C:=Be.ok (rd (dk w.o)) (re (oa w)) (by rw[eA];omega) (by rw[dC];omega);rw[lj.ZO (by omega) t]at C;have D:=Ko.ok (dk w.o) (pe.sU (iV.tx (oa w))) (by omega) (by unfold pe.sU;simp) (λx k=>by
  unfold pe.sU at k;simp only[cF,lQ,or_false]at k;rcases k with rfl|rfl|rfl
  ·show(iV.tx (oa w)).size<=_;omega
  ·exact bB _
  ·exact bB _)
 rw[lj.Nc (by omega) (by omega)]at D;have E:=Bf.ok w.p.now (oa w) (by omega);unfold vo;generalize r:cw=N;have j:(iV.kp (es w.o)).length<N:=by rw[<-r];exact eG
 clear r;unfold b gb iU cq db du cC dm dP;rw[A.1,au,A.2,dY.lt_eq];show(bif U101.c (rd (dk w.o))then ic (U101.v (rd (dk w.o))) _ else ay)=_;rw[B.1,au,B.2,dY.lt_eq,dC,show aR [Ck.s,Ck.i ak,Ck.i ak,Ck.s] 0=re []from rfl,walk N (iV.kp (es w.o)) (by omega) j];have e:((f:aE En)->f=iV.kp (es w.o)->f.filter (λe=>fV.tC e w.p.now)=oa w):=λ_ h=>by subst h;rfl
 rw[e _ rfl];simp only[dY.lt_eq,C.1,C.2,D.1,D.2,E.1,E.2,au];have d:=fV.ui w.p.now (oa w) (oa w).length (bW _);rw[cR]at d;unfold Cx I0;dsimp only;rw[d.now,d.fe,d.cl,d.hits];rfl
end Qp
namespace Vt
open _root_.Go.FG.Lib (rc)
open lj (dk es)
open dY (ri jQ)
def fl(b:aZ):V9.v b=flag b:=by cases b<;>rfl
def ok{i:aN}(h:Bk i w)(hi:i<=71)(d:il e=ao):c w.p.now (re w.p.en) (rs w.p.w) (rs w.p.m) (rr w.p.s) w.p.a (rf w.p.fe) (rc w.p.cl) w.p.hits (rd (dk w.o)) (ri w.cd) (re w.bd) e.k e.id e.t e.n e.l=ao/\v w.p.now (re w.p.en) (rs w.p.w) (rs w.p.m) (rr w.p.s) w.p.a (rf w.p.fe) (rc w.p.cl) w.p.hits (rd (dk w.o)) (ri w.cd) (re w.bd) e.k e.id e.t e.n e.l=((iN.act w e).2,Cx (iN.act w e).1):=by
 unfold il at d;simp only[aM,ba]at d;obtain⟨hk,hid,C,z,hl⟩:=d;have hp:=jQ h.px;refine out _ _ _ _ _ _ _ _ _ _ _ _ _ _ _ _ _ ?_;unfold vo b iN.act jB mB pH ZV jC mC cq db du cC dm je ni q9 ue dP tn;by_cases f:e.k=1
 ·rw[aA f,au];have A:=Qo.ok w.p e.id e.t hp (by omega);rw[A.1,au,A.2,dY.lt_eq];try rfl
 rw[aD f,ax,ax];by_cases j:e.k=2
 ·rw[aA j,au];have A:=Vv.ok w.p e.id e.t hp;rw[A.1,au,A.2,dY.lt_eq,fl];unfold Cx fA.Ht;cases fA.yV w.p e.id&&(ah (1<=e.t.size/\e.t.size<=40)&&ah ((el w.p.fe e.id.toNat).t.size+e.t.size<=400))<;>rfl
 rw[aD j,ax,ax];by_cases r:e.k=3
 ·rw[aA r,au,dO z];have A:=Vw.ok h hi e.id (e.n%1000000) (by omega);rw[A.1,au,A.2,dY.lt_eq,fl];try rfl
 rw[aD r,ax,ax];by_cases k4:e.k=4
 ·rw[aA k4,au];have A:=Vx.ok w.p e.id hp;rw[A.1,au,A.2,dY.lt_eq,fl];unfold Cx fA.GW;cases fA.yV w.p e.id<;>rfl
 rw[aD k4,ax,ax];by_cases u:e.k=5
 ·rw[aA u,au];have A:=Vy.ok w.p e.n hp;rw[A.1,au,A.2,dY.lt_eq];try rfl
 rw[aD u,ax,ax];by_cases y:e.k=6
 ·rw[aA y,au];have A:=Vz.ok w.p e.id hp;have B:=OV.ok w.p.now (re w.p.en) (rs w.p.w) (rs w.p.m) (rr w.p.s) w.p.a (rf w.p.fe) w.p.cl w.p.hits e.id hp.cl;rw[B.1,au,dY.lt_eq,A.1,au,A.2,dY.lt_eq,fl,B.2];try rfl
 rw[aD y,ax,ax];have A:=Qp.ok h hi e.l;rw[A.1,au,A.2,dY.lt_eq];try rfl
end Vt
namespace Io
open _root_.Go.FG.Lib (rc)
open lj (dk es)
open dY (ri)
open iF (rv run life)
def chk(N n:aN)(l:aE Ev)(hl:l.length<=1048576)(e:l.length<n)(K0 K1:Row->aZ->Row->az->az->az->az->az->aG R)(a:aG R)(d:∀i:az,K0 (rv l) aq (rv l) (l.length:az) i 0 0 0=a):
  l4 N K0 K1 n (rv l) aq (rv l) (l.length:az) 0 0 0 0=bif(c7 l.length).all λi=>il (el l i)then K1 (rv l) aq (rv l) (l.length:az) (l.length:az) 0 0 0 else a:=by
 have hw:∀i,i<l.length->bA ((i:az)+1)=((i+1:aN):az):=λi h=>cG h (by omega)
 have key:=j6 (λi=>il (el l i)) l.length (λm (i:aN)=>l4 N K0 K1 m (rv l) aq (rv l) (l.length:az) (i:az) 0 0 0) a (K1 (rv l) aq (rv l) (l.length:az) (l.length:az) 0 0 0)
  (λm i hi hp=>by simp only[l4,r4,j_,dh,hi,aQ,cm,aK,au,dK,wv0 hi,wv1 hi,wv2 hi,wv3 hi,wv4 hi,bO,bn,jd,iF.B_,hp,aY,ax,hw i hi,bY])
  (λm i hi hp=>by simp only[l4,r4,j_,dh,hi,aQ,cm,aK,au,dK,wv0 hi,wv1 hi,wv2 hi,wv3 hi,wv4 hi,bO,bn,jd,iF.B_,hp,bH,d,bY])
  (λm=>by simp only[l4,r4,dh,bg,bc,ax,bY]) n e
 exact key
def go(N:aN)(l:aE Ev)(hl:l.length<=70)(j:∀e∈l,il e=ao)(K:Row->az->az->az->az->az->az->az->az->Row->Row->Row->Row->Row->Row->Row->Row->Row->aG R):∀(d i n:aN) (w:Wo),w=run (l.take i)->l.length-i<=d->i<=l.length->d<n->
  C1 N K n (rv l) (l.length:az) (i:az) 0 0 0 w.p.now w.p.a w.p.hits (re w.p.en) (rs w.p.w) (rs w.p.m) (rr w.p.s) (rf w.p.fe) (rc w.p.cl) (rd (dk w.o)) (ri w.cd) (re w.bd)=K (rv l) (l.length:az) (l.length:az) 0 0 0 (run l).p.now (run l).p.a (run l).p.hits (re (run l).p.en) (rs (run l).p.w) (rs (run l).p.m) (rr (run l).p.s) (rf (run l).p.fe) (rc (run l).p.cl) (rd (dk (run l).o)) (ri (run l).cd) (re (run l).bd):=by
 have fin:∀(n:aN) (w:Wo),w=run (l.take l.length)->C1 N K (n+1) (rv l) (l.length:az) (l.length:az) 0 0 0 w.p.now w.p.a w.p.hits (re w.p.en) (rs w.p.w) (rs w.p.m) (rr w.p.s) (rf w.p.fe) (rc w.p.cl) (rd (dk w.o)) (ri w.cd) (re w.bd)=K (rv l) (l.length:az) (l.length:az) 0 0 0 (run l).p.now (run l).p.a (run l).p.hits (re (run l).p.en) (rs (run l).p.w) (rs (run l).p.m) (rr (run l).p.s) (rf (run l).p.fe) (rc (run l).p.cl) (rd (dk (run l).o)) (ri (run l).cd) (re (run l).bd):=by intro n w hw;rw[cR]at hw;subst hw;simp only[C1,Ly,dh,bg,bc,ax,pI,bY,bw,jC,mC,cq,db,du,cC,dm,je,ni,ue]
 intro d;induction d with
 |zero=>
  intro i n w hw h1 h2 h3;obtain⟨n,rfl⟩:∃m,n=m+1:=⟨n-1,by omega⟩
  have:i=l.length:=by omega
  subst this;exact fin n w hw
 |succ d ih=>
  intro i n w hw h1 h2 h3;obtain⟨n,rfl⟩:∃m,n=m+1:=⟨n-1,by omega⟩
  by_cases hi:i<l.length
  ·have hW:Bk i w:=by rw[hw];exact Al j i h2
   have hE:=j _ (iY hi);have A:=Vt.ok hW (by omega) hE;have r:=hW.cd;have k:(iN.act w (el l i)).1.cd=w.cd:=GN.R6 w _;have rm:b_ ((ri w.cd).length+(aC (aR [Ck.i ak] 1) 0 [CV.i ak (iN.act w (el l i)).2]).length) 8=true:=by rw[dY.fj,dY.nP];exact b6 (by omega) (by omega)
   have t:=ih (i+1) n (iN.step w (el l i)) (by rw[rE l i hi,hw]) (by omega) hi (by omega);refine Eq.trans ?_ t;have f:bA ((i:az)+1)=((i+1:aN):az):=cG hi (by omega);simp only[C1,Ly,j_,dh,hi,aQ,cm,aK,au,dK,wv0 hi,wv1 hi,wv2 hi,wv3 hi,wv4 hi,bO,bn,jd,f,pI,bY,bw,jC,mC,cq,db,du,cC,dm,je,ni,ue];rw[A.1,au,A.2,dY.lt_eq];unfold Cx;dsimp only;rw[k,rm,au,dY.aby];rfl
  ·have:i=l.length:=by omega
   subst this;exact fin n w hw
def ok(l:aE Ev)(hl:l.length<=1048576):c (rv l)=ao/\v (rv l)=life l:=by
 refine out _ ?_;unfold vo;generalize d:cw=N;have a:l.length<N:=by rw[<-d];exact eG
 clear d;unfold b life Ei;rw[j_];by_cases h:l.length<=70
 ·rw[aA h,bj,aD (show¬(l.length:az)>70 by omega),ax];rw[chk N N l hl a _ _ (ai (0,[],[],[],[],0,[],[],0,[],[],[],aq)) (λ_=>rfl)];cases f:(c7 l.length).all λi=>il (el l i)with
  |false=>rfl
  |true=>have j:∀e∈l,il e=true:=(pJ.1 (by unfold Ei;rw[f,aA h];rfl)).2;rw[au,au];simp only[j_];exact(go N l h j _ l.length 0 N iF.w0 rfl (by omega) (by omega) a).trans rfl
 ·rw[aD h,lH,aA (show(l.length:az)>70 by omega),au,ax]
end Io
namespace H3
open _root_.Go.FG.Lib (rc)
open ed (ln room sp)
def step(K:ar->Row->az->az->aG R)(l:aE Cl)(j:room l<=1000000000)(f:∀c∈l,Ee c)(m i:aN)(h:i<l.length):
  l3 cw K (m+1) (shown (l.take i)) (rc l) (l.length:az) (i:az)=l3 cw K m (shown (l.take (i+1))) (rc l) (l.length:az) ((i+1:aN):az):=by
 have a:=f _ (iY h);have d:=ed.dec _ (ed.m_ a.1);have e:=ed.dec _ (ed.m_ a.2);have s1:=gj.jI _ (ed.m_ a.1).1 (ed.m_ a.1).2;have k:=gj.jI _ (ed.m_ a.2).1 (ed.m_ a.2).2;have s3:=ed.On (el l i).sta;have o:=ed.Dq l i h;have s:(shown (l.take i)).size<=room l:=ca (ed.nF _ (λc a=>f c (iK a))) (ed.Aj l i);rw[show l3 cw K (m+1)=r3 cw (l3 cw K m) K from rfl];unfold r3 bY bw;have hl:l.length<=1000000000:=by
  have:∀l:aE Cl,l.length<=room l:=by
   intro l;induction l with
   |nil=>exact bW _
   |cons c r ih=>unfold room;simp only[bT];omega
  exact ca (this l) j
 rw[ed.take_succ l i h,show bA ((i:az)+1)=((i+1:aN):az)from c6 (by omega) (by omega),eQ];unfold ed.ln;simp only[dX,Qv h,YV h,YW h,YX h,bO,bn,ed.ms,d.1,d.2,e.1,e.2,au,aA (show(i:az)<(l.length:az)by omega),aA (show 0<=(i:az)by omega),aK,cj,show sp.size=1 from rfl,show Hj.size=1 from rfl,show JY.v (el l i).sta=ed.st (el l i).sta from rfl];rw[jz,jz,jz,jz,jz,jz,jz,jz];rfl
def ok(i0:az)(j k o s:Row)(e:az)(t:Row)(l:aE Cl)(f:az)(d:room l<=1000000000)(u:∀c∈l,Ee c):c i0 j k o s e t (rc l) f=ao/\v i0 j k o s e t (rc l) f=shown l:=by
 refine out _ _ _ _ _ _ _ _ _ ?_;unfold vo b;rw[eQ];have hl:l.length<=1000000000:=by
  have:∀l:aE Cl,l.length<=room l:=by
   intro l;induction l with
   |nil=>exact bW _
   |cons c r ih=>unfold room;simp only[bT];omega
  exact ca (this l) d
 have key:=iz l.length (λm (i:aN) (x:ar)=>l3 cw (λa (_:Row) (_ _:az)=>ai a) m x (rc l) (l.length:az) (i:az)) (λi=>shown (l.take i)) (ai (shown l)) (λm i h=>step _ l d u m i h) (λm=>by rw[show l3 cw (λa (_:Row) (_ _:az)=>ai a) (m+1)=r3 cw (l3 cw (λa (_:Row) (_ _:az)=>ai a) m) (λa (_:Row) (_ _:az)=>ai a)from rfl];unfold H3.r3 bY bw;rw[p6,ax,cR]) cw 0 (bB _) eG;exact key
end H3
namespace U7
open _root_.Go.FG.Lib (rc)
open fP (hd w1)
open ed (sp)
open gj (it)
open dY (ri)
def Sl(N:aN)(K:az->az->az->az->az->Row->Row->Row->Row->Row->Row->Row->Row->Row->Row->aG R)(a b d:az)(f j k o r t u y:Row)(l:aE az)(hl:l.length<=70)(A:∀n∈l,zT n)(n:aN)(e:l.length<n):
  l7 N K n (l.length:az) 0 a b d (aR [Ck.s] 0) (ri l) f j k o r t u y=K (l.length:az) (l.length:az) a b d (rs (l.map it)) (ri l) f j k o r t u y:=by
 refine iz l.length (λm (i:aN) (x:Row)=>l7 N K m (l.length:az) (i:az) a b d x (ri l) f j k o r t u y) (λi=>rs ((l.take i).map it)) _ (λm i h=> ?_) (λm=> ?_) n 0 (bB _) (by omega)
 ·have e:=A _ (iY h);have D:=ed.dec (el l i) ⟨by have:=e.1;omega,by have:=e.2;omega⟩;have z:av (ri l) i 0=CV.i ak (el l i):=fM _ l i 0 h;have hw:bA ((i:az)+1)=((i+1:aN):az):=cG h (by omega);rw[show l7 N K (m+1)=r7 N (l7 N K m) K from rfl,fP.LS l i h];unfold r7 gb bY bw;have B:b_ (bD (rs ((l.take i).map it))+bD (aC (aR [Ck.s] 1) 0 [CV.s (it (el l i))])) 16=true:=by rw[Lib.cL,bK,dG];exact b6 (by show(_+1)*16<=_;omega) (by show _+1<=_;omega)
  simp only[dY.fj,dh,h,aQ,au,cm,aK,dK,z,bO,D.1,D.2,dY.lt_eq,hw,B,fP.YD]
 ·rw[show l7 N K (m+1)=r7 N (l7 N K m) K from rfl];unfold r7 gb bY bw;rw[p6,ax,cR]
def keys(N:aN)(K:ar->az->az->Row->aG R)(x:ar)(d:x.size<=10000)(l:aE En)(hl:l.length<=1048576)(hk:∀e∈l,e.k.size<=30)(n:aN)(a:l.length<n):
  Ek N K n x (l.length:az) 0 (re l)=K (x++tl (l.map (·.k))) (l.length:az) (l.length:az) (re l):=by
 have key:=iz l.length (λm (i:aN) (y:ar)=>Ek N K m y (l.length:az) (i:az) (re l)) (λi=>x++tl ((l.take i).map (·.k))) (K (x++tl (l.map (·.k))) (l.length:az) (l.length:az) (re l)) (λm i h=> ?_) (λm=> ?_) n 0 (bB _) (by omega)
 ·rw[show x++tl ((l.take 0).map (·.k))=x from ed.qh x]at key;exact key
 ·have s1:=hk _ (iY h);have f:=fP.FC hl hk i;have hw:bA ((i:az)+1)=((i+1:aN):az):=cG h (by omega);rw[show Ek N K (m+1)=PX N (Ek N K m) K from rfl,fP.U5 l i h];unfold PX bY bw kE;simp only[dC,dh,h,aQ,au,cm,aK,dK,rJ h,bn,hw,cj,show sp.size=1 from rfl];rw[w1 (by omega),w1 (by omega),au,au];simp only[cY]
 ·rw[show Ek N K (m+1)=PX N (Ek N K m) K from rfl];unfold PX bY bw kE;rw[p6,ax,cR]
def ok(s:ar)(hs:s.size<=4000000000):c s=ao/\v s=yU s:=by
 refine out _ ?_;unfold vo;generalize o:cw=N;have k:∀{n:aN},n<=1048576->n<N:=λh=>by rw[<-o];exact eG
 clear o;unfold b gb iU nh bw jC mC cq db du cC dm je ni kE;have A:=Qk.ok s hs;have F:=fP.CR s;have S:=wO.Ao s;have d:((aw #[aj 104,aj 105,aj 116,aj 115,aj 32]):ar).size=5:=rfl;have f:((aw #[aj 32,aj 107,aj 101,aj 112,aj 116]):ar).size=5:=rfl;have y:((aw #[aj 102,aj 97,aj 117,aj 108,aj 116,aj 32]):ar).size=6:=rfl;rw[A.1,au,A.2,dY.lt_eq];dsimp only;unfold fP.yU;by_cases h0:(dE s).2=0
 ·rw[bm h0,show((dE s).2 !=0)=aq from by rw[h0];rfl,ax];have L:=Io.ok (dE s).1 (by omega);have r:∀e∈(dE s).1,iN.il e=true:=λe h=>(S.2 e h).1;have T:=fP.tel S.1 r;have t:iF.life (dE s).1=iF.Wa (iF.run (dE s).1) true:=by unfold iF.life;rw[iF.pJ.2 ⟨S.1,r⟩,au]
  rw[L.1,au,L.2,dY.lt_eq,t];generalize iF.run (dE s).1=w at T;unfold iF.Wa;dsimp only;rw[dY.fj,Sl N _ _ _ _ _ _ _ _ _ _ _ _ w.cd T.ln T.cd N (k (ca T.ln (by omega)))];have C:=H3.ok w.p.now (re w.p.en) (rs w.p.w) (rs w.p.m) (rr w.p.s) w.p.a (rf w.p.fe) w.p.cl w.p.hits (ca T.rm (by omega)) T.cl;have z:=T.px.hits;have D:=ed.dec w.p.hits ⟨by omega,by omega⟩;have s1:=gj.jI w.p.hits (by omega) (by omega);have B:=ca (ed.nF _ T.cl) T.rm;have s3:=fP.NH T.ln T.cd w.cd.length;rw[cR]at s3;have u:=fP.FC T.en T.ks w.p.en.length;rw[cR]at u;have J:=fP.WY (w.cd.map it) (by rw[bK];have:=T.ln;omega) (by omega);rw[J.1,au,J.2,dY.lt_eq,eP,dC];unfold fP.wtx fP.hd;by_cases j:w.cd=[]
  ·rw[bm j,j,show ah (jo (([]:aE az).map it)=((aw #[]):ar))=ao from aA rfl,aY,ax];simp only[C.1,C.2,D.1,D.2,dY.lt_eq,au,cj,d,f,show(jo (([]:aE az).map it)).size=0 from rfl];repeat rw[w1 (by omega)]
   simp only[au];rw[keys N _ _ (by simp only[cj,d,f,show(jo (([]:aE az).map it)).size=0 from rfl];omega) w.p.en T.en T.ks N (k T.en)];simp only[cj,d,f,show(jo (([]:aE az).map it)).size=0 from rfl,show Hj.size=1 from rfl];rw[w1 (by omega),au];simp only[cY];rfl
  ·rw[bk j,aD (fP.ahS j),bH,au];simp only[C.1,C.2,D.1,D.2,dY.lt_eq,au,cj,d,f,show Hj.size=1 from rfl];repeat rw[w1 (by omega)]
   simp only[au];rw[keys N _ _ (by simp only[cj,d,f,show Hj.size=1 from rfl];omega) w.p.en T.en T.ks N (k T.en)];simp only[cj,d,f,show Hj.size=1 from rfl];rw[w1 (by omega),au];simp only[cY];rfl
 ·have D:=ed.dec (dE s).2 ⟨by omega,by omega⟩;have s1:=gj.jI (dE s).2 (by omega) (by omega);rw[bk h0,bne_iff_ne.2 h0,au];simp only[D.1,D.2,dY.lt_eq,au,cj,y,show Hj.size=1 from rfl];rw[w1 (by omega),w1 (by omega),au,au];simp only[cY];rfl
end U7
namespace dA
def I(q:Row)(a:az):Prop:=0<=a/\a<=(q.length:az)/\q.length<=1048576
def DT(x:BitVec 64):0<=bA ((eg (jx x (cu 64 255)):aN):az)/\bA ((eg (jx x (cu 64 255)):aN):az)<=255:=by
 have h:eg (jx x (cu 64 255))<=255:=by have e:eg (jx x (cu 64 255))=x.toNat&&&255:=BitVec.toNat_and x (cu 64 255);rw[e];exact Nat.and_le_right
 rw[c6 (by omega) (by omega)];omega
def ok(q:Row)(a s:az)(t:I q a):∃n r d,c q a s=ao/\v q a s=(n,q,r,d)/\I q r/\0<=n/\n<=255:=by
 obtain⟨h0,h1,h2⟩:=t;by_cases h:a<(q.length:az)
 ·have hw:bA (a+1)=a+1:=c6 (by omega) (by omega);have e:∃n d,vo q a s=ai (n,q,a+1,d)/\0<=n/\n<=255:=by unfold vo b bY;rw[aA h,aA h0,au,aK,au,hw];exact⟨_,_,rfl,DT _⟩
  obtain⟨n,d,o,k⟩:=e;obtain⟨f,j⟩:=out q a s o;exact⟨n,a+1,d,f,j,⟨by omega,by omega,h2⟩,k⟩
 ·have e:∃n d,vo q a s=ai (n,q,a,d)/\0<=n/\n<=255:=by unfold vo b bY;rw[aD h,ax];exact⟨_,_,rfl,DT _⟩
  obtain⟨n,d,o,k⟩:=e;obtain⟨f,j⟩:=out q a s o;exact⟨n,a,d,f,j,⟨h0,h1,h2⟩,k⟩
end dA
namespace nM
def ok(q:Row)(a s k:az)(B:dA.I q a):∃n y V,c q a s k=ao/\v q a s k=(n,q,y,V)/\dA.I q y/\0<=n/\(0<k->n<k):=by
 by_cases hk:k<=0
 ·obtain⟨j,o⟩:=out q a s k (x:=(0,q,a,s)) (by unfold vo b bw dt;rw[aA hk,au]);exact⟨0,a,s,j,o,B,by omega,λh=>by omega⟩
 ·have hm:∀x:az,0<=x->0<=bQ x k/\bQ x k<k:=λx U=>by rw[dO U];exact⟨FX _ (by omega),Ba _ (by omega)⟩
  have r:¬k=0:=by omega
  obtain⟨d,a1,s1,z,H,u,A,u1⟩:=dA.ok q a s B;by_cases h2:k<=256
  ·obtain⟨j,o⟩:=out q a s k (x:=(bQ d k,q,a1,s1)) (by unfold vo b bw dt;simp only[hk,h2,r,z,H,aQ,bc,au,ax,bH]);exact⟨_,a1,s1,j,o,u,(hm d A).1,λ_=>(hm d A).2⟩
  ·obtain⟨e,a2,X,O,Y,K,g2,u2⟩:=dA.ok q a1 s1 u;obtain⟨f,a3,s3,P,v3,M,g3,u3⟩:=dA.ok q a2 X K;obtain⟨t,a4,C,S,v4,N,g4,u4⟩:=dA.ok q a3 s3 M;have w1:bA (d*16777216)=d*16777216:=c6 (by omega) (by omega);have w2:bA (e*65536)=e*65536:=c6 (by omega) (by omega);have w3:bA (f*256)=f*256:=c6 (by omega) (by omega);have w4:bA (d*16777216+e*65536)=d*16777216+e*65536:=c6 (by omega) (by omega);have w5:bA (d*16777216+e*65536+f*256)=d*16777216+e*65536+f*256:=c6 (by omega) (by omega);have w6:bA (d*16777216+e*65536+f*256+t)=d*16777216+e*65536+f*256+t:=c6 (by omega) (by omega);obtain⟨j,o⟩:=out q a s k (x:=(bQ (d*16777216+e*65536+f*256+t) k,q,a4,C)) (by unfold vo b bw dt;simp only[hk,h2,r,z,H,O,Y,P,v3,S,v4,w1,w2,w3,w4,w5,w6,aQ,bc,au,ax,bH]);have:=hm (d*16777216+e*65536+f*256+t) (by omega);exact⟨_,a4,C,j,o,N,this.1,λ_=>this.2⟩
end nM
namespace H4
def ok(q:Row)(a s k:az)(r:dA.I q a):∃x d u,c q a s k=ao/\v q a s k=(x,q,d,u)/\dA.I q d:=by obtain⟨t,a1,s1,f,y,e,z,A⟩:=nM.ok q a s k r;obtain⟨j,o⟩:=out q a s k (x:=(ah (t=0),q,a1,s1)) (by unfold vo b bw dt;simp only[f,y,au]);exact⟨_,a1,s1,j,o,e⟩
end H4
namespace n4
def ok(q:Row)(a s:az)(l:Row)(t:dA.I q a)(hl:0<l.length):∃i d y,c q a s l=ao/\v q a s l=(bO (av l i 0),q,d,y,l)/\dA.I q d/\i<l.length:=by obtain⟨e,a1,s1,j,A,f,r,z⟩:=nM.ok q a s (l.length:az) t;have u:=z (by omega);obtain⟨k,o⟩:=out q a s l (x:=(bO (av l e.toNat 0),q,a1,s1,l)) (by unfold vo b bY bw dt;simp only[j,A,r,u,aQ,aK,au]);exact⟨e.toNat,a1,s1,k,o,f,by omega⟩
end n4
namespace pY
def ok(q:Row)(a s:az)(l:Row)(t:dA.I q a)(hl:0<l.length):∃i d y,c q a s l=ao/\v q a s l=(bn (av l i 0),q,d,y,l)/\dA.I q d/\i<l.length:=by obtain⟨e,a1,s1,j,A,f,r,z⟩:=nM.ok q a s (l.length:az) t;have u:=z (by omega);obtain⟨k,o⟩:=out q a s l (x:=(bn (av l e.toNat 0),q,a1,s1,l)) (by unfold vo b bY bw dt;simp only[j,A,r,u,aQ,aK,au]);exact⟨e.toNat,a1,s1,k,o,f,by omega⟩
end pY
namespace vh
def ok(q:Row)(a s:az)(u:dA.I q a):∃k d y,c q a s=ao/\v q a s=(k,q,d,y)/\dA.I q d/\k.size=2:=by
 obtain⟨i,a1,s1,f,z,e,r⟩:=pY.ok q a s (aC (aC (aC (aC (aC (aC (aC (aC (aR [Ck.s] 8) 0 [CV.s (aw #[aj 47,aj 97])]) 1 [CV.s (aw #[aj 47,aj 98])]) 2 [CV.s (aw #[aj 47,aj 99])]) 3 [CV.s (aw #[aj 47,aj 100])]) 4 [CV.s (aw #[aj 47,aj 101])]) 5 [CV.s (aw #[aj 47,aj 102])]) 6 [CV.s (aw #[aj 47,aj 103])]) 7 [CV.s (aw #[aj 47,aj 104])]) u (by simp[aR]);obtain⟨j,o⟩:=out q a s (x:=(_,q,a1,s1)) (by unfold vo b bw cq;simp only[f,z,au];rfl);refine⟨_,a1,s1,j,o,e,?_⟩
 have t:i<8:=by simpa [aR]using r
 match i,t with
 |0,_=>rfl
 |1,_=>rfl
 |2,_=>rfl
 |3,_=>rfl
 |4,_=>rfl
 |5,_=>rfl
 |6,_=>rfl
 |7,_=>rfl
end vh
namespace A_Post
open dA (I)
def iL{α:Type}(o:aG α)(P:α->Prop):Prop:=∃x,o=ai x/\P x
def ret(h:P x):iL (ai x) P:=⟨x,rfl,h⟩
def br{b:aZ}(h1:b=ao->iL A P)(h2:b=aq->iL B P):iL (bif b then A else B) P:=by
 cases b
 ·exact h2 rfl
 ·exact h1 rfl
def ck{b:aZ}(h:b=ao)(h1:iL A P):iL (bif b then A else B) P:=by subst h;exact h1
def cn{b:aZ}(h:b=aq)(h1:iL B P):iL (bif b then A else B) P:=by subst h;exact h1
def eq(e:o=o')(h:iL o' P):iL o P:=by rw[e];exact h
def call{b:aZ}(h:b=ao)(e:w=u)(a:iL (X u) P):iL (bif b then ic w X else ay) P:=by subst h;rw[au,dY.lt_eq,e];exact a
def below{a s k:az}(j:I q a)(o:∀n d e,I q d->0<=n->(0<k->n<k)->iL (X (n,q,d,e)) P):iL (bif nM.c q a s k then ic (nM.v q a s k) X else ay) P:=by obtain⟨n,d,e,h1,h2,h3,h4,f⟩:=nM.ok q a s k j;exact call h1 h2 (o n d e h3 h4 f)
def once{a s k:az}(f:I q a)(j:∀n d e,I q d->iL (X (n,q,d,e)) P):iL (bif H4.c q a s k then ic (H4.v q a s k) X else ay) P:=by obtain⟨n,d,e,h1,h2,h3⟩:=H4.ok q a s k f;exact call h1 h2 (j n d e h3)
def abw{a s:az}(R:az->Prop)(f:0<l.length/\∀i,i<l.length->R (bO (av l i 0)))(j:I q a)(k:∀n d e,I q d->R n->iL (X (n,q,d,e,l)) P):iL (bif n4.c q a s l then ic (n4.v q a s l) X else ay) P:=by obtain⟨n,d,e,h1,h2,h3,h4⟩:=n4.ok q a s l j f.1;exact call h1 h2 (k _ d e h3 (f.2 n h4))
def ajL{a s:az}(R:ar->Prop)(f:0<l.length/\∀i,i<l.length->R (bn (av l i 0)))(j:I q a)(k:∀n d e,I q d->R n->iL (X (n,q,d,e,l)) P):iL (bif pY.c q a s l then ic (pY.v q a s l) X else ay) P:=by obtain⟨n,d,e,h1,h2,h3,h4⟩:=pY.ok q a s l j f.1;exact call h1 h2 (k _ d e h3 (f.2 n h4))
def key{a s:az}(f:I q a)(j:∀n d e,I q d->n.size=2->iL (X (n,q,d,e)) P):iL (bif vh.c q a s then ic (vh.v q a s) X else ay) P:=by obtain⟨n,d,e,h1,h2,h3,h4⟩:=vh.ok q a s f;exact call h1 h2 (j n d e h3 h4)
def idx{n:az}{m:aN}(h0:0<=n)(h1:0<(m:az)->n<(m:az))(hm:ah ((m:az)>0)=ao):(ah (0<=n)&&ah (n<(m:az)))=true:=by have:=h1 (cB hm);rw[aA h0,aA this,aK]
end A_Post
open A_Post (iL)
namespace Km
open dA (I)
def Dr(q e w m s fe cl dk cd bd:Row)(x:az×az×ar×az×Row×Row×az×az×Row×Row×Row×Row×Row×Row×Row×Row×Row):Prop:=
 ∃k id t n a d,x=(k,id,t,n,[],q,a,d,e,w,m,s,fe,cl,dk,cd,bd)/\I q a/\il ⟨k,id,t,n,[]⟩=ao/\k<=6/\n<=60
def leaf{q e w m s fe cl dk cd bd:Row}{k id:az}{t:ar}{n a f:az}(j:I q a)(hk:1<=k/\k<=6)(hid:0<=id/\id<=30)(o:t.size<=60)(d:0<=n/\n<=60):iL (ai (k,id,t,n,([]:Row),q,a,f,e,w,m,s,fe,cl,dk,cd,bd)) (Dr q e w m s fe cl dk cd bd):=by
 refine⟨_,rfl,k,id,t,n,a,f,rfl,j,?_,hk.2,d.2⟩
 unfold il;rw[aA (show 1<=k/\k<=7 by omega),aA hid,aA o,aA d.1];rfl
def idA{n:az}(h0:0<=n)(h1:(0:az)<3->n<3):0<=n/\n<=30:=by omega
def idB{n:az}(h0:0<=n)(h1:(0:az)<9->n<9):0<=bA (1+n)/\bA (1+n)<=30:=by rw[c6 (x:=1+n) (by omega) (by omega)];omega
def idC{l:Row}{n:az}(hl:∀j,j<l.length->0<=bO (av l j 0)/\bO (av l j 0)<=30)(h0:0<=n)(h1:0<(l.length:az)->n<(l.length:az))(hp:ah ((l.length:az)>0)=ao):0<=bO (av l n.toNat 0)/\bO (av l n.toNat 0)<=30:=by have:=h1 (cB hp);exact hl _ (by omega)
def tA{t:ar}(h:t.size=2):t.size<=60:=by omega
def opens{P:R->Prop}(N:aN)(K:az->az->az->az->Row->az->az->Row->Row->Row->Row->Row->Row->Row->Row->Row->az->az->az->az->az->ar->az->az->az->ar->az->Row->aG R)(x1 x2 x3:az)(x5:Row)(x6 x7:az)(x8 x9 e f a o r s t:Row)(u y z A B:az)(C:ar)(H M O:az)(S:ar)(U:az)(hf:a.length<=20)
  (hK:∀l:Row,(∀j,j<l.length->0<=bO (av l j 0)/\bO (av l j 0)<=30)->iL (K x1 x2 x3 (a.length:az) x5 x6 x7 x8 x9 e f a o r s t u y z A B C H M O S U l) P):
  ∀(d i n:aN) (l:Row),a.length-i<=d->i<=a.length->d<n->l.length<=i->(∀j,j<l.length->0<=bO (av l j 0)/\bO (av l j 0)<=30)->
   iL (l4 N K n x1 x2 x3 (i:az) x5 x6 x7 x8 x9 e f a o r s t u y z A B C H M O S U l) P:=by
 have fin:∀(n:aN) (l:Row),(∀j,j<l.length->0<=bO (av l j 0)/\bO (av l j 0)<=30)->iL (l4 N K (n+1) x1 x2 x3 (a.length:az) x5 x6 x7 x8 x9 e f a o r s t u y z A B C H M O S U l) P:=λn l hl=>by refine A_Post.eq ?_ (hK l hl);simp only[l4,r4,dh,bg,bc,ax,bY,bw]
 intro d;induction d with
 |zero=>
  intro i n l h1 h2 h3 h4 V;obtain⟨n,rfl⟩:∃k,n=k+1:=⟨n-1,by omega⟩
  have:i=a.length:=by omega
  subst this;exact fin n l V
 |succ d ih=>
  intro i n l h1 h2 h3 h4 V;obtain⟨n,rfl⟩:∃k,n=k+1:=⟨n-1,by omega⟩
  by_cases h:i<a.length
  ·have X:bA ((i:az)+1)=((i+1:aN):az):=c6 (by omega) (by omega);by_cases hs:bO (av a i 2)=1
   ·have hr:b_ (l.length+(aC (aR [Ck.i ak] 1) 0 [CV.i ak (i:az)]).length) 8=true:=by rw[dY.nP];exact b6 (by omega) (by omega)
    refine A_Post.eq (o':=l4 N K n x1 x2 x3 ((i+1:aN):az) x5 x6 x7 x8 x9 e f a o r s t u y z A B C H M O S U (l++aC (aR [Ck.i ak] 1) 0 [CV.i ak (i:az)])) ?_ (ih (i+1) n _ (by omega) h (by omega) (by rw[bU,dY.nP];omega) λj hj=> ?_)
    ·simp only[l4,r4,dh,h,aQ,cm,aK,au,dK,hs,hr,X,bY,bw]
    ·rw[bU,dY.nP]at hj;by_cases Y:j<l.length
     ·have:av (l++aC (aR [Ck.i ak] 1) 0 [CV.i ak (i:az)]) j 0=av l j 0:=by unfold av;rw[dc,dc,dz Y];simp only[dc]
      rw[this];exact V j Y
     ·have:av (l++aC (aR [Ck.i ak] 1) 0 [CV.i ak (i:az)]) j 0=CV.i ak (i:az):=by unfold av;rw[dc,dc,de (by omega),show j-l.length=0 by omega];rfl
      rw[this];show 0<=(i:az)/\(i:az)<=30;omega
   ·refine A_Post.eq (o':=l4 N K n x1 x2 x3 ((i+1:aN):az) x5 x6 x7 x8 x9 e f a o r s t u y z A B C H M O S U l) ?_ (ih (i+1) n _ (by omega) h (by omega) (by omega) V);simp only[l4,r4,dh,h,aQ,cm,aK,au,ax,dK,hs,bc,X,bY,bw]
  ·have:i=a.length:=by omega
   subst this;exact fin n l V
set_option maxHeartbeats 8000000 in
def body(q:Row)(a s:az)(now:az)(en w m e:Row)(ag:az)(fe cl:Row)(hits:az)(dk cd bd:Row)(d:I q a)(r:fe.length<=20)(o:∀j,j<cl.length->0<=bO (av cl j 0)/\bO (av cl j 0)<=30):iL (vo q a s now en w m e ag fe cl hits dk cd bd) (Dr q en w m e fe cl dk cd bd):=by
 unfold vo;generalize f:cw=N;have k:20<N:=by rw[<-f];exact eG
 unfold b p7 j7 cq dt;refine A_Post.abw (λn=>1<=n/\n<=6) ⟨by decide,by decide⟩ d (λkd a1 s1 y hk=> ?_);refine opens N _ _ _ _ _ _ _ _ _ _ _ _ _ _ _ _ _ _ _ _ _ _ _ _ _ _ _ r (λl hl=> ?_) fe.length 0 N _ (by omega) (by omega) (by omega) (bB _) (λj u=>cO u (Nat.not_lt_zero j));dsimp only
 repeat' first
  |refine A_Post.below (by assumption) (λn a s d h0 h1=> ?_)
  |refine A_Post.once (by assumption) (λn a s d=> ?_)
  |refine A_Post.key (by assumption) (λn a s d h0=> ?_)
  |refine A_Post.abw (λn=>0<=n/\n<=60) ⟨by decide,by decide⟩ (by assumption) (λn a s d h0=> ?_)
  |refine A_Post.ajL (λt=>t.size<=60) ⟨by decide,by decide⟩ (by assumption) (λn a s d h0=> ?_)
  |refine A_Post.ck (A_Post.idx (by assumption) (by assumption) (by assumption)) ?_
  |refine leaf (by assumption) (by first|exact hk|decide) (by first|exact idA (by assumption) (by assumption)|exact idB (by assumption) (by assumption)|exact idC hl (by assumption) (by assumption) (by assumption)|exact idC o (by assumption) (by assumption) (by assumption)|decide) (by first|exact bB _|assumption|exact tA (by assumption)) (by first|exact⟨by decide,by decide⟩|assumption)
  |refine A_Post.br (λh=> ?_) (λh=> ?_)
end Km
namespace vP
open _root_.Go.FG.Lib (rc)
open lj (dk es)
open dY (ri)
open iF (rv run)
open dA (I)
def ids(h:H9.ja p):∀j,j<(rc p.cl).length->0<=bO (av (rc p.cl) j 0)/\bO (av (rc p.cl) j 0)<=30:=by
 intro j d;have a:j<p.cl.length:=by rw[eQ]at d;exact d
 have:=h.cl _ (iY a);unfold H9.Kx at this;simp only[aM,ba]at this;rw[show av (rc p.cl) j 0=CV.i ak (el p.cl j).id from fM _ p.cl j 0 a];show 0<=(el p.cl j).id/\(el p.cl j).id<=30;omega
def next{i:aN}{a s:az}(h:Bk i w)(r:I q a)
  (u:∀k id t n d f,I q d->il ⟨k,id,t,n,[]⟩=ao->k<=6->n<=60->iL (X (k,id,t,n,[],q,d,f,re w.p.en,rs w.p.w,rs w.p.m,rr w.p.s,rf w.p.fe,rc w.p.cl,rd (dk w.o),ri w.cd,re w.bd)) P):
  iL (bif Km.c q a s w.p.now (re w.p.en) (rs w.p.w) (rs w.p.m) (rr w.p.s) w.p.a (rf w.p.fe) (rc w.p.cl) w.p.hits (rd (dk w.o)) (ri w.cd) (re w.bd)then ic (Km.v q a s w.p.now (re w.p.en) (rs w.p.w) (rs w.p.m) (rr w.p.s) w.p.a (rf w.p.fe) (rc w.p.cl) w.p.hits (rd (dk w.o)) (ri w.cd) (re w.bd)) X else ay) P:=by obtain⟨x,e,k,id,t,n,d,f,rfl,h1,h2,h3,h4⟩:=Km.body q a s w.p.now (re w.p.en) (rs w.p.w) (rs w.p.m) (rr w.p.s) w.p.a (rf w.p.fe) (rc w.p.cl) w.p.hits (rd (dk w.o)) (ri w.cd) (re w.bd) r (by rw[dV];exact h.px.fl) (ids h.px);obtain⟨j,y⟩:=Km.out _ _ _ _ _ _ _ _ _ _ _ _ _ _ _ e;exact A_Post.call j y (u k id t n d f h1 h2 h3 h4)
def step{i:aN}(e:Ev)(h:Bk i w)(hi:i<=71)(d:il e=ao)(f:iL (X (Cx (iN.step w e))) P):
  iL (bif GN.c w.p.now (re w.p.en) (rs w.p.w) (rs w.p.m) (rr w.p.s) w.p.a (rf w.p.fe) (rc w.p.cl) w.p.hits (rd (dk w.o)) (ri w.cd) (re w.bd) e.k e.id e.t e.n e.l then ic (GN.v w.p.now (re w.p.en) (rs w.p.w) (rs w.p.m) (rr w.p.s) w.p.a (rf w.p.fe) (rc w.p.cl) w.p.hits (rd (dk w.o)) (ri w.cd) (re w.bd) e.k e.id e.t e.n e.l) X else ay) P:=
 A_Post.call (GN.ok h hi d).1 (GN.ok h hi d).2 f
def JC(l:aE Ev)(e:Ev):run (l++[e])=iN.step (run l) e:=by unfold run;rw[nv];rfl
def sL(l:aE Ev)(e:Ev):rv l++aC (aR [Ck.i ak,Ck.i ak,Ck.s,Ck.i ak,Ck.l 3] 1) 0 [CV.i ak e.k,CV.i ak e.id,CV.s e.t,CV.i ak e.n,CV.l 3 e.l]=rv (l++[e]):=by unfold rv;rw[cT];rfl
def Ni(n:az):il ⟨7,0,⟨#[]⟩,0,aC (aR [Ck.i ak] 1) 0 [CV.i ak n]⟩=true:=rfl
def dr(e:Ev):Prop:=il e=ao/\e.n<=60/\∀j,0<=bO (av e.l j 0)/\bO (av e.l j 0)<=60
def Sn{k id:az}{t:ar}{n:az}(h:il ⟨k,id,t,n,[]⟩=ao)(a:n<=60):dr ⟨k,id,t,n,[]⟩:=⟨h,a,λj=>⟨by show(0:az)<=0;omega,by show(0:az)<=60;omega⟩⟩
def Sq{n:az}(h0:0<=n)(h1:n<=60):dr ⟨7,0,⟨#[]⟩,0,aC (aR [Ck.i ak] 1) 0 [CV.i ak n]⟩:=⟨Ni n,by show(0:az)<=60;omega,λj=>by
 cases j with
 |zero=>exact⟨h0,h1⟩
 |succ j=>exact⟨by show(0:az)<=0;omega,by show(0:az)<=60;omega⟩⟩
def Nf(h:∀x∈l,dr x)(a:dr e):∀x∈l++[e],dr x:=by
 intro x d;rcases a_.1 d with h1|h1
 ·exact h x h1
 ·rw[a7.1 h1];exact a
end vP
open vP (dr Sn Sq Nf JC)
namespace MW
open fP (w1)
def hw(k:az):(bn (av w8 k.toNat 0)).size<=10:=by
 generalize k.toNat=n;match n with
 |0|1|2|3|4|5|6|7=>exact b8 rfl
 |n+8=>exact b8 rfl
def loop(N:aN)(K:ar->az->az->az->ar->az->Row->aG R)(a b:az)(t:ar)(n:az)(l:Row)(hl:l.length<=4)(o:∀j,0<=bO (av l j 0)/\bO (av l j 0)<=60)(f:∀x:ar,x.size<=98->iL (K x (l.length:az) a b t n l) P):
  ∀(d i m:aN) (x:ar),l.length-i<=d->i<=l.length->d<m->x.size<=10+22*i->iL (W4 N K m x (i:az) a b t n l) P:=by
 have fin:∀(m:aN) (x:ar),x.size<=98->iL (W4 N K (m+1) x (l.length:az) a b t n l) P:=λm x r=>by rw[show W4 N K (m+1)=r19 N (W4 N K m) K from rfl];unfold r19 gb bY bw kE;exact A_Post.cn (aD (AE _)) (f x r)
 intro d;induction d with
 |zero=>
  intro i m x h1 h2 h3 h4;obtain⟨m,rfl⟩:∃k,m=k+1:=⟨m-1,by omega⟩
  have:i=l.length:=by omega
  subst this;exact fin m x (by omega)
 |succ d ih=>
  intro i m x h1 h2 h3 h4;obtain⟨m,rfl⟩:∃k,m=k+1:=⟨m-1,by omega⟩
  by_cases h:i<l.length
  ·have e:bA ((i:az)+1)=((i+1:aN):az):=c6 (by omega) (by omega);have hq:=o i;have D:=gj.eq (bO (av l i 0)) (by omega) (by omega);have s:=gj.jI (bO (av l i 0)) (by omega) (by omega);rw[show W4 N K (m+1)=r19 N (W4 N K m) K from rfl];unfold r19 gb bY bw kE;refine A_Post.ck (aA (by omega)) ?_;refine A_Post.ck (w1 (by show _+1<=_;omega)) ?_;refine A_Post.ck (by rw[jz,jz];rfl) ?_;refine A_Post.call D.1 D.2 ?_;refine A_Post.ck (w1 (by rw[cj];show _+1+_<=_;omega)) ?_;rw[e];exact ih (i+1) m _ (by omega) h (by omega) (by rw[cj,cj];show _+1+_<=_;omega)
  ·have:i=l.length:=by omega
   subst this;exact fin m x (by omega)
def ok(e:Ev)(h:dr e):∃t,c e.k e.id e.t e.n e.l=ao/\v e.k e.id e.t e.n e.l=t/\t.size<=200:=by
 obtain⟨h1,h2,h3⟩:=h;unfold iN.il at h1;simp only[aM,ba]at h1;obtain⟨hk,hid,z,y,hl⟩:=h1;have D:=gj.eq e.id (by omega) (by omega);have E:=gj.eq e.n (by omega) (by omega);have s1:=gj.jI e.id (by omega) (by omega);have B:=gj.jI e.n (by omega) (by omega);have s3:=hw e.k;have zs:((aw #[aj 32]):ar).size=1:=rfl;have f:((aw #[aj 109,aj 111,aj 114,aj 101]):ar).size=4:=rfl;have a:iL (vo e.k e.id e.t e.n e.l) (λt=>t.size<=200):=by
  unfold vo;generalize d:cw=N;have s:4<N:=by rw[<-d];exact eG
  clear d;unfold b gb bY bw kE;refine A_Post.ck (by rw[aA (show 0<=e.k by omega),aA (show e.k<((bD w8:aN):az)by show e.k<8;omega)];rfl) ?_
  repeat' first
   |refine A_Post.call D.1 D.2 ?_
   |refine A_Post.call E.1 E.2 ?_
   |refine A_Post.ck (w1 (by(try simp only[cj,zs,f]);omega)) ?_
   |exact A_Post.ret (by(try simp only[cj,zs,f]);omega)
   |exact loop N _ _ _ _ _ _ hl h3 (λx A=>A_Post.ret (by omega)) e.l.length 0 N _ (by omega) (bB _) (by omega) (by omega)
   |refine A_Post.br (λ_=> ?_) (λ_=> ?_)
 obtain⟨t,o,r⟩:=a;obtain⟨j,u⟩:=out _ _ _ _ _ o;exact⟨t,j,u,r⟩
end MW
namespace Ql
def ok(q:Row)(hl:q.length<=1048576):∃h,c q=ao/\v q=(q,0,h):=by
 have key:=uS (λn (s:aN×az)=>l3 cw (λ(a:Row) (d _:az)=>ai (a,(0:az),d)) n q s.2 (s.1:az)) (λs=>q.length-s.1) (λs=>s.1<=q.length) (λr=>∃h,r=(q,0,h)) (λn s hs=>by
  obtain⟨i,h⟩:=s;dsimp only at hs⊢;by_cases hi:i<q.length
  ·by_cases h4:(i:az)<4000
   ·right;have j:bA ((i:az)+1)=((i+1:aN):az):=c6 (by omega) (by omega)
    have e:∃f,l3 cw (λ(a:Row) (d _:az)=>ai (a,(0:az),d)) (n+1) q h (i:az)=l3 cw (λ(a:Row) (d _:az)=>ai (a,(0:az),d)) n q f ((i+1:aN):az):=
     ⟨_,by simp only[l3,r3,dh,hi,h4,aQ,cm,aK,au,dK,j,bY];rfl⟩
    obtain⟨f,e⟩:=e;exact⟨(i+1,f),hi,by dsimp only;omega,e⟩
   ·left;exact⟨_,by simp only[l3,r3,dh,hi,h4,aQ,bc,au,ax,bY];rfl,_,rfl⟩
  ·left;exact⟨_,by simp only[l3,r3,dh,hi,bc,ax,bY];rfl,_,rfl⟩) cw (0,bA (34901+(q.length:az))) (bB _) eG
 obtain⟨u,t,h,rfl⟩:=key;obtain⟨k,o⟩:=out q (x:=(q,0,h)) t;exact⟨h,k,o⟩
end Ql
namespace Qm
open _root_.Go.FG.Lib (rc)
open lj (dk es)
open dY (ri)
open iF (rv run)
open vP (sL)
open dA (I)
def rm(h:l.length<=70)(y:aE CV):b_ ((rv l).length+(aC (aR [Ck.i ak,Ck.i ak,Ck.s,Ck.i ak,Ck.l 3] 1) 0 y).length) 64=true:=by rw[iF.j_,dY.nP];exact b6 (by omega) (by omega)
def walk(N:aN)(q:Row)(m:aN)(hm:m<=65)(K:az->az->Row->az->az->az->az->az->Row->Row->Row->Row->Row->Row->Row->Row->Row->Row->aG R)
  (O:∀(l:aE Ev) (a s:az),l.length=m->(∀x∈l,dr x)->I q a->iL (K (m:az) (m:az) q a s (run l).p.now (run l).p.a (run l).p.hits (rv l) (re (run l).p.en) (rs (run l).p.w) (rs (run l).p.m) (rr (run l).p.s) (rf (run l).p.fe) (rc (run l).p.cl) (rd (dk (run l).o)) (ri (run l).cd) (re (run l).bd)) P):
  ∀(d i n:aN) (l:aE Ev) (a s:az),m-i<=d->l.length=i->i<=m->d<n->(∀x∈l,dr x)->I q a->
   iL (l7 N K n (m:az) (i:az) q a s (run l).p.now (run l).p.a (run l).p.hits (rv l) (re (run l).p.en) (rs (run l).p.w) (rs (run l).p.m) (rr (run l).p.s) (rf (run l).p.fe) (rc (run l).p.cl) (rd (dk (run l).o)) (ri (run l).cd) (re (run l).bd)) P:=by
 have fin:∀(n:aN) (l:aE Ev) (a s:az),l.length=m->(∀x∈l,dr x)->I q a->iL (l7 N K (n+1) (m:az) (m:az) q a s (run l).p.now (run l).p.a (run l).p.hits (rv l) (re (run l).p.en) (rs (run l).p.w) (rs (run l).p.m) (rr (run l).p.s) (rf (run l).p.fe) (rc (run l).p.cl) (rd (dk (run l).o)) (ri (run l).cd) (re (run l).bd)) P:=λn l a s hl f u=>by rw[show l7 N K (n+1)=r7 N (l7 N K n) K from rfl];unfold r7 SF pI j7 bw jC mC Nr Ns Nt Nu cq db du cC dm je ni q9 Nv dt;exact A_Post.cn (aD (AE _)) (O l a s hl f u)
 intro d;induction d with
 |zero=>
  intro i n l a s h1 h2 h3 h4 j h6;obtain⟨n,rfl⟩:∃k,n=k+1:=⟨n-1,by omega⟩
  have:i=m:=by omega
  subst this;exact fin n l a s h2 j h6
 |succ d ih=>
  intro i n l a s h1 h2 h3 h4 j h6;obtain⟨n,rfl⟩:∃k,n=k+1:=⟨n-1,by omega⟩
  by_cases h:i<m
  ·have y:bA ((i:az)+1)=((i+1:aN):az):=c6 (by omega) (by omega);have hW:Bk l.length (run l):=iF.Am λx S=>(j x S).1;have go:∀(e:Ev) (a s:az),dr e->I q a->iL (l7 N K n (m:az) (bA ((i:az)+1)) q a s (iN.step (run l) e).p.now (iN.step (run l) e).p.a (iN.step (run l) e).p.hits (rv l++aC (aR [Ck.i ak,Ck.i ak,Ck.s,Ck.i ak,Ck.l 3] 1) 0 [CV.i ak e.k,CV.i ak e.id,CV.s e.t,CV.i ak e.n,CV.l 3 e.l]) (re (iN.step (run l) e).p.en) (rs (iN.step (run l) e).p.w) (rs (iN.step (run l) e).p.m) (rr (iN.step (run l) e).p.s) (rf (iN.step (run l) e).p.fe) (rc (iN.step (run l) e).p.cl) (rd (dk (iN.step (run l) e).o)) (ri (iN.step (run l) e).cd) (re (iN.step (run l) e).bd)) P:=λe a s f u=>by have:=ih (i+1) n (l++[e]) a s (by omega) (by rw[bU,h2];rfl) h (by omega) (Nf j f) u;rw[JC,<-sL]at this;rw[y];exact this
   rw[show l7 N K (n+1)=r7 N (l7 N K n) K from rfl];unfold r7 SF pI j7 bw jC mC Nr Ns Nt Nu cq db du cC dm je ni q9 Nv dt;refine A_Post.ck (aA (by omega)) ?_;refine vP.next hW h6 (λk id t B a1 s1 C f hk r=> ?_);refine A_Post.once C (λx a2 U A=> ?_);cases x with
   |true=>refine A_Post.ck rfl ?_;refine A_Post.below A (λz a3 s3 H M V=> ?_);refine vP.step ⟨7,0,⟨#[]⟩,0,aC (aR [Ck.i ak] 1) 0 [CV.i ak z]⟩ hW (by omega) (vP.Ni z) ?_;refine A_Post.ck (rm (by omega) _) ?_;exact go ⟨7,0,⟨#[]⟩,0,aC (aR [Ck.i ak] 1) 0 [CV.i ak z]⟩ a3 s3 (Sq M (by omega)) H
   |false=>refine A_Post.cn rfl ?_;refine vP.step ⟨k,id,t,B,[]⟩ hW (by omega) f ?_;refine A_Post.ck (rm (by omega) _) ?_;exact go ⟨k,id,t,B,[]⟩ a2 U (Sn f r) A
  ·have:i=m:=by omega
   subst this;exact fin n l a s h2 j h6
def ok2(q:Row)(a s:az)(d:Row)(u:I q a)(H:d.length<=1048576):∃(l:aE Ev) (f k:az),c q a s d=ao/\v q a s d=(rv l,q,f,k)/\(20<=l.length/\l.length<=65)/\(∀e∈l,dr e):=by
 have key:∃m:aN,(20<=m/\m<=65)/\(ah (bA (20+bA (cz (d.length:az) 6))>65)=ao/\m=65\/ah (bA (20+bA (cz (d.length:az) 6))>65)=aq/\bA (20+bA (cz (d.length:az) 6))=(m:az)):=by
  have h0:0<=cz (d.length:az) 6/\cz (d.length:az) 6<=1048576:=by rw[d' (by omega)];omega
  generalize cz (d.length:az) 6=z at*
  rw[c6 (x:=z) (by omega) (by omega),c6 (x:=20+z) (by omega) (by omega)];by_cases h:20+z>65
  ·exact⟨65,by omega,.inl ⟨aA h,rfl⟩⟩
  ·exact⟨(20+z).toNat,by omega,.inr ⟨aD h,by omega⟩⟩
 have j:iL (vo q a s d) (λx=>∃(l:aE Ev) (f k:az),x=(rv l,q,f,k)/\(20<=l.length/\l.length<=65)/\(∀e∈l,dr e)):=by
  obtain⟨m,hm,hk⟩:=key;unfold vo;generalize y:cw=N;have r:65<N:=by rw[<-y];exact eG
  clear y;unfold b;rcases hk with ⟨h1,h2⟩|⟨h1,h2⟩
  ·subst h2;refine A_Post.ck h1 ?_;exact walk N q 65 (by omega) _ (λl a1 s1 hl t o=>A_Post.ret ⟨l,a1,s1,rfl,by omega,t⟩) 65 0 N [] a s (by omega) rfl (by omega) r (λe h=>by cases h) u
  ·refine A_Post.cn h1 ?_;rw[h2];exact walk N q m hm.2 _ (λl a1 s1 hl t o=>A_Post.ret ⟨l,a1,s1,rfl,by omega,t⟩) m 0 N [] a s (by omega) rfl (by omega) (by omega) (λe h=>by cases h) u
 obtain⟨x,B,l,f,k,rfl,h1,h2⟩:=j;obtain⟨A,C⟩:=out _ _ _ _ B;exact⟨l,f,k,A,C,h1,h2⟩
end Qm
namespace Qn
def ok(n x:az)(h0:0<=n)(h1:n<=1048576):∃t,c n x=ao/\v n x=t/\(t.size:az)=n:=by
 have key:=uS (λm (z:aN×Row)=>l3 cw (λ(_ _ _:az) (d:Row)=>bif(ah (bD d<=4611686018427387904))then(ai (bytesOf d))else(ay)) m n x (z.1:az) z.2) (λz=>n.toNat-z.1) (λz=>z.1<=n.toNat/\z.2.length=n.toNat) (λt=>(t.size:az)=n) (λm z o=>by
  obtain⟨i,acc⟩:=z;obtain⟨h2,h3⟩:=o;dsimp only at h2 h3⊢;by_cases h:(i:az)<n
  ·right;have a:bA ((i:az)+1)=((i+1:aN):az):=c6 (by omega) (by omega);have hi:i<acc.length:=by omega
   refine⟨(i+1,eH acc i 0 [CV.i a8 x]),⟨by dsimp only;omega,by dsimp only;rw[Lib.jt];exact h3⟩,by dsimp only;omega,?_⟩
   simp only[l3,r3,h,hi,dh,cm,dK,aK,aQ,au,a,bY]
  ·left;refine⟨_,by simp only[l3,r3,h,bc,ax,aA (show acc.length<=4611686018427387904 by omega),au,bY];rfl,?_⟩
   rw[ie,h3];omega) cw (0,aR [Ck.i a8] n.toNat) ⟨bB _,fa _ _⟩ (mX (by dsimp only;omega))
 obtain⟨t,j,k⟩:=key;obtain⟨e,f⟩:=out n x (x:=t) (by unfold vo b bw;rw[aA h0,aA rfl,sJ (by omega),aK,aK,au];exact j);exact⟨t,e,f,k⟩
end Qn
namespace JX
open fP (w1)
open iF (rv)
def h8(k:az):(bn (av w8 k.toNat 0)).size<=10:=by
 generalize k.toNat=n;match n with
 |0|1|2|3|4|5|6|7=>exact b8 rfl
 |n+8=>exact b8 rfl
def h6(k:az):(bn (av w6 k.toNat 0)).size<=20:=by
 generalize k.toNat=n;match n with
 |0|1|2|3|4|5=>exact b8 rfl
 |n+6=>exact b8 rfl
def h4(k:az):(bn (av w4 k.toNat 0)).size<=10:=by
 generalize k.toNat=n;match n with
 |0|1|2|3=>exact b8 rfl
 |n+4=>exact b8 rfl
def zn:((aw #[aj 10]):ar).size=1:=rfl
def md{x:az}(n:aN)(h:0<=x)(a:0<n)(l:Row)(hl:l.length=n):(ah (0<=bQ x n)&&ah (bQ x n<(l.length:az)))=true:=by rw[hl,dO h];have h1:=FX x (show(n:az)≠0 by omega);have h2:=Ba x (show 0<(n:az)by omega);rw[aA h1,aA h2];rfl
def walk(N:aN)(K:az->az->ar->az->Row->aG R)(k x:az)(h0:0<=x)(l:aE Ev)(hl:l.length<=65)(hd:∀e∈l,dr e)(u:∀s:ar,s.size<=230*l.length->l.length<=s.size->iL (K k x s (l.length:az) (rv l)) P):
  ∀(d i m:aN) (s:ar),l.length-i<=d->i<=l.length->d<m->s.size<=230*i->i<=s.size->iL (l7 N K m k x s (i:az) (rv l)) P:=by
 have fin:∀(m:aN) (s:ar),s.size<=230*l.length->l.length<=s.size->iL (l7 N K (m+1) k x s (l.length:az) (rv l)) P:=λm s h1 h2=>by rw[show l7 N K (m+1)=r7 N (l7 N K m) K from rfl];unfold r7 ng bY bw kE;rw[j_];exact A_Post.cn (aD (AE _)) (u s h1 h2)
 intro d;induction d with
 |zero=>
  intro i m s h1 h2 h3 h4 r;obtain⟨m,rfl⟩:∃k,m=k+1:=⟨m-1,by omega⟩
  have:i=l.length:=by omega
  subst this;exact fin m s h4 r
 |succ d ih=>
  intro i m s a1 a2 a3 a4 a5;obtain⟨m,rfl⟩:∃k,m=k+1:=⟨m-1,by omega⟩
  by_cases h:i<l.length
  ·have f:bA ((i:az)+1)=((i+1:aN):az):=c6 (by omega) (by omega);have go:∀a:ar,a.size<=230*i+221->i+1<=a.size->iL (l7 N K m k x a (bA ((i:az)+1)) (rv l)) P:=λa B j=>by rw[f];exact ih (i+1) m a (by omega) h (by omega) (by omega) j
   obtain⟨t,o,A,M⟩:=MW.ok (el l i) (hd _ (iY h));have y:=md 4 h0 (by omega) w4 rfl;have z:=md 8 h0 (by omega) w8 rfl;have C:=h4 (bQ x 4);have H:=h8 (bQ x 8);have ix:(ah (0<=(i:az))&&ah ((i:az)<(l.length:az)))=true:=by rw[jz,jz];rfl
   rw[show l7 N K (m+1)=r7 N (l7 N K m) K from rfl];unfold r7 ng bY bw kE;simp only[j_,dK,wv0 h,wv1 h,wv2 h,wv3 h,wv4 h];refine A_Post.ck (aA (by omega)) ?_
   repeat' first
    |refine A_Post.call o A ?_
    |refine A_Post.ck ix ?_
    |refine A_Post.ck y ?_
    |refine A_Post.ck z ?_
    |refine A_Post.ck (w1 (by(try simp only[cj,zn]);omega)) ?_
    |exact go _ (by(try simp only[cj,zn]);omega) (by(try simp only[cj,zn]);omega)
    |refine A_Post.br (λ_=> ?_) (λ_=> ?_)
  ·have:i=l.length:=by omega
   subst this;exact fin m s a4 a5
def ajW(N:aN)(K:ar->az->aG R)(e:∀s:ar,s.size<=15370->iL (K s 60) P):∀(d i m:aN) (s:ar),60-i<=d->i<=60->d<m->s.size<=14950+7*i->iL (l24 N K m s (i:az)) P:=by
 intro d;induction d with
 |zero=>
  intro i m s h1 h2 h3 h4;obtain⟨m,rfl⟩:∃k,m=k+1:=⟨m-1,by omega⟩
  have:i=60:=by omega
  subst this;rw[show l24 N K (m+1)=r24 N (l24 N K m) K from rfl];unfold r24 bw;exact A_Post.cn rfl (e s (by omega))
 |succ d ih=>
  intro i m s h1 h2 h3 h4;obtain⟨m,rfl⟩:∃k,m=k+1:=⟨m-1,by omega⟩
  rw[show l24 N K (m+1)=r24 N (l24 N K m) K from rfl];unfold r24 bw;by_cases h:i<60
  ·have a:bA ((i:az)+1)=((i+1:aN):az):=c6 (by omega) (by omega);refine A_Post.ck (aA (by omega)) ?_;refine A_Post.ck (w1 (by show _+7<=_;omega)) ?_;rw[a];exact ih (i+1) m _ (by omega) (by omega) (by omega) (by rw[cj];show _+7<=_;omega)
  ·have:i=60:=by omega
   subst this;exact A_Post.cn rfl (e s (by omega))
def aeN(N:aN)(K:ar->az->aG R)(e:∀s:ar,s.size<=15370->iL (K s 90) P):∀(d i m:aN) (s:ar),90-i<=d->i<=90->d<m->s.size<=14950+i->iL (l29 N K m s (i:az)) P:=by
 intro d;induction d with
 |zero=>
  intro i m s h1 h2 h3 h4;obtain⟨m,rfl⟩:∃k,m=k+1:=⟨m-1,by omega⟩
  have:i=90:=by omega
  subst this;rw[show l29 N K (m+1)=r29 N (l29 N K m) K from rfl];unfold r29 bw;exact A_Post.cn rfl (e s (by omega))
 |succ d ih=>
  intro i m s h1 h2 h3 h4;obtain⟨m,rfl⟩:∃k,m=k+1:=⟨m-1,by omega⟩
  rw[show l29 N K (m+1)=r29 N (l29 N K m) K from rfl];unfold r29 bw;by_cases h:i<90
  ·have a:bA ((i:az)+1)=((i+1:aN):az):=c6 (by omega) (by omega);refine A_Post.ck (aA (by omega)) ?_;refine A_Post.ck (w1 (by show _+1<=_;omega)) ?_;rw[a];exact ih (i+1) m _ (by omega) (by omega) (by omega) (by rw[cj];show _+1<=_;omega)
  ·have:i=90:=by omega
   subst this;exact A_Post.cn rfl (e s (by omega))
def ok(q:Row)(hq:q.length<=1048576):∃t,c q=ao/\v q=t/\t.size<=20000:=by
 have a:iL (vo q) (λt=>t.size<=20000):=by
  unfold vo;generalize r:cw=N;have K:90<N:=by rw[<-r];exact eG
  clear r;unfold b gb iU j7 bY bw dt kE;obtain⟨g,M,O⟩:=Ql.ok q hq;refine A_Post.call M O ?_;refine A_Post.below (show dA.I q 0 from⟨by omega,by omega,hq⟩) (λk a1 s1 z X Y=> ?_);refine A_Post.below z (λx a2 P A j x1=> ?_);obtain⟨l,a3,s3,d,f,C,H⟩:=Qm.ok2 q a2 P q A hq;refine A_Post.call d f ?_;refine walk N _ k x j l C.2 H (λs z1 z2=> ?_) l.length 0 N _ (by omega) (bB _) (by omega) (bB _) (bB _);refine A_Post.br (λ_=> ?_) (λ_=>A_Post.br (λ_=> ?_) (λ_=>A_Post.br (λ_=> ?_) (λ_=>A_Post.br (λ_=> ?_) (λ_=>A_Post.br (λ_=> ?_) (λ_=>A_Post.br (λ_=>A_Post.br (λh=> ?_) (λ_=> ?_)) (λ_=> ?_))))))
  ·have u:((aw #[aj 35,aj 32,aj 102,aj 105,aj 114,aj 115,aj 116,aj 10]):ar).size=8:=rfl;refine A_Post.ck (w1 (by rw[u];omega)) (A_Post.ret (by rw[cj,u];omega))
  ·refine A_Post.ck (md 6 j (by omega) w6 rfl) (A_Post.ret (ca (h6 _) (by omega)))
  ·have e:bA ((s.size:az)-1)=((s.size-1:aN):az):=by rw[c6 (by omega) (by omega)];omega
   refine A_Post.ck (by rw[e];unfold gA;rw[jz,jz,jz];rfl) (A_Post.ret ?_);rw[vQ];omega
  ·exact ajW N (λy _=>ai y) (λs hs=>A_Post.ret (show s.size<=20000 by omega)) 60 0 N s (by omega) (by omega) (by omega) (by omega)
  ·exact aeN N (λy _=>ai y) (λs hs=>A_Post.ret (show s.size<=20000 by omega)) 90 0 N s (by omega) (by omega) (by omega) (by omega)
  ·have h:=cB h;have o:((aw #[aj 35]):ar).size=1:=rfl;have e:0<=bA (bA (bA (3000-(s.size:az))-1)+bQ x 2)/\bA (bA (bA (3000-(s.size:az))-1)+bQ x 2)<=3001:=by rw[dO j];have y:=FX x (show(2:az)≠0 by omega);have y2:=Ba x (show(0:az)<2 by omega);rw[c6 (x:=3000-(s.size:az)) (by omega) (by omega),c6 (x:=3000-(s.size:az)-1) (by omega) (by omega),c6 (by omega) (by omega)];omega
   obtain⟨t,S,U,t3⟩:=Qn.ok _ 32 e.1 (by omega);refine A_Post.ck (w1 (by rw[o];omega)) (A_Post.call S U (A_Post.ck (w1 (by rw[cj,o];omega)) (A_Post.ret (by rw[cj,cj,o];omega))))
  ·exact A_Post.ret (by omega)
  ·exact A_Post.ret (by omega)
 obtain⟨t,d,f⟩:=a;obtain⟨B,V⟩:=out _ d;exact⟨t,B,V,f⟩
end JX
namespace U9
def ok(q:Row)(hq:q.length<=1048576):∃t,c q=ao/\v q=t/\t.size<=20000:=by obtain⟨t,a,f,h⟩:=JX.ok q hq;obtain⟨d,e⟩:=out q (x:=t) (by unfold vo b gb;rw[a,au,dY.lt_eq,f]);exact⟨t,d,e,h⟩
end U9
namespace U4
open _root_.Go.FG.Lib (rc)
open fP (hd w1)
open ed (sp)
open gj (it)
open dY (ri)
def keys(N:aN)(K:ar->ar->aZ->ar->az->Row->az->az->az->Row->Row->Row->Row->Row->Row->Row->Row->Row->aG R)(t g:ar)(k:aZ)(x:ar)(H:x.size<=10000)(f:Row)(a b d:az)(j o r s u z A B:Row)(l:aE En)(hl:l.length<=1048576)(hk:∀e∈l,e.k.size<=30)(n:aN)(C:l.length<n):
  C1 N K n t g k x 0 f a b d (re l) j o r s u z A B=K t g k (x++tl (l.map (·.k))) (l.length:az) f a b d (re l) j o r s u z A B:=by
 have key:=iz l.length (λm (i:aN) (y:ar)=>C1 N K m t g k y (i:az) f a b d (re l) j o r s u z A B) (λi=>x++tl ((l.take i).map (·.k))) (K t g k (x++tl (l.map (·.k))) (l.length:az) f a b d (re l) j o r s u z A B) (λm i h=> ?_) (λm=> ?_) n 0 (bB _) (by omega)
 ·rw[show x++tl ((l.take 0).map (·.k))=x from ed.qh x]at key;exact key
 ·have s1:=hk _ (iY h);have M:=fP.FC hl hk i;have hw:bA ((i:az)+1)=((i+1:aN):az):=cG h (by omega);rw[show C1 N K (m+1)=Ly N (C1 N K m) K from rfl,fP.U5 l i h];unfold Ly bY bw kE;simp only[dC,dh,h,aQ,au,cm,aK,dK,rJ h,bn,hw,cj,show sp.size=1 from rfl];rw[w1 (by omega),w1 (by omega),au,au];simp only[cY]
 ·rw[show C1 N K (m+1)=Ly N (C1 N K m) K from rfl];unfold Ly bY bw kE;rw[dC,p6,ax,cR]
def fin(t M:ar)(hM:M.size<=40000)(h:(dE M).2≠ -1->yU M=yU t):
  (bif BO.c M then ic (BO.v M) (λx=>bif U6.c t then ic (U6.v t) (λy=>bif cD (yU t).toList y.toList then(bif ah (x.2=s9 1)then ai ao else(bif U7.c M then ic (U7.v M) (λz=>ai (cD z.toList (yU t).toList))else ay))else ai aq)else ay)else ay)=ai true:=by
 have A:=BO.ok M;have B:=U6.ok t;have C:=U7.ok M (by omega);rw[A.1,au,A.2,dY.lt_eq,B.1,au,B.2,dY.lt_eq,mz,au];dsimp only;by_cases hm:(dE M).2= -1
 ·rw[aA (show(dE M).2=s9 1 from hm),au]
 ·rw[aD (show¬(dE M).2=s9 1 from hm),ax,C.1,au,C.2,dY.lt_eq,h hm,mz]
def run(q:Row):vo q=ai true:=by
 unfold vo;generalize z:cw=N;have X:∀{n:aN},n<=1048576->n<N:=λh=>by rw[<-z];exact eG
 clear z;unfold b U8.v gb nh bw jC mC cq db du cC dm je ni ue kE;by_cases hq:(q.length:az)>1048576
 ·rw[aA hq];rfl
 rw[aD hq,ax];obtain⟨t,M,O,ht⟩:=U9.ok q (by omega);have A:=BO.ok t;have I:=U7.ok t (by omega);have F:=fP.CR t;have S:=wO.Ao t;have j:((aw #[aj 104,aj 105,aj 116,aj 115,aj 32]):ar).size=5:=rfl;have y:((aw #[aj 32,aj 107,aj 101,aj 112,aj 116]):ar).size=5:=rfl;have K:((aw #[aj 102,aj 97,aj 117,aj 108,aj 116,aj 32]):ar).size=6:=rfl;have zp:P0.size=11:=rfl;have zq:P3.size=9:=rfl;rw[M,au,O,dY.lt_eq,A.1,au,A.2,dY.lt_eq,I.1,au,I.2,dY.lt_eq];dsimp only;by_cases h0:(dE t).2=0
 ·rw[show((dE t).2 !=0)=aq from by rw[h0];rfl,ax];have L:=Io.ok (dE t).1 (by omega);have u:∀e∈(dE t).1,iN.il e=true:=λe h=>(S.2 e h).1;have T:=fP.tel S.1 u;have P:iF.life (dE t).1=iF.Wa (iF.run (dE t).1) true:=by unfold iF.life;rw[iF.pJ.2 ⟨S.1,u⟩,au]
  have d:(iF.run (dE t).1).cd.length=(dE t).1.length:=(iF.Am u).cd;have f:yU t=wtx (iF.run (dE t).1):=by unfold fP.yU;rw[bm h0]
  rw[L.1,au,L.2,dY.lt_eq,P];generalize iF.run (dE t).1=w at T d f;unfold iF.Wa;dsimp only;have hh:=T.px.hits;have D:=gj.eq w.p.hits (by omega) (by omega);have s1:=gj.jI w.p.hits (by omega) (by omega);have s2:=ca (ed.nF _ T.cl) T.rm;have s4:=fP.FC T.en T.ks w.p.en.length;rw[cR]at s4;have C:=H3.ok w.p.now (re w.p.en) (rs w.p.w) (rs w.p.m) (rr w.p.s) w.p.a (rf w.p.fe) w.p.cl w.p.hits (ca T.rm (by omega)) T.cl;rw[D.1,au,D.2,dY.lt_eq,w1 (by rw[j];omega),au,w1 (by rw[cj,j,y];omega),au];rw[keys N _ _ _ _ _ (by rw[cj,cj,j,y];omega) _ _ _ _ _ _ _ _ _ _ _ _ w.p.en T.en T.ks N (X T.en)];rw[C.1,au,C.2,dY.lt_eq];have o:yU t=hd w.cd++(shown w.p.cl++((aw #[aj 104,aj 105,aj 116,aj 115,aj 32])++it w.p.hits++(aw #[aj 32,aj 107,aj 101,aj 112,aj 116])++tl (w.p.en.map (·.k)))++(aw #[aj 10])):=by rw[f];unfold fP.wtx;simp only[cY];rfl
  have s5:(shown w.p.cl++((aw #[aj 104,aj 105,aj 116,aj 115,aj 32])++it w.p.hits++(aw #[aj 32,aj 107,aj 101,aj 112,aj 116])++tl (w.p.en.map (·.k)))).size<=100000000:=by simp only[cj,j,y];omega
  rw[cj]at s5;rw[w1 (by omega),au,w1 (by rw[cj];show _+1<=_;omega),au,aY,ax,dY.fj,iF.j_,d,bne_self_eq_false,ax];have s6:(shown w.p.cl++((aw #[aj 104,aj 105,aj 116,aj 115,aj 32])++it w.p.hits++(aw #[aj 32,aj 107,aj 101,aj 112,aj 116])++tl (w.p.en.map (·.k)))++(aw #[aj 10])).size<=100000001:=by rw[cj,cj];show _+1<=_;omega
  generalize (shown w.p.cl++((aw #[aj 104,aj 105,aj 116,aj 115,aj 32])++it w.p.hits++(aw #[aj 32,aj 107,aj 101,aj 112,aj 116])++tl (w.p.en.map (·.k)))++(aw #[aj 10]))=Q at o s6;have s7:(hd w.cd).size<=2000:=by
   unfold fP.hd;split
   ·exact bB _
   ·have:=fP.NH T.ln T.cd w.cd.length;rw[cR]at this;rw[cj];show _+1<=_;omega
  have s8:(yU t).size=(hd w.cd).size+Q.size:=by rw[o,cj]
  have U:bA (((yU t).size:az)-(Q.size:az))=(((hd w.cd).size:aN):az):=by rw[c6 (by omega) (by omega)];omega
  rw[p6,ax,U,show gA (((hd w.cd).size:aN):az) (((yU t).size:aN):az) (((yU t).size:aN):az)=ao from by unfold gA;rw[jz,jz,jz];rfl,au];rw[show(yU t).extract (aP (((hd w.cd).size:aN):az)) (aP (((yU t).size:aN):az))=Q from by rw[dK,dK,s8];(conv=>lhs;arg 1;rw[o]);exact ByteArray.extract_append_eq_right rfl rfl,mz,aY,ax];have y1:P0.size+t.size<=4000000000:=by omega
  rw[w1 y1,au];have H:=fin t (P0++t) (by rw[cj];omega) (yX.ah7 t h0);by_cases B:(t.size:az)>0
  ·have V:bA ((t.size:az)-1)=((t.size-1:aN):az):=by rw[c6 (by omega) (by omega)];omega
   rw[aA B,au,V,jz,jz,aK,au,dK];by_cases r:((fJ t (t.size-1):aN):az)=10
   ·obtain⟨a,Y⟩:=yX.last (by omega) r;have m2:=fin t (P0++t++P3) (by rw[cj,cj];omega) (yX.ah8 t a Y h0);rw[aA r,au,w1 (by rw[cj];show 11+t.size+9<=_;omega),au];exact m2
   ·rw[aD r,ax];exact H
  ·rw[aD B,ax];exact H
 ·have D:=gj.eq (dE t).2 (by omega) (by omega);have s1:=gj.jI (dE t).2 (by omega) (by omega);rw[bne_iff_ne.2 h0,au,D.1,au,D.2,dY.lt_eq,w1 (by rw[K];omega),au,w1 (by rw[cj,K];show _+1<=_;omega),au];have f:yU t=(aw #[aj 102,aj 97,aj 117,aj 108,aj 116,aj 32])++it (dE t).2++(aw #[aj 10]):=by unfold fP.yU;rw[bk h0,cY];rfl
  rw[f,mz]
def law(a:Row)(_:A):v a=true:=(out _ (run a)).2
def anm(a:Row)(_:A):c a=true:=(out _ (run a)).1
end U4
end Go.FG
