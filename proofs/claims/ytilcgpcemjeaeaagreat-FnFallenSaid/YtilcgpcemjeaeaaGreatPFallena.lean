/- Functions of the program, told as functions of numbers, texts and lists, and what each comes to. No condition but those that each states. -/
import Derived.Test.YtilcgpcemjeaeaaGreatLib
set_option linter.unusedVariables false
set_option linter.unusedSimpArgs false
set_option maxRecDepth 100000
open BitVec renaming toNat->dV,and->jv,ofInt->ca,xor->mm
open Bool renaming cond_eq_ite->cL,true->ai,false->ak,false_eq_true->dx,true_and->bc,not_true->a_,and_self->aM,or_true->Kn,and_false->wC,not_false->bR
open ByteArray renaming toList->aA,size->cm,extract->bO
open Go.IntKind renaming i64->ao,wrap->bE,u32->eI,u8->bh
open Go.Op renaming bytesLess->b7
open Int renaming toNat->aW,fdiv->lA,pow->ia,tmod->cy,tdiv->cQ,tmod_eq_emod_of_nonneg->ir,mul_le_mul_of_nonneg_right->DH,neg->Ku
open List renaming set->aD,beq->bZ,length->bT,range->b9,range'->mw,all_cons->td,range'_zero->R4,range_eq_range'->R5,length_append->bP,length_singleton->bA,take->g_,drop->nt
open Nat renaming sub_zero->sr,lt_irrefl->bm
open Option renaming none->aj,some->ah
open UInt8 renaming ofNat->ay
open _root_ renaming Int->aw,Option->aC,ByteArray->aq,Bool->aX,Nat->aF,cond_true->au,cond_false->ax,of_decide_eq_true->cq,decide_eq_decide->cg,decide_true->aN,decide_false->bj,decide_eq_true->aE,if_neg->bH,if_pos->bz,decide_eq_false->aK
namespace Go.FG
variable {R:Type}
abbrev s9(R:Type):=aR->aw->aC R
abbrev AH(R:Type):=aw->aR->aC R
abbrev wJ(R:Type):=aq->aX->aC R
abbrev DG(R:Type):=aR->aX->aC R
abbrev Aa(R:Type):=aR->aw->aw->aC R
abbrev lQ(R:Type):=aw->aw->aw->aC R
abbrev BR(R:Type):=aw->aq->aw->aC R
abbrev BS(R:Type):=aw->aq->aR->aC R
abbrev Es(R:Type):=aX->AH R
abbrev oy(R:Type):=aq->AH R
abbrev wI(R:Type):=aR->AH R
abbrev Ml(R:Type):=aw->aw->aX->aC R
abbrev Mn(R:Type):=aq->aw->aX->aC R
abbrev Et(R:Type):=aw->aR->aR->aC R
abbrev iZ(R:Type):=aw->aw->AH R
abbrev s_(R:Type):=aR->aR->s9 R
abbrev FP(R:Type):=aw->Aa R
abbrev aen(R:Type):=aq->Aa R
abbrev aem(R:Type):=aX->Aa R
abbrev Kq(R:Type):=aR->aq->aX->aw->aC R
abbrev Ko(R:Type):=aX->aw->s9 R
abbrev yQ(R:Type):=aw->aq->aw->aw->aC R
abbrev yS(R:Type):=aR->oy R
abbrev FQ(R:Type):=aw->aq->DG R
abbrev mr(R:Type):=aq->aw->AH R
abbrev tc(R:Type):=aq->Et R
abbrev qh(R:Type):=aR->aw->AH R
abbrev vJ(R:Type):=aR->Et R
abbrev QY(R:Type):=aR->Aa R
abbrev Kp(R:Type):=aw->Et R
abbrev wF(R:Type):=aw->qh R
abbrev Mo(R:Type):=aq->qh R
abbrev ry(R:Type):=aw->aR->lQ R
abbrev FL(R:Type):=aX->aw->aw->s9 R
abbrev wK(R:Type):=aq->aw->aw->wJ R
abbrev oF(R:Type):=aw->iZ R
abbrev FV(R:Type):=aq->iZ R
abbrev FW(R:Type):=aq->aw->aw->s9 R
abbrev Mm(R:Type):=aR->aR->aR->aw->aq->aC R
abbrev FM(R:Type):=aX->aw->BS R
abbrev rA(R:Type):=aw->aR->aq->aq->aw->aC R
abbrev Bc(R:Type):=aR->aX->oy R
abbrev kY(R:Type):=aR->aw->lQ R
abbrev FT(R:Type):=aR->FP R
abbrev ij(R:Type):=aR->aq->lQ R
abbrev FX(R:Type):=aq->FP R
abbrev FN(R:Type):=aX->qh R
abbrev FR(R:Type):=aw->aq->oy R
abbrev FU(R:Type):=aR->qh R
abbrev o8(R:Type):=aw->aR->iZ R
abbrev lR(R:Type):=aw->aR->aq->oy R
abbrev H_(R:Type):=aR->aX->tc R
abbrev o9(R:Type):=aR->oF R
abbrev BP(R:Type):=aX->aR->aw->aw->s9 R
abbrev BU(R:Type):=aq->oF R
abbrev wH(R:Type):=aw->aq->aw->BS R
abbrev BT(R:Type):=aR->wF R
abbrev BQ(R:Type):=aX->Mo R
abbrev yO(R:Type):=aX->aw->aR->aR->wI R
abbrev oW(R:Type):=aR->wH R
abbrev yP(R:Type):=aX->aR->aw->aw->BS R
abbrev yT(R:Type):=aq->aw->aw->aw->aX->aw->aw->aC R
abbrev yR(R:Type):=aR->aX->aw->aq->aw->aw->aq->aC R
abbrev vK(R:Type):=aq->aw->aw->aw->aX->lQ R
abbrev vG(R:Type):=aX->aw->aw->aR->aR->wI R
abbrev vH(R:Type):=aF->aw->aw->oF R
abbrev vI(R:Type):=aR->aX->aR->aw->aw->lQ R
abbrev ed(R:Type):=aw->aR->aR->aR->aR->aw->aR->s9 R
abbrev kZ(R:Type):=aR->aw->aw->aq->aw->aw->aw->oy R
abbrev wG(R:Type):=aw->aR->aR->aR->aR->aw->QY R
abbrev kX(R:Type):=aw->aR->aR->aR->aR->aw->aR->aR->aw->aX->aC R
abbrev ru(R:Type):=aX->aR->aR->aw->aw->aR->aw->aw->s9 R
abbrev fH(R:Type):=aX->aw->ed R
abbrev qi(R:Type):=aR->aw->aq->aw->aw->aw->aq->aw->lQ R
abbrev iY(R:Type):=aw->aw->aw->aw->aw->aw->aR->aR->aR->aR->aR->aR->aC R
abbrev kI(R:Type):=aw->aR->aR->aR->aR->aw->aR->aR->aw->aR->aR->aR->aC R
abbrev o7(R:Type):=aX->aw->aw->ed R
abbrev mc(R:Type):=aw->kI R
abbrev eU(R:Type):=aX->aR->aw->aw->ed R
abbrev jg(R:Type):=aw->iY R
abbrev AG(R:Type):=aX->kI R
abbrev AJ(R:Type):=aw->aR->aR->aR->aR->aw->aR->aR->aw->aR->aR->DG R
abbrev iW(R:Type):=aX->mc R
abbrev mT(R:Type):=aw->aR->jg R
abbrev gF(R:Type):=aw->aw->aw->aw->aR->aR->aR->aR->aR->aR->aR->aR->aR->aR->aR->aC R
abbrev mS(R:Type):=aX->aw->aw->aR->aR->aR->aR->aw->aR->aR->aw->aR->aR->aR->aR->aC R
abbrev mq(R:Type):=aq->aX->aw->aw->aR->aR->aR->aR->aw->aR->aR->aw->aq->aw->aw->aq->aC R
abbrev mo(R:Type):=aw->aR->aw->jg R
abbrev mn(R:Type):=aw->gF R
abbrev iK(R:Type):=aw->aw->aq->aw->aR->aR->aw->aw->aR->aR->aR->aR->aR->aR->aR->aR->aR->aC R
abbrev lH(R:Type):=aw->aX->aw->aw->aR->aR->aR->aR->aw->aR->aR->aw->aq->aq->lQ R
abbrev jF(R:Type):=aw->aw->aw->aw->aw->aq->aw->aw->aw->aq->aw->aR->aR->aR->aR->aR->aR->aC R
abbrev kH(R:Type):=aw->aw->aR->aw->aw->aw->aw->aw->aR->aR->aR->aR->aR->aR->aR->aR->aR->aR->aC R
abbrev kJ(R:Type):=aR->aw->aw->aw->aw->aw->aw->aw->aw->aR->aR->aR->aR->aR->aR->aR->aR->aR->aC R
abbrev jK(R:Type):=aX->aw->aw->aR->aR->aR->aR->aw->aR->aR->aw->aR->aR->aR->aw->aq->aw->aw->BR R
abbrev gY(R:Type):=aw->aw->aw->aR->aR->aR->aR->aw->aR->aR->jg R
abbrev iO(R:Type):=aw->aq->gY R
abbrev iq(R:Type):=aX->aw->aw->aw->aw->aw->aw->aw->aw->aR->aR->aR->aR->aR->aR->aR->aR->aR->aR->aR->aR->aR->aR->aR->aR->aR->aR->aC R
abbrev h_(R:Type):=aw->aw->aw->aw->aR->aw->aw->aR->aR->aR->aR->aR->aR->aR->aR->aR->aw->aw->aw->aw->aw->aq->aw->aw->aw->oy R
abbrev gu(R:Type):=aq->aX->aw->aw->aR->aR->aR->aR->aw->aR->aR->aw->aw->aw->jF R

namespace U8
def b(kr:aX->aC R)(a:aR):aC R:=kr (decide ((a.length:aw)>1048576))
def v(a0:aR):aX:=(decide ((a0.length:aw)>1048576))
theorem eG(kr:aX->aC R)(a0:aR):b kr a0=kr (v a0):=by first|rfl|(unfold b v;simp only[cL];(repeat' split)<;>rfl)
end U8

namespace KD
def r3(N:aF)(g k0:Aa R)(a:aR)(d e:aw):aC R:=bif decide (e<(a.length:aw))then bif decide (e<4000)then bif decide (0<=e)&&decide (e<(a.length:aw))then g a (bJ (↑(dV (jv (ca 64 (bJ (bJ (bJ (d*131)+bJ (bF (ar a e.toNat 0)))+7))) (ca 64 1073741823))):aw)) (bJ (e+1))else aj else k0 a d e else k0 a d e
def l3(N:aF)(k0:Aa R):aF->Aa R
 |0=>λ_ _ _=>aj
 |n+1=>r3 N (l3 N k0 n) k0
def b(N:aF)(kr:Aa R)(a:aR):aC R:=l3 N (λd e _=>kr d 0 e) N a (bJ (34901+(a.length:aw))) 0
def vo:=b Lib.cU λr0 r1 r2=>ah (r0,r1,r2)
def c:=λa=>(vo a).isSome
def v:=λa=>(vo a).getD ([],0,0)
theorem out{x}:∀a,vo a=ah x->c a=ai/\v a=x:=λ_=>Lib.dg
end KD

namespace GL
def r3(N:aF)(g:lQ R)(g1:iZ R)(k0:lQ R)(k1:iZ R)(a d e:aw):aC R:=bif decide (a<3)then g1 (bJ (a+1)) d e ([]++aD (aP [Ck.l 3] 1) 0 [CV.l 3 (aP [Ck.i ao] (aW 16))])else k0 a d e
def zQ(N:aF)(g:lQ R)(g1:iZ R)(k0:lQ R)(k1:iZ R)(a d e:aw)(f:aR):aC R:=bif decide (a<3)then bif cw (f.length+(aD (aP [Ck.l 3] 1) 0 [CV.l 3 (aP [Ck.i ao] (aW 16))]).length) 24 then g1 (bJ (a+1)) d e (f++aD (aP [Ck.l 3] 1) 0 [CV.l 3 (aP [Ck.i ao] (aW 16))])else aj else k1 a d e f
def sO(N:aF)(k0:lQ R)(k1:iZ R):aF->iZ R
 |0=>λ_ _ _ _=>aj
 |n+1=>zQ N (λx0 x1 x2=>aj) (sO N k0 k1 n) k0 k1
def l3(N:aF)(k0:lQ R)(k1:iZ R):aF->lQ R
 |0=>λ_ _ _=>aj
 |n+1=>r3 N (l3 N k0 k1 n) (sO N k0 k1 n) k0 k1
def b(N:aF)(kr:s9 R):aC R:=l3 N (λ_ _ a=>kr [] a) (λ_ _ a d=>kr d a) N 0 0 0
def vo:=b Lib.cU λr0 r1=>ah (r0,r1)
def c:=vo.isSome
def v:=vo.getD ([],0)
end GL

namespace W_
def b(kr:s_ R):aC R:=kr [] [] ([]++aD (aP [Ck.l 3] 1) 0 [CV.l 3 (aP [Ck.i ao] (aW 16))]++aD (aP [Ck.l 3] 1) 0 [CV.l 3 (aP [Ck.i ao] (aW 16))]++aD (aP [Ck.l 3] 1) 0 [CV.l 3 (aP [Ck.i ao] (aW 16))]) 0
def v:aR×aR×aR×aw:=([],[],[]++aD (aP [Ck.l 3] 1) 0 [CV.l 3 (aP [Ck.i ao] (aW 16))]++aD (aP [Ck.l 3] 1) 0 [CV.l 3 (aP [Ck.i ao] (aW 16))]++aD (aP [Ck.l 3] 1) 0 [CV.l 3 (aP [Ck.i ao] (aW 16))],0)
theorem eG(kr:s_ R):b kr=kr v.1 v.2.1 v.2.2.1 v.2.2.2:=by first|rfl|(unfold b v;simp only[cL];(repeat' split)<;>rfl)
end W_

namespace U57
def b(kr:ed R):aC R:=kr 1 [] [] [] ([]++aD (aP [Ck.l 3] 1) 0 [CV.l 3 (aP [Ck.i ao] (aW 16))]++aD (aP [Ck.l 3] 1) 0 [CV.l 3 (aP [Ck.i ao] (aW 16))]++aD (aP [Ck.l 3] 1) 0 [CV.l 3 (aP [Ck.i ao] (aW 16))]) 0 [] [] 0
def v:aw×aR×aR×aR×aR×aw×aR×aR×aw:=(1,[],[],[],[]++aD (aP [Ck.l 3] 1) 0 [CV.l 3 (aP [Ck.i ao] (aW 16))]++aD (aP [Ck.l 3] 1) 0 [CV.l 3 (aP [Ck.i ao] (aW 16))]++aD (aP [Ck.l 3] 1) 0 [CV.l 3 (aP [Ck.i ao] (aW 16))],0,[],[],0)
theorem eG(kr:ed R):b kr=kr v.1 v.2.1 v.2.2.1 v.2.2.2.1 v.2.2.2.2.1 v.2.2.2.2.2.1 v.2.2.2.2.2.2.1 v.2.2.2.2.2.2.2.1 v.2.2.2.2.2.2.2.2:=by first|rfl|(unfold b v;simp only[cL];(repeat' split)<;>rfl)
end U57

namespace dt
def b(kr:FP R)(a:aR)(d e:aw):aC R:=bif decide (d<(a.length:aw))then bif decide (0<=d)&&decide (d<(a.length:aw))then kr (bJ (↑(dV (jv (ca 64 (bJ (bJ (↑(dV (jv (ca 64 (bJ (↑(dV (mm (ca 64 (lA (bJ (bJ (e*6364136223846793005)+1442695040888963407)) (ia 2 (if aW 33<=64 then aW 33 else 64)))) (ca 64 (lA (bJ (bJ (e*6364136223846793005)+1442695040888963407)) (ia 2 (if aW 45<=64 then aW 45 else 64)))))):aw))) (ca 64 255))):aw)+bJ (bF (ar a d.toNat 0))))) (ca 64 255))):aw)) a (bJ (d+1)) (bJ (bJ (e*6364136223846793005)+1442695040888963407))else aj else kr (bJ (↑(dV (jv (ca 64 (bJ (↑(dV (mm (ca 64 (lA (bJ (bJ (e*6364136223846793005)+1442695040888963407)) (ia 2 (if aW 33<=64 then aW 33 else 64)))) (ca 64 (lA (bJ (bJ (e*6364136223846793005)+1442695040888963407)) (ia 2 (if aW 45<=64 then aW 45 else 64)))))):aw))) (ca 64 255))):aw)) a d (bJ (bJ (e*6364136223846793005)+1442695040888963407))
def vo:=b λr0 r1 r2 r3=>ah (r0,r1,r2,r3)
def c:=λa d e=>(vo a d e).isSome
def v:=λa d e=>(vo a d e).getD (0,[],0,0)
theorem out{x}:∀a d e,vo a d e=ah x->c a d e=ai/\v a d e=x:=λ_ _ _=>Lib.dg
end dt

namespace nE
def b(kr:FP R)(a:aR)(d e f:aw):aC R:=bif decide (f<=0)then kr 0 a d e else bif decide (f<=256)then bif dt.c a d e then bif !decide (f=0)then kr (cy (dt.v a d e).1 f) (dt.v a d e).2.1 (dt.v a d e).2.2.1 (dt.v a d e).2.2.2 else aj else aj else bif dt.c a d e then bif dt.c (dt.v a d e).2.1 (dt.v a d e).2.2.1 (dt.v a d e).2.2.2 then bif dt.c (dt.v (dt.v a d e).2.1 (dt.v a d e).2.2.1 (dt.v a d e).2.2.2).2.1 (dt.v (dt.v a d e).2.1 (dt.v a d e).2.2.1 (dt.v a d e).2.2.2).2.2.1 (dt.v (dt.v a d e).2.1 (dt.v a d e).2.2.1 (dt.v a d e).2.2.2).2.2.2 then bif dt.c (dt.v (dt.v (dt.v a d e).2.1 (dt.v a d e).2.2.1 (dt.v a d e).2.2.2).2.1 (dt.v (dt.v a d e).2.1 (dt.v a d e).2.2.1 (dt.v a d e).2.2.2).2.2.1 (dt.v (dt.v a d e).2.1 (dt.v a d e).2.2.1 (dt.v a d e).2.2.2).2.2.2).2.1 (dt.v (dt.v (dt.v a d e).2.1 (dt.v a d e).2.2.1 (dt.v a d e).2.2.2).2.1 (dt.v (dt.v a d e).2.1 (dt.v a d e).2.2.1 (dt.v a d e).2.2.2).2.2.1 (dt.v (dt.v a d e).2.1 (dt.v a d e).2.2.1 (dt.v a d e).2.2.2).2.2.2).2.2.1 (dt.v (dt.v (dt.v a d e).2.1 (dt.v a d e).2.2.1 (dt.v a d e).2.2.2).2.1 (dt.v (dt.v a d e).2.1 (dt.v a d e).2.2.1 (dt.v a d e).2.2.2).2.2.1 (dt.v (dt.v a d e).2.1 (dt.v a d e).2.2.1 (dt.v a d e).2.2.2).2.2.2).2.2.2 then bif !decide (f=0)then kr (cy (bJ (bJ (bJ (bJ ((dt.v a d e).1*16777216)+bJ ((dt.v (dt.v a d e).2.1 (dt.v a d e).2.2.1 (dt.v a d e).2.2.2).1*65536))+bJ ((dt.v (dt.v (dt.v a d e).2.1 (dt.v a d e).2.2.1 (dt.v a d e).2.2.2).2.1 (dt.v (dt.v a d e).2.1 (dt.v a d e).2.2.1 (dt.v a d e).2.2.2).2.2.1 (dt.v (dt.v a d e).2.1 (dt.v a d e).2.2.1 (dt.v a d e).2.2.2).2.2.2).1*256))+(dt.v (dt.v (dt.v (dt.v a d e).2.1 (dt.v a d e).2.2.1 (dt.v a d e).2.2.2).2.1 (dt.v (dt.v a d e).2.1 (dt.v a d e).2.2.1 (dt.v a d e).2.2.2).2.2.1 (dt.v (dt.v a d e).2.1 (dt.v a d e).2.2.1 (dt.v a d e).2.2.2).2.2.2).2.1 (dt.v (dt.v (dt.v a d e).2.1 (dt.v a d e).2.2.1 (dt.v a d e).2.2.2).2.1 (dt.v (dt.v a d e).2.1 (dt.v a d e).2.2.1 (dt.v a d e).2.2.2).2.2.1 (dt.v (dt.v a d e).2.1 (dt.v a d e).2.2.1 (dt.v a d e).2.2.2).2.2.2).2.2.1 (dt.v (dt.v (dt.v a d e).2.1 (dt.v a d e).2.2.1 (dt.v a d e).2.2.2).2.1 (dt.v (dt.v a d e).2.1 (dt.v a d e).2.2.1 (dt.v a d e).2.2.2).2.2.1 (dt.v (dt.v a d e).2.1 (dt.v a d e).2.2.1 (dt.v a d e).2.2.2).2.2.2).2.2.2).1)) f) (dt.v (dt.v (dt.v (dt.v a d e).2.1 (dt.v a d e).2.2.1 (dt.v a d e).2.2.2).2.1 (dt.v (dt.v a d e).2.1 (dt.v a d e).2.2.1 (dt.v a d e).2.2.2).2.2.1 (dt.v (dt.v a d e).2.1 (dt.v a d e).2.2.1 (dt.v a d e).2.2.2).2.2.2).2.1 (dt.v (dt.v (dt.v a d e).2.1 (dt.v a d e).2.2.1 (dt.v a d e).2.2.2).2.1 (dt.v (dt.v a d e).2.1 (dt.v a d e).2.2.1 (dt.v a d e).2.2.2).2.2.1 (dt.v (dt.v a d e).2.1 (dt.v a d e).2.2.1 (dt.v a d e).2.2.2).2.2.2).2.2.1 (dt.v (dt.v (dt.v a d e).2.1 (dt.v a d e).2.2.1 (dt.v a d e).2.2.2).2.1 (dt.v (dt.v a d e).2.1 (dt.v a d e).2.2.1 (dt.v a d e).2.2.2).2.2.1 (dt.v (dt.v a d e).2.1 (dt.v a d e).2.2.1 (dt.v a d e).2.2.2).2.2.2).2.2.2).2.1 (dt.v (dt.v (dt.v (dt.v a d e).2.1 (dt.v a d e).2.2.1 (dt.v a d e).2.2.2).2.1 (dt.v (dt.v a d e).2.1 (dt.v a d e).2.2.1 (dt.v a d e).2.2.2).2.2.1 (dt.v (dt.v a d e).2.1 (dt.v a d e).2.2.1 (dt.v a d e).2.2.2).2.2.2).2.1 (dt.v (dt.v (dt.v a d e).2.1 (dt.v a d e).2.2.1 (dt.v a d e).2.2.2).2.1 (dt.v (dt.v a d e).2.1 (dt.v a d e).2.2.1 (dt.v a d e).2.2.2).2.2.1 (dt.v (dt.v a d e).2.1 (dt.v a d e).2.2.1 (dt.v a d e).2.2.2).2.2.2).2.2.1 (dt.v (dt.v (dt.v a d e).2.1 (dt.v a d e).2.2.1 (dt.v a d e).2.2.2).2.1 (dt.v (dt.v a d e).2.1 (dt.v a d e).2.2.1 (dt.v a d e).2.2.2).2.2.1 (dt.v (dt.v a d e).2.1 (dt.v a d e).2.2.1 (dt.v a d e).2.2.2).2.2.2).2.2.2).2.2.1 (dt.v (dt.v (dt.v (dt.v a d e).2.1 (dt.v a d e).2.2.1 (dt.v a d e).2.2.2).2.1 (dt.v (dt.v a d e).2.1 (dt.v a d e).2.2.1 (dt.v a d e).2.2.2).2.2.1 (dt.v (dt.v a d e).2.1 (dt.v a d e).2.2.1 (dt.v a d e).2.2.2).2.2.2).2.1 (dt.v (dt.v (dt.v a d e).2.1 (dt.v a d e).2.2.1 (dt.v a d e).2.2.2).2.1 (dt.v (dt.v a d e).2.1 (dt.v a d e).2.2.1 (dt.v a d e).2.2.2).2.2.1 (dt.v (dt.v a d e).2.1 (dt.v a d e).2.2.1 (dt.v a d e).2.2.2).2.2.2).2.2.1 (dt.v (dt.v (dt.v a d e).2.1 (dt.v a d e).2.2.1 (dt.v a d e).2.2.2).2.1 (dt.v (dt.v a d e).2.1 (dt.v a d e).2.2.1 (dt.v a d e).2.2.2).2.2.1 (dt.v (dt.v a d e).2.1 (dt.v a d e).2.2.1 (dt.v a d e).2.2.2).2.2.2).2.2.2).2.2.2 else aj else aj else aj else aj else aj
def vo:=b λr0 r1 r2 r3=>ah (r0,r1,r2,r3)
def c:=λa d e f=>(vo a d e f).isSome
def v:=λa d e f=>(vo a d e f).getD (0,[],0,0)
theorem out{x}:∀a d e f,vo a d e f=ah x->c a d e f=ai/\v a d e f=x:=λ_ _ _ _=>Lib.dg
end nE

namespace Af
def b(kr:wF R)(a:aR)(d e:aw)(f:aR):aC R:=bif nE.c a d e (f.length:aw)then bif decide (0<=(nE.v a d e (f.length:aw)).1)&&decide ((nE.v a d e (f.length:aw)).1<(f.length:aw))then kr (bF (ar f (nE.v a d e (f.length:aw)).1.toNat 0)) (nE.v a d e (f.length:aw)).2.1 (nE.v a d e (f.length:aw)).2.2.1 (nE.v a d e (f.length:aw)).2.2.2 f else aj else aj
def vo:=b λr0 r1 r2 r3 r4=>ah (r0,r1,r2,r3,r4)
def c:=λa d e f=>(vo a d e f).isSome
def v:=λa d e f=>(vo a d e f).getD (0,[],0,0,[])
theorem out{x}:∀a d e f,vo a d e f=ah x->c a d e f=ai/\v a d e f=x:=λ_ _ _ _=>Lib.dg
end Af

namespace pO
def b(kr:Mo R)(a:aR)(d e:aw)(f:aR):aC R:=bif nE.c a d e (f.length:aw)then bif decide (0<=(nE.v a d e (f.length:aw)).1)&&decide ((nE.v a d e (f.length:aw)).1<(f.length:aw))then kr (bw (ar f (nE.v a d e (f.length:aw)).1.toNat 0)) (nE.v a d e (f.length:aw)).2.1 (nE.v a d e (f.length:aw)).2.2.1 (nE.v a d e (f.length:aw)).2.2.2 f else aj else aj
def vo:=b λr0 r1 r2 r3 r4=>ah (r0,r1,r2,r3,r4)
def c:=λa d e f=>(vo a d e f).isSome
def v:=λa d e f=>(vo a d e f).getD (⟨#[]⟩,[],0,0,[])
theorem out{x}:∀a d e f,vo a d e f=ah x->c a d e f=ai/\v a d e f=x:=λ_ _ _ _=>Lib.dg
end pO

namespace u_
def b(kr:aen R)(a:aR)(d e:aw):aC R:=bif pO.c a d e (aD (aD (aD (aD (aD (aD (aD (aD (aP [.s] 8) 0 [.s {data:= #[ay 47,ay 97]}]) 1 [.s {data:= #[ay 47,ay 98]}]) 2 [.s {data:= #[ay 47,ay 99]}]) 3 [.s {data:= #[ay 47,ay 100]}]) 4 [.s {data:= #[ay 47,ay 101]}]) 5 [.s {data:= #[ay 47,ay 102]}]) 6 [.s {data:= #[ay 47,ay 103]}]) 7 [.s {data:= #[ay 47,ay 104]}])then kr (pO.v a d e (aD (aD (aD (aD (aD (aD (aD (aD (aP [.s] 8) 0 [.s {data:= #[ay 47,ay 97]}]) 1 [.s {data:= #[ay 47,ay 98]}]) 2 [.s {data:= #[ay 47,ay 99]}]) 3 [.s {data:= #[ay 47,ay 100]}]) 4 [.s {data:= #[ay 47,ay 101]}]) 5 [.s {data:= #[ay 47,ay 102]}]) 6 [.s {data:= #[ay 47,ay 103]}]) 7 [.s {data:= #[ay 47,ay 104]}])).1 (pO.v a d e (aD (aD (aD (aD (aD (aD (aD (aD (aP [.s] 8) 0 [.s {data:= #[ay 47,ay 97]}]) 1 [.s {data:= #[ay 47,ay 98]}]) 2 [.s {data:= #[ay 47,ay 99]}]) 3 [.s {data:= #[ay 47,ay 100]}]) 4 [.s {data:= #[ay 47,ay 101]}]) 5 [.s {data:= #[ay 47,ay 102]}]) 6 [.s {data:= #[ay 47,ay 103]}]) 7 [.s {data:= #[ay 47,ay 104]}])).2.1 (pO.v a d e (aD (aD (aD (aD (aD (aD (aD (aD (aP [.s] 8) 0 [.s {data:= #[ay 47,ay 97]}]) 1 [.s {data:= #[ay 47,ay 98]}]) 2 [.s {data:= #[ay 47,ay 99]}]) 3 [.s {data:= #[ay 47,ay 100]}]) 4 [.s {data:= #[ay 47,ay 101]}]) 5 [.s {data:= #[ay 47,ay 102]}]) 6 [.s {data:= #[ay 47,ay 103]}]) 7 [.s {data:= #[ay 47,ay 104]}])).2.2.1 (pO.v a d e (aD (aD (aD (aD (aD (aD (aD (aD (aP [.s] 8) 0 [.s {data:= #[ay 47,ay 97]}]) 1 [.s {data:= #[ay 47,ay 98]}]) 2 [.s {data:= #[ay 47,ay 99]}]) 3 [.s {data:= #[ay 47,ay 100]}]) 4 [.s {data:= #[ay 47,ay 101]}]) 5 [.s {data:= #[ay 47,ay 102]}]) 6 [.s {data:= #[ay 47,ay 103]}]) 7 [.s {data:= #[ay 47,ay 104]}])).2.2.2.1 else aj
def vo:=b λr0 r1 r2 r3=>ah (r0,r1,r2,r3)
def c:=λa d e=>(vo a d e).isSome
def v:=λa d e=>(vo a d e).getD (⟨#[]⟩,[],0,0)
theorem out{x}:∀a d e,vo a d e=ah x->c a d e=ai/\v a d e=x:=λ_ _ _=>Lib.dg
end u_

namespace HZ
def b(kr:aem R)(a:aR)(d e f:aw):aC R:=bif nE.c a d e f then kr (decide ((nE.v a d e f).1=0)) (nE.v a d e f).2.1 (nE.v a d e f).2.2.1 (nE.v a d e f).2.2.2 else aj
def vo:=b λr0 r1 r2 r3=>ah (r0,r1,r2,r3)
def c:=λa d e f=>(vo a d e f).isSome
def v:=λa d e f=>(vo a d e f).getD (ak,[],0,0)
theorem out{x}:∀a d e f,vo a d e f=ah x->c a d e f=ai/\v a d e f=x:=λ_ _ _ _=>Lib.dg
end HZ

namespace KF
def r4(N:aF)(g k0:h_ R)(a d e f:aw)(h:aR)(i j:aw)(l m o p q r s t u:aR)(w y z α xa:aw)(xb:aq)(xc xd xe:aw)(xf:aq)(xg:aw)(xh:aR):aC R:=bif decide (f<(q.length:aw))then bif decide (0<=f)&&decide (f<(q.length:aw))then bif decide (bF (ar q f.toNat 2)=1)then bif cw (xh.length+(aD (aP [Ck.i ao] 1) 0 [.i .i64 f]).length) 8 then g a d e (bJ (f+1)) h i j l m o p q r s t u w y z α xa xb xc xd xe xf xg (xh++aD (aP [Ck.i ao] 1) 0 [.i .i64 f])else aj else g a d e (bJ (f+1)) h i j l m o p q r s t u w y z α xa xb xc xd xe xf xg xh else aj else k0 a d e f h i j l m o p q r s t u w y z α xa xb xc xd xe xf xg xh
def l4(N:aF)(k0:h_ R):aF->h_ R
 |0=>λ_ _ _ _ _ _ _ _ _ _ _ _ _ _ _ _ _ _ _ _ _ _ _ _ _ _ _ _=>aj
 |n+1=>r4 N (l4 N k0 n) k0
abbrev h0{R:Type}(kr:iK R)(w:aR)(y z:aw)(α xa xb xc xd xe xf xg xh:aR)(xi:aw)(xk:aq)(xl:aw)(xm:aR):aC R:=bif nE.c w y z 3 then Lib.lt (nE.v w y z 3) λxn=>bif decide ((xm.length:aw)>0)then bif HZ.c xn.2.1 xn.2.2.1 xn.2.2.2 6 then Lib.lt (HZ.v xn.2.1 xn.2.2.1 xn.2.2.2 6) λxo=>bif !xo.1 then bif nE.c xo.2.1 xo.2.2.1 xo.2.2.2 (xm.length:aw)then Lib.lt (nE.v xo.2.1 xo.2.2.1 xo.2.2.2 (xm.length:aw)) λxp=>bif decide (0<=xp.1)&&decide (xp.1<(xm.length:aw))then bif decide (xi=2)then bif pO.c xp.2.1 xp.2.2.1 xp.2.2.2 (aD (aD (aD (aD (aP [.s] 4) 0 [.s {data:= #[ay 120]}]) 1 [.s {data:= #[ay 104,ay 101,ay 108,ay 108,ay 111]}]) 2 [.s {data:= #[ay 109,ay 111,ay 114,ay 101,ay 32]}]) 3 [.s {data:= #[ay 48,ay 49,ay 50,ay 51,ay 52,ay 53,ay 54,ay 55,ay 56,ay 57]}])then Lib.lt (pO.v xp.2.1 xp.2.2.1 xp.2.2.2 (aD (aD (aD (aD (aP [.s] 4) 0 [.s {data:= #[ay 120]}]) 1 [.s {data:= #[ay 104,ay 101,ay 108,ay 108,ay 111]}]) 2 [.s {data:= #[ay 109,ay 111,ay 114,ay 101,ay 32]}]) 3 [.s {data:= #[ay 48,ay 49,ay 50,ay 51,ay 52,ay 53,ay 54,ay 55,ay 56,ay 57]}])) λxq=>bif decide (xi=3)then bif Af.c xq.2.1 xq.2.2.1 xq.2.2.2.1 (aD (aD (aD (aD (aD (aP [Ck.i ao] 5) 0 [.i .i64 0]) 1 [.i .i64 3]) 2 [.i .i64 20]) 3 [.i .i64 60]) 4 [.i .i64 60])then Lib.lt (Af.v xq.2.1 xq.2.2.1 xq.2.2.2.1 (aD (aD (aD (aD (aD (aP [Ck.i ao] 5) 0 [.i .i64 0]) 1 [.i .i64 3]) 2 [.i .i64 20]) 3 [.i .i64 60]) 4 [.i .i64 60])) λxr=>kr xi (bF (ar xm xp.1.toNat 0)) xq.1 xr.1 [] xr.2.1 xr.2.2.1 xr.2.2.2.1 α xa xb xc xd xe xf xg xh else aj else kr xi (bF (ar xm xp.1.toNat 0)) xq.1 xl [] xq.2.1 xq.2.2.1 xq.2.2.2.1 α xa xb xc xd xe xf xg xh else aj else bif decide (xi=3)then bif Af.c xp.2.1 xp.2.2.1 xp.2.2.2 (aD (aD (aD (aD (aD (aP [Ck.i ao] 5) 0 [.i .i64 0]) 1 [.i .i64 3]) 2 [.i .i64 20]) 3 [.i .i64 60]) 4 [.i .i64 60])then Lib.lt (Af.v xp.2.1 xp.2.2.1 xp.2.2.2 (aD (aD (aD (aD (aD (aP [Ck.i ao] 5) 0 [.i .i64 0]) 1 [.i .i64 3]) 2 [.i .i64 20]) 3 [.i .i64 60]) 4 [.i .i64 60])) λxq=>kr xi (bF (ar xm xp.1.toNat 0)) xk xq.1 [] xq.2.1 xq.2.2.1 xq.2.2.2.1 α xa xb xc xd xe xf xg xh else aj else kr xi (bF (ar xm xp.1.toNat 0)) xk xl [] xp.2.1 xp.2.2.1 xp.2.2.2 α xa xb xc xd xe xf xg xh else aj else aj else bif decide (xi=2)then bif pO.c xo.2.1 xo.2.2.1 xo.2.2.2 (aD (aD (aD (aD (aP [.s] 4) 0 [.s {data:= #[ay 120]}]) 1 [.s {data:= #[ay 104,ay 101,ay 108,ay 108,ay 111]}]) 2 [.s {data:= #[ay 109,ay 111,ay 114,ay 101,ay 32]}]) 3 [.s {data:= #[ay 48,ay 49,ay 50,ay 51,ay 52,ay 53,ay 54,ay 55,ay 56,ay 57]}])then Lib.lt (pO.v xo.2.1 xo.2.2.1 xo.2.2.2 (aD (aD (aD (aD (aP [.s] 4) 0 [.s {data:= #[ay 120]}]) 1 [.s {data:= #[ay 104,ay 101,ay 108,ay 108,ay 111]}]) 2 [.s {data:= #[ay 109,ay 111,ay 114,ay 101,ay 32]}]) 3 [.s {data:= #[ay 48,ay 49,ay 50,ay 51,ay 52,ay 53,ay 54,ay 55,ay 56,ay 57]}])) λxp=>bif decide (xi=3)then bif Af.c xp.2.1 xp.2.2.1 xp.2.2.2.1 (aD (aD (aD (aD (aD (aP [Ck.i ao] 5) 0 [.i .i64 0]) 1 [.i .i64 3]) 2 [.i .i64 20]) 3 [.i .i64 60]) 4 [.i .i64 60])then Lib.lt (Af.v xp.2.1 xp.2.2.1 xp.2.2.2.1 (aD (aD (aD (aD (aD (aP [Ck.i ao] 5) 0 [.i .i64 0]) 1 [.i .i64 3]) 2 [.i .i64 20]) 3 [.i .i64 60]) 4 [.i .i64 60])) λxq=>kr xi xn.1 xp.1 xq.1 [] xq.2.1 xq.2.2.1 xq.2.2.2.1 α xa xb xc xd xe xf xg xh else aj else kr xi xn.1 xp.1 xl [] xp.2.1 xp.2.2.1 xp.2.2.2.1 α xa xb xc xd xe xf xg xh else aj else bif decide (xi=3)then bif Af.c xo.2.1 xo.2.2.1 xo.2.2.2 (aD (aD (aD (aD (aD (aP [Ck.i ao] 5) 0 [.i .i64 0]) 1 [.i .i64 3]) 2 [.i .i64 20]) 3 [.i .i64 60]) 4 [.i .i64 60])then Lib.lt (Af.v xo.2.1 xo.2.2.1 xo.2.2.2 (aD (aD (aD (aD (aD (aP [Ck.i ao] 5) 0 [.i .i64 0]) 1 [.i .i64 3]) 2 [.i .i64 20]) 3 [.i .i64 60]) 4 [.i .i64 60])) λxp=>kr xi xn.1 xk xp.1 [] xp.2.1 xp.2.2.1 xp.2.2.2.1 α xa xb xc xd xe xf xg xh else aj else kr xi xn.1 xk xl [] xo.2.1 xo.2.2.1 xo.2.2.2 α xa xb xc xd xe xf xg xh else aj else bif decide (xi=2)then bif pO.c xn.2.1 xn.2.2.1 xn.2.2.2 (aD (aD (aD (aD (aP [.s] 4) 0 [.s {data:= #[ay 120]}]) 1 [.s {data:= #[ay 104,ay 101,ay 108,ay 108,ay 111]}]) 2 [.s {data:= #[ay 109,ay 111,ay 114,ay 101,ay 32]}]) 3 [.s {data:= #[ay 48,ay 49,ay 50,ay 51,ay 52,ay 53,ay 54,ay 55,ay 56,ay 57]}])then Lib.lt (pO.v xn.2.1 xn.2.2.1 xn.2.2.2 (aD (aD (aD (aD (aP [.s] 4) 0 [.s {data:= #[ay 120]}]) 1 [.s {data:= #[ay 104,ay 101,ay 108,ay 108,ay 111]}]) 2 [.s {data:= #[ay 109,ay 111,ay 114,ay 101,ay 32]}]) 3 [.s {data:= #[ay 48,ay 49,ay 50,ay 51,ay 52,ay 53,ay 54,ay 55,ay 56,ay 57]}])) λxo=>bif decide (xi=3)then bif Af.c xo.2.1 xo.2.2.1 xo.2.2.2.1 (aD (aD (aD (aD (aD (aP [Ck.i ao] 5) 0 [.i .i64 0]) 1 [.i .i64 3]) 2 [.i .i64 20]) 3 [.i .i64 60]) 4 [.i .i64 60])then Lib.lt (Af.v xo.2.1 xo.2.2.1 xo.2.2.2.1 (aD (aD (aD (aD (aD (aP [Ck.i ao] 5) 0 [.i .i64 0]) 1 [.i .i64 3]) 2 [.i .i64 20]) 3 [.i .i64 60]) 4 [.i .i64 60])) λxp=>kr xi xn.1 xo.1 xp.1 [] xp.2.1 xp.2.2.1 xp.2.2.2.1 α xa xb xc xd xe xf xg xh else aj else kr xi xn.1 xo.1 xl [] xo.2.1 xo.2.2.1 xo.2.2.2.1 α xa xb xc xd xe xf xg xh else aj else bif decide (xi=3)then bif Af.c xn.2.1 xn.2.2.1 xn.2.2.2 (aD (aD (aD (aD (aD (aP [Ck.i ao] 5) 0 [.i .i64 0]) 1 [.i .i64 3]) 2 [.i .i64 20]) 3 [.i .i64 60]) 4 [.i .i64 60])then Lib.lt (Af.v xn.2.1 xn.2.2.1 xn.2.2.2 (aD (aD (aD (aD (aD (aP [Ck.i ao] 5) 0 [.i .i64 0]) 1 [.i .i64 3]) 2 [.i .i64 20]) 3 [.i .i64 60]) 4 [.i .i64 60])) λxo=>kr xi xn.1 xk xo.1 [] xo.2.1 xo.2.2.1 xo.2.2.2.1 α xa xb xc xd xe xf xg xh else aj else kr xi xn.1 xk xl [] xn.2.1 xn.2.2.1 xn.2.2.2 α xa xb xc xd xe xf xg xh else aj
abbrev h1{R:Type}(kr:iK R)(w:aR)(y z:aw)(α xa xb xc xd xe xf xg xh:aR)(xi xj:aw)(xk:aq)(xl:aw):aC R:=bif decide (xi=5)then bif Af.c w y z (aD (aD (aD (aD (aP [Ck.i ao] 4) 0 [.i .i64 1]) 1 [.i .i64 2]) 2 [.i .i64 5]) 3 [.i .i64 30])then Lib.lt (Af.v w y z (aD (aD (aD (aD (aP [Ck.i ao] 4) 0 [.i .i64 1]) 1 [.i .i64 2]) 2 [.i .i64 5]) 3 [.i .i64 30])) λxn=>kr xi xj xk xn.1 [] xn.2.1 xn.2.2.1 xn.2.2.2.1 α xa xb xc xd xe xf xg xh else aj else bif decide (xi=6)then bif nE.c w y z 9 then Lib.lt (nE.v w y z 9) λxn=>bif decide ((xe.length:aw)>0)then bif HZ.c xn.2.1 xn.2.2.1 xn.2.2.2 4 then Lib.lt (HZ.v xn.2.1 xn.2.2.1 xn.2.2.2 4) λxo=>bif !xo.1 then bif nE.c xo.2.1 xo.2.2.1 xo.2.2.2 (xe.length:aw)then Lib.lt (nE.v xo.2.1 xo.2.2.1 xo.2.2.2 (xe.length:aw)) λxp=>bif decide (0<=xp.1)&&decide (xp.1<(xe.length:aw))then kr xi (bF (ar xe xp.1.toNat 0)) xk xl [] xp.2.1 xp.2.2.1 xp.2.2.2 α xa xb xc xd xe xf xg xh else aj else aj else kr xi (bJ (1+xn.1)) xk xl [] xo.2.1 xo.2.2.1 xo.2.2.2 α xa xb xc xd xe xf xg xh else aj else kr xi (bJ (1+xn.1)) xk xl [] xn.2.1 xn.2.2.1 xn.2.2.2 α xa xb xc xd xe xf xg xh else aj else kr xi xj xk xl [] w y z α xa xb xc xd xe xf xg xh
abbrev h2{R:Type}(kr:iK R)(w:aR)(y z:aw)(α xa xb xc xd xe xf xg xh:aR)(xk:aq)(xl:aw):aC R:=bif nE.c w y z 9 then Lib.lt (nE.v w y z 9) λxn=>bif decide ((xe.length:aw)>0)then bif HZ.c xn.2.1 xn.2.2.1 xn.2.2.2 4 then Lib.lt (HZ.v xn.2.1 xn.2.2.1 xn.2.2.2 4) λxo=>bif !xo.1 then bif nE.c xo.2.1 xo.2.2.1 xo.2.2.2 (xe.length:aw)then Lib.lt (nE.v xo.2.1 xo.2.2.1 xo.2.2.2 (xe.length:aw)) λxp=>bif decide (0<=xp.1)&&decide (xp.1<(xe.length:aw))then kr 6 (bF (ar xe xp.1.toNat 0)) xk xl [] xp.2.1 xp.2.2.1 xp.2.2.2 α xa xb xc xd xe xf xg xh else aj else aj else kr 6 (bJ (1+xn.1)) xk xl [] xo.2.1 xo.2.2.1 xo.2.2.2 α xa xb xc xd xe xf xg xh else aj else kr 6 (bJ (1+xn.1)) xk xl [] xn.2.1 xn.2.2.1 xn.2.2.2 α xa xb xc xd xe xf xg xh else aj
abbrev h3{R:Type}(kr:iK R)(w:aR)(y z:aw)(α xa xb xc xd xe xf xg xh:aR)(xi xl:aw):aC R:=bif nE.c w y z 9 then Lib.lt (nE.v w y z 9) λxn=>bif u_.c xn.2.1 xn.2.2.1 xn.2.2.2 then Lib.lt (u_.v xn.2.1 xn.2.2.1 xn.2.2.2) λxo=>kr xi (bJ (1+xn.1)) xo.1 xl [] xo.2.1 xo.2.2.1 xo.2.2.2 α xa xb xc xd xe xf xg xh else aj else aj
def b(N:aF)(kr:iK R)(a:aR)(d e f:aw)(h i j l:aR)(m:aw)(o p:aR)(q:aw)(r s t:aR):aC R:=bif Af.c a d e (aD (aD (aD (aD (aD (aD (aD (aD (aD (aD (aD (aD (aD (aD (aP [Ck.i ao] 14) 0 [.i .i64 1]) 1 [.i .i64 1]) 2 [.i .i64 1]) 3 [.i .i64 1]) 4 [.i .i64 2]) 5 [.i .i64 2]) 6 [.i .i64 2]) 7 [.i .i64 3]) 8 [.i .i64 3]) 9 [.i .i64 3]) 10 [.i .i64 4]) 11 [.i .i64 5]) 12 [.i .i64 6]) 13 [.i .i64 6])then Lib.lt (Af.v a d e (aD (aD (aD (aD (aD (aD (aD (aD (aD (aD (aD (aD (aD (aD (aP [Ck.i ao] 14) 0 [.i .i64 1]) 1 [.i .i64 1]) 2 [.i .i64 1]) 3 [.i .i64 1]) 4 [.i .i64 2]) 5 [.i .i64 2]) 6 [.i .i64 2]) 7 [.i .i64 3]) 8 [.i .i64 3]) 9 [.i .i64 3]) 10 [.i .i64 4]) 11 [.i .i64 5]) 12 [.i .i64 6]) 13 [.i .i64 6])) λu=>l4 N (λ_ _ _ _ w y z α xa xb xc xd xe xf xg xh _ _ _ _ _ _ _ xi xj xk xl xm=>bif decide ((xm.length:aw)=0)then bif decide (xi=2)then bif decide ((xe.length:aw)≥6)then h2 kr w y z α xa xb xc xd xe xf xg xh xk xl else bif nE.c w y z 9 then Lib.lt (nE.v w y z 9) λxn=>bif u_.c xn.2.1 xn.2.2.1 xn.2.2.2 then Lib.lt (u_.v xn.2.1 xn.2.2.1 xn.2.2.2) λxo=>kr 1 (bJ (1+xn.1)) xo.1 xl [] xo.2.1 xo.2.2.1 xo.2.2.2 α xa xb xc xd xe xf xg xh else aj else aj else bif decide (xi=3)then bif decide ((xe.length:aw)≥6)then h2 kr w y z α xa xb xc xd xe xf xg xh xk xl else bif nE.c w y z 9 then Lib.lt (nE.v w y z 9) λxn=>bif u_.c xn.2.1 xn.2.2.1 xn.2.2.2 then Lib.lt (u_.v xn.2.1 xn.2.2.1 xn.2.2.2) λxo=>kr 1 (bJ (1+xn.1)) xo.1 xl [] xo.2.1 xo.2.2.1 xo.2.2.2 α xa xb xc xd xe xf xg xh else aj else aj else bif decide ((xe.length:aw)≥6)then bif decide (xi=1)then h2 kr w y z α xa xb xc xd xe xf xg xh xk xl else bif decide (xi=1)then h3 kr w y z α xa xb xc xd xe xf xg xh xi xl else bif decide (xi=2)then h0 kr w y z α xa xb xc xd xe xf xg xh xi xk xl xm else bif decide (xi=3)then h0 kr w y z α xa xb xc xd xe xf xg xh xi xk xl xm else bif decide (xi=4)then h0 kr w y z α xa xb xc xd xe xf xg xh xi xk xl xm else h1 kr w y z α xa xb xc xd xe xf xg xh xi xj xk xl else bif decide (xi=1)then h3 kr w y z α xa xb xc xd xe xf xg xh xi xl else bif decide (xi=2)then h0 kr w y z α xa xb xc xd xe xf xg xh xi xk xl xm else bif decide (xi=3)then h0 kr w y z α xa xb xc xd xe xf xg xh xi xk xl xm else bif decide (xi=4)then h0 kr w y z α xa xb xc xd xe xf xg xh xi xk xl xm else h1 kr w y z α xa xb xc xd xe xf xg xh xi xj xk xl else bif decide ((xe.length:aw)≥6)then bif decide (xi=1)then h2 kr w y z α xa xb xc xd xe xf xg xh xk xl else bif decide (xi=1)then h3 kr w y z α xa xb xc xd xe xf xg xh xi xl else bif decide (xi=2)then h0 kr w y z α xa xb xc xd xe xf xg xh xi xk xl xm else bif decide (xi=3)then h0 kr w y z α xa xb xc xd xe xf xg xh xi xk xl xm else bif decide (xi=4)then h0 kr w y z α xa xb xc xd xe xf xg xh xi xk xl xm else h1 kr w y z α xa xb xc xd xe xf xg xh xi xj xk xl else bif decide (xi=1)then h3 kr w y z α xa xb xc xd xe xf xg xh xi xl else bif decide (xi=2)then h0 kr w y z α xa xb xc xd xe xf xg xh xi xk xl xm else bif decide (xi=3)then h0 kr w y z α xa xb xc xd xe xf xg xh xi xk xl xm else bif decide (xi=4)then h0 kr w y z α xa xb xc xd xe xf xg xh xi xk xl xm else h1 kr w y z α xa xb xc xd xe xf xg xh xi xj xk xl) N f m q 0 u.2.1 u.2.2.1 u.2.2.2.1 h i j l o p r s t f m q 0 0 ⟨#[]⟩ 0 u.1 0 ⟨#[]⟩ 0 (aP [Ck.i ao] 0)else aj
def vo:=b Lib.cU λr0 r1 r2 r3 r4 r5 r6 r7 r8 r9 JN Aw UW r13 r14 QJ r16=>ah (r0,r1,r2,r3,r4,r5,r6,r7,r8,r9,JN,Aw,UW,r13,r14,QJ,r16)
def c:=λa d e f h i j l m o p q r s t=>(vo a d e f h i j l m o p q r s t).isSome
def v:=λa d e f h i j l m o p q r s t=>(vo a d e f h i j l m o p q r s t).getD (0,0,⟨#[]⟩,0,[],[],0,0,[],[],[],[],[],[],[],[],[])
theorem out{x}:∀a d e f h i j l m o p q r s t,vo a d e f h i j l m o p q r s t=ah x->c a d e f h i j l m o p q r s t=ai/\v a d e f h i j l m o p q r s t=x:=λ_ _ _ _ _ _ _ _ _ _ _ _ _ _ _=>Lib.dg
end KF

namespace n_
def r3(N:aF)(g:ry R)(g1:o8 R)(k0:ry R)(k1:o8 R)(a:aw)(d:aR)(e f h:aw):aC R:=bif decide (a<(d.length:aw))then bif decide (0<=a)&&decide (a<(d.length:aw))then bif cw ((aP [Ck.i ao] 0).length+(jz (ar d a.toNat 0)).length) 8 then g1 (bJ (a+1)) d e f h ([]++aD (aP [Ck.l 3] 1) 0 [CV.l 3 (aP [Ck.i ao] 0++jz (ar d a.toNat 0))])else aj else aj else k0 a d e f h
def zQ(N:aF)(g:ry R)(g1:o8 R)(k0:ry R)(k1:o8 R)(a:aw)(d:aR)(e f h:aw)(i:aR):aC R:=bif decide (a<(d.length:aw))then bif decide (0<=a)&&decide (a<(d.length:aw))then bif cw ((aP [Ck.i ao] 0).length+(jz (ar d a.toNat 0)).length) 8 then bif cw (i.length+(aD (aP [Ck.l 3] 1) 0 [CV.l 3 (aP [Ck.i ao] 0++jz (ar d a.toNat 0))]).length) 24 then g1 (bJ (a+1)) d e f h (i++aD (aP [Ck.l 3] 1) 0 [CV.l 3 (aP [Ck.i ao] 0++jz (ar d a.toNat 0))])else aj else aj else aj else k1 a d e f h i
def sO(N:aF)(k0:ry R)(k1:o8 R):aF->o8 R
 |0=>λ_ _ _ _ _ _=>aj
 |n+1=>zQ N (λx0 x1 x2 x3 x4=>aj) (sO N k0 k1 n) k0 k1
def l3(N:aF)(k0:ry R)(k1:o8 R):aF->ry R
 |0=>λ_ _ _ _ _=>aj
 |n+1=>r3 N (l3 N k0 k1 n) (sO N k0 k1 n) k0 k1
def b(N:aF)(kr:s9 R)(a:aR)(d:aw):aC R:=l3 N (λ_ _ _ _ e=>kr [] e) (λ_ _ _ _ e f=>kr f e) N 0 a d 0 d
def vo:=b Lib.cU λr0 r1=>ah (r0,r1)
def c:=λa d=>(vo a d).isSome
def v:=λa d=>(vo a d).getD ([],0)
theorem out{x}:∀a d,vo a d=ah x->c a d=ai/\v a d=x:=λ_ _=>Lib.dg
end n_

namespace f_
def b(kr:s_ R)(a d e:aR)(f:aw):aC R:=bif cw ((aP [.s] 0).length+a.length) 16 then bif cw ((aP [.s] 0).length+d.length) 16 then bif n_.c e f then kr (aP [.s] 0++a) (aP [.s] 0++d) (n_.v e f).1 (n_.v e f).2 else aj else aj else aj
def vo:=b λr0 r1 r2 r3=>ah (r0,r1,r2,r3)
def c:=λa d e f=>(vo a d e f).isSome
def v:=λa d e f=>(vo a d e f).getD ([],[],[],0)
theorem out{x}:∀a d e f,vo a d e f=ah x->c a d e f=ai/\v a d e f=x:=λ_ _ _ _=>Lib.dg
end f_

namespace fP
def b(kr:ed R)(a:aw)(d e f h:aR)(i:aw)(j l:aR)(m:aw):aC R:=bif cw ((aP [Ck.s,Ck.i ao,Ck.i ao,Ck.s] 0).length+d.length) 48 then bif f_.c e f h i then bif cw ((aP [Ck.s,Ck.s,Ck.i ao,Ck.i ao,Ck.i ao] 0).length+j.length) 56 then bif cw ((aP [Ck.i ao,Ck.s,Ck.i ao,Ck.i ao,Ck.i ao,Ck.s,Ck.i ao] 0).length+l.length) 72 then kr a (aP [Ck.s,Ck.i ao,Ck.i ao,Ck.s] 0++d) (f_.v e f h i).1 (f_.v e f h i).2.1 (f_.v e f h i).2.2.1 (f_.v e f h i).2.2.2 (aP [Ck.s,Ck.s,Ck.i ao,Ck.i ao,Ck.i ao] 0++j) (aP [Ck.i ao,Ck.s,Ck.i ao,Ck.i ao,Ck.i ao,Ck.s,Ck.i ao] 0++l) m else aj else aj else aj else aj
def vo:=b λr0 r1 r2 r3 r4 r5 r6 r7 r8=>ah (r0,r1,r2,r3,r4,r5,r6,r7,r8)
def c:=λa d e f h i j l m=>(vo a d e f h i j l m).isSome
def v:=λa d e f h i j l m=>(vo a d e f h i j l m).getD (0,[],[],[],[],0,[],[],0)
theorem out{x}:∀a d e f h i j l m,vo a d e f h i j l m=ah x->c a d e f h i j l m=ai/\v a d e f h i j l m=x:=λ_ _ _ _ _ _ _ _ _=>Lib.dg
end fP

namespace km
def b(kr:aX->aC R)(a d e:aw):aC R:=bif decide (a≥d)then kr (decide (a<=e))else kr ak
def v(a0 a1 a2:aw):aX:=bif decide (a0≥a1)then decide (a0<=a2)else ak
theorem eG(kr:aX->aC R)(a0 a1 a2:aw):b kr a0 a1 a2=kr (v a0 a1 a2):=by first|rfl|(unfold b v;simp only[cL];(repeat' split)<;>rfl)
end km

namespace tf
def b(kr:aX->aC R)(a:aq):aC R:=kr (km.v (a.size:aw) 1 30)
def v(a0:aq):aX:=(km.v (a0.size:aw) 1 30)
theorem eG(kr:aX->aC R)(a0:aq):b kr a0=kr (v a0):=by first|rfl|(unfold b v;simp only[cL];(repeat' split)<;>rfl)
end tf

namespace ni
def b(kr:aX->aC R)(a:aq)(d e:aw)(f:aq):aC R:=bif tf.v a then bif km.v d 0 1000000000 then bif km.v e 1 999999 then kr (decide ((f.size:aw)<=400))else kr ak else kr ak else kr ak
def v(a0:aq)(a1 a2:aw)(a3:aq):aX:=bif tf.v a0 then bif km.v a1 0 1000000000 then bif km.v a2 1 999999 then decide ((a3.size:aw)<=400)else ak else ak else ak
theorem eG(kr:aX->aC R)(a0:aq)(a1 a2:aw)(a3:aq):b kr a0 a1 a2 a3=kr (v a0 a1 a2 a3):=by first|rfl|(unfold b v;simp only[cL];(repeat' split)<;>rfl)
theorem Ef{k:aq}{s l:aw}{b:aq}(h:v k s l b=ai):(1<=k.size/\k.size<=30)/\(0<=s/\s<=1000000000)/\(1<=l/\l<=999999)/\b.size<=400:=by unfold v at h;cases h1:tf.v k<;>rw[h1]at h<;>simp only[au,ax,dx]at h;cases h2:km.v s 0 1000000000<;>rw[h2]at h<;>simp only[au,ax,dx]at h;cases h3:km.v l 1 999999<;>rw[h3]at h<;>simp only[au,ax,dx]at h;simp[tf.v,km.v]at h1 h2 h3;have:=cq h;omega
end ni

namespace fj
def r2(N:aF)(g k0 k1:Kq R)(a:aR)(d:aq)(e:aX)(f:aw):aC R:=bif decide (f<(a.length:aw))then bif decide (0<=f)&&decide (f<(a.length:aw))then bif bZ (bw (ar a f.toNat 0)).toList (aA d)then k0 a d ai f else g a d e (bJ (f+1))else aj else k1 a d e f
def l2(N:aF)(k0 k1:Kq R):aF->Kq R
 |0=>λ_ _ _ _=>aj
 |n+1=>r2 N (l2 N k0 k1 n) k0 k1
def b(N:aF)(kr:aX->aC R)(a:aR)(d:aq):aC R:=l2 N (λ_ _ e _=>kr e) (λ_ _ _ _=>kr ak) N a d ak 0
def vo:=b Lib.cU λr0=>ah r0
def c:=λa d=>(vo a d).isSome
def v:=λa d=>(vo a d).getD ak
theorem out{x}:∀a d,vo a d=ah x->c a d=ai/\v a d=x:=λ_ _=>Lib.dg
end fj

namespace th
def b(kr:aX->aC R)(a d e:aR)(f:aw)(h:aq):aC R:=bif fj.c a h then bif fj.v a h then kr ai else bif fj.c d h then kr (fj.v d h)else aj else aj
def vo:=b λr0=>ah r0
def c:=λa d e f h=>(vo a d e f h).isSome
def v:=λa d e f h=>(vo a d e f h).getD ak
theorem out{x}:∀a d e f h,vo a d e f h=ah x->c a d e f h=ai/\v a d e f h=x:=λ_ _ _ _ _=>Lib.dg
end th

namespace fF
def r9(N:aF)(g k0 k1:FL R)(a:aX)(d e:aw)(f:aR)(h:aw):aC R:=bif decide (0<=d)&&decide (d<(f.length:aw))then bif decide (e<((jz (ar f d.toNat 0)).length:aw))then bif decide (0<=d)&&decide (d<(f.length:aw))then bif decide (0<=e)&&decide (e<((jz (ar f d.toNat 0)).length:aw))then bif !km.v (bF (ar (jz (ar f d.toNat 0)) e.toNat 0)) 0 15 then k0 ak d e f h else g a d (bJ (e+1)) f h else aj else aj else k1 a d e f h else aj
def l9(N:aF)(k0 k1:FL R):aF->FL R
 |0=>λ_ _ _ _ _=>aj
 |n+1=>r9 N (l9 N k0 k1 n) k0 k1
def r4(N:aF)(g k0 k1:Ko R)(a:aX)(d:aw)(e:aR)(f:aw):aC R:=bif decide (d<(e.length:aw))then bif decide (0<=d)&&decide (d<(e.length:aw))then bif((jz (ar e d.toNat 0)).length:aw) !=16 then k0 ak d e f else l9 N (λh i _ j l=>k0 h i j l) (λh i _ j l=>g h (bJ (i+1)) j l) N a d 0 e f else aj else k1 a d e f
def l4(N:aF)(k0 k1:Ko R):aF->Ko R
 |0=>λ_ _ _ _=>aj
 |n+1=>r4 N (l4 N k0 k1 n) k0 k1
def b(N:aF)(kr:aX->aC R)(a:aR)(d:aw):aC R:=bif(a.length:aw) !=3 then kr ak else bif !km.v d 0 63 then kr ak else l4 N (λe _ _ _=>kr e) (λ_ _ _ _=>kr ai) N ak 0 a d
def vo:=b Lib.cU λr0=>ah r0
def c:=λa d=>(vo a d).isSome
def v:=λa d=>(vo a d).getD ak
theorem out{x}:∀a d,vo a d=ah x->c a d=ai/\v a d=x:=λ_ _=>Lib.dg
end fF

namespace jC
def r3(N:aF)(g k0 k1:yO R)(a:aX)(d:aw)(e f h:aR)(i:aw)(j:aR):aC R:=bif decide (d<(j.length:aw))then bif decide (0<=d)&&decide (d<(j.length:aw))then bif !tf.v (bw (ar j d.toNat 0))then k0 ak d e f h i j else bif g8 0 d (j.length:aw)then bif decide (0<=d)&&decide (d<(j.length:aw))then bif fj.c (eA j (aW 0) d.toNat) (bw (ar j d.toNat 0))then bif fj.v (eA j (aW 0) d.toNat) (bw (ar j d.toNat 0))then k0 ak d e f h i j else g a (bJ (d+1)) e f h i j else aj else aj else aj else aj else k1 a d e f h i j
def l3(N:aF)(k0 k1:yO R):aF->yO R
 |0=>λ_ _ _ _ _ _ _=>aj
 |n+1=>r3 N (l3 N k0 k1 n) k0 k1
def b(N:aF)(kr:aX->aC R)(a d e:aR)(f:aw):aC R:=bif cw ((aP [.s] 0).length+a.length) 16 then bif cw ((aP [.s] 0++a).length+d.length) 16 then l3 N (λh _ _ _ _ _ _=>kr h) (λ_ _ h i j l _=>bif decide ((h.length:aw)<=2)then bif decide ((i.length:aw)<=4)then bif fF.c j l then kr (fF.v j l)else aj else kr ak else kr ak) N ak 0 a d e f (aP [.s] 0++a++d)else aj else aj
def vo:=b Lib.cU λr0=>ah r0
def c:=λa d e f=>(vo a d e f).isSome
def v:=λa d e f=>(vo a d e f).getD ak
theorem out{x}:∀a d e f,vo a d e f=ah x->c a d e f=ai/\v a d e f=x:=λ_ _ _ _=>Lib.dg
end jC

namespace nU
def r2(N:aF)(g k0 k1:fH R)(a:aX)(d e:aw)(f h i j:aR)(l:aw)(m o:aR)(p:aw):aC R:=bif decide (d<(f.length:aw))then bif decide (0<=d)&&decide (d<(f.length:aw))then bif !ni.v (bw (ar f d.toNat 0)) (bF (ar f d.toNat 1)) (bF (ar f d.toNat (1+1))) (bw (ar f d.toNat (1+1+1)))then k0 ak d e f h i j l m o p else bif decide (d>0)then bif decide (0<=bJ (d-1))&&decide (bJ (d-1)<(f.length:aw))then bif decide (0<=d)&&decide (d<(f.length:aw))then bif !Op.bytesLess (bw (ar f (bJ (d-1)).toNat 0)).toList (bw (ar f d.toNat 0)).toList then k0 ak d e f h i j l m o p else bif decide (0<=d)&&decide (d<(f.length:aw))then bif th.c h i j l (bw (ar f d.toNat 0))then bif !th.v h i j l (bw (ar f d.toNat 0))then k0 ak d e f h i j l m o p else g a (bJ (d+1)) e f h i j l m o p else aj else aj else aj else aj else bif decide (0<=d)&&decide (d<(f.length:aw))then bif th.c h i j l (bw (ar f d.toNat 0))then bif !th.v h i j l (bw (ar f d.toNat 0))then k0 ak d e f h i j l m o p else g a (bJ (d+1)) e f h i j l m o p else aj else aj else aj else k1 a d e f h i j l m o p
def l2(N:aF)(k0 k1:fH R):aF->fH R
 |0=>λ_ _ _ _ _ _ _ _ _ _ _=>aj
 |n+1=>r2 N (l2 N k0 k1 n) k0 k1
def b(N:aF)(kr:aX->aC R)(a:aw)(d e f h:aR)(i:aw)(j l:aR)(m:aw):aC R:=l2 N (λo _ _ _ _ _ _ _ _ _ _=>kr o) (λ_ _ _ o p q r s _ _ _=>bif jC.c p q r s then bif jC.v p q r s then kr (decide ((o.length:aw)=bJ ((p.length:aw)+(q.length:aw))))else kr ak else aj) N ak 0 a d e f h i j l m
def vo:=b Lib.cU λr0=>ah r0
def c:=λa d e f h i j l m=>(vo a d e f h i j l m).isSome
def v:=λa d e f h i j l m=>(vo a d e f h i j l m).getD ak
theorem out{x}:∀a d e f h i j l m,vo a d e f h i j l m=ah x->c a d e f h i j l m=ai/\v a d e f h i j l m=x:=λ_ _ _ _ _ _ _ _ _=>Lib.dg
end nU

namespace np
def r5(N:aF)(g k0 k1:lH R)(a:aw)(d:aX)(e f:aw)(h i j l:aR)(m:aw)(o p:aR)(q:aw)(r s:aq)(t u w:aw):aC R:=bif decide (e<a)then bif decide (0<=e)&&decide (e<(o.length:aw))then bif bZ (bw (ar o e.toNat 0)).toList (aA r)then bif decide (0<=e)&&decide (e<(o.length:aw))then bif decide (bF (ar o e.toNat 2)=1)then bif decide (t=1)then k0 a ak e f h i j l m o p q r s t u w else g a d (bJ (e+1)) f h i j l m o p q r s t u w else g a d (bJ (e+1)) f h i j l m o p q r s t u w else aj else g a d (bJ (e+1)) f h i j l m o p q r s t u w else aj else k1 a d e f h i j l m o p q r s t u w
def l5(N:aF)(k0 k1:lH R):aF->lH R
 |0=>λ_ _ _ _ _ _ _ _ _ _ _ _ _ _ _ _ _=>aj
 |n+1=>r5 N (l5 N k0 k1 n) k0 k1
def b(N:aF)(kr:aX->aC R)(a:aw)(d e f h:aR)(i:aw)(j l:aR)(m o:aw):aC R:=bif decide (0<=o)&&decide (o<(j.length:aw))then bif !tf.v (bw (ar j o.toNat 0))then kr ak else bif decide (((bw (ar j o.toNat 1)).size:aw)>400)then kr ak else bif !km.v (bF (ar j o.toNat (1+1))) 1 3 then kr ak else bif !km.v (bF (ar j o.toNat (1+1+1))) 0 999999 then kr ak else bif !km.v (bF (ar j o.toNat (1+1+1+1))) 0 a then kr ak else l5 N (λ_ p _ _ _ _ _ _ _ _ _ _ _ _ _ _ _=>kr p) (λ_ _ _ _ _ _ _ _ _ _ _ _ _ _ _ _ _=>kr ai) N o ak 0 a d e f h i j l m (bw (ar j o.toNat 0)) (bw (ar j o.toNat 1)) (bF (ar j o.toNat (1+1))) (bF (ar j o.toNat (1+1+1))) (bF (ar j o.toNat (1+1+1+1)))else aj
def vo:=b Lib.cU λr0=>ah r0
def c:=λa d e f h i j l m o=>(vo a d e f h i j l m o).isSome
def v:=λa d e f h i j l m o=>(vo a d e f h i j l m o).getD ak
theorem out{x}:∀a d e f h i j l m o,vo a d e f h i j l m o=ah x->c a d e f h i j l m o=ai/\v a d e f h i j l m o=x:=λ_ _ _ _ _ _ _ _ _ _=>Lib.dg
end np

namespace pj
def r9(N:aF)(g k0 k1:fH R)(a:aX)(d e:aw)(f h i j:aR)(l:aw)(m o:aR)(p:aw):aC R:=bif decide (d<(o.length:aw))then bif decide (0<=d)&&decide (d<(o.length:aw))then bif !km.v (bF (ar o d.toNat 0)) 1 9 then k0 ak d e f h i j l m o p else bif decide (d>0)then bif decide (0<=bJ (d-1))&&decide (bJ (d-1)<(o.length:aw))then bif decide (bF (ar o (bJ (d-1)).toNat 0)≥bF (ar o d.toNat 0))then k0 ak d e f h i j l m o p else bif !tf.v (bw (ar o d.toNat 1))then k0 ak d e f h i j l m o p else bif !km.v (bF (ar o d.toNat (1+1+1+1))) 1 3 then k0 ak d e f h i j l m o p else bif !km.v (bF (ar o d.toNat (1+1))) 0 (m.length:aw)then k0 ak d e f h i j l m o p else bif decide (((bw (ar o d.toNat (1+1+1+1+1))).size:aw)>400)then k0 ak d e f h i j l m o p else bif !km.v (bF (ar o d.toNat (1+1+1))) 0 e then k0 ak d e f h i j l m o p else bif decide (bF (ar o d.toNat (1+1+1+1+1+1))<0)then k0 ak d e f h i j l m o p else g a (bJ (d+1)) e f h i j l m o p else aj else bif !tf.v (bw (ar o d.toNat 1))then k0 ak d e f h i j l m o p else bif !km.v (bF (ar o d.toNat (1+1+1+1))) 1 3 then k0 ak d e f h i j l m o p else bif !km.v (bF (ar o d.toNat (1+1))) 0 (m.length:aw)then k0 ak d e f h i j l m o p else bif decide (((bw (ar o d.toNat (1+1+1+1+1))).size:aw)>400)then k0 ak d e f h i j l m o p else bif !km.v (bF (ar o d.toNat (1+1+1))) 0 e then k0 ak d e f h i j l m o p else bif decide (bF (ar o d.toNat (1+1+1+1+1+1))<0)then k0 ak d e f h i j l m o p else g a (bJ (d+1)) e f h i j l m o p else aj else k1 a d e f h i j l m o p
def l9(N:aF)(k0 k1:fH R):aF->fH R
 |0=>λ_ _ _ _ _ _ _ _ _ _ _=>aj
 |n+1=>r9 N (l9 N k0 k1 n) k0 k1
def r4(N:aF)(g k0 k1:fH R)(a:aX)(d e:aw)(f h i j:aR)(l:aw)(m o:aR)(p:aw):aC R:=bif decide (d<(m.length:aw))then bif np.c e f h i j l m o p d then bif !np.v e f h i j l m o p d then k0 ak d e f h i j l m o p else g a (bJ (d+1)) e f h i j l m o p else aj else k1 a d e f h i j l m o p
def l4(N:aF)(k0 k1:fH R):aF->fH R
 |0=>λ_ _ _ _ _ _ _ _ _ _ _=>aj
 |n+1=>r4 N (l4 N k0 k1 n) k0 k1
def b(N:aF)(kr:aX->aC R)(a:aw)(d e f h:aR)(i:aw)(j l:aR)(m:aw):aC R:=bif !km.v a 1 1000000000 then kr ak else bif nU.c a d e f h i j l m then bif !nU.v a d e f h i j l m then kr ak else bif decide ((j.length:aw)>20)then kr ak else bif decide ((l.length:aw)>6)then kr ak else bif !km.v m 0 1000000000 then kr ak else l4 N (λo _ _ _ _ _ _ _ _ _ _=>kr o) (λo _ p q r s t u w y z=>l9 N (λα _ _ _ _ _ _ _ _ _ _=>kr α) (λ_ _ _ _ _ _ _ _ _ _ _=>kr ai) N o 0 p q r s t u w y z) N ak 0 a d e f h i j l m else aj
def vo:=b Lib.cU λr0=>ah r0
def c:=λa d e f h i j l m=>(vo a d e f h i j l m).isSome
def v:=λa d e f h i j l m=>(vo a d e f h i j l m).getD ak
theorem out{x}:∀a d e f h i j l m,vo a d e f h i j l m=ah x->c a d e f h i j l m=ai/\v a d e f h i j l m=x:=λ_ _ _ _ _ _ _ _ _=>Lib.dg
end pj

namespace wW
def r2(N:aF)(g k0 k1:mq R)(a:aq)(d:aX)(e f:aw)(h i j l:aR)(m:aw)(o p:aR)(q:aw)(r:aq)(s t:aw)(u:aq):aC R:=bif decide (e<(h.length:aw))then bif decide (0<=e)&&decide (e<(h.length:aw))then bif bZ (bw (ar h e.toNat 0)).toList (aA a)then bif decide (0<=e)&&decide (e<(h.length:aw))then k0 a ai e f h i j l m o p q (bw (ar h e.toNat 0)) (bF (ar h e.toNat 1)) (bF (ar h e.toNat (1+1))) (bw (ar h e.toNat (1+1+1)))else aj else g a d (bJ (e+1)) f h i j l m o p q r s t u else aj else k1 a d e f h i j l m o p q r s t u
def l2(N:aF)(k0 k1:mq R):aF->mq R
 |0=>λ_ _ _ _ _ _ _ _ _ _ _ _ _ _ _ _=>aj
 |n+1=>r2 N (l2 N k0 k1 n) k0 k1
def b(N:aF)(kr:wK R)(a:aw)(d e f h:aR)(i:aw)(j l:aR)(m:aw)(o:aq):aC R:=l2 N (λ_ p _ _ _ _ _ _ _ _ _ _ q r s t=>kr q r s t p) (λ_ _ _ _ _ _ _ _ _ _ _ _ _ _ _ _=>kr ⟨#[]⟩ 0 0 ⟨#[]⟩ ak) N o ak 0 a d e f h i j l m ⟨#[]⟩ 0 0 ⟨#[]⟩
def vo:=b Lib.cU λr0 r1 r2 r3 r4=>ah (r0,r1,r2,r3,r4)
def c:=λa d e f h i j l m o=>(vo a d e f h i j l m o).isSome
def v:=λa d e f h i j l m o=>(vo a d e f h i j l m o).getD (⟨#[]⟩,0,0,⟨#[]⟩,ak)
theorem out{x}:∀a d e f h i j l m o,vo a d e f h i j l m o=ah x->c a d e f h i j l m o=ai/\v a d e f h i j l m o=x:=λ_ _ _ _ _ _ _ _ _ _=>Lib.dg
end wW

namespace vT
def b(kr:aX->aC R)(a:aq)(d e:aw)(f:aq)(h:aw):aC R:=bif ni.v a d e f then bif km.v h d 1000000000 then kr (decide (bJ (h-d)<e))else kr ak else kr ak
def v(a0:aq)(a1 a2:aw)(a3:aq)(a4:aw):aX:=bif ni.v a0 a1 a2 a3 then bif km.v a4 a1 1000000000 then decide (bJ (a4-a1)<a2)else ak else ak
theorem eG(kr:aX->aC R)(a0:aq)(a1 a2:aw)(a3:aq)(a4:aw):b kr a0 a1 a2 a3 a4=kr (v a0 a1 a2 a3 a4):=by first|rfl|(unfold b v;simp only[cL];(repeat' split)<;>rfl)
end vT

namespace jV
def r6(N:aF)(g k0:yQ R)(a:aw)(d:aq)(e f:aw):aC R:=bif decide (f<8)then bif decide (cy a 2=1)then g (bE eI (↑(dV (mm (ca 32 (bE eI (cQ a 2))) (ca 32 3558460437))):aw)) d e (bJ (f+1))else g (bE eI (cQ a 2)) d e (bJ (f+1))else k0 a d e f
def l6(N:aF)(k0:yQ R):aF->yQ R
 |0=>λ_ _ _ _=>aj
 |n+1=>r6 N (l6 N k0 n) k0
def r2(N:aF)(g k0:BR R)(a:aw)(d:aq)(e:aw):aC R:=bif decide (e<(d.size:aw))then bif decide (0<=e)&&decide (e<(d.size:aw))then l6 N (λf h i _=>g f h (bJ (i+1))) N (bE eI (↑(dV (mm (ca 32 a) (ca 32 (bE eI (↑(gQ d e.toNat):aw))))):aw)) d e 0 else aj else k0 a d e
def l2(N:aF)(k0:BR R):aF->BR R
 |0=>λ_ _ _=>aj
 |n+1=>r2 N (l2 N k0 n) k0
def b(N:aF)(kr:aw->aC R)(a:aw)(d:aq):aC R:=l2 N (λe _ _=>kr e) N a d 0
def vo:=b Lib.cU λr0=>ah r0
def c:=λa d=>(vo a d).isSome
def v:=λa d=>(vo a d).getD (0)
theorem out{x}:∀a d,vo a d=ah x->c a d=ai/\v a d=x:=λ_ _=>Lib.dg
end jV

namespace vW
def b(kr:aw->aC R)(a:aq):aC R:=bif jV.c 4294967295 a then kr (jV.v 4294967295 a)else aj
def vo:=b λr0=>ah r0
def c:=λa=>(vo a).isSome
def v:=λa=>(vo a).getD (0)
theorem out{x}:∀a,vo a=ah x->c a=ai/\v a=x:=λ_=>Lib.dg
end vW

namespace gm
def b(kr:aw->aC R)(a:aw)(d:aq):aC R:=bif decide (d.size+(bytesOf (aD (aP [Ck.i bh] 1) 0 [CV.i bh (bE bh a)])).size<=4611686018427387904)then bif vW.c (d++bytesOf (aD (aP [Ck.i bh] 1) 0 [CV.i bh (bE bh a)]))then kr (bJ (cy (vW.v (d++bytesOf (aD (aP [Ck.i bh] 1) 0 [CV.i bh (bE bh a)]))) 16))else aj else aj
def vo:=b λr0=>ah r0
def c:=λa d=>(vo a d).isSome
def v:=λa d=>(vo a d).getD (0)
theorem out{x}:∀a d,vo a d=ah x->c a d=ai/\v a d=x:=λ_ _=>Lib.dg
end gm

namespace dv
def r17(N:aF)(g k0:oF R)(a d e f:aw)(h:aR):aC R:=bif decide (0<=a)&&decide (a<(h.length:aw))then bif decide (d<((jz (ar h a.toNat 0)).length:aw))then bif decide (0<=a)&&decide (a<(h.length:aw))then bif decide (0<=a)&&decide (a<(h.length:aw))then bif decide (0<=d)&&decide (d<((jz (ar h a.toNat 0)).length:aw))then bif decide (0<=d)&&decide (d<((jz (ar h a.toNat 0)).length:aw))then g a (bJ (d+1)) e f (eJ h a.toNat 0 [CV.l 3 (eJ (jz (ar h a.toNat 0)) d.toNat 0 [.i .i64 (bJ (cQ (bF (ar (jz (ar h a.toNat 0)) d.toNat 0)) 2))])])else aj else aj else aj else aj else k0 a d e f h else aj
def l17(N:aF)(k0:oF R):aF->oF R
 |0=>λ_ _ _ _ _=>aj
 |n+1=>r17 N (l17 N k0 n) k0
def r14(N:aF)(g k0:iZ R)(a d e:aw)(f:aR):aC R:=bif decide (a<(f.length:aw))then l17 N (λh _ i j l=>g (bJ (h+1)) i j l) N a 0 d e f else k0 a d e f
def l14(N:aF)(k0:iZ R):aF->iZ R
 |0=>λ_ _ _ _=>aj
 |n+1=>r14 N (l14 N k0 n) k0
def r5(N:aF)(g k0:FV R)(a:aq)(d e f:aw)(h:aR):aC R:=bif decide (d<(h.length:aw))then bif gm.c d a then bif decide (0<=d)&&decide (d<(h.length:aw))then bif decide (0<=gm.v d a)&&decide (gm.v d a<((jz (ar h d.toNat 0)).length:aw))then bif decide (bF (ar (jz (ar h d.toNat 0)) (gm.v d a).toNat 0)<15)then bif decide (0<=d)&&decide (d<(h.length:aw))then bif decide (0<=gm.v d a)&&decide (gm.v d a<((jz (ar h d.toNat 0)).length:aw))then bif decide (0<=gm.v d a)&&decide (gm.v d a<((jz (ar h d.toNat 0)).length:aw))then g a (bJ (d+1)) e f (eJ h d.toNat 0 [CV.l 3 (eJ (jz (ar h d.toNat 0)) (gm.v d a).toNat 0 [.i .i64 (bJ (bF (ar (jz (ar h d.toNat 0)) (gm.v d a).toNat 0)+1))])])else aj else aj else aj else g a (bJ (d+1)) e f h else aj else aj else aj else k0 a d e f h
def l5(N:aF)(k0:FV R):aF->FV R
 |0=>λ_ _ _ _ _=>aj
 |n+1=>r5 N (l5 N k0 n) k0
def b(N:aF)(kr:s9 R)(a:aR)(d:aw)(e:aq):aC R:=bif n_.c a d then bif fF.c a d then bif !fF.v a d then kr (n_.v a d).1 (n_.v a d).2 else l5 N (λ_ _ f h i=>bif decide (bJ (h+1)=64)then l14 N (λ_ _ j l=>kr l j) N 0 f 0 i else kr i (bJ (h+1))) N e 0 0 (n_.v a d).2 (n_.v a d).1 else aj else aj
def vo:=b Lib.cU λr0 r1=>ah (r0,r1)
def c:=λa d e=>(vo a d e).isSome
def v:=λa d e=>(vo a d e).getD ([],0)
theorem out{x}:∀a d e,vo a d e=ah x->c a d e=ai/\v a d e=x:=λ_ _ _=>Lib.dg
end dv

namespace ph
def r3(N:aF)(g k0:yS R)(a:aR)(d:aq)(e:aw)(f:aR):aC R:=bif decide (e<(a.length:aw))then bif decide (0<=e)&&decide (e<(a.length:aw))then bif !List.beq (bw (ar a e.toNat 0)).toList (aA d)then bif decide (0<=e)&&decide (e<(a.length:aw))then bif cw (f.length+(aD (aP [.s] 1) 0 [.s (bw (ar a e.toNat 0))]).length) 16 then g a d (bJ (e+1)) (f++aD (aP [.s] 1) 0 [.s (bw (ar a e.toNat 0))])else aj else aj else g a d (bJ (e+1)) f else aj else k0 a d e f
def l3(N:aF)(k0:yS R):aF->yS R
 |0=>λ_ _ _ _=>aj
 |n+1=>r3 N (l3 N k0 n) k0
def b(N:aF)(kr:aR->aC R)(a:aR)(d:aq):aC R:=l3 N (λ_ _ _ e=>kr e) N a d 0 (aP [.s] 0)
def vo:=b Lib.cU λr0=>ah r0
def c:=λa d=>(vo a d).isSome
def v:=λa d=>(vo a d).getD ([])
theorem out{x}:∀a d,vo a d=ah x->c a d=ai/\v a d=x:=λ_ _=>Lib.dg
end ph

namespace mL
def r5(N:aF)(g k0:FW R)(a:aq)(d e:aw)(f:aR)(h:aw):aC R:=bif decide (e<(f.length:aw))then bif decide (0<=e)&&decide (e<(f.length:aw))then bif gm.c e a then bif decide (0<=gm.v e a)&&decide (gm.v e a<((jz (ar f e.toNat 0)).length:aw))then bif decide (bF (ar (jz (ar f e.toNat 0)) (gm.v e a).toNat 0)<d)then g a (bF (ar (jz (ar f e.toNat 0)) (gm.v e a).toNat 0)) (bJ (e+1)) f h else g a d (bJ (e+1)) f h else aj else aj else aj else k0 a d e f h
def l5(N:aF)(k0:FW R):aF->FW R
 |0=>λ_ _ _ _ _=>aj
 |n+1=>r5 N (l5 N k0 n) k0
def b(N:aF)(kr:aw->aC R)(a:aR)(d:aw)(e:aq):aC R:=bif fF.c a d then bif !fF.v a d then kr 0 else l5 N (λ_ f _ _ _=>kr f) N e 15 0 a d else aj
def vo:=b Lib.cU λr0=>ah r0
def c:=λa d e=>(vo a d e).isSome
def v:=λa d e=>(vo a d e).getD (0)
theorem out{x}:∀a d e,vo a d e=ah x->c a d e=ai/\v a d e=x:=λ_ _ _=>Lib.dg
end mL

namespace e6
def b(kr:Mm R)(a d e:aR)(f:aw)(h:aq):aC R:=bif f_.c a d e f then bif jC.c a d e f then bif !jC.v a d e f then kr (f_.v a d e f).1 (f_.v a d e f).2.1 (f_.v a d e f).2.2.1 (f_.v a d e f).2.2.2 ⟨#[]⟩else bif !tf.v h then kr (f_.v a d e f).1 (f_.v a d e f).2.1 (f_.v a d e f).2.2.1 (f_.v a d e f).2.2.2 ⟨#[]⟩else bif dv.c e f h then bif fj.c a h then bif fj.v a h then bif ph.c a h then bif cw ((ph.v a h).length+(aD (aP [.s] 1) 0 [.s h]).length) 16 then kr (ph.v a h++aD (aP [.s] 1) 0 [.s h]) (f_.v a d e f).2.1 (dv.v e f h).1 (dv.v e f h).2 ⟨#[]⟩else aj else aj else bif fj.c d h then bif fj.v d h then bif ph.c d h then bif cw ((ph.v d h).length+(aD (aP [.s] 1) 0 [.s h]).length) 16 then kr (f_.v a d e f).1 (ph.v d h++aD (aP [.s] 1) 0 [.s h]) (dv.v e f h).1 (dv.v e f h).2 ⟨#[]⟩else aj else aj else bif cw ((f_.v a d e f).1.length+(aD (aP [.s] 1) 0 [.s h]).length) 16 then bif decide ((((f_.v a d e f).1++aD (aP [.s] 1) 0 [.s h]).length:aw)<=2)then kr ((f_.v a d e f).1++aD (aP [.s] 1) 0 [.s h]) (f_.v a d e f).2.1 (dv.v e f h).1 (dv.v e f h).2 ⟨#[]⟩else bif decide (0<(((f_.v a d e f).1++aD (aP [.s] 1) 0 [.s h]).length:aw))then bif g8 1 (((f_.v a d e f).1++aD (aP [.s] 1) 0 [.s h]).length:aw) (((f_.v a d e f).1++aD (aP [.s] 1) 0 [.s h]).length:aw)then bif cw ((aP [.s] 0).length+(eA ((f_.v a d e f).1++aD (aP [.s] 1) 0 [.s h]) (aW 1) (((f_.v a d e f).1++aD (aP [.s] 1) 0 [.s h]).length:aw).toNat).length) 16 then bif decide (((f_.v a d e f).2.1.length:aw)<4)then bif cw ((f_.v a d e f).2.1.length+(aD (aP [.s] 1) 0 [.s (bw (ar ((f_.v a d e f).1++aD (aP [.s] 1) 0 [.s h]) (aW 0) 0))]).length) 16 then kr (aP [.s] 0++eA ((f_.v a d e f).1++aD (aP [.s] 1) 0 [.s h]) (aW 1) (((f_.v a d e f).1++aD (aP [.s] 1) 0 [.s h]).length:aw).toNat) ((f_.v a d e f).2.1++aD (aP [.s] 1) 0 [.s (bw (ar ((f_.v a d e f).1++aD (aP [.s] 1) 0 [.s h]) (aW 0) 0))]) (dv.v e f h).1 (dv.v e f h).2 ⟨#[]⟩else aj else bif mL.c (dv.v e f h).1 (dv.v e f h).2 (bw (ar ((f_.v a d e f).1++aD (aP [.s] 1) 0 [.s h]) (aW 0) 0))then bif decide (0<((f_.v a d e f).2.1.length:aw))then bif mL.c (dv.v e f h).1 (dv.v e f h).2 (bw (ar (f_.v a d e f).2.1 (aW 0) 0))then bif decide (mL.v (dv.v e f h).1 (dv.v e f h).2 (bw (ar ((f_.v a d e f).1++aD (aP [.s] 1) 0 [.s h]) (aW 0) 0))>mL.v (dv.v e f h).1 (dv.v e f h).2 (bw (ar (f_.v a d e f).2.1 (aW 0) 0)))then bif decide (0<((f_.v a d e f).2.1.length:aw))then bif g8 1 ((f_.v a d e f).2.1.length:aw) ((f_.v a d e f).2.1.length:aw)then bif cw ((aP [.s] 0).length+(eA (f_.v a d e f).2.1 (aW 1) ((f_.v a d e f).2.1.length:aw).toNat).length) 16 then bif cw ((aP [.s] 0++eA (f_.v a d e f).2.1 (aW 1) ((f_.v a d e f).2.1.length:aw).toNat).length+(aD (aP [.s] 1) 0 [.s (bw (ar ((f_.v a d e f).1++aD (aP [.s] 1) 0 [.s h]) (aW 0) 0))]).length) 16 then kr (aP [.s] 0++eA ((f_.v a d e f).1++aD (aP [.s] 1) 0 [.s h]) (aW 1) (((f_.v a d e f).1++aD (aP [.s] 1) 0 [.s h]).length:aw).toNat) (aP [.s] 0++eA (f_.v a d e f).2.1 (aW 1) ((f_.v a d e f).2.1.length:aw).toNat++aD (aP [.s] 1) 0 [.s (bw (ar ((f_.v a d e f).1++aD (aP [.s] 1) 0 [.s h]) (aW 0) 0))]) (dv.v e f h).1 (dv.v e f h).2 (bw (ar (f_.v a d e f).2.1 (aW 0) 0))else aj else aj else aj else aj else kr (aP [.s] 0++eA ((f_.v a d e f).1++aD (aP [.s] 1) 0 [.s h]) (aW 1) (((f_.v a d e f).1++aD (aP [.s] 1) 0 [.s h]).length:aw).toNat) (f_.v a d e f).2.1 (dv.v e f h).1 (dv.v e f h).2 (bw (ar ((f_.v a d e f).1++aD (aP [.s] 1) 0 [.s h]) (aW 0) 0))else aj else aj else aj else aj else aj else aj else aj else aj else aj else aj else aj else aj
def vo:=b λr0 r1 r2 r3 r4=>ah (r0,r1,r2,r3,r4)
def c:=λa d e f h=>(vo a d e f h).isSome
def v:=λa d e f h=>(vo a d e f h).getD ([],[],[],0,⟨#[]⟩)
theorem out{x}:∀a d e f h,vo a d e f h=ah x->c a d e f h=ai/\v a d e f h=x:=λ_ _ _ _ _=>Lib.dg
end e6

namespace lU
def r9(N:aF)(g k0:kZ R)(a:aR)(d e:aw)(f:aq)(h i j:aw)(l:aq)(m:aw)(o:aR):aC R:=bif decide (d<(a.length:aw))then bif decide (0<=d)&&decide (d<(a.length:aw))then bif decide (bF (ar a d.toNat 0)>e)then bif decide (0<=d)&&decide (d<(a.length:aw))then bif cw (o.length+(aD (aP [Ck.i ao,Ck.s,Ck.i ao,Ck.i ao,Ck.i ao,Ck.s,Ck.i ao] 1) 0 [.i .i64 (bF (ar a d.toNat 0)), .s (bw (ar a d.toNat 1)), .i .i64 (bF (ar a d.toNat (1+1))), .i .i64 (bF (ar a d.toNat (1+1+1))), .i .i64 (bF (ar a d.toNat (1+1+1+1))), .s (bw (ar a d.toNat (1+1+1+1+1))), .i .i64 (bF (ar a d.toNat (1+1+1+1+1+1)))]).length) 72 then g a (bJ (d+1)) e f h i j l m (o++aD (aP [Ck.i ao,Ck.s,Ck.i ao,Ck.i ao,Ck.i ao,Ck.s,Ck.i ao] 1) 0 [.i .i64 (bF (ar a d.toNat 0)), .s (bw (ar a d.toNat 1)), .i .i64 (bF (ar a d.toNat (1+1))), .i .i64 (bF (ar a d.toNat (1+1+1))), .i .i64 (bF (ar a d.toNat (1+1+1+1))), .s (bw (ar a d.toNat (1+1+1+1+1))), .i .i64 (bF (ar a d.toNat (1+1+1+1+1+1)))])else aj else aj else g a (bJ (d+1)) e f h i j l m o else aj else k0 a d e f h i j l m o
def l9(N:aF)(k0:kZ R):aF->kZ R
 |0=>λ_ _ _ _ _ _ _ _ _ _=>aj
 |n+1=>r9 N (l9 N k0 n) k0
def r3(N:aF)(g k0:kZ R)(a:aR)(d e:aw)(f:aq)(h i j:aw)(l:aq)(m:aw)(o:aR):aC R:=bif decide (d<(a.length:aw))then bif decide (0<=d)&&decide (d<(a.length:aw))then bif decide (bF (ar a d.toNat 0)<e)then bif decide (0<=d)&&decide (d<(a.length:aw))then bif cw (o.length+(aD (aP [Ck.i ao,Ck.s,Ck.i ao,Ck.i ao,Ck.i ao,Ck.s,Ck.i ao] 1) 0 [.i .i64 (bF (ar a d.toNat 0)), .s (bw (ar a d.toNat 1)), .i .i64 (bF (ar a d.toNat (1+1))), .i .i64 (bF (ar a d.toNat (1+1+1))), .i .i64 (bF (ar a d.toNat (1+1+1+1))), .s (bw (ar a d.toNat (1+1+1+1+1))), .i .i64 (bF (ar a d.toNat (1+1+1+1+1+1)))]).length) 72 then g a (bJ (d+1)) e f h i j l m (o++aD (aP [Ck.i ao,Ck.s,Ck.i ao,Ck.i ao,Ck.i ao,Ck.s,Ck.i ao] 1) 0 [.i .i64 (bF (ar a d.toNat 0)), .s (bw (ar a d.toNat 1)), .i .i64 (bF (ar a d.toNat (1+1))), .i .i64 (bF (ar a d.toNat (1+1+1))), .i .i64 (bF (ar a d.toNat (1+1+1+1))), .s (bw (ar a d.toNat (1+1+1+1+1))), .i .i64 (bF (ar a d.toNat (1+1+1+1+1+1)))])else aj else aj else g a (bJ (d+1)) e f h i j l m o else aj else k0 a d e f h i j l m o
def l3(N:aF)(k0:kZ R):aF->kZ R
 |0=>λ_ _ _ _ _ _ _ _ _ _=>aj
 |n+1=>r3 N (l3 N k0 n) k0
def b(N:aF)(kr:aR->aC R)(a:aR)(d:aw)(e:aq)(f h i:aw)(j:aq)(l:aw):aC R:=l3 N (λm _ o p q r s t u w=>bif cw (w.length+(aD (aP [Ck.i ao,Ck.s,Ck.i ao,Ck.i ao,Ck.i ao,Ck.s,Ck.i ao] 1) 0 [.i .i64 o, .s p, .i .i64 q, .i .i64 r, .i .i64 s, .s t, .i .i64 u]).length) 72 then l9 N (λ_ _ _ _ _ _ _ _ _ y=>kr y) N m 0 o p q r s t u (w++aD (aP [Ck.i ao,Ck.s,Ck.i ao,Ck.i ao,Ck.i ao,Ck.s,Ck.i ao] 1) 0 [.i .i64 o, .s p, .i .i64 q, .i .i64 r, .i .i64 s, .s t, .i .i64 u])else aj) N a 0 d e f h i j l (aP [Ck.i ao,Ck.s,Ck.i ao,Ck.i ao,Ck.i ao,Ck.s,Ck.i ao] 0)
def vo:=b Lib.cU λr0=>ah r0
def c:=λa d e f h i j l=>(vo a d e f h i j l).isSome
def v:=λa d e f h i j l=>(vo a d e f h i j l).getD ([])
theorem out{x}:∀a d e f h i j l,vo a d e f h i j l=ah x->c a d e f h i j l=ai/\v a d e f h i j l=x:=λ_ _ _ _ _ _ _ _=>Lib.dg
end lU

namespace qo
def r3(N:aF)(g k0:yS R)(a:aR)(d:aq)(e:aw)(f:aR):aC R:=bif decide (e<(a.length:aw))then bif decide (0<=e)&&decide (e<(a.length:aw))then bif !List.beq (bw (ar a e.toNat 0)).toList (aA d)then bif decide (0<=e)&&decide (e<(a.length:aw))then bif cw (f.length+(aD (aP [Ck.s,Ck.i ao,Ck.i ao,Ck.s] 1) 0 [.s (bw (ar a e.toNat 0)), .i .i64 (bF (ar a e.toNat 1)), .i .i64 (bF (ar a e.toNat (1+1))), .s (bw (ar a e.toNat (1+1+1)))]).length) 48 then g a d (bJ (e+1)) (f++aD (aP [Ck.s,Ck.i ao,Ck.i ao,Ck.s] 1) 0 [.s (bw (ar a e.toNat 0)), .i .i64 (bF (ar a e.toNat 1)), .i .i64 (bF (ar a e.toNat (1+1))), .s (bw (ar a e.toNat (1+1+1)))])else aj else aj else g a d (bJ (e+1)) f else aj else k0 a d e f
def l3(N:aF)(k0:yS R):aF->yS R
 |0=>λ_ _ _ _=>aj
 |n+1=>r3 N (l3 N k0 n) k0
def b(N:aF)(kr:aR->aC R)(a:aR)(d:aq):aC R:=l3 N (λ_ _ _ e=>kr e) N a d 0 (aP [Ck.s,Ck.i ao,Ck.i ao,Ck.s] 0)
def vo:=b Lib.cU λr0=>ah r0
def c:=λa d=>(vo a d).isSome
def v:=λa d=>(vo a d).getD ([])
theorem out{x}:∀a d,vo a d=ah x->c a d=ai/\v a d=x:=λ_ _=>Lib.dg
end qo

namespace vg
def b(kr:s_ R)(a d e:aR)(f:aw)(h:aq):aC R:=bif ph.c a h then bif ph.c d h then bif n_.c e f then kr (ph.v a h) (ph.v d h) (n_.v e f).1 (n_.v e f).2 else aj else aj else aj
def vo:=b λr0 r1 r2 r3=>ah (r0,r1,r2,r3)
def c:=λa d e f h=>(vo a d e f h).isSome
def v:=λa d e f h=>(vo a d e f h).getD ([],[],[],0)
theorem out{x}:∀a d e f h,vo a d e f h=ah x->c a d e f h=ai/\v a d e f h=x:=λ_ _ _ _ _=>Lib.dg
end vg

namespace wS
def r22(N:aF)(g k0:gu R)(a:aq)(d:aX)(e f:aw)(h i j l:aR)(m:aw)(o p:aR)(q r s t u w y z:aw)(α:aq)(xa xb xc:aw)(xd:aq)(xe:aw)(xf xg xh xi xj xk:aR):aC R:=bif decide (e<(o.length:aw))then bif decide (0<=e)&&decide (e<(o.length:aw))then bif bZ (bw (ar o e.toNat 0)).toList (aA a)then bif decide (0<=e)&&decide (e<(o.length:aw))then bif decide (bF (ar o e.toNat 2)=1)then bif decide (0<=e)&&decide (e<(o.length:aw))then g a d (bJ (e+1)) f h i j l m o p q r s t u w y z α (bJ (e+1)) xb xc (bw (ar o e.toNat 1)) xe xf xg xh xi xj xk else aj else g a d (bJ (e+1)) f h i j l m o p q r s t u w y z α xa xb xc xd xe xf xg xh xi xj xk else aj else g a d (bJ (e+1)) f h i j l m o p q r s t u w y z α xa xb xc xd xe xf xg xh xi xj xk else aj else k0 a d e f h i j l m o p q r s t u w y z α xa xb xc xd xe xf xg xh xi xj xk
def Yf(N:aF)(k0:gu R):aF->gu R
 |0=>λ_ _ _ _ _ _ _ _ _ _ _ _ _ _ _ _ _ _ _ _ _ _ _ _ _ _ _ _ _ _ _=>aj
 |n+1=>r22 N (Yf N k0 n) k0
def r5(N:aF)(g k0 k1:iO R)(a:aw)(d:aq)(e f h:aw)(i j l m:aR)(o:aw)(p q:aR)(r s t u w y z:aw)(α xa xb xc xd xe:aR):aC R:=bif decide (f<(q.length:aw))then bif decide (0<=f)&&decide (f<(q.length:aw))then bif decide (bF (ar q f.toNat 0)=a)then k0 a d 1 f h i j l m o p q r w y z w y z α xa xb xc xd xe else g a d e (bJ (f+1)) h i j l m o p q r s t u w y z α xa xb xc xd xe else aj else k1 a d e f h i j l m o p q r s t u w y z α xa xb xc xd xe
def l5(N:aF)(k0 k1:iO R):aF->iO R
 |0=>λ_ _ _ _ _ _ _ _ _ _ _ _ _ _ _ _ _ _ _ _ _ _ _ _ _=>aj
 |n+1=>r5 N (l5 N k0 k1 n) k0 k1
def b(N:aF)(kr:wG R)(a:aw)(d e f h:aR)(i:aw)(j l:aR)(m o:aw)(p:aq):aC R:=bif fP.c a d e f h i j l m then Lib.lt (fP.v a d e f h i j l m) λq=>bif pj.c a d e f h i j l m then Lib.lt (pj.v a d e f h i j l m) λr=>bif !r then kr q.1 q.2.1 q.2.2.1 q.2.2.2.1 q.2.2.2.2.1 q.2.2.2.2.2.1 q.2.2.2.2.2.2.1 q.2.2.2.2.2.2.2.1 q.2.2.2.2.2.2.2.2 1 else bif !km.v o 1 9 then kr q.1 q.2.1 q.2.2.1 q.2.2.2.1 q.2.2.2.2.1 q.2.2.2.2.2.1 q.2.2.2.2.2.2.1 q.2.2.2.2.2.2.2.1 q.2.2.2.2.2.2.2.2 1 else bif !tf.v p then kr q.1 q.2.1 q.2.2.1 q.2.2.2.1 q.2.2.2.2.1 q.2.2.2.2.2.1 q.2.2.2.2.2.2.1 q.2.2.2.2.2.2.2.1 q.2.2.2.2.2.2.2.2 1 else bif decide ((l.length:aw)≥6)then kr q.1 q.2.1 q.2.2.1 q.2.2.2.1 q.2.2.2.2.1 q.2.2.2.2.2.1 q.2.2.2.2.2.2.1 q.2.2.2.2.2.2.2.1 q.2.2.2.2.2.2.2.2 1 else l5 N (λ_ _ s _ _ _ _ _ _ _ _ _ _ t u w _ _ _ y z α xa xb xc=>kr t y z α xa u xb xc w s) (λs t _ _ u w y z α xa xb xc xd xe xf xg xh xi xj xk xl xm xn xo xp=>bif wW.c u w y z α xa xb xc xd t then Lib.lt (wW.v u w y z α xa xb xc xd t) λxq=>bif xq.2.2.2.2 then bif vT.v xq.1 xq.2.1 xq.2.2.1 xq.2.2.2.1 u then bif e6.c y z α xa t then Lib.lt (e6.v y z α xa t) λxr=>bif decide (xj<1000000000)then bif lU.c xp s t 0 xq.2.1 2 xq.2.2.2.1 (bJ (u-xq.2.1))then Lib.lt (lU.v xp s t 0 xq.2.1 2 xq.2.2.2.1 (bJ (u-xq.2.1))) λxs=>kr xh xk xr.1 xr.2.1 xr.2.2.1 xr.2.2.2.1 xo xs (bJ (xj+1)) 0 else aj else bif lU.c xp s t 0 xq.2.1 2 xq.2.2.2.1 (bJ (u-xq.2.1))then Lib.lt (lU.v xp s t 0 xq.2.1 2 xq.2.2.2.1 (bJ (u-xq.2.1))) λxs=>kr xh xk xr.1 xr.2.1 xr.2.2.1 xr.2.2.2.1 xo xs xj 0 else aj else aj else Yf N (λxr xs _ _ _ _ _ _ _ xt _ _ _ _ _ xu xv xw xx xy xz ya yb yc yd ye yf yg yh yi yj=>bif decide (xz=0)then bif decide ((xt.length:aw)≥20)then kr xu ye yf yg yh xv yi yj xw 2 else bif cw (yi.length+(aD (aP [Ck.s,Ck.s,Ck.i ao,Ck.i ao,Ck.i ao] 1) 0 [.s xr, .s ⟨#[]⟩, .i .i64 1, .i .i64 0, .i .i64 0]).length) 56 then bif xs then bif qo.c ye xr then Lib.lt (qo.v ye xr) λyk=>bif vg.c yf yg yh xv xr then Lib.lt (vg.v yf yg yh xv xr) λyl=>bif dv.c yl.2.2.1 yl.2.2.2 xr then Lib.lt (dv.v yl.2.2.1 yl.2.2.2 xr) λym=>bif lU.c yj xx xy ((yi++aD (aP [Ck.s,Ck.s,Ck.i ao,Ck.i ao,Ck.i ao] 1) 0 [.s xr, .s ⟨#[]⟩, .i .i64 1, .i .i64 0, .i .i64 0]).length:aw) ya yb yc yd then Lib.lt (lU.v yj xx xy ((yi++aD (aP [Ck.s,Ck.s,Ck.i ao,Ck.i ao,Ck.i ao] 1) 0 [.s xr, .s ⟨#[]⟩, .i .i64 1, .i .i64 0, .i .i64 0]).length:aw) ya yb yc yd) λyn=>kr xu yk yl.1 yl.2.1 ym.1 ym.2 (yi++aD (aP [Ck.s,Ck.s,Ck.i ao,Ck.i ao,Ck.i ao] 1) 0 [.s xr, .s ⟨#[]⟩, .i .i64 1, .i .i64 0, .i .i64 0]) yn xw 0 else aj else aj else aj else aj else bif dv.c yh xv xr then Lib.lt (dv.v yh xv xr) λyk=>bif lU.c yj xx xy ((yi++aD (aP [Ck.s,Ck.s,Ck.i ao,Ck.i ao,Ck.i ao] 1) 0 [.s xr, .s ⟨#[]⟩, .i .i64 1, .i .i64 0, .i .i64 0]).length:aw) ya yb yc yd then Lib.lt (lU.v yj xx xy ((yi++aD (aP [Ck.s,Ck.s,Ck.i ao,Ck.i ao,Ck.i ao] 1) 0 [.s xr, .s ⟨#[]⟩, .i .i64 1, .i .i64 0, .i .i64 0]).length:aw) ya yb yc yd) λyl=>kr xu ye yf yg yk.1 yk.2 (yi++aD (aP [Ck.s,Ck.s,Ck.i ao,Ck.i ao,Ck.i ao] 1) 0 [.s xr, .s ⟨#[]⟩, .i .i64 1, .i .i64 0, .i .i64 0]) yl xw 0 else aj else aj else aj else bif xs then bif qo.c ye xr then Lib.lt (qo.v ye xr) λyk=>bif vg.c yf yg yh xv xr then Lib.lt (vg.v yf yg yh xv xr) λyl=>bif dv.c yl.2.2.1 yl.2.2.2 xr then Lib.lt (dv.v yl.2.2.1 yl.2.2.2 xr) λym=>bif lU.c yj xx xy xz ya yb yc yd then Lib.lt (lU.v yj xx xy xz ya yb yc yd) λyn=>kr xu yk yl.1 yl.2.1 ym.1 ym.2 yi yn xw 0 else aj else aj else aj else aj else bif dv.c yh xv xr then Lib.lt (dv.v yh xv xr) λyk=>bif lU.c yj xx xy xz ya yb yc yd then Lib.lt (lU.v yj xx xy xz ya yb yc yd) λyl=>kr xu ye yf yg yk.1 yk.2 yi yl xw 0 else aj else aj) N t xq.2.2.2.2 0 u w y z α xa xb xc xd xe xf xg xh xi xj s t 0 0 1 ⟨#[]⟩ 0 xk xl xm xn xo xp else Yf N (λxr xs _ _ _ _ _ _ _ xt _ _ _ _ _ xu xv xw xx xy xz ya yb yc yd ye yf yg yh yi yj=>bif decide (xz=0)then bif decide ((xt.length:aw)≥20)then kr xu ye yf yg yh xv yi yj xw 2 else bif cw (yi.length+(aD (aP [Ck.s,Ck.s,Ck.i ao,Ck.i ao,Ck.i ao] 1) 0 [.s xr, .s ⟨#[]⟩, .i .i64 1, .i .i64 0, .i .i64 0]).length) 56 then bif xs then bif qo.c ye xr then Lib.lt (qo.v ye xr) λyk=>bif vg.c yf yg yh xv xr then Lib.lt (vg.v yf yg yh xv xr) λyl=>bif dv.c yl.2.2.1 yl.2.2.2 xr then Lib.lt (dv.v yl.2.2.1 yl.2.2.2 xr) λym=>bif lU.c yj xx xy ((yi++aD (aP [Ck.s,Ck.s,Ck.i ao,Ck.i ao,Ck.i ao] 1) 0 [.s xr, .s ⟨#[]⟩, .i .i64 1, .i .i64 0, .i .i64 0]).length:aw) ya yb yc yd then Lib.lt (lU.v yj xx xy ((yi++aD (aP [Ck.s,Ck.s,Ck.i ao,Ck.i ao,Ck.i ao] 1) 0 [.s xr, .s ⟨#[]⟩, .i .i64 1, .i .i64 0, .i .i64 0]).length:aw) ya yb yc yd) λyn=>kr xu yk yl.1 yl.2.1 ym.1 ym.2 (yi++aD (aP [Ck.s,Ck.s,Ck.i ao,Ck.i ao,Ck.i ao] 1) 0 [.s xr, .s ⟨#[]⟩, .i .i64 1, .i .i64 0, .i .i64 0]) yn xw 0 else aj else aj else aj else aj else bif dv.c yh xv xr then Lib.lt (dv.v yh xv xr) λyk=>bif lU.c yj xx xy ((yi++aD (aP [Ck.s,Ck.s,Ck.i ao,Ck.i ao,Ck.i ao] 1) 0 [.s xr, .s ⟨#[]⟩, .i .i64 1, .i .i64 0, .i .i64 0]).length:aw) ya yb yc yd then Lib.lt (lU.v yj xx xy ((yi++aD (aP [Ck.s,Ck.s,Ck.i ao,Ck.i ao,Ck.i ao] 1) 0 [.s xr, .s ⟨#[]⟩, .i .i64 1, .i .i64 0, .i .i64 0]).length:aw) ya yb yc yd) λyl=>kr xu ye yf yg yk.1 yk.2 (yi++aD (aP [Ck.s,Ck.s,Ck.i ao,Ck.i ao,Ck.i ao] 1) 0 [.s xr, .s ⟨#[]⟩, .i .i64 1, .i .i64 0, .i .i64 0]) yl xw 0 else aj else aj else aj else bif xs then bif qo.c ye xr then Lib.lt (qo.v ye xr) λyk=>bif vg.c yf yg yh xv xr then Lib.lt (vg.v yf yg yh xv xr) λyl=>bif dv.c yl.2.2.1 yl.2.2.2 xr then Lib.lt (dv.v yl.2.2.1 yl.2.2.2 xr) λym=>bif lU.c yj xx xy xz ya yb yc yd then Lib.lt (lU.v yj xx xy xz ya yb yc yd) λyn=>kr xu yk yl.1 yl.2.1 ym.1 ym.2 yi yn xw 0 else aj else aj else aj else aj else bif dv.c yh xv xr then Lib.lt (dv.v yh xv xr) λyk=>bif lU.c yj xx xy xz ya yb yc yd then Lib.lt (lU.v yj xx xy xz ya yb yc yd) λyl=>kr xu ye yf yg yk.1 yk.2 yi yl xw 0 else aj else aj) N t xq.2.2.2.2 0 u w y z α xa xb xc xd xe xf xg xh xi xj s t 0 0 1 ⟨#[]⟩ 0 xk xl xm xn xo xp else aj) N o p 0 0 a d e f h i j l m 0 0 0 q.1 q.2.2.2.2.2.1 q.2.2.2.2.2.2.2.2 q.2.1 q.2.2.1 q.2.2.2.1 q.2.2.2.2.1 q.2.2.2.2.2.2.1 q.2.2.2.2.2.2.2.1 else aj else aj
def vo:=b Lib.cU λr0 r1 r2 r3 r4 r5 r6 r7 r8 r9=>ah (r0,r1,r2,r3,r4,r5,r6,r7,r8,r9)
def c:=λa d e f h i j l m o p=>(vo a d e f h i j l m o p).isSome
def v:=λa d e f h i j l m o p=>(vo a d e f h i j l m o p).getD (0,[],[],[],[],0,[],[],0,0)
theorem out{x}:∀a d e f h i j l m o p,vo a d e f h i j l m o p=ah x->c a d e f h i j l m o p=ai/\v a d e f h i j l m o p=x:=λ_ _ _ _ _ _ _ _ _ _ _=>Lib.dg
end wS

namespace vh
def b(kr:aX->aC R)(a:aw)(d e f h:aR)(i:aw)(j l:aR)(m o:aw):aC R:=bif pj.c a d e f h i j l m then bif pj.v a d e f h i j l m then bif km.v o 0 (bJ ((j.length:aw)-1))then bif decide (0<=o)&&decide (o<(j.length:aw))then kr (decide (bF (ar j o.toNat 2)=1))else aj else kr ak else kr ak else aj
def vo:=b λr0=>ah r0
def c:=λa d e f h i j l m o=>(vo a d e f h i j l m o).isSome
def v:=λa d e f h i j l m o=>(vo a d e f h i j l m o).getD ak
theorem out{x}:∀a d e f h i j l m o,vo a d e f h i j l m o=ah x->c a d e f h i j l m o=ai/\v a d e f h i j l m o=x:=λ_ _ _ _ _ _ _ _ _ _=>Lib.dg
end vh

namespace KC
def b(kr:BS R)(a:aw)(d:aq)(e:aR):aC R:=bif cw ((aP [Ck.i ao,Ck.i ao] 0).length+e.length) 16 then kr a d (aP [Ck.i ao,Ck.i ao] 0++e)else aj
def v(fW:aw)(e8:aq)(dF:aR):aw×aq×aR:=(fW,e8,dF)
def c(fW:aw)(e8:aq)(dF:aR):aX:=decide (dF.length<=4294967296)
theorem eG(kr:BS R)(fW:aw)(e8:aq)(dF:aR)(hc:c fW e8 dF=ai):b kr fW e8 dF=kr (v fW e8 dF).1 (v fW e8 dF).2.1 (v fW e8 dF).2.2:=by have h:dF.length<=4294967296:=cq hc;unfold b;rw[show bT (aP [Ck.i ao,Ck.i ao] 0)+dF.length=dF.length by simp[aP],Lib.ch (by omega) (by omega)];rfl
end KC

namespace lL
def r2(N:aF)(g k0 k1:FM R)(a:aX)(d e:aw)(f:aq)(h:aR):aC R:=bif decide (d<(h.length:aw))then bif decide (0<=d)&&decide (d<(h.length:aw))then bif !km.v (bF (ar h d.toNat 0)) 1 9 then k0 ak d e f h else bif decide (d>0)then bif decide (0<=bJ (d-1))&&decide (bJ (d-1)<(h.length:aw))then bif decide (bF (ar h (bJ (d-1)).toNat 0)≥bF (ar h d.toNat 0))then k0 ak d e f h else bif !km.v (bF (ar h d.toNat 1)) 0 (f.size:aw)then k0 ak d e f h else g a (bJ (d+1)) e f h else aj else bif !km.v (bF (ar h d.toNat 1)) 0 (f.size:aw)then k0 ak d e f h else g a (bJ (d+1)) e f h else aj else k1 a d e f h
def l2(N:aF)(k0 k1:FM R):aF->FM R
 |0=>λ_ _ _ _ _=>aj
 |n+1=>r2 N (l2 N k0 k1 n) k0 k1
def b(N:aF)(kr:aX->aC R)(a:aw)(d:aq)(e:aR):aC R:=l2 N (λf _ _ _ _=>kr f) (λ_ _ f h i=>bif km.v f 1 3 then bif decide ((h.size:aw)<=400)then kr (decide ((i.length:aw)<=6))else kr ak else kr ak) N ak 0 a d e
def el(t:aq)(rs:aR)(i:aF):aX:=decide (1<=bF (ar rs i 0)/\bF (ar rs i 0)<=9)&&(decide (0<=bF (ar rs i 1)/\bF (ar rs i 1)<=t.size)&&(i==0||decide (bF (ar rs (i-1) 0)<bF (ar rs i 0))))
def rest(st:aw)(t:aq)(rs:aR):aX:=decide (1<=st/\st<=3)&&(decide (t.size<=400)&&decide (rs.length<=6))
def v(fW:aw)(e8:aq)(dF:aR):aX:=(b9 dF.length).all (el e8 dF)&&rest fW e8 dF
theorem m_(n a b:aw):km.v n a b=decide (a<=n/\n<=b):=by unfold km.v;by_cases h:a<=n<;>by_cases h2:n<=b<;>simp[h,h2]
theorem N6(st:aw)(t:aq)(rs:aR){R:Type}(kr:aX->aC R):(bif km.v st 1 3 then bif decide ((t.size:aw)<=400)then kr (decide ((rs.length:aw)<=6))else kr ak else kr ak)=kr (rest st t rs):=by
 unfold rest;rw[m_];have e1:decide ((t.size:aw)<=400)=decide (t.size<=400):=by rw[cg];omega
 have e2:decide ((rs.length:aw)<=6)=decide (rs.length<=6):=by rw[cg];omega
 rw[e1,e2];cases decide (1<=st/\st<=3)<;>cases decide (t.size<=400)<;>rfl
theorem Dn{i:aF}(h:0<i)(hn:i<=9223372036854775807):bJ ((i:aw)-1)=((i-1:aF):aw):=by rw[iI (by omega) (by omega)];omega
theorem Ir(p:aF->aX){i n:aF}(h:i<n):(mw i (n-i)).all p=(p i&&(mw (i+1) (n-(i+1))).all p):=by rw[show n-i=(n-(i+1))+1 by omega,List.range'_succ,td]
theorem eG(kr:aX->aC R)(fW:aw)(e8:aq)(dF:aR)(f0:Ec e8)(f1:vL dF):∃N,b N kr fW e8 dF=kr (v fW e8 dF):=by
 refine⟨dF.length+1, ?_⟩
 unfold b;simp only[N6]
 have:=Lib.g9 (λn (i:aF)=>l2 (dF.length+1) (λy5 y6 y7 y8 y9=>kr y5) (λKi wz Mj HR OE=>kr (rest Mj HR OE)) n ak i fW e8 dF) (λi=>dF.length-i) (λi=>i<=dF.length)
  (λi=>kr ((mw i (dF.length-i)).all (el e8 dF)&&rest fW e8 dF)) (λn i hi=>by
  simp only[l2,r2,Lib.dm,Lib.cE,Lib.dX,bc,m_]
  by_cases h:i<dF.length
  ·rw[Ir _ h];simp only[h,aN,au,Lib.cZ h f1.1];cases h1:decide (1<=bF (ar dF i 0)/\bF (ar dF i 0)<=9)with
   |false=>left;simp[el,h1]
   |true=>
    simp only[a_,ax];by_cases hz:0<i
    ·have e0:decide ((i:aw)>0)=true:=by simp;omega
     have hp:i-1<dF.length:=by omega
     have hi0:(i==0)=false:=by simp;omega
     simp only[e0,au,Dn hz (by have:=f1.1;omega),Lib.cE,Lib.dm,Lib.dX,hp,aN,aM];cases h2:decide (bF (ar dF (i-1) 0)≥bF (ar dF i 0))with
     |true=>
      left;have e3:decide (bF (ar dF (i-1) 0)<bF (ar dF i 0))=false:=by simp at h2⊢;omega
      simp[el,e3,hi0]
     |false=>
      have e3:decide (bF (ar dF (i-1) 0)<bF (ar dF i 0))=true:=by simp at h2⊢;omega
      cases h3:decide (0<=bF (ar dF i 1)/\bF (ar dF i 1)<=e8.size)with
      |false=>left;simp[el,h3]
      |true=>right;exact⟨i+1,h,by omega,by simp only[el,h1,h3,e3,Kn,bc],rfl⟩
    ·have hz:i=0:=by omega
     subst hz;simp only[show decide (((0:aF):aw)>0)=ak from rfl,ax];cases h3:decide (0<=bF (ar dF 0 1)/\bF (ar dF 0 1)<=e8.size)with
     |false=>left;simp[el,h3]
     |true=>right;exact⟨1,h,by omega,by simp only[el,h1,h3,bc];rfl,rfl⟩
  ·left;have h0:dF.length-i=0:=by omega
   simp only[h,bj,ax,h0,R4,List.all_nil,bc]) (dF.length+1) 0 (by omega) (by omega)
 refine this.trans ?_;unfold v;rw[sr,<-R5]
end lL

namespace GM
def b(kr:FQ R)(a:aw)(d:aq)(e:aR)(f:aq):aC R:=bif KC.c a d e then bif !lL.v a d e then kr a d e ak else bif a !=1 then kr a d e ak else bif !km.v (f.size:aw) 1 40 then kr a d e ak else bif decide (bJ ((d.size:aw)+(f.size:aw))>400)then kr a d e ak else bif decide (d.size+f.size<=4611686018427387904)then kr a (d++f) e ai else aj else aj
def v(fW:aw)(e8:aq)(dF:aR)(gn:aq):aw×aq×aR×aX:=
 if lL.v fW e8 dF=ai/\fW=1/\1<=gn.size/\gn.size<=40/\e8.size+gn.size<=400 then(fW,e8++gn,dF,ai)else(fW,e8,dF,ak)
def c(fW:aw)(e8:aq)(dF:aR)(gn:aq):aX:=decide (dF.length<=4294967296)
theorem eG(kr:FQ R)(fW:aw)(e8:aq)(dF:aR)(gn:aq)(hc:c fW e8 dF gn=ai)(f0:Ec e8)(f1:vL dF)(f2:Ec gn):b kr fW e8 dF gn=kr (v fW e8 dF gn).1 (v fW e8 dF gn).2.1 (v fW e8 dF gn).2.2.1 (v fW e8 dF gn).2.2.2:=by
 have hs1:e8.size<=4611686018427387904:=f0;have NC:gn.size<=4611686018427387904:=f2;have e1:KC.c fW e8 dF=true:=hc;have e2:∀a b c,lL.v a b c=lL.v a b c:=λ_ _ _=>rfl;have e3:∀n a b,km.v n a b=decide (a<=n/\n<=b):=lL.m_;unfold b v;rw[e1,e2,e3,au];cases h1:lL.v fW e8 dF with
 |false=>simp
 |true=>
  by_cases h2:fW=1
  ·by_cases h3:1<=(gn.size:aw)/\(gn.size:aw)<=40
   ·have e4:bJ ((e8.size:aw)+(gn.size:aw))=e8.size+gn.size:=iI (by omega) (by omega);rw[e4,aE h3];by_cases h4:(e8.size:aw)+(gn.size:aw)>400
    ·rw[Lib.Ah h4,bH (by omega)];simp[h2]
    ·rw[Lib.IM h4,bz (by refine⟨rfl,h2, ?_, ?_, ?_⟩<;>omega),Lib.Ah (show e8.size+gn.size<=4611686018427387904 by omega)];simp[h2]
   ·rw[aK h3,bH (by omega)];simp
  ·have iB:(fW !=1)=true:=bne_iff_ne.mpr h2;rw[bH (by simp[h2]),iB];rfl
end GM

namespace sL
def r1(N:aF)(g k0:iY R)(a d e f h i:aw)(j l m o p q:aR):aC R:=bif decide (e<(q.length:aw))then bif decide (0<=e)&&decide (e<(q.length:aw))then bif decide (bF (ar q e.toNat 2)=bJ (a+1))then bif decide (0<=e)&&decide (e<(q.length:aw))then bif decide (bF (ar q e.toNat 4)=1)then bif decide (0<=a)&&decide (a<(p.length:aw))then bif decide (0<=e)&&decide (e<(q.length:aw))then bif decide (0<=e)&&decide (e<((eJ q e.toNat 5 [.s (bw (ar p a.toNat 1))]).length:aw))then g a d (bJ (e+1)) f h i j l m o p (eJ (eJ q e.toNat 5 [.s (bw (ar p a.toNat 1))]) e.toNat 4 [.i .i64 d])else aj else aj else aj else g a d (bJ (e+1)) f h i j l m o p q else aj else g a d (bJ (e+1)) f h i j l m o p q else aj else k0 a d e f h i j l m o p q
def l1(N:aF)(k0:iY R):aF->iY R
 |0=>λ_ _ _ _ _ _ _ _ _ _ _ _=>aj
 |n+1=>r1 N (l1 N k0 n) k0
def b(N:aF)(kr:ed R)(a:aw)(d e f h:aR)(i:aw)(j l:aR)(m o p:aw):aC R:=l1 N (λ_ _ _ q r s t u w y z α=>kr q t u w y r z α s) N o p 0 a i m d e f h j l
def vo:=b Lib.cU λr0 r1 r2 r3 r4 r5 r6 r7 r8=>ah (r0,r1,r2,r3,r4,r5,r6,r7,r8)
def c:=λa d e f h i j l m o p=>(vo a d e f h i j l m o p).isSome
def v:=λa d e f h i j l m o p=>(vo a d e f h i j l m o p).getD (0,[],[],[],[],0,[],[],0)
theorem out{x}:∀a d e f h i j l m o p,vo a d e f h i j l m o p=ah x->c a d e f h i j l m o p=ai/\v a d e f h i j l m o p=x:=λ_ _ _ _ _ _ _ _ _ _ _=>Lib.dg
end sL

namespace DR
def b(kr:kX R)(a:aw)(d e f h:aR)(i:aw)(j l:aR)(m o:aw)(p:aq):aC R:=bif fP.c a d e f h i j l m then Lib.lt (fP.v a d e f h i j l m) λq=>bif vh.c a d e f h i j l m o then Lib.lt (vh.v a d e f h i j l m o) λr=>bif !r then kr q.1 q.2.1 q.2.2.1 q.2.2.2.1 q.2.2.2.2.1 q.2.2.2.2.2.1 q.2.2.2.2.2.2.1 q.2.2.2.2.2.2.2.1 q.2.2.2.2.2.2.2.2 ak else bif decide (0<=o)&&decide (o<(j.length:aw))then bif !(GM.v 1 (bw (ar j o.toNat 1)) [] p).2.2.2 then kr q.1 q.2.1 q.2.2.1 q.2.2.2.1 q.2.2.2.2.1 q.2.2.2.2.2.1 q.2.2.2.2.2.2.1 q.2.2.2.2.2.2.2.1 q.2.2.2.2.2.2.2.2 ak else bif decide (0<=o)&&decide (o<(q.2.2.2.2.2.2.1.length:aw))then bif sL.c q.1 q.2.1 q.2.2.1 q.2.2.2.1 q.2.2.2.2.1 q.2.2.2.2.2.1 (eJ q.2.2.2.2.2.2.1 o.toNat 1 [.s (GM.v 1 (bw (ar j o.toNat 1)) [] p).2.1]) q.2.2.2.2.2.2.2.1 q.2.2.2.2.2.2.2.2 o 1 then Lib.lt (sL.v q.1 q.2.1 q.2.2.1 q.2.2.2.1 q.2.2.2.2.1 q.2.2.2.2.2.1 (eJ q.2.2.2.2.2.2.1 o.toNat 1 [.s (GM.v 1 (bw (ar j o.toNat 1)) [] p).2.1]) q.2.2.2.2.2.2.2.1 q.2.2.2.2.2.2.2.2 o 1) λs=>kr s.1 s.2.1 s.2.2.1 s.2.2.2.1 s.2.2.2.2.1 s.2.2.2.2.2.1 s.2.2.2.2.2.2.1 s.2.2.2.2.2.2.2.1 s.2.2.2.2.2.2.2.2 ai else aj else aj else aj else aj else aj
def vo:=b λr0 r1 r2 r3 r4 r5 r6 r7 r8 r9=>ah (r0,r1,r2,r3,r4,r5,r6,r7,r8,r9)
def c:=λa d e f h i j l m o p=>(vo a d e f h i j l m o p).isSome
def v:=λa d e f h i j l m o p=>(vo a d e f h i j l m o p).getD (0,[],[],[],[],0,[],[],0,ak)
theorem out{x}:∀a d e f h i j l m o p,vo a d e f h i j l m o p=ah x->c a d e f h i j l m o p=ai/\v a d e f h i j l m o p=x:=λ_ _ _ _ _ _ _ _ _ _ _=>Lib.dg
end DR

namespace lN
def r9(N:aF)(g k0:oW R)(a:aR)(d:aw)(e:aq)(f h:aw)(i:aq)(j:aR):aC R:=bif decide (d<(a.length:aw))then bif decide (0<=d)&&decide (d<(a.length:aw))then bif !(b7 (bw (ar a d.toNat 0)).toList (aA e)||List.beq (bw (ar a d.toNat 0)).toList (aA e))then bif decide (0<=d)&&decide (d<(a.length:aw))then bif cw (j.length+(aD (aP [Ck.s,Ck.i ao,Ck.i ao,Ck.s] 1) 0 [.s (bw (ar a d.toNat 0)), .i .i64 (bF (ar a d.toNat 1)), .i .i64 (bF (ar a d.toNat (1+1))), .s (bw (ar a d.toNat (1+1+1)))]).length) 48 then g a (bJ (d+1)) e f h i (j++aD (aP [Ck.s,Ck.i ao,Ck.i ao,Ck.s] 1) 0 [.s (bw (ar a d.toNat 0)), .i .i64 (bF (ar a d.toNat 1)), .i .i64 (bF (ar a d.toNat (1+1))), .s (bw (ar a d.toNat (1+1+1)))])else aj else aj else g a (bJ (d+1)) e f h i j else aj else k0 a d e f h i j
def l9(N:aF)(k0:oW R):aF->oW R
 |0=>λ_ _ _ _ _ _ _=>aj
 |n+1=>r9 N (l9 N k0 n) k0
def r3(N:aF)(g k0:oW R)(a:aR)(d:aw)(e:aq)(f h:aw)(i:aq)(j:aR):aC R:=bif decide (d<(a.length:aw))then bif decide (0<=d)&&decide (d<(a.length:aw))then bif b7 (bw (ar a d.toNat 0)).toList (aA e)then bif decide (0<=d)&&decide (d<(a.length:aw))then bif cw (j.length+(aD (aP [Ck.s,Ck.i ao,Ck.i ao,Ck.s] 1) 0 [.s (bw (ar a d.toNat 0)), .i .i64 (bF (ar a d.toNat 1)), .i .i64 (bF (ar a d.toNat (1+1))), .s (bw (ar a d.toNat (1+1+1)))]).length) 48 then g a (bJ (d+1)) e f h i (j++aD (aP [Ck.s,Ck.i ao,Ck.i ao,Ck.s] 1) 0 [.s (bw (ar a d.toNat 0)), .i .i64 (bF (ar a d.toNat 1)), .i .i64 (bF (ar a d.toNat (1+1))), .s (bw (ar a d.toNat (1+1+1)))])else aj else aj else g a (bJ (d+1)) e f h i j else aj else k0 a d e f h i j
def l3(N:aF)(k0:oW R):aF->oW R
 |0=>λ_ _ _ _ _ _ _=>aj
 |n+1=>r3 N (l3 N k0 n) k0
def b(N:aF)(kr:aR->aC R)(a:aR)(d:aq)(e f:aw)(h:aq):aC R:=l3 N (λi _ j l m o p=>bif cw (p.length+(aD (aP [Ck.s,Ck.i ao,Ck.i ao,Ck.s] 1) 0 [.s j, .i .i64 l, .i .i64 m, .s o]).length) 48 then l9 N (λ_ _ _ _ _ _ q=>kr q) N i 0 j l m o (p++aD (aP [Ck.s,Ck.i ao,Ck.i ao,Ck.s] 1) 0 [.s j, .i .i64 l, .i .i64 m, .s o])else aj) N a 0 d e f h (aP [Ck.s,Ck.i ao,Ck.i ao,Ck.s] 0)
def vo:=b Lib.cU λr0=>ah r0
def c:=λa d e f h=>(vo a d e f h).isSome
def v:=λa d e f h=>(vo a d e f h).getD ([])
theorem out{x}:∀a d e f h,vo a d e f h=ah x->c a d e f h=ai/\v a d e f h=x:=λ_ _ _ _ _=>Lib.dg
end lN

namespace OV
def b(kr:ed R)(a:aw)(d e f h:aR)(i:aw)(j l:aR)(m:aw)(o:aq)(p q:aw)(r:aq):aC R:=bif e6.c e f h i o then Lib.lt (e6.v e f h i o) λs=>bif !List.beq (aA s.2.2.2.2) (aA ⟨#[]⟩)then bif qo.c d s.2.2.2.2 then Lib.lt (qo.v d s.2.2.2.2) λt=>bif th.c s.1 s.2.1 s.2.2.1 s.2.2.2.1 o then Lib.lt (th.v s.1 s.2.1 s.2.2.1 s.2.2.2.1 o) λu=>bif u then bif lN.c t o p q r then Lib.lt (lN.v t o p q r) λw=>kr a w s.1 s.2.1 s.2.2.1 s.2.2.2.1 j l m else aj else kr a t s.1 s.2.1 s.2.2.1 s.2.2.2.1 j l m else aj else aj else bif th.c s.1 s.2.1 s.2.2.1 s.2.2.2.1 o then Lib.lt (th.v s.1 s.2.1 s.2.2.1 s.2.2.2.1 o) λt=>bif t then bif lN.c d o p q r then Lib.lt (lN.v d o p q r) λu=>kr a u s.1 s.2.1 s.2.2.1 s.2.2.2.1 j l m else aj else kr a d s.1 s.2.1 s.2.2.1 s.2.2.2.1 j l m else aj else aj
def vo:=b λr0 r1 r2 r3 r4 r5 r6 r7 r8=>ah (r0,r1,r2,r3,r4,r5,r6,r7,r8)
def c:=λa d e f h i j l m o p q r=>(vo a d e f h i j l m o p q r).isSome
def v:=λa d e f h i j l m o p q r=>(vo a d e f h i j l m o p q r).getD (0,[],[],[],[],0,[],[],0)
theorem out{x}:∀a d e f h i j l m o p q r,vo a d e f h i j l m o p q r=ah x->c a d e f h i j l m o p q r=ai/\v a d e f h i j l m o p q r=x:=λ_ _ _ _ _ _ _ _ _ _ _ _ _=>Lib.dg
end OV

namespace DU
def b(kr:kX R)(a:aw)(d e f h:aR)(i:aw)(j l:aR)(m o p:aw):aC R:=bif fP.c a d e f h i j l m then Lib.lt (fP.v a d e f h i j l m) λq=>bif vh.c a d e f h i j l m o then Lib.lt (vh.v a d e f h i j l m o) λr=>bif !r then kr q.1 q.2.1 q.2.2.1 q.2.2.2.1 q.2.2.2.2.1 q.2.2.2.2.2.1 q.2.2.2.2.2.2.1 q.2.2.2.2.2.2.2.1 q.2.2.2.2.2.2.2.2 ak else bif !km.v p 0 999999 then kr q.1 q.2.1 q.2.2.1 q.2.2.2.1 q.2.2.2.2.1 q.2.2.2.2.2.1 q.2.2.2.2.2.2.1 q.2.2.2.2.2.2.2.1 q.2.2.2.2.2.2.2.2 ak else bif decide (0<=o)&&decide (o<(j.length:aw))then bif decide (0<=o)&&decide (o<(q.2.2.2.2.2.2.1.length:aw))then bif sL.c q.1 q.2.1 q.2.2.1 q.2.2.2.1 q.2.2.2.2.1 q.2.2.2.2.2.1 (eJ q.2.2.2.2.2.2.1 o.toNat 0 [.s (bw (ar j o.toNat 0)), .s (bw (ar j o.toNat 1)), .i .i64 2, .i .i64 p, .i .i64 a]) q.2.2.2.2.2.2.2.1 q.2.2.2.2.2.2.2.2 o 2 then Lib.lt (sL.v q.1 q.2.1 q.2.2.1 q.2.2.2.1 q.2.2.2.2.1 q.2.2.2.2.2.1 (eJ q.2.2.2.2.2.2.1 o.toNat 0 [.s (bw (ar j o.toNat 0)), .s (bw (ar j o.toNat 1)), .i .i64 2, .i .i64 p, .i .i64 a]) q.2.2.2.2.2.2.2.1 q.2.2.2.2.2.2.2.2 o 2) λs=>bif decide (p>0)then bif OV.c s.1 s.2.1 s.2.2.1 s.2.2.2.1 s.2.2.2.2.1 s.2.2.2.2.2.1 s.2.2.2.2.2.2.1 s.2.2.2.2.2.2.2.1 s.2.2.2.2.2.2.2.2 (bw (ar j o.toNat 0)) a p (bw (ar j o.toNat 1))then Lib.lt (OV.v s.1 s.2.1 s.2.2.1 s.2.2.2.1 s.2.2.2.2.1 s.2.2.2.2.2.1 s.2.2.2.2.2.2.1 s.2.2.2.2.2.2.2.1 s.2.2.2.2.2.2.2.2 (bw (ar j o.toNat 0)) a p (bw (ar j o.toNat 1))) λt=>kr t.1 t.2.1 t.2.2.1 t.2.2.2.1 t.2.2.2.2.1 t.2.2.2.2.2.1 t.2.2.2.2.2.2.1 t.2.2.2.2.2.2.2.1 t.2.2.2.2.2.2.2.2 ai else aj else kr s.1 s.2.1 s.2.2.1 s.2.2.2.1 s.2.2.2.2.1 s.2.2.2.2.2.1 s.2.2.2.2.2.2.1 s.2.2.2.2.2.2.2.1 s.2.2.2.2.2.2.2.2 ai else aj else aj else aj else aj else aj
def vo:=b λr0 r1 r2 r3 r4 r5 r6 r7 r8 r9=>ah (r0,r1,r2,r3,r4,r5,r6,r7,r8,r9)
def c:=λa d e f h i j l m o p=>(vo a d e f h i j l m o p).isSome
def v:=λa d e f h i j l m o p=>(vo a d e f h i j l m o p).getD (0,[],[],[],[],0,[],[],0,ak)
theorem out{x}:∀a d e f h i j l m o p,vo a d e f h i j l m o p=ah x->c a d e f h i j l m o p=ai/\v a d e f h i j l m o p=x:=λ_ _ _ _ _ _ _ _ _ _ _=>Lib.dg
end DU

namespace kF
def r2(N:aF)(g k0:AH R)(a:aw)(d:aR):aC R:=bif decide (a>127)then bif cw (d.length+(aD (aP [Ck.i bh] 1) 0 [CV.i bh (bE bh (bJ (cy a 128+128)))]).length) 1 then g (bJ (cQ a 128)) (d++aD (aP [Ck.i bh] 1) 0 [CV.i bh (bE bh (bJ (cy a 128+128)))])else aj else k0 a d
def l2(N:aF)(k0:AH R):aF->AH R
 |0=>λ_ _=>aj
 |n+1=>r2 N (l2 N k0 n) k0
def b(N:aF)(kr:aq->aC R)(a:aw):aC R:=l2 N (λd e=>bif cw (e.length+(aD (aP [Ck.i bh] 1) 0 [CV.i bh (bE bh d)]).length) 1 then bif decide ((e++aD (aP [Ck.i bh] 1) 0 [CV.i bh (bE bh d)]).length<=4611686018427387904)then kr (bytesOf (e++aD (aP [Ck.i bh] 1) 0 [CV.i bh (bE bh d)]))else aj else aj) N a (aP [Ck.i bh] 0)
def v(n0:aw):aq:=bytesOf (Lib.vb n0)
def c(n0:aw):aX:=decide (n0<=9223372036854775807)
theorem eG(kr:aq->aC R)(n0:aw)(hc:c n0=ai):∃N,b N kr n0=kr (v n0):=by
 refine⟨n0.toNat+1, ?_⟩
 refine Lib.Ou (λn x acc=>l2 (n0.toNat+1) _ n x acc) kr (λn x acc h hl=> ?_) (λn x acc h hl=> ?_) n0 (cq hc)
 ·simp only[l2,r2,h,aN,au,Lib.iM,show acc.length+bT [[CV.i bh (bE bh (bJ (cy x 128+128)))]]=acc.length+1 from rfl,Lib.HC (show acc.length+1<=140737488355328 by omega),show decide ((128:aw)=0)=ak from rfl,wC,bR]
 ·simp only[l2,r2,h,bj,ax,Lib.iM,show acc.length+bT [[CV.i bh (bE bh x)]]=acc.length+1 from rfl,Lib.HC (show acc.length+1<=140737488355328 by omega),au];exact Lib.tz (Lib.Ah (by rw[bP,bA];omega))
end kF

namespace jM
def b(kr:wJ R)(a:aq)(d e:aw)(f:aq):aC R:=bif !ni.v a d e f then kr ⟨#[]⟩ ak else bif kF.c (a.size:aw)then bif decide ((kF.v (a.size:aw)).size+a.size<=4611686018427387904)then bif kF.c d then bif decide ((kF.v (a.size:aw)++a).size+(kF.v d).size<=4611686018427387904)then bif kF.c e then bif decide ((kF.v (a.size:aw)++a++kF.v d).size+(kF.v e).size<=4611686018427387904)then bif decide ((kF.v (a.size:aw)++a++kF.v d++kF.v e).size+f.size<=4611686018427387904)then kr (kF.v (a.size:aw)++a++kF.v d++kF.v e++f) ai else aj else aj else aj else aj else aj else aj else aj
def sV(k:aq)(s l:aw)(b:aq):aq:=bytesOf (Lib.vb k.size)++k++bytesOf (Lib.vb s)++bytesOf (Lib.vb l)++b
def v(oQ:aq)(pw:aw)(py:aw)(vk:aq):aq×aX:=if ni.v oQ pw py vk=ai then(sV oQ pw py vk,ai)else(⟨#[]⟩,ak)
theorem eG(kr:wJ R)(oQ:aq)(pw:aw)(py:aw)(vk:aq):b kr oQ pw py vk=kr (v oQ pw py vk).1 (v oQ pw py vk).2:=by
 unfold b v;cases h:ni.v oQ pw py vk with
 |false=>rfl
 |true=>have hr:=ni.Ef h;have cc:∀x:aw,x<=9223372036854775807->kF.c x=true:=λx hx=>aE hx;have z1:(kF.v (oQ.size:aw)).size<=64:=Lib.jQ (x:=(oQ.size:aw)) (by omega);have z2:(kF.v pw).size<=64:=Lib.jQ (x:=pw) (by omega);have z3:(kF.v py).size<=64:=Lib.jQ (x:=py) (by omega);simp(disch:=omega) only[a_,ax,cc _ (show(oQ.size:aw)<=9223372036854775807 by omega),cc pw (by omega),cc py (by omega),au,if_true,Lib.kj,Lib.Sz];rfl
end jM

namespace pe
def b(kr:aq->aC R)(a:aw):aC R:=kr (bytesOf (aD (aD (aD (aD (aP [Ck.i bh] 4) 0 [CV.i bh (bE bh (lA a (ia 2 (if aW 24<=32 then aW 24 else 32))))]) 1 [CV.i bh (bE bh (lA a (ia 2 (if aW 16<=32 then aW 16 else 32))))]) 2 [CV.i bh (bE bh (lA a (ia 2 (if aW 8<=32 then aW 8 else 32))))]) 3 [CV.i bh (bE bh a)]))
def v(a0:aw):aq:=(bytesOf (aD (aD (aD (aD (aP [Ck.i bh] 4) 0 [CV.i bh (bE bh (lA a0 (ia 2 (if aW 24<=32 then aW 24 else 32))))]) 1 [CV.i bh (bE bh (lA a0 (ia 2 (if aW 16<=32 then aW 16 else 32))))]) 2 [CV.i bh (bE bh (lA a0 (ia 2 (if aW 8<=32 then aW 8 else 32))))]) 3 [CV.i bh (bE bh a0)]))
theorem eG(kr:aq->aC R)(a0:aw):b kr a0=kr (v a0):=by first|rfl|(unfold b v;simp only[cL];(repeat' split)<;>rfl)
end pe

namespace fJ
def b(kr:wJ R)(a:aq):aC R:=bif !km.v (a.size:aw) 1 9000 then kr ⟨#[]⟩ ak else bif kF.c (a.size:aw)then bif vW.c a then bif decide ((kF.v (a.size:aw)).size+(pe.v (vW.v a)).size<=4611686018427387904)then bif decide ((kF.v (a.size:aw)++pe.v (vW.v a)).size+a.size<=4611686018427387904)then kr (kF.v (a.size:aw)++pe.v (vW.v a)++a) ai else aj else aj else aj else aj
def vo:=b λr0 r1=>ah (r0,r1)
def c:=λa=>(vo a).isSome
def v:=λa=>(vo a).getD (⟨#[]⟩,ak)
theorem out{x}:∀a,vo a=ah x->c a=ai/\v a=x:=λ_=>Lib.dg
end fJ

namespace DV
def b(kr:DG R)(a:aq)(d e:aw)(f:aq):aC R:=bif fJ.c (jM.v a d e f).1 then bif !(jM.v a d e f).2 then kr (aP [Ck.i ao,Ck.s,Ck.s,Ck.s] 0) ak else bif !(fJ.v (jM.v a d e f).1).2 then kr (aP [Ck.i ao,Ck.s,Ck.s,Ck.s] 0) ak else kr (aD (aD (aP [Ck.i ao,Ck.s,Ck.s,Ck.s] 2) 0 [.i .i64 1, .s {data:= #[ay 107,ay 101,ay 112,ay 116]}, .s (fJ.v (jM.v a d e f).1).1, .s ⟨#[]⟩]) 1 [.i .i64 2, .s {data:= #[ay 107,ay 101,ay 112,ay 116]}, .s ⟨#[]⟩, .s ⟨#[]⟩]) ai else aj
def vo:=b λr0 r1=>ah (r0,r1)
def c:=λa d e f=>(vo a d e f).isSome
def v:=λa d e f=>(vo a d e f).getD ([],ak)
theorem out{x}:∀a d e f,vo a d e f=ah x->c a d e f=ai/\v a d e f=x:=λ_ _ _ _=>Lib.dg
end DV

namespace qm
def b(kr:aX->aC R)(a:aq):aC R:=kr (km.v (a.size:aw) 1 8)
def v(a0:aq):aX:=(km.v (a0.size:aw) 1 8)
theorem eG(kr:aX->aC R)(a0:aq):b kr a0=kr (v a0):=by first|rfl|(unfold b v;simp only[cL];(repeat' split)<;>rfl)
end qm

namespace gD
def r4(N:aF)(g k0 k1:Es R)(a:aX)(d:aw)(e:aR):aC R:=bif decide (d<(e.length:aw))then bif decide (0<=d)&&decide (d<(e.length:aw))then bif !qm.v (bw (ar e d.toNat 0))then k0 ak d e else bif decide (((bw (ar e d.toNat 1)).size:aw)>20000)then k0 ak d e else bif !km.v (bF (ar e d.toNat (1+1))) 0 ((bw (ar e d.toNat 1)).size:aw)then k0 ak d e else bif decide (d>0)then bif decide (0<=bJ (d-1))&&decide (bJ (d-1)<(e.length:aw))then bif !Op.bytesLess (bw (ar e (bJ (d-1)).toNat 0)).toList (bw (ar e d.toNat 0)).toList then k0 ak d e else g a (bJ (d+1)) e else aj else g a (bJ (d+1)) e else aj else k1 a d e
def l4(N:aF)(k0 k1:Es R):aF->Es R
 |0=>λ_ _ _=>aj
 |n+1=>r4 N (l4 N k0 k1 n) k0 k1
def b(N:aF)(kr:aX->aC R)(a:aR):aC R:=bif decide ((a.length:aw)>30)then kr ak else l4 N (λd _ _=>kr d) (λ_ _ _=>kr ai) N ak 0 a
def vo:=b Lib.cU λr0=>ah r0
def c:=λa=>(vo a).isSome
def v:=λa=>(vo a).getD ak
theorem out{x}:∀a,vo a=ah x->c a=ai/\v a=x:=λ_=>Lib.dg
end gD

namespace jB
def r2(N:aF)(g k0 k1:mr R)(a:aq)(d e:aw)(f:aR):aC R:=bif decide (e<(f.length:aw))then bif decide (0<=e)&&decide (e<(f.length:aw))then bif bZ (bw (ar f e.toNat 0)).toList (aA a)then k0 a e e f else g a d (bJ (e+1)) f else aj else k1 a d e f
def l2(N:aF)(k0 k1:mr R):aF->mr R
 |0=>λ_ _ _ _=>aj
 |n+1=>r2 N (l2 N k0 k1 n) k0 k1
def b(N:aF)(kr:aw->aC R)(a:aR)(d:aq):aC R:=l2 N (λ_ e _ _=>kr e) (λ_ _ _ _=>kr (-1)) N d 0 0 a
def vo:=b Lib.cU λr0=>ah r0
def c:=λa d=>(vo a d).isSome
def v:=λa d=>(vo a d).getD (0)
theorem out{x}:∀a d,vo a d=ah x->c a d=ai/\v a d=x:=λ_ _=>Lib.dg
end jB

namespace eu
def r9(N:aF)(g k0:lR R)(a:aw)(d:aR)(e f:aq)(h:aw)(i:aR):aC R:=bif decide (a<(d.length:aw))then bif decide (0<=a)&&decide (a<(d.length:aw))then bif !(b7 (bw (ar d a.toNat 0)).toList (aA e)||List.beq (bw (ar d a.toNat 0)).toList (aA e))then bif decide (0<=a)&&decide (a<(d.length:aw))then bif cw (i.length+(aD (aP [Ck.s,Ck.s,Ck.i ao] 1) 0 [.s (bw (ar d a.toNat 0)), .s (bw (ar d a.toNat 1)), .i .i64 (bF (ar d a.toNat (1+1)))]).length) 40 then g (bJ (a+1)) d e f h (i++aD (aP [Ck.s,Ck.s,Ck.i ao] 1) 0 [.s (bw (ar d a.toNat 0)), .s (bw (ar d a.toNat 1)), .i .i64 (bF (ar d a.toNat (1+1)))])else aj else aj else g (bJ (a+1)) d e f h i else aj else k0 a d e f h i
def l9(N:aF)(k0:lR R):aF->lR R
 |0=>λ_ _ _ _ _ _=>aj
 |n+1=>r9 N (l9 N k0 n) k0
def r3(N:aF)(g:rA R)(g1:lR R)(k0:rA R)(k1:lR R)(a:aw)(d:aR)(e f:aq)(h:aw):aC R:=bif decide (a<(d.length:aw))then bif decide (0<=a)&&decide (a<(d.length:aw))then bif b7 (bw (ar d a.toNat 0)).toList (aA e)then bif decide (0<=a)&&decide (a<(d.length:aw))then g1 (bJ (a+1)) d e f h ([]++aD (aP [Ck.s,Ck.s,Ck.i ao] 1) 0 [.s (bw (ar d a.toNat 0)), .s (bw (ar d a.toNat 1)), .i .i64 (bF (ar d a.toNat (1+1)))])else aj else g (bJ (a+1)) d e f h else aj else k0 a d e f h
def zQ(N:aF)(g:rA R)(g1:lR R)(k0:rA R)(k1:lR R)(a:aw)(d:aR)(e f:aq)(h:aw)(i:aR):aC R:=bif decide (a<(d.length:aw))then bif decide (0<=a)&&decide (a<(d.length:aw))then bif b7 (bw (ar d a.toNat 0)).toList (aA e)then bif decide (0<=a)&&decide (a<(d.length:aw))then bif cw (i.length+(aD (aP [Ck.s,Ck.s,Ck.i ao] 1) 0 [.s (bw (ar d a.toNat 0)), .s (bw (ar d a.toNat 1)), .i .i64 (bF (ar d a.toNat (1+1)))]).length) 40 then g1 (bJ (a+1)) d e f h (i++aD (aP [Ck.s,Ck.s,Ck.i ao] 1) 0 [.s (bw (ar d a.toNat 0)), .s (bw (ar d a.toNat 1)), .i .i64 (bF (ar d a.toNat (1+1)))])else aj else aj else g1 (bJ (a+1)) d e f h i else aj else k1 a d e f h i
def sO(N:aF)(k0:rA R)(k1:lR R):aF->lR R
 |0=>λ_ _ _ _ _ _=>aj
 |n+1=>zQ N (λx0 x1 x2 x3 x4=>aj) (sO N k0 k1 n) k0 k1
def l3(N:aF)(k0:rA R)(k1:lR R):aF->rA R
 |0=>λ_ _ _ _ _=>aj
 |n+1=>r3 N (l3 N k0 k1 n) (sO N k0 k1 n) k0 k1
def b(N:aF)(kr:aR->aC R)(a:aR)(d e:aq)(f:aw):aC R:=l3 N (λ_ h i j l=>l9 N (λ_ _ _ _ _ m=>kr m) N 0 h i j l ([]++aD (aP [Ck.s,Ck.s,Ck.i ao] 1) 0 [.s i, .s j, .i .i64 l])) (λ_ h i j l m=>bif cw (m.length+(aD (aP [Ck.s,Ck.s,Ck.i ao] 1) 0 [.s i, .s j, .i .i64 l]).length) 40 then l9 N (λ_ _ _ _ _ o=>kr o) N 0 h i j l (m++aD (aP [Ck.s,Ck.s,Ck.i ao] 1) 0 [.s i, .s j, .i .i64 l])else aj) N 0 a d e f
def vo:=b Lib.cU λr0=>ah r0
def c:=λa d e f=>(vo a d e f).isSome
def v:=λa d e f=>(vo a d e f).getD ([])
theorem out{x}:∀a d e f,vo a d e f=ah x->c a d e f=ai/\v a d e f=x:=λ_ _ _ _=>Lib.dg
end eu

namespace eS
def r3(N:aF)(g:oy R)(g1:tc R)(k0:oy R)(k1:tc R)(a:aq)(d:aw)(e:aR):aC R:=bif decide (d<(e.length:aw))then bif decide (0<=d)&&decide (d<(e.length:aw))then bif !List.beq (bw (ar e d.toNat 0)).toList (aA a)then bif decide (0<=d)&&decide (d<(e.length:aw))then g1 a (bJ (d+1)) e ([]++aD (aP [Ck.s,Ck.s,Ck.i ao] 1) 0 [.s (bw (ar e d.toNat 0)), .s (bw (ar e d.toNat 1)), .i .i64 (bF (ar e d.toNat (1+1)))])else aj else g a (bJ (d+1)) e else aj else k0 a d e
def zQ(N:aF)(g:oy R)(g1:tc R)(k0:oy R)(k1:tc R)(a:aq)(d:aw)(e f:aR):aC R:=bif decide (d<(e.length:aw))then bif decide (0<=d)&&decide (d<(e.length:aw))then bif !List.beq (bw (ar e d.toNat 0)).toList (aA a)then bif decide (0<=d)&&decide (d<(e.length:aw))then bif cw (f.length+(aD (aP [Ck.s,Ck.s,Ck.i ao] 1) 0 [.s (bw (ar e d.toNat 0)), .s (bw (ar e d.toNat 1)), .i .i64 (bF (ar e d.toNat (1+1)))]).length) 40 then g1 a (bJ (d+1)) e (f++aD (aP [Ck.s,Ck.s,Ck.i ao] 1) 0 [.s (bw (ar e d.toNat 0)), .s (bw (ar e d.toNat 1)), .i .i64 (bF (ar e d.toNat (1+1)))])else aj else aj else g1 a (bJ (d+1)) e f else aj else k1 a d e f
def sO(N:aF)(k0:oy R)(k1:tc R):aF->tc R
 |0=>λ_ _ _ _=>aj
 |n+1=>zQ N (λx0 x1 x2=>aj) (sO N k0 k1 n) k0 k1
def l3(N:aF)(k0:oy R)(k1:tc R):aF->oy R
 |0=>λ_ _ _=>aj
 |n+1=>r3 N (l3 N k0 k1 n) (sO N k0 k1 n) k0 k1
def b(N:aF)(kr:aR->aC R)(a:aR)(d:aq):aC R:=l3 N (λ_ _ _=>kr []) (λ_ _ _ e=>kr e) N d 0 a
def vo:=b Lib.cU λr0=>ah r0
def c:=λa d=>(vo a d).isSome
def v:=λa d=>(vo a d).getD ([])
theorem out{x}:∀a d,vo a d=ah x->c a d=ai/\v a d=x:=λ_ _=>Lib.dg
end eS

namespace B4
def b(kr:DG R)(a:aR)(d:aw)(e f h:aq):aC R:=bif gD.c a then bif !gD.v a then kr [] ak else bif !qm.v e then kr [] ak else bif d !=3 then bif !List.beq (aA h) (aA ⟨#[]⟩)then kr [] ak else bif d !=1 then bif !List.beq (aA f) (aA ⟨#[]⟩)then kr [] ak else bif jB.c a e then Lib.lt (jB.v a e) λi=>bif decide (i≥0)then bif decide (0<=i)&&decide (i<(a.length:aw))then bif decide (d=1)then bif decide ((bw (ar a i.toNat 1)).size+f.size<=4611686018427387904)then bif eu.c a (bw (ar a i.toNat 0)) (bw (ar a i.toNat 1)++f) (bF (ar a i.toNat (1+1)))then Lib.lt (eu.v a (bw (ar a i.toNat 0)) (bw (ar a i.toNat 1)++f) (bF (ar a i.toNat (1+1)))) λj=>bif gD.c j then bif !gD.v j then kr [] ak else kr j ai else aj else aj else aj else bif decide (i<0)then kr [] ak else bif decide (d=2)then bif eu.c a (bw (ar a i.toNat 0)) (bw (ar a i.toNat 1)) ((bw (ar a i.toNat 1)).size:aw)then Lib.lt (eu.v a (bw (ar a i.toNat 0)) (bw (ar a i.toNat 1)) ((bw (ar a i.toNat 1)).size:aw)) λj=>bif gD.c j then bif !gD.v j then kr [] ak else kr j ai else aj else aj else bif decide (d=3)then bif decide (bF (ar a i.toNat (1+1))<((bw (ar a i.toNat 1)).size:aw))then kr [] ak else bif bZ (aA h) (aA e)then kr [] ak else bif !qm.v h then kr [] ak else bif eS.c a e then bif eu.c (eS.v a e) h (bw (ar a i.toNat 1)) (bF (ar a i.toNat (1+1)))then bif gD.c (eu.v (eS.v a e) h (bw (ar a i.toNat 1)) (bF (ar a i.toNat (1+1))))then bif !gD.v (eu.v (eS.v a e) h (bw (ar a i.toNat 1)) (bF (ar a i.toNat (1+1))))then kr [] ak else kr (eu.v (eS.v a e) h (bw (ar a i.toNat 1)) (bF (ar a i.toNat (1+1)))) ai else aj else aj else aj else bif decide (d=4)then bif eS.c a e then bif gD.c (eS.v a e)then bif !gD.v (eS.v a e)then kr [] ak else kr (eS.v a e) ai else aj else aj else kr [] ak else aj else bif decide (d=1)then bif decide (cm ⟨#[]⟩+f.size<=4611686018427387904)then bif eu.c a e ({data:= #[]}++f) 0 then bif gD.c (eu.v a e ({data:= #[]}++f) 0)then bif !gD.v (eu.v a e ({data:= #[]}++f) 0)then kr [] ak else kr (eu.v a e ({data:= #[]}++f) 0) ai else aj else aj else aj else bif decide (i<0)then kr [] ak else bif decide (d=2)then bif eu.c a e ⟨#[]⟩ (cm ⟨#[]⟩:aw)then bif gD.c (eu.v a e ⟨#[]⟩ (cm ⟨#[]⟩:aw))then bif !gD.v (eu.v a e ⟨#[]⟩ (cm ⟨#[]⟩:aw))then kr [] ak else kr (eu.v a e ⟨#[]⟩ (cm ⟨#[]⟩:aw)) ai else aj else aj else bif decide (d=3)then bif bZ (aA h) (aA e)then kr [] ak else bif !qm.v h then kr [] ak else bif eS.c a e then bif eu.c (eS.v a e) h ⟨#[]⟩ 0 then bif gD.c (eu.v (eS.v a e) h ⟨#[]⟩ 0)then bif !gD.v (eu.v (eS.v a e) h ⟨#[]⟩ 0)then kr [] ak else kr (eu.v (eS.v a e) h ⟨#[]⟩ 0) ai else aj else aj else aj else bif decide (d=4)then bif eS.c a e then bif gD.c (eS.v a e)then bif !gD.v (eS.v a e)then kr [] ak else kr (eS.v a e) ai else aj else aj else kr [] ak else aj else bif jB.c a e then Lib.lt (jB.v a e) λi=>bif decide (i≥0)then bif decide (0<=i)&&decide (i<(a.length:aw))then bif decide (d=1)then bif decide ((bw (ar a i.toNat 1)).size+f.size<=4611686018427387904)then bif eu.c a (bw (ar a i.toNat 0)) (bw (ar a i.toNat 1)++f) (bF (ar a i.toNat (1+1)))then Lib.lt (eu.v a (bw (ar a i.toNat 0)) (bw (ar a i.toNat 1)++f) (bF (ar a i.toNat (1+1)))) λj=>bif gD.c j then bif !gD.v j then kr [] ak else kr j ai else aj else aj else aj else bif decide (i<0)then kr [] ak else bif decide (d=2)then bif eu.c a (bw (ar a i.toNat 0)) (bw (ar a i.toNat 1)) ((bw (ar a i.toNat 1)).size:aw)then Lib.lt (eu.v a (bw (ar a i.toNat 0)) (bw (ar a i.toNat 1)) ((bw (ar a i.toNat 1)).size:aw)) λj=>bif gD.c j then bif !gD.v j then kr [] ak else kr j ai else aj else aj else bif decide (d=3)then bif decide (bF (ar a i.toNat (1+1))<((bw (ar a i.toNat 1)).size:aw))then kr [] ak else bif bZ (aA h) (aA e)then kr [] ak else bif !qm.v h then kr [] ak else bif eS.c a e then bif eu.c (eS.v a e) h (bw (ar a i.toNat 1)) (bF (ar a i.toNat (1+1)))then bif gD.c (eu.v (eS.v a e) h (bw (ar a i.toNat 1)) (bF (ar a i.toNat (1+1))))then bif !gD.v (eu.v (eS.v a e) h (bw (ar a i.toNat 1)) (bF (ar a i.toNat (1+1))))then kr [] ak else kr (eu.v (eS.v a e) h (bw (ar a i.toNat 1)) (bF (ar a i.toNat (1+1)))) ai else aj else aj else aj else bif decide (d=4)then bif eS.c a e then bif gD.c (eS.v a e)then bif !gD.v (eS.v a e)then kr [] ak else kr (eS.v a e) ai else aj else aj else kr [] ak else aj else bif decide (d=1)then bif decide (cm ⟨#[]⟩+f.size<=4611686018427387904)then bif eu.c a e ({data:= #[]}++f) 0 then bif gD.c (eu.v a e ({data:= #[]}++f) 0)then bif !gD.v (eu.v a e ({data:= #[]}++f) 0)then kr [] ak else kr (eu.v a e ({data:= #[]}++f) 0) ai else aj else aj else aj else bif decide (i<0)then kr [] ak else bif decide (d=2)then bif eu.c a e ⟨#[]⟩ (cm ⟨#[]⟩:aw)then bif gD.c (eu.v a e ⟨#[]⟩ (cm ⟨#[]⟩:aw))then bif !gD.v (eu.v a e ⟨#[]⟩ (cm ⟨#[]⟩:aw))then kr [] ak else kr (eu.v a e ⟨#[]⟩ (cm ⟨#[]⟩:aw)) ai else aj else aj else bif decide (d=3)then bif bZ (aA h) (aA e)then kr [] ak else bif !qm.v h then kr [] ak else bif eS.c a e then bif eu.c (eS.v a e) h ⟨#[]⟩ 0 then bif gD.c (eu.v (eS.v a e) h ⟨#[]⟩ 0)then bif !gD.v (eu.v (eS.v a e) h ⟨#[]⟩ 0)then kr [] ak else kr (eu.v (eS.v a e) h ⟨#[]⟩ 0) ai else aj else aj else aj else bif decide (d=4)then bif eS.c a e then bif gD.c (eS.v a e)then bif !gD.v (eS.v a e)then kr [] ak else kr (eS.v a e) ai else aj else aj else kr [] ak else aj else bif d !=1 then bif !List.beq (aA f) (aA ⟨#[]⟩)then kr [] ak else bif jB.c a e then Lib.lt (jB.v a e) λi=>bif decide (i≥0)then bif decide (0<=i)&&decide (i<(a.length:aw))then bif decide (d=1)then bif decide ((bw (ar a i.toNat 1)).size+f.size<=4611686018427387904)then bif eu.c a (bw (ar a i.toNat 0)) (bw (ar a i.toNat 1)++f) (bF (ar a i.toNat (1+1)))then Lib.lt (eu.v a (bw (ar a i.toNat 0)) (bw (ar a i.toNat 1)++f) (bF (ar a i.toNat (1+1)))) λj=>bif gD.c j then bif !gD.v j then kr [] ak else kr j ai else aj else aj else aj else bif decide (i<0)then kr [] ak else bif decide (d=2)then bif eu.c a (bw (ar a i.toNat 0)) (bw (ar a i.toNat 1)) ((bw (ar a i.toNat 1)).size:aw)then Lib.lt (eu.v a (bw (ar a i.toNat 0)) (bw (ar a i.toNat 1)) ((bw (ar a i.toNat 1)).size:aw)) λj=>bif gD.c j then bif !gD.v j then kr [] ak else kr j ai else aj else aj else bif decide (d=3)then bif decide (bF (ar a i.toNat (1+1))<((bw (ar a i.toNat 1)).size:aw))then kr [] ak else bif bZ (aA h) (aA e)then kr [] ak else bif !qm.v h then kr [] ak else bif eS.c a e then bif eu.c (eS.v a e) h (bw (ar a i.toNat 1)) (bF (ar a i.toNat (1+1)))then bif gD.c (eu.v (eS.v a e) h (bw (ar a i.toNat 1)) (bF (ar a i.toNat (1+1))))then bif !gD.v (eu.v (eS.v a e) h (bw (ar a i.toNat 1)) (bF (ar a i.toNat (1+1))))then kr [] ak else kr (eu.v (eS.v a e) h (bw (ar a i.toNat 1)) (bF (ar a i.toNat (1+1)))) ai else aj else aj else aj else bif decide (d=4)then bif eS.c a e then bif gD.c (eS.v a e)then bif !gD.v (eS.v a e)then kr [] ak else kr (eS.v a e) ai else aj else aj else kr [] ak else aj else bif decide (d=1)then bif decide (cm ⟨#[]⟩+f.size<=4611686018427387904)then bif eu.c a e ({data:= #[]}++f) 0 then bif gD.c (eu.v a e ({data:= #[]}++f) 0)then bif !gD.v (eu.v a e ({data:= #[]}++f) 0)then kr [] ak else kr (eu.v a e ({data:= #[]}++f) 0) ai else aj else aj else aj else bif decide (i<0)then kr [] ak else bif decide (d=2)then bif eu.c a e ⟨#[]⟩ (cm ⟨#[]⟩:aw)then bif gD.c (eu.v a e ⟨#[]⟩ (cm ⟨#[]⟩:aw))then bif !gD.v (eu.v a e ⟨#[]⟩ (cm ⟨#[]⟩:aw))then kr [] ak else kr (eu.v a e ⟨#[]⟩ (cm ⟨#[]⟩:aw)) ai else aj else aj else bif decide (d=3)then bif bZ (aA h) (aA e)then kr [] ak else bif !qm.v h then kr [] ak else bif eS.c a e then bif eu.c (eS.v a e) h ⟨#[]⟩ 0 then bif gD.c (eu.v (eS.v a e) h ⟨#[]⟩ 0)then bif !gD.v (eu.v (eS.v a e) h ⟨#[]⟩ 0)then kr [] ak else kr (eu.v (eS.v a e) h ⟨#[]⟩ 0) ai else aj else aj else aj else bif decide (d=4)then bif eS.c a e then bif gD.c (eS.v a e)then bif !gD.v (eS.v a e)then kr [] ak else kr (eS.v a e) ai else aj else aj else kr [] ak else aj else bif jB.c a e then Lib.lt (jB.v a e) λi=>bif decide (i≥0)then bif decide (0<=i)&&decide (i<(a.length:aw))then bif decide (d=1)then bif decide ((bw (ar a i.toNat 1)).size+f.size<=4611686018427387904)then bif eu.c a (bw (ar a i.toNat 0)) (bw (ar a i.toNat 1)++f) (bF (ar a i.toNat (1+1)))then Lib.lt (eu.v a (bw (ar a i.toNat 0)) (bw (ar a i.toNat 1)++f) (bF (ar a i.toNat (1+1)))) λj=>bif gD.c j then bif !gD.v j then kr [] ak else kr j ai else aj else aj else aj else bif decide (i<0)then kr [] ak else bif decide (d=2)then bif eu.c a (bw (ar a i.toNat 0)) (bw (ar a i.toNat 1)) ((bw (ar a i.toNat 1)).size:aw)then Lib.lt (eu.v a (bw (ar a i.toNat 0)) (bw (ar a i.toNat 1)) ((bw (ar a i.toNat 1)).size:aw)) λj=>bif gD.c j then bif !gD.v j then kr [] ak else kr j ai else aj else aj else bif decide (d=3)then bif decide (bF (ar a i.toNat (1+1))<((bw (ar a i.toNat 1)).size:aw))then kr [] ak else bif bZ (aA h) (aA e)then kr [] ak else bif !qm.v h then kr [] ak else bif eS.c a e then bif eu.c (eS.v a e) h (bw (ar a i.toNat 1)) (bF (ar a i.toNat (1+1)))then bif gD.c (eu.v (eS.v a e) h (bw (ar a i.toNat 1)) (bF (ar a i.toNat (1+1))))then bif !gD.v (eu.v (eS.v a e) h (bw (ar a i.toNat 1)) (bF (ar a i.toNat (1+1))))then kr [] ak else kr (eu.v (eS.v a e) h (bw (ar a i.toNat 1)) (bF (ar a i.toNat (1+1)))) ai else aj else aj else aj else bif decide (d=4)then bif eS.c a e then bif gD.c (eS.v a e)then bif !gD.v (eS.v a e)then kr [] ak else kr (eS.v a e) ai else aj else aj else kr [] ak else aj else bif decide (d=1)then bif decide (cm ⟨#[]⟩+f.size<=4611686018427387904)then bif eu.c a e ({data:= #[]}++f) 0 then bif gD.c (eu.v a e ({data:= #[]}++f) 0)then bif !gD.v (eu.v a e ({data:= #[]}++f) 0)then kr [] ak else kr (eu.v a e ({data:= #[]}++f) 0) ai else aj else aj else aj else bif decide (i<0)then kr [] ak else bif decide (d=2)then bif eu.c a e ⟨#[]⟩ (cm ⟨#[]⟩:aw)then bif gD.c (eu.v a e ⟨#[]⟩ (cm ⟨#[]⟩:aw))then bif !gD.v (eu.v a e ⟨#[]⟩ (cm ⟨#[]⟩:aw))then kr [] ak else kr (eu.v a e ⟨#[]⟩ (cm ⟨#[]⟩:aw)) ai else aj else aj else bif decide (d=3)then bif bZ (aA h) (aA e)then kr [] ak else bif !qm.v h then kr [] ak else bif eS.c a e then bif eu.c (eS.v a e) h ⟨#[]⟩ 0 then bif gD.c (eu.v (eS.v a e) h ⟨#[]⟩ 0)then bif !gD.v (eu.v (eS.v a e) h ⟨#[]⟩ 0)then kr [] ak else kr (eu.v (eS.v a e) h ⟨#[]⟩ 0) ai else aj else aj else aj else bif decide (d=4)then bif eS.c a e then bif gD.c (eS.v a e)then bif !gD.v (eS.v a e)then kr [] ak else kr (eS.v a e) ai else aj else aj else kr [] ak else aj else aj
def vo:=b λr0 r1=>ah (r0,r1)
def c:=λa d e f h=>(vo a d e f h).isSome
def v:=λa d e f h=>(vo a d e f h).getD ([],ak)
theorem out{x}:∀a d e f h,vo a d e f h=ah x->c a d e f h=ai/\v a d e f h=x:=λ_ _ _ _ _=>Lib.dg
end B4

namespace qp
def r3(N:aF)(g k0 k1:qh R)(a:aR)(d e:aw)(f:aR):aC R:=bif decide (e<(a.length:aw))then bif decide (0<=e)&&decide (e<(a.length:aw))then bif B4.c f (bF (ar a e.toNat 0)) (bw (ar a e.toNat 1)) (bw (ar a e.toNat (1+1))) (bw (ar a e.toNat (1+1+1)))then bif !(B4.v f (bF (ar a e.toNat 0)) (bw (ar a e.toNat 1)) (bw (ar a e.toNat (1+1))) (bw (ar a e.toNat (1+1+1)))).2 then k0 a e e f else g a d (bJ (e+1)) (B4.v f (bF (ar a e.toNat 0)) (bw (ar a e.toNat 1)) (bw (ar a e.toNat (1+1))) (bw (ar a e.toNat (1+1+1)))).1 else aj else aj else k1 a d e f
def l3(N:aF)(k0 k1:qh R):aF->qh R
 |0=>λ_ _ _ _=>aj
 |n+1=>r3 N (l3 N k0 k1 n) k0 k1
def b(N:aF)(kr:s9 R)(a d:aR):aC R:=bif cw ((aP [Ck.s,Ck.s,Ck.i ao] 0).length+a.length) 40 then l3 N (λ_ e _ f=>kr f e) (λe _ _ f=>kr f (e.length:aw)) N d 0 0 (aP [Ck.s,Ck.s,Ck.i ao] 0++a)else aj
def vo:=b Lib.cU λr0 r1=>ah (r0,r1)
def c:=λa d=>(vo a d).isSome
def v:=λa d=>(vo a d).getD ([],0)
theorem out{x}:∀a d,vo a d=ah x->c a d=ai/\v a d=x:=λ_ _=>Lib.dg
end qp

namespace AY
def b(kr:aw->aC R)(a:aX):aC R:=bif a then kr 0 else kr 1
def v(a0:aX):aw:=bif a0 then 0 else 1
theorem eG(kr:aw->aC R)(a0:aX):b kr a0=kr (v a0):=by first|rfl|(unfold b v;simp only[cL];(repeat' split)<;>rfl)
end AY

namespace DS
def b(kr:mc R)(a:aw)(d e f h:aR)(i:aw)(j l:aR)(m:aw)(o p q:aR)(r s:aw)(t:aq)(u:aw)(w:aR):aC R:=bif DU.c a d e f h i j l m s (cy u 1000000)then Lib.lt (DU.v a d e f h i j l m s (cy u 1000000)) λy=>bif y.2.2.2.2.2.2.2.2.2 then bif decide (cy u 1000000>0)then bif decide (0<=s)&&decide (s<(y.2.2.2.2.2.2.1.length:aw))then bif cw ((aP [Ck.s,Ck.i ao,Ck.i ao,Ck.s] 0).length+q.length) 48 then bif cw ((aP [Ck.s,Ck.i ao,Ck.i ao,Ck.s] 0++q).length+(aD (aP [Ck.s,Ck.i ao,Ck.i ao,Ck.s] 1) 0 [.s (bw (ar y.2.2.2.2.2.2.1 s.toNat 0)), .i .i64 (bF (ar y.2.2.2.2.2.2.1 s.toNat (1+1+1+1))), .i .i64 (bF (ar y.2.2.2.2.2.2.1 s.toNat (1+1+1))), .s (bw (ar y.2.2.2.2.2.2.1 s.toNat 1))]).length) 48 then bif DV.c (bw (ar y.2.2.2.2.2.2.1 s.toNat 0)) (bF (ar y.2.2.2.2.2.2.1 s.toNat (1+1+1+1))) (bF (ar y.2.2.2.2.2.2.1 s.toNat (1+1+1))) (bw (ar y.2.2.2.2.2.2.1 s.toNat 1))then Lib.lt (DV.v (bw (ar y.2.2.2.2.2.2.1 s.toNat 0)) (bF (ar y.2.2.2.2.2.2.1 s.toNat (1+1+1+1))) (bF (ar y.2.2.2.2.2.2.1 s.toNat (1+1+1))) (bw (ar y.2.2.2.2.2.2.1 s.toNat 1))) λz=>bif z.2 then bif qp.c o z.1 then Lib.lt (qp.v o z.1) λα=>kr (AY.v y.2.2.2.2.2.2.2.2.2) y.1 y.2.1 y.2.2.1 y.2.2.2.1 y.2.2.2.2.1 y.2.2.2.2.2.1 y.2.2.2.2.2.2.1 y.2.2.2.2.2.2.2.1 y.2.2.2.2.2.2.2.2.1 α.1 p (aP [Ck.s,Ck.i ao,Ck.i ao,Ck.s] 0++q++aD (aP [Ck.s,Ck.i ao,Ck.i ao,Ck.s] 1) 0 [.s (bw (ar y.2.2.2.2.2.2.1 s.toNat 0)), .i .i64 (bF (ar y.2.2.2.2.2.2.1 s.toNat (1+1+1+1))), .i .i64 (bF (ar y.2.2.2.2.2.2.1 s.toNat (1+1+1))), .s (bw (ar y.2.2.2.2.2.2.1 s.toNat 1))])else aj else kr (AY.v y.2.2.2.2.2.2.2.2.2) y.1 y.2.1 y.2.2.1 y.2.2.2.1 y.2.2.2.2.1 y.2.2.2.2.2.1 y.2.2.2.2.2.2.1 y.2.2.2.2.2.2.2.1 y.2.2.2.2.2.2.2.2.1 o p (aP [Ck.s,Ck.i ao,Ck.i ao,Ck.s] 0++q++aD (aP [Ck.s,Ck.i ao,Ck.i ao,Ck.s] 1) 0 [.s (bw (ar y.2.2.2.2.2.2.1 s.toNat 0)), .i .i64 (bF (ar y.2.2.2.2.2.2.1 s.toNat (1+1+1+1))), .i .i64 (bF (ar y.2.2.2.2.2.2.1 s.toNat (1+1+1))), .s (bw (ar y.2.2.2.2.2.2.1 s.toNat 1))])else aj else aj else aj else aj else kr (AY.v y.2.2.2.2.2.2.2.2.2) y.1 y.2.1 y.2.2.1 y.2.2.2.1 y.2.2.2.2.1 y.2.2.2.2.2.1 y.2.2.2.2.2.2.1 y.2.2.2.2.2.2.2.1 y.2.2.2.2.2.2.2.2.1 o p q else kr (AY.v y.2.2.2.2.2.2.2.2.2) y.1 y.2.1 y.2.2.1 y.2.2.2.1 y.2.2.2.2.1 y.2.2.2.2.2.1 y.2.2.2.2.2.2.1 y.2.2.2.2.2.2.2.1 y.2.2.2.2.2.2.2.2.1 o p q else aj
def vo:=b λr0 r1 r2 r3 r4 r5 r6 r7 r8 r9 JN Aw UW=>ah (r0,r1,r2,r3,r4,r5,r6,r7,r8,r9,JN,Aw,UW)
def c:=λa d e f h i j l m o p q r s t u w=>(vo a d e f h i j l m o p q r s t u w).isSome
def v:=λa d e f h i j l m o p q r s t u w=>(vo a d e f h i j l m o p q r s t u w).getD (0,0,[],[],[],[],0,[],[],0,[],[],[])
theorem out{x}:∀a d e f h i j l m o p q r s t u w,vo a d e f h i j l m o p q r s t u w=ah x->c a d e f h i j l m o p q r s t u w=ai/\v a d e f h i j l m o p q r s t u w=x:=λ_ _ _ _ _ _ _ _ _ _ _ _ _ _ _ _ _=>Lib.dg
end DS

namespace DT
def b(kr:kX R)(a:aw)(d e f h:aR)(i:aw)(j l:aR)(m o:aw):aC R:=bif fP.c a d e f h i j l m then Lib.lt (fP.v a d e f h i j l m) λp=>bif vh.c a d e f h i j l m o then Lib.lt (vh.v a d e f h i j l m o) λq=>bif !q then kr p.1 p.2.1 p.2.2.1 p.2.2.2.1 p.2.2.2.2.1 p.2.2.2.2.2.1 p.2.2.2.2.2.2.1 p.2.2.2.2.2.2.2.1 p.2.2.2.2.2.2.2.2 ak else bif decide (0<=o)&&decide (o<(p.2.2.2.2.2.2.1.length:aw))then bif sL.c p.1 p.2.1 p.2.2.1 p.2.2.2.1 p.2.2.2.2.1 p.2.2.2.2.2.1 (eJ p.2.2.2.2.2.2.1 o.toNat 2 [.i .i64 3]) p.2.2.2.2.2.2.2.1 p.2.2.2.2.2.2.2.2 o 3 then Lib.lt (sL.v p.1 p.2.1 p.2.2.1 p.2.2.2.1 p.2.2.2.2.1 p.2.2.2.2.2.1 (eJ p.2.2.2.2.2.2.1 o.toNat 2 [.i .i64 3]) p.2.2.2.2.2.2.2.1 p.2.2.2.2.2.2.2.2 o 3) λr=>kr r.1 r.2.1 r.2.2.1 r.2.2.2.1 r.2.2.2.2.1 r.2.2.2.2.2.1 r.2.2.2.2.2.2.1 r.2.2.2.2.2.2.2.1 r.2.2.2.2.2.2.2.2 ai else aj else aj else aj else aj
def vo:=b λr0 r1 r2 r3 r4 r5 r6 r7 r8 r9=>ah (r0,r1,r2,r3,r4,r5,r6,r7,r8,r9)
def c:=λa d e f h i j l m o=>(vo a d e f h i j l m o).isSome
def v:=λa d e f h i j l m o=>(vo a d e f h i j l m o).getD (0,[],[],[],[],0,[],[],0,ak)
theorem out{x}:∀a d e f h i j l m o,vo a d e f h i j l m o=ah x->c a d e f h i j l m o=ai/\v a d e f h i j l m o=x:=λ_ _ _ _ _ _ _ _ _ _=>Lib.dg
end DT

namespace qK
def b(kr:ed R)(a:aw)(d e f h:aR)(i:aw)(j l:aR)(m o:aw):aC R:=bif fP.c a d e f h i j l m then bif decide (cy o 1000<0)then bif decide ((fP.v a d e f h i j l m).1>bJ (1000000000-bJ (cy o 1000+1000)))then kr 1000000000 (fP.v a d e f h i j l m).2.1 (fP.v a d e f h i j l m).2.2.1 (fP.v a d e f h i j l m).2.2.2.1 (fP.v a d e f h i j l m).2.2.2.2.1 (fP.v a d e f h i j l m).2.2.2.2.2.1 (fP.v a d e f h i j l m).2.2.2.2.2.2.1 (fP.v a d e f h i j l m).2.2.2.2.2.2.2.1 (fP.v a d e f h i j l m).2.2.2.2.2.2.2.2 else kr (bJ ((fP.v a d e f h i j l m).1+bJ (cy o 1000+1000))) (fP.v a d e f h i j l m).2.1 (fP.v a d e f h i j l m).2.2.1 (fP.v a d e f h i j l m).2.2.2.1 (fP.v a d e f h i j l m).2.2.2.2.1 (fP.v a d e f h i j l m).2.2.2.2.2.1 (fP.v a d e f h i j l m).2.2.2.2.2.2.1 (fP.v a d e f h i j l m).2.2.2.2.2.2.2.1 (fP.v a d e f h i j l m).2.2.2.2.2.2.2.2 else bif decide ((fP.v a d e f h i j l m).1>bJ (1000000000-cy o 1000))then kr 1000000000 (fP.v a d e f h i j l m).2.1 (fP.v a d e f h i j l m).2.2.1 (fP.v a d e f h i j l m).2.2.2.1 (fP.v a d e f h i j l m).2.2.2.2.1 (fP.v a d e f h i j l m).2.2.2.2.2.1 (fP.v a d e f h i j l m).2.2.2.2.2.2.1 (fP.v a d e f h i j l m).2.2.2.2.2.2.2.1 (fP.v a d e f h i j l m).2.2.2.2.2.2.2.2 else kr (bJ ((fP.v a d e f h i j l m).1+cy o 1000)) (fP.v a d e f h i j l m).2.1 (fP.v a d e f h i j l m).2.2.1 (fP.v a d e f h i j l m).2.2.2.1 (fP.v a d e f h i j l m).2.2.2.2.1 (fP.v a d e f h i j l m).2.2.2.2.2.1 (fP.v a d e f h i j l m).2.2.2.2.2.2.1 (fP.v a d e f h i j l m).2.2.2.2.2.2.2.1 (fP.v a d e f h i j l m).2.2.2.2.2.2.2.2 else aj
def vo:=b λr0 r1 r2 r3 r4 r5 r6 r7 r8=>ah (r0,r1,r2,r3,r4,r5,r6,r7,r8)
def c:=λa d e f h i j l m o=>(vo a d e f h i j l m o).isSome
def v:=λa d e f h i j l m o=>(vo a d e f h i j l m o).getD (0,[],[],[],[],0,[],[],0)
theorem out{x}:∀a d e f h i j l m o,vo a d e f h i j l m o=ah x->c a d e f h i j l m o=ai/\v a d e f h i j l m o=x:=λ_ _ _ _ _ _ _ _ _ _=>Lib.dg
end qK

namespace tl
def r4(N:aF)(g k0:gY R)(a d e:aw)(f h i j:aR)(l:aw)(m o:aR)(p q r s t u w:aw)(y z α xa xb xc:aR):aC R:=bif decide (d<(o.length:aw))then bif decide (0<=d)&&decide (d<(o.length:aw))then bif bF (ar o d.toNat 0) !=a then bif decide (0<=d)&&decide (d<(o.length:aw))then bif cw (xc.length+(aD (aP [Ck.i ao,Ck.s,Ck.i ao,Ck.i ao,Ck.i ao,Ck.s,Ck.i ao] 1) 0 [.i .i64 (bF (ar o d.toNat 0)), .s (bw (ar o d.toNat 1)), .i .i64 (bF (ar o d.toNat (1+1))), .i .i64 (bF (ar o d.toNat (1+1+1))), .i .i64 (bF (ar o d.toNat (1+1+1+1))), .s (bw (ar o d.toNat (1+1+1+1+1))), .i .i64 (bF (ar o d.toNat (1+1+1+1+1+1)))]).length) 72 then g a (bJ (d+1)) e f h i j l m o p q r s t u w y z α xa xb (xc++aD (aP [Ck.i ao,Ck.s,Ck.i ao,Ck.i ao,Ck.i ao,Ck.s,Ck.i ao] 1) 0 [.i .i64 (bF (ar o d.toNat 0)), .s (bw (ar o d.toNat 1)), .i .i64 (bF (ar o d.toNat (1+1))), .i .i64 (bF (ar o d.toNat (1+1+1))), .i .i64 (bF (ar o d.toNat (1+1+1+1))), .s (bw (ar o d.toNat (1+1+1+1+1))), .i .i64 (bF (ar o d.toNat (1+1+1+1+1+1)))])else aj else aj else g a (bJ (d+1)) e f h i j l m o p q r s t u w y z α xa xb xc else aj else k0 a d e f h i j l m o p q r s t u w y z α xa xb xc
def l4(N:aF)(k0:gY R):aF->gY R
 |0=>λ_ _ _ _ _ _ _ _ _ _ _ _ _ _ _ _ _ _ _ _ _ _ _=>aj
 |n+1=>r4 N (l4 N k0 n) k0
def b(N:aF)(kr:ed R)(a:aw)(d e f h:aR)(i:aw)(j l:aR)(m o:aw):aC R:=bif fP.c a d e f h i j l m then l4 N (λ_ _ _ _ _ _ _ _ _ _ _ _ _ _ p q r s t u w y z=>kr p s t u w q y z r) N o 0 a d e f h i j l m 0 0 0 (fP.v a d e f h i j l m).1 (fP.v a d e f h i j l m).2.2.2.2.2.1 (fP.v a d e f h i j l m).2.2.2.2.2.2.2.2 (fP.v a d e f h i j l m).2.1 (fP.v a d e f h i j l m).2.2.1 (fP.v a d e f h i j l m).2.2.2.1 (fP.v a d e f h i j l m).2.2.2.2.1 (fP.v a d e f h i j l m).2.2.2.2.2.2.1 (aP [Ck.i ao,Ck.s,Ck.i ao,Ck.i ao,Ck.i ao,Ck.s,Ck.i ao] 0)else aj
def vo:=b Lib.cU λr0 r1 r2 r3 r4 r5 r6 r7 r8=>ah (r0,r1,r2,r3,r4,r5,r6,r7,r8)
def c:=λa d e f h i j l m o=>(vo a d e f h i j l m o).isSome
def v:=λa d e f h i j l m o=>(vo a d e f h i j l m o).getD (0,[],[],[],[],0,[],[],0)
theorem out{x}:∀a d e f h i j l m o,vo a d e f h i j l m o=ah x->c a d e f h i j l m o=ai/\v a d e f h i j l m o=x:=λ_ _ _ _ _ _ _ _ _ _=>Lib.dg
end tl

namespace wX
def r5(N:aF)(g:wI R)(g1:vJ R)(k0:wI R)(k1:vJ R)(a:aR)(d:aw)(e:aR):aC R:=bif decide (d<(e.length:aw))then bif decide (0<=d)&&decide (d<(e.length:aw))then bif decide (d<(a.length:aw))then bif decide (0<=d)&&decide (d<(a.length:aw))then bif decide (bF (ar a d.toNat 0)>((bw (ar e d.toNat 1)).size:aw))then bif decide (((bw (ar e d.toNat 1)).size:aw)<bF (ar e d.toNat (1+1)))then bif g8 0 (bF (ar e d.toNat (1+1))) ((bw (ar e d.toNat 1)).size:aw)then g1 a (bJ (d+1)) e ([]++aD (aP [Ck.s,Ck.s,Ck.i ao] 1) 0 [.s (bw (ar e d.toNat 0)), .s (bO (bw (ar e d.toNat 1)) (aW 0) (bF (ar e d.toNat (1+1))).toNat), .i .i64 (bF (ar e d.toNat (1+1)))])else aj else bif g8 0 ((bw (ar e d.toNat 1)).size:aw) ((bw (ar e d.toNat 1)).size:aw)then g1 a (bJ (d+1)) e ([]++aD (aP [Ck.s,Ck.s,Ck.i ao] 1) 0 [.s (bw (ar e d.toNat 0)), .s (bO (bw (ar e d.toNat 1)) (aW 0) ((bw (ar e d.toNat 1)).size:aw).toNat), .i .i64 ((bw (ar e d.toNat 1)).size:aw)])else aj else bif decide (bF (ar a d.toNat 0)<bF (ar e d.toNat (1+1)))then bif g8 0 (bF (ar e d.toNat (1+1))) ((bw (ar e d.toNat 1)).size:aw)then g1 a (bJ (d+1)) e ([]++aD (aP [Ck.s,Ck.s,Ck.i ao] 1) 0 [.s (bw (ar e d.toNat 0)), .s (bO (bw (ar e d.toNat 1)) (aW 0) (bF (ar e d.toNat (1+1))).toNat), .i .i64 (bF (ar e d.toNat (1+1)))])else aj else bif g8 0 (bF (ar a d.toNat 0)) ((bw (ar e d.toNat 1)).size:aw)then g1 a (bJ (d+1)) e ([]++aD (aP [Ck.s,Ck.s,Ck.i ao] 1) 0 [.s (bw (ar e d.toNat 0)), .s (bO (bw (ar e d.toNat 1)) (aW 0) (bF (ar a d.toNat 0)).toNat), .i .i64 (bF (ar a d.toNat 0))])else aj else aj else bif decide (0<bF (ar e d.toNat (1+1)))then bif g8 0 (bF (ar e d.toNat (1+1))) ((bw (ar e d.toNat 1)).size:aw)then g1 a (bJ (d+1)) e ([]++aD (aP [Ck.s,Ck.s,Ck.i ao] 1) 0 [.s (bw (ar e d.toNat 0)), .s (bO (bw (ar e d.toNat 1)) (aW 0) (bF (ar e d.toNat (1+1))).toNat), .i .i64 (bF (ar e d.toNat (1+1)))])else aj else g1 a (bJ (d+1)) e ([]++aD (aP [Ck.s,Ck.s,Ck.i ao] 1) 0 [.s (bw (ar e d.toNat 0)), .s (bO (bw (ar e d.toNat 1)) (aW 0) (aW 0)), .i .i64 0])else aj else k0 a d e
def r5a(N:aF)(g:wI R)(g1:vJ R)(k0:wI R)(k1:vJ R)(a:aR)(d:aw)(e f:aR):aC R:=bif decide (d<(e.length:aw))then bif decide (0<=d)&&decide (d<(e.length:aw))then bif decide (d<(a.length:aw))then bif decide (0<=d)&&decide (d<(a.length:aw))then bif decide (bF (ar a d.toNat 0)>((bw (ar e d.toNat 1)).size:aw))then bif decide (((bw (ar e d.toNat 1)).size:aw)<bF (ar e d.toNat (1+1)))then bif g8 0 (bF (ar e d.toNat (1+1))) ((bw (ar e d.toNat 1)).size:aw)then bif cw (f.length+(aD (aP [Ck.s,Ck.s,Ck.i ao] 1) 0 [.s (bw (ar e d.toNat 0)), .s (bO (bw (ar e d.toNat 1)) (aW 0) (bF (ar e d.toNat (1+1))).toNat), .i .i64 (bF (ar e d.toNat (1+1)))]).length) 40 then g1 a (bJ (d+1)) e (f++aD (aP [Ck.s,Ck.s,Ck.i ao] 1) 0 [.s (bw (ar e d.toNat 0)), .s (bO (bw (ar e d.toNat 1)) (aW 0) (bF (ar e d.toNat (1+1))).toNat), .i .i64 (bF (ar e d.toNat (1+1)))])else aj else aj else bif g8 0 ((bw (ar e d.toNat 1)).size:aw) ((bw (ar e d.toNat 1)).size:aw)then bif cw (f.length+(aD (aP [Ck.s,Ck.s,Ck.i ao] 1) 0 [.s (bw (ar e d.toNat 0)), .s (bO (bw (ar e d.toNat 1)) (aW 0) ((bw (ar e d.toNat 1)).size:aw).toNat), .i .i64 ((bw (ar e d.toNat 1)).size:aw)]).length) 40 then g1 a (bJ (d+1)) e (f++aD (aP [Ck.s,Ck.s,Ck.i ao] 1) 0 [.s (bw (ar e d.toNat 0)), .s (bO (bw (ar e d.toNat 1)) (aW 0) ((bw (ar e d.toNat 1)).size:aw).toNat), .i .i64 ((bw (ar e d.toNat 1)).size:aw)])else aj else aj else bif decide (bF (ar a d.toNat 0)<bF (ar e d.toNat (1+1)))then bif g8 0 (bF (ar e d.toNat (1+1))) ((bw (ar e d.toNat 1)).size:aw)then bif cw (f.length+(aD (aP [Ck.s,Ck.s,Ck.i ao] 1) 0 [.s (bw (ar e d.toNat 0)), .s (bO (bw (ar e d.toNat 1)) (aW 0) (bF (ar e d.toNat (1+1))).toNat), .i .i64 (bF (ar e d.toNat (1+1)))]).length) 40 then g1 a (bJ (d+1)) e (f++aD (aP [Ck.s,Ck.s,Ck.i ao] 1) 0 [.s (bw (ar e d.toNat 0)), .s (bO (bw (ar e d.toNat 1)) (aW 0) (bF (ar e d.toNat (1+1))).toNat), .i .i64 (bF (ar e d.toNat (1+1)))])else aj else aj else bif g8 0 (bF (ar a d.toNat 0)) ((bw (ar e d.toNat 1)).size:aw)then bif cw (f.length+(aD (aP [Ck.s,Ck.s,Ck.i ao] 1) 0 [.s (bw (ar e d.toNat 0)), .s (bO (bw (ar e d.toNat 1)) (aW 0) (bF (ar a d.toNat 0)).toNat), .i .i64 (bF (ar a d.toNat 0))]).length) 40 then g1 a (bJ (d+1)) e (f++aD (aP [Ck.s,Ck.s,Ck.i ao] 1) 0 [.s (bw (ar e d.toNat 0)), .s (bO (bw (ar e d.toNat 1)) (aW 0) (bF (ar a d.toNat 0)).toNat), .i .i64 (bF (ar a d.toNat 0))])else aj else aj else aj else bif decide (0<bF (ar e d.toNat (1+1)))then bif g8 0 (bF (ar e d.toNat (1+1))) ((bw (ar e d.toNat 1)).size:aw)then bif cw (f.length+(aD (aP [Ck.s,Ck.s,Ck.i ao] 1) 0 [.s (bw (ar e d.toNat 0)), .s (bO (bw (ar e d.toNat 1)) (aW 0) (bF (ar e d.toNat (1+1))).toNat), .i .i64 (bF (ar e d.toNat (1+1)))]).length) 40 then g1 a (bJ (d+1)) e (f++aD (aP [Ck.s,Ck.s,Ck.i ao] 1) 0 [.s (bw (ar e d.toNat 0)), .s (bO (bw (ar e d.toNat 1)) (aW 0) (bF (ar e d.toNat (1+1))).toNat), .i .i64 (bF (ar e d.toNat (1+1)))])else aj else aj else bif cw (f.length+(aD (aP [Ck.s,Ck.s,Ck.i ao] 1) 0 [.s (bw (ar e d.toNat 0)), .s (bO (bw (ar e d.toNat 1)) (aW 0) (aW 0)), .i .i64 0]).length) 40 then g1 a (bJ (d+1)) e (f++aD (aP [Ck.s,Ck.s,Ck.i ao] 1) 0 [.s (bw (ar e d.toNat 0)), .s (bO (bw (ar e d.toNat 1)) (aW 0) (aW 0)), .i .i64 0])else aj else aj else k1 a d e f
def l5a(N:aF)(k0:wI R)(k1:vJ R):aF->vJ R
 |0=>λ_ _ _ _=>aj
 |n+1=>r5a N (λx0 x1 x2=>aj) (l5a N k0 k1 n) k0 k1
def l5(N:aF)(k0:wI R)(k1:vJ R):aF->wI R
 |0=>λ_ _ _=>aj
 |n+1=>r5 N (l5 N k0 k1 n) (l5a N k0 k1 n) k0 k1
def b(N:aF)(kr:DG R)(a d:aR):aC R:=bif gD.c a then bif !gD.v a then kr [] ak else l5 N (λ_ _ _=>kr [] ai) (λ_ _ _ e=>kr e ai) N d 0 a else aj
def vo:=b Lib.cU λr0 r1=>ah (r0,r1)
def c:=λa d=>(vo a d).isSome
def v:=λa d=>(vo a d).getD ([],ak)
theorem out{x}:∀a d,vo a d=ah x->c a d=ai/\v a d=x:=λ_ _=>Lib.dg
end wX

namespace v7
def b(kr:wJ R)(a:aR)(d:aq):aC R:=bif jB.c a d then bif decide (jB.v a d<0)then kr ⟨#[]⟩ ak else bif decide (0<=jB.v a d)&&decide (jB.v a d<(a.length:aw))then kr (bw (ar a (jB.v a d).toNat 1)) ai else aj else aj
def vo:=b λr0 r1=>ah (r0,r1)
def c:=λa d=>(vo a d).isSome
def v:=λa d=>(vo a d).getD (⟨#[]⟩,ak)
theorem out{x}:∀a d,vo a d=ah x->c a d=ai/\v a d=x:=λ_ _=>Lib.dg
end v7

namespace fO
def r6(N:aF)(g k0 k1:vK R)(a:aq)(d e f:aw)(h:aX)(i j l:aw):aC R:=bif decide (l<(a.size:aw))then bif decide (l<bJ (d+5))then bif decide (0<=l)&&decide (l<(a.size:aw))then bif decide (0<=l)&&decide (l<(a.size:aw))then bif decide ((↑(gQ a l.toNat):aw)<128)then bif decide (bJ (i+bJ (cy (bJ (↑(gQ a l.toNat):aw)) 128*j))>1000000000)then k0 a d 0 0 ak (bJ (i+bJ (cy (bJ (↑(gQ a l.toNat):aw)) 128*j))) (bJ (j*128)) l else bif kF.c (bJ (i+bJ (cy (bJ (↑(gQ a l.toNat):aw)) 128*j)))then bif g8 d (bJ (l+1)) (a.size:aw)then bif !List.beq (kF.v (bJ (i+bJ (cy (bJ (↑(gQ a l.toNat):aw)) 128*j)))).toList (bO a d.toNat (bJ (l+1)).toNat).toList then k0 a d 0 0 ak (bJ (i+bJ (cy (bJ (↑(gQ a l.toNat):aw)) 128*j))) (bJ (j*128)) l else k0 a d (bJ (i+bJ (cy (bJ (↑(gQ a l.toNat):aw)) 128*j))) (bJ (l+1)) ai (bJ (i+bJ (cy (bJ (↑(gQ a l.toNat):aw)) 128*j))) (bJ (j*128)) l else aj else aj else g a d e f h (bJ (i+bJ (cy (bJ (↑(gQ a l.toNat):aw)) 128*j))) (bJ (j*128)) (bJ (l+1))else aj else aj else k1 a d e f h i j l else k1 a d e f h i j l
def l6(N:aF)(k0 k1:vK R):aF->vK R
 |0=>λ_ _ _ _ _ _ _ _=>aj
 |n+1=>r6 N (l6 N k0 k1 n) k0 k1
def b(N:aF)(kr:Ml R)(a:aq)(d:aw):aC R:=bif !km.v d 0 (a.size:aw)then kr 0 0 ak else l6 N (λ_ _ e f h _ _ _=>kr e f h) (λ_ _ _ _ _ _ _ _=>kr 0 0 ak) N a d 0 0 ak 0 1 d
def v(cX:aq)(gP:aw):aw×aw×aX:=if 0<=gP/\gP<=cX.size then Lib.rv cX gP.toNat 5 0 0 else(0,0,ak)
theorem eG(kr:Ml R)(cX:aq)(gP:aw)(f0:Ec cX):∃N,b N kr cX gP=kr (v cX gP).1 (v cX gP).2.1 (v cX gP).2.2:=by
 refine⟨6, ?_⟩
 unfold b v;by_cases hn:0<=gP/\gP<=cX.size
 ·have e:km.v gP 0 (cX.size:aw)=true:=by simp[km.v,hn]
  obtain⟨a,rfl⟩:∃a:aF,gP=(a:aw):=⟨gP.toNat,by omega⟩
  have ha:a<=cX.size:=by omega
  rw[e,bz hn,Lib.dX];have hs:cX.size<=4611686018427387904:=f0;simp only[a_,ax]
  have:=Lib.g9 (λm (s:aF×aw)=>l6 6 (λy8 y9 Ki wz Mj HR OE WM=>kr Ki wz Mj) (λQO DC FH El wA Kj Kk V7=>kr 0 0 ak) m cX a 0 0 ak s.2 (128^s.1) ((a+s.1:aF):aw)) (λs=>5-s.1) (λs=>s.1<=5/\s.2=Lib.num cX a s.1/\∀i,i<s.1->128<=gQ cX (a+i))
   (λs=>kr (Lib.rv cX a (5-s.1) s.1 s.2).1 (Lib.rv cX a (5-s.1) s.1 s.2).2.1 (Lib.rv cX a (5-s.1) s.1 s.2).2.2) (λm s hs5=>by
   obtain⟨j,n⟩:=s
   obtain⟨hj,afl,hge⟩:=hs5
   dsimp only at hj afl hge⊢
   have hb:=Lib.GW cX (a+j)
   have e5:bJ ((a:aw)+5)=((a+5:aF):aw):=by rw[iI (by omega) (by omega)];omega
   by_cases gg:a+j<cX.size
   ·by_cases hj5:j<5
    ·have eb:bJ (gQ cX (a+j):aw)=(gQ cX (a+j):aw):=iI (by omega) (by omega);have em:cy (gQ cX (a+j):aw) 128=(gQ cX (a+j):aw)%128:=ir (by omega);have hp:(128:aw)^j<=268435456/\(1:aw)<=128^j/\(128:aw)^(j+1)=128^j*128:=by
      obtain rfl|rfl|rfl|rfl|rfl:j=0\/j=1\/j=2\/j=3\/j=4:=by omega
      all_goals decide
     have hrg:=Lib.BC cX j a;rw[<-afl]at hrg;have hm0:0<=(gQ cX (a+j):aw)%128/\(gQ cX (a+j):aw)%128<=127:=by omega
     have hq:0<=(gQ cX (a+j):aw)%128*128^j/\(gQ cX (a+j):aw)%128*128^j<=127*128^j:=
      ⟨Int.mul_nonneg hm0.1 (by omega),DH hm0.2 (by omega)⟩
     have eq1:bJ ((gQ cX (a+j):aw)%128*128^j)=(gQ cX (a+j):aw)%128*128^j:=iI (by omega) (by omega);have eq2:bJ (n+(gQ cX (a+j):aw)%128*128^j)=n+(gQ cX (a+j):aw)%128*128^j:=iI (by omega) (by omega);have eq3:bJ ((128:aw)^j*128)=128^(j+1):=by rw[hp.2.2];exact iI (by omega) (by omega)
     have ef:5-j=(5-(j+1))+1:=by omega
     have XY:n+(gQ cX (a+j):aw)%128*128^j=Lib.num cX a (j+1):=by rw[Lib.xV,<-afl]
     have en:bJ (((a+j:aF):aw)+1)=((a+(j+1):aF):aw):=Lib.cZ gg (by omega);have c2:decide (((a+j:aF):aw)<((a+5:aF):aw))=true:=Lib.Ni (by omega)
     have XX:Lib.rv cX a (5-j) j n=(if(gQ cX (a+j):aw)>127 then Lib.rv cX a (5-(j+1)) (j+1) (n+(gQ cX (a+j):aw)%128*128^j)
       else if(j>0/\gQ cX (a+j)=0)\/n+(gQ cX (a+j):aw)%128*128^j>1000000000 then(0,0,ak)
       else(n+(gQ cX (a+j):aw)%128*128^j,((a+j+1:aF):aw),ai)):=by
      rw[ef];simp only[Lib.rv];rw[bz gg]
     simp only[l6,r6,Lib.Ni gg,e5,c2,Lib.cE,Lib.dX,eb,em,eq1,eq2,eq3,en,au,aM];by_cases hc:(gQ cX (a+j):aw)<128
     ·left;rw[aE hc,au,XX,bH (by omega)];by_cases tK:n+(gQ cX (a+j):aw)%128*128^j>1000000000
      ·rw[aE tK,bz (.inr tK)];rfl
      ·have ec:kF.c (n+(gQ cX (a+j):aw)%128*128^j)=true:=aE (by omega);have ein:g8 (a:aw) ((a+(j+1):aF):aw) (cX.size:aw)=true:=by simp[g8];omega
       rw[aK tK,ax,ec,au,ein,au,XY];have arI:=Lib.canon cX j a (by omega) hge (by omega) (by rw[<-XY];omega);unfold kF.v;rw[arI];by_cases hz:j>0/\gQ cX (a+j)=0
       ·rw[aE hz,bz (.inl hz)];rfl
       ·rw[aK hz,bH (by rw[XY]at tK;omega)];rfl
     ·right;rw[aK hc];refine⟨(j+1,n+(gQ cX (a+j):aw)%128*128^j),⟨by dsimp only;omega,XY,λi hi=> ?_⟩,by dsimp only;omega,by dsimp only;rw[XX,bz (by omega)],rfl⟩
      by_cases Pv:i<j
      ·exact hge i Pv
      ·have:i=j:=by dsimp only at hi;omega
       subst this;omega
    ·left;have Kc:j=5:=by omega
     subst Kc;simp only[l6,r6,Lib.Ni gg,e5,Lib.Sy (bm (a+5)),au,ax];rfl
   ·left;have XX:Lib.rv cX a (5-j) j n=(0,0,ak):=by
     by_cases hj5:j<5
     ·have ef:5-j=(5-(j+1))+1:=by omega
      rw[ef];simp only[Lib.rv];rw[bH gg]
     ·rw[show 5-j=0 by omega];rfl
    simp only[l6,r6,Lib.Sy gg,ax,XX]) 6 (0,0) ⟨by dsimp only;omega,rfl,λi hi=>by dsimp only at hi;omega⟩ (by dsimp only;omega)
  exact this
 ·have e:km.v gP 0 (cX.size:aw)=false:=by simp[km.v];omega
  rw[e,bH hn];rfl
end fO

namespace HY
def r5(N:aF)(g k0 k1:mr R)(a:aq)(d e:aw)(f:aR):aC R:=bif decide (e<(a.size:aw))then bif !(fO.v a e).2.2 then k0 a e e f else bif decide ((fO.v a e).1>bJ (bJ ((a.size:aw)-(fO.v a e).2.1)-4))then k0 a e e f else bif g8 (bJ ((fO.v a e).2.1+4)) (bJ (bJ ((fO.v a e).2.1+4)+(fO.v a e).1)) (a.size:aw)then bif fJ.c (bO a (bJ ((fO.v a e).2.1+4)).toNat (bJ (bJ ((fO.v a e).2.1+4)+(fO.v a e).1)).toNat)then bif !(fJ.v (bO a (bJ ((fO.v a e).2.1+4)).toNat (bJ (bJ ((fO.v a e).2.1+4)+(fO.v a e).1)).toNat)).2 then k0 a e e f else bif g8 e (bJ (bJ ((fO.v a e).2.1+4)+(fO.v a e).1)) (a.size:aw)then bif !List.beq (fJ.v (bO a (bJ ((fO.v a e).2.1+4)).toNat (bJ (bJ ((fO.v a e).2.1+4)+(fO.v a e).1)).toNat)).1.toList (bO a e.toNat (bJ (bJ ((fO.v a e).2.1+4)+(fO.v a e).1)).toNat).toList then k0 a e e f else bif cw (f.length+(aD (aP [.s] 1) 0 [.s (bO a (bJ ((fO.v a e).2.1+4)).toNat (bJ (bJ ((fO.v a e).2.1+4)+(fO.v a e).1)).toNat)]).length) 16 then g a d (bJ (bJ ((fO.v a e).2.1+4)+(fO.v a e).1)) (f++aD (aP [.s] 1) 0 [.s (bO a (bJ ((fO.v a e).2.1+4)).toNat (bJ (bJ ((fO.v a e).2.1+4)+(fO.v a e).1)).toNat)])else aj else aj else aj else aj else k1 a d e f
def l5(N:aF)(k0 k1:mr R):aF->mr R
 |0=>λ_ _ _ _=>aj
 |n+1=>r5 N (l5 N k0 k1 n) k0 k1
def b(N:aF)(kr:s9 R)(a:aq):aC R:=bif decide ((a.size:aw)>20000)then kr (aP [.s] 0) 0 else l5 N (λ_ d _ e=>kr e d) (λ_ _ d e=>kr e d) N a 0 0 (aP [.s] 0)
def vo:=b Lib.cU λr0 r1=>ah (r0,r1)
def c:=λa=>(vo a).isSome
def v:=λa=>(vo a).getD ([],0)
theorem out{x}:∀a,vo a=ah x->c a=ai/\v a=x:=λ_=>Lib.dg
end HY

namespace qn
def b(kr:Mn R)(a:aq)(d:aw):aC R:=bif !(fO.v a d).2.2 then kr ⟨#[]⟩ 0 ak else bif decide ((fO.v a d).1>20000)then kr ⟨#[]⟩ 0 ak else bif decide ((fO.v a d).1>bJ ((a.size:aw)-(fO.v a d).2.1))then kr ⟨#[]⟩ 0 ak else bif g8 (fO.v a d).2.1 (bJ ((fO.v a d).2.1+(fO.v a d).1)) (a.size:aw)then kr (bO a (fO.v a d).2.1.toNat (bJ ((fO.v a d).2.1+(fO.v a d).1)).toNat) (bJ ((fO.v a d).2.1+(fO.v a d).1)) ai else aj
def v(cX:aq)(gP:aw):aq×aw×aX:=Lib.ic cX gP
theorem eG(kr:Mn R)(cX:aq)(gP:aw)(f0:Ec cX):b kr cX gP=kr (v cX gP).1 (v cX gP).2.1 (v cX gP).2.2:=Lib.vE f0 gP kr
end qn

namespace rM
def b(kr:wK R)(a:aq):aC R:=bif !(qn.v a 0).2.2 then kr ⟨#[]⟩ 0 0 ⟨#[]⟩ ak else bif !(fO.v a (qn.v a 0).2.1).2.2 then kr ⟨#[]⟩ 0 0 ⟨#[]⟩ ak else bif !(fO.v a (fO.v a (qn.v a 0).2.1).2.1).2.2 then kr ⟨#[]⟩ 0 0 ⟨#[]⟩ ak else bif g8 (fO.v a (fO.v a (qn.v a 0).2.1).2.1).2.1 (a.size:aw) (a.size:aw)then bif !(jM.v (qn.v a 0).1 (fO.v a (qn.v a 0).2.1).1 (fO.v a (fO.v a (qn.v a 0).2.1).2.1).1 (bO a (fO.v a (fO.v a (qn.v a 0).2.1).2.1).2.1.toNat (a.size:aw).toNat)).2 then kr ⟨#[]⟩ 0 0 ⟨#[]⟩ ak else bif !List.beq (jM.v (qn.v a 0).1 (fO.v a (qn.v a 0).2.1).1 (fO.v a (fO.v a (qn.v a 0).2.1).2.1).1 (bO a (fO.v a (fO.v a (qn.v a 0).2.1).2.1).2.1.toNat (a.size:aw).toNat)).1.toList (aA a)then kr ⟨#[]⟩ 0 0 ⟨#[]⟩ ak else kr (qn.v a 0).1 (fO.v a (qn.v a 0).2.1).1 (fO.v a (fO.v a (qn.v a 0).2.1).2.1).1 (bO a (fO.v a (fO.v a (qn.v a 0).2.1).2.1).2.1.toNat (a.size:aw).toNat) ai else aj
def no:aq×aw×aw×aq×aX:=(⟨#[]⟩,0,0,⟨#[]⟩,ak)
def v(t0:aq):aq×aw×aw×aq×aX:=
 match Lib.ic t0 0 with
 |(k,a,ai)=>(match Lib.eF t0 a with
  |(s,x,ai)=>(match Lib.eF t0 x with
   |(l,y,ai)=>if ni.v k s l (t0.extract y.toNat t0.size)=ai then(k,s,l,t0.extract y.toNat t0.size,ai)else no
   |_=>no)
  |_=>no)
 |_=>no
theorem eG(kr:wK R)(t0:aq)(f0:Ec t0):b kr t0=kr (v t0).1 (v t0).2.1 (v t0).2.2.1 (v t0).2.2.2.1 (v t0).2.2.2.2:=by
 have e1:qn.v=Lib.ic:=rfl;have e2:fO.v=Lib.eF:=rfl;unfold b v;simp only[e1,e2,Lib.dX];cases h1:Lib.ic t0 0 with
 |mk k r1=>
  obtain⟨a,ok1⟩:=r1;cases ok1 with
  |false=>rfl
  |true=>
   dsimp only;cases h2:Lib.eF t0 a with
   |mk s r2=>
    obtain⟨x,ok2⟩:=r2;cases ok2 with
    |false=>rfl
    |true=>
     dsimp only;cases h3:Lib.eF t0 x with
     |mk l r3=>
      obtain⟨y,ok3⟩:=r3;cases ok3 with
      |false=>rfl
      |true=>
       obtain⟨p1,p2,p3,p4,p5⟩:=Lib.HB h1;obtain⟨q1,q2,q3,q4,q5,q6⟩:=Lib.j7 h2;obtain⟨r1,r2,r3,r4,r5,r6⟩:=Lib.j7 h3;dsimp only;simp only[a_,ax];rw[Lib.tz (show g8 y (t0.size:aw) (t0.size:aw)=ai by simp[g8];omega)];unfold jM.v;cases hE:ni.v k s l (t0.extract y.toNat t0.size)with
       |false=>rfl
       |true=>
        have ht:jM.sV k s l (t0.extract y.toNat t0.size)=t0:=by unfold jM.sV;rw[p5,q6,Lib.xG t0 (by omega) (by omega),r6,Lib.xG t0 (by omega) (by omega),Lib.xG t0 (by omega) (by omega)];exact Lib.G0 t0
        simp only[if_true,a_,ax,ht,Lib.qM]
end rM

namespace yL
def r7(N:aF)(g k0:Et R)(a:aw)(d e:aR):aC R:=bif decide (a<(e.length:aw))then bif decide (0<=a)&&decide (a<(e.length:aw))then bif(rM.v (bw (ar e a.toNat 0))).2.2.2.2 then bif lN.c d (rM.v (bw (ar e a.toNat 0))).1 (rM.v (bw (ar e a.toNat 0))).2.1 (rM.v (bw (ar e a.toNat 0))).2.2.1 (rM.v (bw (ar e a.toNat 0))).2.2.2.1 then g (bJ (a+1)) (lN.v d (rM.v (bw (ar e a.toNat 0))).1 (rM.v (bw (ar e a.toNat 0))).2.1 (rM.v (bw (ar e a.toNat 0))).2.2.1 (rM.v (bw (ar e a.toNat 0))).2.2.2.1) e else aj else g (bJ (a+1)) d e else aj else k0 a d e
def l7(N:aF)(k0:Et R):aF->Et R
 |0=>λ_ _ _=>aj
 |n+1=>r7 N (l7 N k0 n) k0
def b(N:aF)(kr:aR->aC R)(a:aR):aC R:=bif gD.c a then bif !gD.v a then kr (aP [Ck.s,Ck.i ao,Ck.i ao,Ck.s] 0)else bif v7.c a {data:= #[ay 107,ay 101,ay 112,ay 116]}then bif HY.c (v7.v a {data:= #[ay 107,ay 101,ay 112,ay 116]}).1 then l7 N (λ_ d _=>kr d) N 0 (aP [Ck.s,Ck.i ao,Ck.i ao,Ck.s] 0) (HY.v (v7.v a {data:= #[ay 107,ay 101,ay 112,ay 116]}).1).1 else aj else aj else aj
def vo:=b Lib.cU λr0=>ah r0
def c:=λa=>(vo a).isSome
def v:=λa=>(vo a).getD ([])
theorem out{x}:∀a,vo a=ah x->c a=ai/\v a=x:=λ_=>Lib.dg
end yL

namespace jN
def r9(N:aF)(g:Bc R)(k0:H_ R)(k1:Bc R)(a:aR)(d:aX)(e:aq)(f:aw)(h:aR):aC R:=bif decide (f<(a.length:aw))then bif decide (0<=f)&&decide (f<(a.length:aw))then bif fJ.c (jM.v (bw (ar a f.toNat 0)) (bF (ar a f.toNat 1)) (bF (ar a f.toNat (1+1))) (bw (ar a f.toNat (1+1+1)))).1 then bif !(jM.v (bw (ar a f.toNat 0)) (bF (ar a f.toNat 1)) (bF (ar a f.toNat (1+1))) (bw (ar a f.toNat (1+1+1)))).2 then k0 a ak e f (aP [Ck.i ao,Ck.s,Ck.s,Ck.s] 0) h else bif !(fJ.v (jM.v (bw (ar a f.toNat 0)) (bF (ar a f.toNat 1)) (bF (ar a f.toNat (1+1))) (bw (ar a f.toNat (1+1+1)))).1).2 then k0 a ak e f (aP [Ck.i ao,Ck.s,Ck.s,Ck.s] 0) h else bif decide (e.size+(fJ.v (jM.v (bw (ar a f.toNat 0)) (bF (ar a f.toNat 1)) (bF (ar a f.toNat (1+1))) (bw (ar a f.toNat (1+1+1)))).1).1.size<=4611686018427387904)then g a d (e++(fJ.v (jM.v (bw (ar a f.toNat 0)) (bF (ar a f.toNat 1)) (bF (ar a f.toNat (1+1))) (bw (ar a f.toNat (1+1+1)))).1).1) (bJ (f+1)) h else aj else aj else aj else k1 a d e f h
def l9(N:aF)(k0:H_ R)(k1:Bc R):aF->Bc R
 |0=>λ_ _ _ _ _=>aj
 |n+1=>r9 N (l9 N k0 k1 n) k0 k1
def b(N:aF)(kr:DG R)(a d:aR):aC R:=bif gD.c a then bif !gD.v a then kr (aP [Ck.i ao,Ck.s,Ck.s,Ck.s] 0) ak else bif v7.c a {data:= #[ay 110,ay 101,ay 119]}then bif(v7.v a {data:= #[ay 110,ay 101,ay 119]}).2 then l9 N (λ_ e _ _ f _=>kr f e) (λ_ _ e _ f=>bif cw (f.length+(aD (aD (aD (aP [Ck.i ao,Ck.s,Ck.s,Ck.s] 3) 0 [.i .i64 1, .s {data:= #[ay 110,ay 101,ay 119]}, .s e, .s ⟨#[]⟩]) 1 [.i .i64 2, .s {data:= #[ay 110,ay 101,ay 119]}, .s ⟨#[]⟩, .s ⟨#[]⟩]) 2 [.i .i64 3, .s {data:= #[ay 110,ay 101,ay 119]}, .s ⟨#[]⟩, .s {data:= #[ay 107,ay 101,ay 112,ay 116]}]).length) 56 then kr (f++aD (aD (aD (aP [Ck.i ao,Ck.s,Ck.s,Ck.s] 3) 0 [.i .i64 1, .s {data:= #[ay 110,ay 101,ay 119]}, .s e, .s ⟨#[]⟩]) 1 [.i .i64 2, .s {data:= #[ay 110,ay 101,ay 119]}, .s ⟨#[]⟩, .s ⟨#[]⟩]) 2 [.i .i64 3, .s {data:= #[ay 110,ay 101,ay 119]}, .s ⟨#[]⟩, .s {data:= #[ay 107,ay 101,ay 112,ay 116]}]) ai else aj) N d ak ⟨#[]⟩ 0 (aP [Ck.i ao,Ck.s,Ck.s,Ck.s] 0++aD (aP [Ck.i ao,Ck.s,Ck.s,Ck.s] 1) 0 [.i .i64 4, .s {data:= #[ay 110,ay 101,ay 119]}, .s ⟨#[]⟩, .s ⟨#[]⟩])else l9 N (λ_ e _ _ f _=>kr f e) (λ_ _ e _ f=>bif cw (f.length+(aD (aD (aD (aP [Ck.i ao,Ck.s,Ck.s,Ck.s] 3) 0 [.i .i64 1, .s {data:= #[ay 110,ay 101,ay 119]}, .s e, .s ⟨#[]⟩]) 1 [.i .i64 2, .s {data:= #[ay 110,ay 101,ay 119]}, .s ⟨#[]⟩, .s ⟨#[]⟩]) 2 [.i .i64 3, .s {data:= #[ay 110,ay 101,ay 119]}, .s ⟨#[]⟩, .s {data:= #[ay 107,ay 101,ay 112,ay 116]}]).length) 56 then kr (f++aD (aD (aD (aP [Ck.i ao,Ck.s,Ck.s,Ck.s] 3) 0 [.i .i64 1, .s {data:= #[ay 110,ay 101,ay 119]}, .s e, .s ⟨#[]⟩]) 1 [.i .i64 2, .s {data:= #[ay 110,ay 101,ay 119]}, .s ⟨#[]⟩, .s ⟨#[]⟩]) 2 [.i .i64 3, .s {data:= #[ay 110,ay 101,ay 119]}, .s ⟨#[]⟩, .s {data:= #[ay 107,ay 101,ay 112,ay 116]}]) ai else aj) N d ak ⟨#[]⟩ 0 (aP [Ck.i ao,Ck.s,Ck.s,Ck.s] 0)else aj else aj
def vo:=b Lib.cU λr0 r1=>ah (r0,r1)
def c:=λa d=>(vo a d).isSome
def v:=λa d=>(vo a d).getD ([],ak)
theorem out{x}:∀a d,vo a d=ah x->c a d=ai/\v a d=x:=λ_ _=>Lib.dg
end jN

namespace Ae
def r4(N:aF)(g k0:mT R)(a:aw)(d:aR)(e f h i j l m:aw)(o p q r s t:aR):aC R:=bif decide (e<(d.length:aw))then bif decide (0<=e)&&decide (e<(d.length:aw))then bif ni.v (bw (ar d e.toNat 0)) (bF (ar d e.toNat 1)) (bF (ar d e.toNat (1+1))) (bw (ar d e.toNat (1+1+1)))then bif decide (0<=e)&&decide (e<(d.length:aw))then bif vT.v (bw (ar d e.toNat 0)) (bF (ar d e.toNat 1)) (bF (ar d e.toNat (1+1))) (bw (ar d e.toNat (1+1+1))) a then bif decide (0<=e)&&decide (e<(d.length:aw))then bif OV.c j o p q r l s t m (bw (ar d e.toNat 0)) (bF (ar d e.toNat 1)) (bF (ar d e.toNat (1+1))) (bw (ar d e.toNat (1+1+1)))then Lib.lt (OV.v j o p q r l s t m (bw (ar d e.toNat 0)) (bF (ar d e.toNat 1)) (bF (ar d e.toNat (1+1))) (bw (ar d e.toNat (1+1+1)))) λu=>g a d (bJ (e+1)) f h i u.1 u.2.2.2.2.2.1 u.2.2.2.2.2.2.2.2 u.2.1 u.2.2.1 u.2.2.2.1 u.2.2.2.2.1 u.2.2.2.2.2.2.1 u.2.2.2.2.2.2.2.1 else aj else aj else g a d (bJ (e+1)) f h i j l m o p q r s t else aj else g a d (bJ (e+1)) f h i j l m o p q r s t else aj else k0 a d e f h i j l m o p q r s t
def l4(N:aF)(k0:mT R):aF->mT R
 |0=>λ_ _ _ _ _ _ _ _ _ _ _ _ _ _ _=>aj
 |n+1=>r4 N (l4 N k0 n) k0
def b(N:aF)(kr:ed R)(a:aw)(d:aR):aC R:=l4 N (λ_ _ _ _ _ _ e f h i j l m o p=>kr e i j l m f o p h) N a d 0 0 0 0 a 0 0 [] [] [] ([]++aD (aP [Ck.l 3] 1) 0 [CV.l 3 (aP [Ck.i ao] (aW 16))]++aD (aP [Ck.l 3] 1) 0 [CV.l 3 (aP [Ck.i ao] (aW 16))]++aD (aP [Ck.l 3] 1) 0 [CV.l 3 (aP [Ck.i ao] (aW 16))]) [] []
def vo:=b Lib.cU λr0 r1 r2 r3 r4 r5 r6 r7 r8=>ah (r0,r1,r2,r3,r4,r5,r6,r7,r8)
def c:=λa d=>(vo a d).isSome
def v:=λa d=>(vo a d).getD (0,[],[],[],[],0,[],[],0)
theorem out{x}:∀a d,vo a d=ah x->c a d=ai/\v a d=x:=λ_ _=>Lib.dg
end Ae

namespace wT
def r7(N:aF)(g g1 k0 k1:gF R)(a d e f:aw)(h i j l m o p q r s t:aR):aC R:=bif decide (a<(h.length:aw))then bif decide (0<=a)&&decide (a<(h.length:aw))then bif vT.v (bw (ar h a.toNat 0)) (bF (ar h a.toNat 1)) (bF (ar h a.toNat (1+1))) (bw (ar h a.toNat (1+1+1))) d then bif decide (0<=a)&&decide (a<(h.length:aw))then bif cw (i.length+(aD (aP [Ck.s,Ck.i ao,Ck.i ao,Ck.s] 1) 0 [.s (bw (ar h a.toNat 0)), .i .i64 (bF (ar h a.toNat 1)), .i .i64 (bF (ar h a.toNat (1+1))), .s (bw (ar h a.toNat (1+1+1)))]).length) 48 then g (bJ (a+1)) d e f h (i++aD (aP [Ck.s,Ck.i ao,Ck.i ao,Ck.s] 1) 0 [.s (bw (ar h a.toNat 0)), .i .i64 (bF (ar h a.toNat 1)), .i .i64 (bF (ar h a.toNat (1+1))), .s (bw (ar h a.toNat (1+1+1)))]) j l m o p q r s t else aj else aj else g (bJ (a+1)) d e f h i j l m o p q r s t else aj else k0 a d e f h i j l m o p q r s t
def r7a(N:aF)(g g1 k0 k1:gF R)(a d e f:aw)(h i j l m o p q r s t:aR):aC R:=bif decide (a<(h.length:aw))then bif decide (0<=a)&&decide (a<(h.length:aw))then bif vT.v (bw (ar h a.toNat 0)) (bF (ar h a.toNat 1)) (bF (ar h a.toNat (1+1))) (bw (ar h a.toNat (1+1+1))) d then bif decide (0<=a)&&decide (a<(h.length:aw))then bif cw (i.length+(aD (aP [Ck.s,Ck.i ao,Ck.i ao,Ck.s] 1) 0 [.s (bw (ar h a.toNat 0)), .i .i64 (bF (ar h a.toNat 1)), .i .i64 (bF (ar h a.toNat (1+1))), .s (bw (ar h a.toNat (1+1+1)))]).length) 48 then g1 (bJ (a+1)) d e f h (i++aD (aP [Ck.s,Ck.i ao,Ck.i ao,Ck.s] 1) 0 [.s (bw (ar h a.toNat 0)), .i .i64 (bF (ar h a.toNat 1)), .i .i64 (bF (ar h a.toNat (1+1))), .s (bw (ar h a.toNat (1+1+1)))]) j l m o p q r s t else aj else aj else g1 (bJ (a+1)) d e f h i j l m o p q r s t else aj else k1 a d e f h i j l m o p q r s t
def l7a(N:aF)(k0 k1:gF R):aF->gF R
 |0=>λ_ _ _ _ _ _ _ _ _ _ _ _ _ _ _=>aj
 |n+1=>r7a N (λx2 x3 x4 x5 x6 x7 x8 x9 WH WI HO WJ x14 WK WL=>aj) (l7a N k0 k1 n) k0 k1
def l7(N:aF)(k0 k1:gF R):aF->gF R
 |0=>λ_ _ _ _ _ _ _ _ _ _ _ _ _ _ _=>aj
 |n+1=>r7 N (l7 N k0 k1 n) (l7a N k0 k1 n) k0 k1
def b(N:aF)(kr:kI R)(a:aw)(d e f h:aR)(i:aw)(j l:aR)(m:aw)(o p q:aR)(r s:aw)(t:aq)(u:aw)(w:aR):aC R:=bif wX.c o w then Lib.lt (wX.v o w) λy=>bif y.2 then bif yL.c y.1 then Lib.lt (yL.v y.1) λz=>l7 N (λ_ α _ _ _ xa _ _ _ _ _ _ xb xc xd=>bif jN.c xb xa then Lib.lt (jN.v xb xa) λxe=>bif xe.2 then bif qp.c xb xe.1 then Lib.lt (qp.v xb xe.1) λxf=>bif Ae.c α xa then Lib.lt (Ae.v α xa) λxg=>kr xg.1 xg.2.1 xg.2.2.1 xg.2.2.2.1 xg.2.2.2.2.1 xg.2.2.2.2.2.1 xg.2.2.2.2.2.2.1 xg.2.2.2.2.2.2.2.1 xg.2.2.2.2.2.2.2.2 xf.1 xc xd else aj else aj else bif Ae.c α xa then Lib.lt (Ae.v α xa) λxf=>kr xf.1 xf.2.1 xf.2.2.1 xf.2.2.2.1 xf.2.2.2.2.1 xf.2.2.2.2.2.1 xf.2.2.2.2.2.2.1 xf.2.2.2.2.2.2.2.1 xf.2.2.2.2.2.2.2.2 xb xc xd else aj else aj) (λ_ α _ _ _ xa _ _ _ _ _ _ xb xc xd=>bif jN.c xb xa then Lib.lt (jN.v xb xa) λxe=>bif xe.2 then bif qp.c xb xe.1 then Lib.lt (qp.v xb xe.1) λxf=>bif Ae.c α xa then Lib.lt (Ae.v α xa) λxg=>kr xg.1 xg.2.1 xg.2.2.1 xg.2.2.2.1 xg.2.2.2.2.1 xg.2.2.2.2.2.1 xg.2.2.2.2.2.2.1 xg.2.2.2.2.2.2.2.1 xg.2.2.2.2.2.2.2.2 xf.1 xc xd else aj else aj else bif Ae.c α xa then Lib.lt (Ae.v α xa) λxf=>kr xf.1 xf.2.1 xf.2.2.1 xf.2.2.2.1 xf.2.2.2.2.1 xf.2.2.2.2.2.1 xf.2.2.2.2.2.2.1 xf.2.2.2.2.2.2.2.1 xf.2.2.2.2.2.2.2.2 xb xc xd else aj else aj) N 0 a i m z (aP [Ck.s,Ck.i ao,Ck.i ao,Ck.s] 0) d e f h j l y.1 p q else aj else bif yL.c o then Lib.lt (yL.v o) λz=>l7a N (λ_ α _ _ _ xa _ _ _ _ _ _ xb xc xd=>bif jN.c xb xa then Lib.lt (jN.v xb xa) λxe=>bif xe.2 then bif qp.c xb xe.1 then Lib.lt (qp.v xb xe.1) λxf=>bif Ae.c α xa then Lib.lt (Ae.v α xa) λxg=>kr xg.1 xg.2.1 xg.2.2.1 xg.2.2.2.1 xg.2.2.2.2.1 xg.2.2.2.2.2.1 xg.2.2.2.2.2.2.1 xg.2.2.2.2.2.2.2.1 xg.2.2.2.2.2.2.2.2 xf.1 xc xd else aj else aj else bif Ae.c α xa then Lib.lt (Ae.v α xa) λxf=>kr xf.1 xf.2.1 xf.2.2.1 xf.2.2.2.1 xf.2.2.2.2.1 xf.2.2.2.2.2.1 xf.2.2.2.2.2.2.1 xf.2.2.2.2.2.2.2.1 xf.2.2.2.2.2.2.2.2 xb xc xd else aj else aj) (λ_ α _ _ _ xa _ _ _ _ _ _ xb xc xd=>bif jN.c xb xa then Lib.lt (jN.v xb xa) λxe=>bif xe.2 then bif qp.c xb xe.1 then Lib.lt (qp.v xb xe.1) λxf=>bif Ae.c α xa then Lib.lt (Ae.v α xa) λxg=>kr xg.1 xg.2.1 xg.2.2.1 xg.2.2.2.1 xg.2.2.2.2.1 xg.2.2.2.2.2.1 xg.2.2.2.2.2.2.1 xg.2.2.2.2.2.2.2.1 xg.2.2.2.2.2.2.2.2 xf.1 xc xd else aj else aj else bif Ae.c α xa then Lib.lt (Ae.v α xa) λxf=>kr xf.1 xf.2.1 xf.2.2.1 xf.2.2.2.1 xf.2.2.2.2.1 xf.2.2.2.2.2.1 xf.2.2.2.2.2.2.1 xf.2.2.2.2.2.2.2.1 xf.2.2.2.2.2.2.2.2 xb xc xd else aj else aj) N 0 a i m z (aP [Ck.s,Ck.i ao,Ck.i ao,Ck.s] 0) d e f h j l o p q else aj else aj
def vo:=b Lib.cU λr0 r1 r2 r3 r4 r5 r6 r7 r8 r9 JN Aw=>ah (r0,r1,r2,r3,r4,r5,r6,r7,r8,r9,JN,Aw)
def c:=λa d e f h i j l m o p q r s t u w=>(vo a d e f h i j l m o p q r s t u w).isSome
def v:=λa d e f h i j l m o p q r s t u w=>(vo a d e f h i j l m o p q r s t u w).getD (0,[],[],[],[],0,[],[],0,[],[],[])
theorem out{x}:∀a d e f h i j l m o p q r s t u w,vo a d e f h i j l m o p q r s t u w=ah x->c a d e f h i j l m o p q r s t u w=ai/\v a d e f h i j l m o p q r s t u w=x:=λ_ _ _ _ _ _ _ _ _ _ _ _ _ _ _ _ _=>Lib.dg
end wT

namespace DN
def b(kr:mc R)(a:aw)(d e f h:aR)(i:aw)(j l:aR)(m:aw)(o p q:aR)(r s:aw)(t:aq)(u:aw)(w:aR):aC R:=bif decide (r=1)then bif wS.c a d e f h i j l m s t then Lib.lt (wS.v a d e f h i j l m s t) λy=>kr y.2.2.2.2.2.2.2.2.2 y.1 y.2.1 y.2.2.1 y.2.2.2.1 y.2.2.2.2.1 y.2.2.2.2.2.1 y.2.2.2.2.2.2.1 y.2.2.2.2.2.2.2.1 y.2.2.2.2.2.2.2.2.1 o p q else aj else bif decide (r=2)then bif DR.c a d e f h i j l m s t then Lib.lt (DR.v a d e f h i j l m s t) λy=>kr (AY.v y.2.2.2.2.2.2.2.2.2) y.1 y.2.1 y.2.2.1 y.2.2.2.1 y.2.2.2.2.1 y.2.2.2.2.2.1 y.2.2.2.2.2.2.1 y.2.2.2.2.2.2.2.1 y.2.2.2.2.2.2.2.2.1 o p q else aj else bif decide (r=3)then bif DS.c a d e f h i j l m o p q r s t u w then Lib.lt (DS.v a d e f h i j l m o p q r s t u w) λy=>kr y.1 y.2.1 y.2.2.1 y.2.2.2.1 y.2.2.2.2.1 y.2.2.2.2.2.1 y.2.2.2.2.2.2.1 y.2.2.2.2.2.2.2.1 y.2.2.2.2.2.2.2.2.1 y.2.2.2.2.2.2.2.2.2.1 y.2.2.2.2.2.2.2.2.2.2.1 y.2.2.2.2.2.2.2.2.2.2.2.1 y.2.2.2.2.2.2.2.2.2.2.2.2 else aj else bif decide (r=4)then bif DT.c a d e f h i j l m s then Lib.lt (DT.v a d e f h i j l m s) λy=>kr (AY.v y.2.2.2.2.2.2.2.2.2) y.1 y.2.1 y.2.2.1 y.2.2.2.1 y.2.2.2.2.1 y.2.2.2.2.2.1 y.2.2.2.2.2.2.1 y.2.2.2.2.2.2.2.1 y.2.2.2.2.2.2.2.2.1 o p q else aj else bif decide (r=5)then bif qK.c a d e f h i j l m u then Lib.lt (qK.v a d e f h i j l m u) λy=>kr 0 y.1 y.2.1 y.2.2.1 y.2.2.2.1 y.2.2.2.2.1 y.2.2.2.2.2.1 y.2.2.2.2.2.2.1 y.2.2.2.2.2.2.2.1 y.2.2.2.2.2.2.2.2 o p q else aj else bif decide (r=6)then bif tl.c a d e f h i j l m s then Lib.lt (tl.v a d e f h i j l m s) λy=>kr (AY.v (decide ((y.2.2.2.2.2.2.2.1.length:aw)<(l.length:aw)))) y.1 y.2.1 y.2.2.1 y.2.2.2.1 y.2.2.2.2.1 y.2.2.2.2.2.1 y.2.2.2.2.2.2.1 y.2.2.2.2.2.2.2.1 y.2.2.2.2.2.2.2.2 o p q else aj else bif decide (r=7)then bif wT.c a d e f h i j l m o p q r s t u w then Lib.lt (wT.v a d e f h i j l m o p q r s t u w) λy=>kr 0 y.1 y.2.1 y.2.2.1 y.2.2.2.1 y.2.2.2.2.1 y.2.2.2.2.2.1 y.2.2.2.2.2.2.1 y.2.2.2.2.2.2.2.1 y.2.2.2.2.2.2.2.2.1 y.2.2.2.2.2.2.2.2.2.1 y.2.2.2.2.2.2.2.2.2.2.1 y.2.2.2.2.2.2.2.2.2.2.2 else aj else kr 0 a d e f h i j l m o p q
def vo:=b λr0 r1 r2 r3 r4 r5 r6 r7 r8 r9 JN Aw UW=>ah (r0,r1,r2,r3,r4,r5,r6,r7,r8,r9,JN,Aw,UW)
def c:=λa d e f h i j l m o p q r s t u w=>(vo a d e f h i j l m o p q r s t u w).isSome
def v:=λa d e f h i j l m o p q r s t u w=>(vo a d e f h i j l m o p q r s t u w).getD (0,0,[],[],[],[],0,[],[],0,[],[],[])
theorem out{x}:∀a d e f h i j l m o p q r s t u w,vo a d e f h i j l m o p q r s t u w=ah x->c a d e f h i j l m o p q r s t u w=ai/\v a d e f h i j l m o p q r s t u w=x:=λ_ _ _ _ _ _ _ _ _ _ _ _ _ _ _ _ _=>Lib.dg
end DN

namespace Ka
def b(kr:kI R)(a:aw)(d e f h:aR)(i:aw)(j l:aR)(m:aw)(o p q:aR)(r s:aw)(t:aq)(u:aw)(w:aR):aC R:=bif DN.c a d e f h i j l m o p q r s t u w then Lib.lt (DN.v a d e f h i j l m o p q r s t u w) λy=>bif cw ((aP [Ck.i ao] 0).length+y.2.2.2.2.2.2.2.2.2.2.2.1.length) 8 then bif cw ((aP [Ck.i ao] 0++y.2.2.2.2.2.2.2.2.2.2.2.1).length+(aD (aP [Ck.i ao] 1) 0 [.i .i64 y.1]).length) 8 then kr y.2.1 y.2.2.1 y.2.2.2.1 y.2.2.2.2.1 y.2.2.2.2.2.1 y.2.2.2.2.2.2.1 y.2.2.2.2.2.2.2.1 y.2.2.2.2.2.2.2.2.1 y.2.2.2.2.2.2.2.2.2.1 y.2.2.2.2.2.2.2.2.2.2.1 (aP [Ck.i ao] 0++y.2.2.2.2.2.2.2.2.2.2.2.1++aD (aP [Ck.i ao] 1) 0 [.i .i64 y.1]) y.2.2.2.2.2.2.2.2.2.2.2.2 else aj else aj else aj
def vo:=b λr0 r1 r2 r3 r4 r5 r6 r7 r8 r9 JN Aw=>ah (r0,r1,r2,r3,r4,r5,r6,r7,r8,r9,JN,Aw)
def c:=λa d e f h i j l m o p q r s t u w=>(vo a d e f h i j l m o p q r s t u w).isSome
def v:=λa d e f h i j l m o p q r s t u w=>(vo a d e f h i j l m o p q r s t u w).getD (0,[],[],[],[],0,[],[],0,[],[],[])
theorem out{x}:∀a d e f h i j l m o p q r s t u w,vo a d e f h i j l m o p q r s t u w=ah x->c a d e f h i j l m o p q r s t u w=ai/\v a d e f h i j l m o p q r s t u w=x:=λ_ _ _ _ _ _ _ _ _ _ _ _ _ _ _ _ _=>Lib.dg
end Ka

namespace Qx
def r7(N:aF)(g k0:kH R)(a d:aw)(e:aR)(f h i j l:aw)(m o p q r s t u w y:aR):aC R:=bif decide (d<a)then bif KF.c e f h i o p q r j s t l u w y then Lib.lt (KF.v e f h i o p q r j s t l u w y) λz=>bif HZ.c z.2.2.2.2.2.1 z.2.2.2.2.2.2.1 z.2.2.2.2.2.2.2.1 24 then Lib.lt (HZ.v z.2.2.2.2.2.1 z.2.2.2.2.2.2.1 z.2.2.2.2.2.2.2.1 24) λα=>bif α.1 then bif nE.c α.2.1 α.2.2.1 α.2.2.2 60 then Lib.lt (nE.v α.2.1 α.2.2.1 α.2.2.2 60) λxa=>bif Ka.c i z.2.2.2.2.2.2.2.2.1 z.2.2.2.2.2.2.2.2.2.1 z.2.2.2.2.2.2.2.2.2.2.1 z.2.2.2.2.2.2.2.2.2.2.2.1 j z.2.2.2.2.2.2.2.2.2.2.2.2.1 z.2.2.2.2.2.2.2.2.2.2.2.2.2.1 l z.2.2.2.2.2.2.2.2.2.2.2.2.2.2.1 z.2.2.2.2.2.2.2.2.2.2.2.2.2.2.2.1 z.2.2.2.2.2.2.2.2.2.2.2.2.2.2.2.2 7 0 ⟨#[]⟩ 0 (aD (aP [Ck.i ao] 1) 0 [.i .i64 xa.1])then Lib.lt (Ka.v i z.2.2.2.2.2.2.2.2.1 z.2.2.2.2.2.2.2.2.2.1 z.2.2.2.2.2.2.2.2.2.2.1 z.2.2.2.2.2.2.2.2.2.2.2.1 j z.2.2.2.2.2.2.2.2.2.2.2.2.1 z.2.2.2.2.2.2.2.2.2.2.2.2.2.1 l z.2.2.2.2.2.2.2.2.2.2.2.2.2.2.1 z.2.2.2.2.2.2.2.2.2.2.2.2.2.2.2.1 z.2.2.2.2.2.2.2.2.2.2.2.2.2.2.2.2 7 0 ⟨#[]⟩ 0 (aD (aP [Ck.i ao] 1) 0 [.i .i64 xa.1])) λxb=>bif cw (m.length+(aD (aP [Ck.i ao,Ck.i ao,Ck.s,Ck.i ao,Ck.l 3] 1) 0 [.i .i64 7, .i .i64 0, .s ⟨#[]⟩, .i .i64 0,CV.l 3 (aD (aP [Ck.i ao] 1) 0 [.i .i64 xa.1])]).length) 64 then g a (bJ (d+1)) xa.2.1 xa.2.2.1 xa.2.2.2 xb.1 xb.2.2.2.2.2.1 xb.2.2.2.2.2.2.2.2.1 (m++aD (aP [Ck.i ao,Ck.i ao,Ck.s,Ck.i ao,Ck.l 3] 1) 0 [.i .i64 7, .i .i64 0, .s ⟨#[]⟩, .i .i64 0,CV.l 3 (aD (aP [Ck.i ao] 1) 0 [.i .i64 xa.1])]) xb.2.1 xb.2.2.1 xb.2.2.2.1 xb.2.2.2.2.1 xb.2.2.2.2.2.2.1 xb.2.2.2.2.2.2.2.1 xb.2.2.2.2.2.2.2.2.2.1 xb.2.2.2.2.2.2.2.2.2.2.1 xb.2.2.2.2.2.2.2.2.2.2.2 else aj else aj else aj else bif Ka.c i z.2.2.2.2.2.2.2.2.1 z.2.2.2.2.2.2.2.2.2.1 z.2.2.2.2.2.2.2.2.2.2.1 z.2.2.2.2.2.2.2.2.2.2.2.1 j z.2.2.2.2.2.2.2.2.2.2.2.2.1 z.2.2.2.2.2.2.2.2.2.2.2.2.2.1 l z.2.2.2.2.2.2.2.2.2.2.2.2.2.2.1 z.2.2.2.2.2.2.2.2.2.2.2.2.2.2.2.1 z.2.2.2.2.2.2.2.2.2.2.2.2.2.2.2.2 z.1 z.2.1 z.2.2.1 z.2.2.2.1 z.2.2.2.2.1 then Lib.lt (Ka.v i z.2.2.2.2.2.2.2.2.1 z.2.2.2.2.2.2.2.2.2.1 z.2.2.2.2.2.2.2.2.2.2.1 z.2.2.2.2.2.2.2.2.2.2.2.1 j z.2.2.2.2.2.2.2.2.2.2.2.2.1 z.2.2.2.2.2.2.2.2.2.2.2.2.2.1 l z.2.2.2.2.2.2.2.2.2.2.2.2.2.2.1 z.2.2.2.2.2.2.2.2.2.2.2.2.2.2.2.1 z.2.2.2.2.2.2.2.2.2.2.2.2.2.2.2.2 z.1 z.2.1 z.2.2.1 z.2.2.2.1 z.2.2.2.2.1) λxa=>bif cw (m.length+(aD (aP [Ck.i ao,Ck.i ao,Ck.s,Ck.i ao,Ck.l 3] 1) 0 [.i .i64 z.1, .i .i64 z.2.1, .s z.2.2.1, .i .i64 z.2.2.2.1,CV.l 3 z.2.2.2.2.1]).length) 64 then g a (bJ (d+1)) α.2.1 α.2.2.1 α.2.2.2 xa.1 xa.2.2.2.2.2.1 xa.2.2.2.2.2.2.2.2.1 (m++aD (aP [Ck.i ao,Ck.i ao,Ck.s,Ck.i ao,Ck.l 3] 1) 0 [.i .i64 z.1, .i .i64 z.2.1, .s z.2.2.1, .i .i64 z.2.2.2.1,CV.l 3 z.2.2.2.2.1]) xa.2.1 xa.2.2.1 xa.2.2.2.1 xa.2.2.2.2.1 xa.2.2.2.2.2.2.1 xa.2.2.2.2.2.2.2.1 xa.2.2.2.2.2.2.2.2.2.1 xa.2.2.2.2.2.2.2.2.2.2.1 xa.2.2.2.2.2.2.2.2.2.2.2 else aj else aj else aj else aj else k0 a d e f h i j l m o p q r s t u w y
def l7(N:aF)(k0:kH R):aF->kH R
 |0=>λ_ _ _ _ _ _ _ _ _ _ _ _ _ _ _ _ _ _=>aj
 |n+1=>r7 N (l7 N k0 n) k0
def b(N:aF)(kr:QY R)(a:aR)(d e:aw)(f:aR):aC R:=bif decide (bJ (20+bJ (cQ (f.length:aw) 6))>65)then l7 N (λ_ _ h i j _ _ _ l _ _ _ _ _ _ _ _ _=>kr l h i j) N 65 0 a d e 1 0 0 (aP [Ck.i ao,Ck.i ao,Ck.s,Ck.i ao,Ck.l 3] 0) [] [] [] ([]++aD (aP [Ck.l 3] 1) 0 [CV.l 3 (aP [Ck.i ao] (aW 16))]++aD (aP [Ck.l 3] 1) 0 [CV.l 3 (aP [Ck.i ao] (aW 16))]++aD (aP [Ck.l 3] 1) 0 [CV.l 3 (aP [Ck.i ao] (aW 16))]) [] [] [] [] []else l7 N (λ_ _ h i j _ _ _ l _ _ _ _ _ _ _ _ _=>kr l h i j) N (bJ (20+bJ (cQ (f.length:aw) 6))) 0 a d e 1 0 0 (aP [Ck.i ao,Ck.i ao,Ck.s,Ck.i ao,Ck.l 3] 0) [] [] [] ([]++aD (aP [Ck.l 3] 1) 0 [CV.l 3 (aP [Ck.i ao] (aW 16))]++aD (aP [Ck.l 3] 1) 0 [CV.l 3 (aP [Ck.i ao] (aW 16))]++aD (aP [Ck.l 3] 1) 0 [CV.l 3 (aP [Ck.i ao] (aW 16))]) [] [] [] [] []
def vo:=b Lib.cU λr0 r1 r2 r3=>ah (r0,r1,r2,r3)
def c:=λa d e f=>(vo a d e f).isSome
def v:=λa d e f=>(vo a d e f).getD ([],[],0,0)
theorem out{x}:∀a d e f,vo a d e f=ah x->c a d e f=ai/\v a d e f=x:=λ_ _ _ _=>Lib.dg
end Qx

namespace U9
def b(kr:aR->aC R)(a:aR):aC R:=bif KD.c a then Lib.lt (KD.v a) λd=>bif Qx.c d.1 d.2.1 d.2.2 a then Lib.lt (Qx.v d.1 d.2.1 d.2.2 a) λe=>kr e.1 else aj else aj
def vo:=b λr0=>ah r0
def c:=λa=>(vo a).isSome
def v:=λa=>(vo a).getD ([])
theorem out{x}:∀a,vo a=ah x->c a=ai/\v a=x:=λ_=>Lib.dg
end U9

namespace M0
def r5(N:aF)(g k0:wF R)(a:aw)(d:aR)(e f:aw)(h:aR):aC R:=bif decide (a<12)then bif nE.c d e f 10000 then Lib.lt (nE.v d e f 10000) λi=>bif cw (h.length+(aD (aP [Ck.i ao] 1) 0 [.i .i64 i.1]).length) 8 then g (bJ (a+1)) i.2.1 i.2.2.1 i.2.2.2 (h++aD (aP [Ck.i ao] 1) 0 [.i .i64 i.1])else aj else aj else k0 a d e f h
def l5(N:aF)(k0:wF R):aF->wF R
 |0=>λ_ _ _ _ _=>aj
 |n+1=>r5 N (l5 N k0 n) k0
def b(N:aF)(kr:aR->aC R)(a:aR):aC R:=bif KD.c a then Lib.lt (KD.v a) λd=>bif dt.c d.1 d.2.1 d.2.2 then Lib.lt (dt.v d.1 d.2.1 d.2.2) λe=>l5 N (λ_ _ _ _ f=>kr f) N 0 e.2.1 e.2.2.1 e.2.2.2 (aP [Ck.i ao] 0)else aj else aj
def vo:=b Lib.cU λr0=>ah r0
def c:=λa=>(vo a).isSome
def v:=λa=>(vo a).getD ([])
theorem out{x}:∀a,vo a=ah x->c a=ai/\v a=x:=λ_=>Lib.dg
end M0

namespace lB
def b(kr:aX->aC R)(a d e:aw):aC R:=bif decide (a≥d)then kr (decide (a<=e))else kr ak
def v(a0 a1 a2:aw):aX:=bif decide (a0≥a1)then decide (a0<=a2)else ak
theorem eG(kr:aX->aC R)(a0 a1 a2:aw):b kr a0 a1 a2=kr (v a0 a1 a2):=by first|rfl|(unfold b v;simp only[cL];(repeat' split)<;>rfl)
end lB

namespace U31
def b(kr:aX->aC R)(a d:aw)(e:aq)(f:aw)(h:aR):aC R:=bif lB.v a 1 7 then bif lB.v d 0 30 then bif decide ((e.size:aw)<=60)then bif decide (f≥0)then kr (decide ((h.length:aw)<=4))else kr ak else kr ak else kr ak else kr ak
def v(a0 a1:aw)(a2:aq)(a3:aw)(a4:aR):aX:=bif lB.v a0 1 7 then bif lB.v a1 0 30 then bif decide ((a2.size:aw)<=60)then bif decide (a3≥0)then decide ((a4.length:aw)<=4)else ak else ak else ak else ak
theorem eG(kr:aX->aC R)(a0 a1:aw)(a2:aq)(a3:aw)(a4:aR):b kr a0 a1 a2 a3 a4=kr (v a0 a1 a2 a3 a4):=by first|rfl|(unfold b v;simp only[cL];(repeat' split)<;>rfl)
end U31

namespace GK
def r3(N:aF)(g:lQ R)(g1:iZ R)(k0:lQ R)(k1:iZ R)(a d e:aw):aC R:=bif decide (a<3)then g1 (bJ (a+1)) d e ([]++aD (aP [Ck.l 3] 1) 0 [CV.l 3 (aP [Ck.i ao] (aW 16))])else k0 a d e
def zQ(N:aF)(g:lQ R)(g1:iZ R)(k0:lQ R)(k1:iZ R)(a d e:aw)(f:aR):aC R:=bif decide (a<3)then bif cw (f.length+(aD (aP [Ck.l 3] 1) 0 [CV.l 3 (aP [Ck.i ao] (aW 16))]).length) 24 then g1 (bJ (a+1)) d e (f++aD (aP [Ck.l 3] 1) 0 [CV.l 3 (aP [Ck.i ao] (aW 16))])else aj else k1 a d e f
def sO(N:aF)(k0:lQ R)(k1:iZ R):aF->iZ R
 |0=>λ_ _ _ _=>aj
 |n+1=>zQ N (λx0 x1 x2=>aj) (sO N k0 k1 n) k0 k1
def l3(N:aF)(k0:lQ R)(k1:iZ R):aF->lQ R
 |0=>λ_ _ _=>aj
 |n+1=>r3 N (l3 N k0 k1 n) (sO N k0 k1 n) k0 k1
def b(N:aF)(kr:s9 R):aC R:=l3 N (λ_ _ a=>kr [] a) (λ_ _ a d=>kr d a) N 0 0 0
def vo:=b Lib.cU λr0 r1=>ah (r0,r1)
def c:=vo.isSome
def v:=vo.getD ([],0)
end GK

namespace U95
def b(kr:s_ R):aC R:=kr [] [] ([]++aD (aP [Ck.l 3] 1) 0 [CV.l 3 (aP [Ck.i ao] (aW 16))]++aD (aP [Ck.l 3] 1) 0 [CV.l 3 (aP [Ck.i ao] (aW 16))]++aD (aP [Ck.l 3] 1) 0 [CV.l 3 (aP [Ck.i ao] (aW 16))]) 0
def v:aR×aR×aR×aw:=([],[],[]++aD (aP [Ck.l 3] 1) 0 [CV.l 3 (aP [Ck.i ao] (aW 16))]++aD (aP [Ck.l 3] 1) 0 [CV.l 3 (aP [Ck.i ao] (aW 16))]++aD (aP [Ck.l 3] 1) 0 [CV.l 3 (aP [Ck.i ao] (aW 16))],0)
theorem eG(kr:s_ R):b kr=kr v.1 v.2.1 v.2.2.1 v.2.2.2:=by first|rfl|(unfold b v;simp only[cL];(repeat' split)<;>rfl)
end U95

namespace U42
def b(kr:ed R):aC R:=kr 1 [] [] [] ([]++aD (aP [Ck.l 3] 1) 0 [CV.l 3 (aP [Ck.i ao] (aW 16))]++aD (aP [Ck.l 3] 1) 0 [CV.l 3 (aP [Ck.i ao] (aW 16))]++aD (aP [Ck.l 3] 1) 0 [CV.l 3 (aP [Ck.i ao] (aW 16))]) 0 [] [] 0
def v:aw×aR×aR×aR×aR×aw×aR×aR×aw:=(1,[],[],[],[]++aD (aP [Ck.l 3] 1) 0 [CV.l 3 (aP [Ck.i ao] (aW 16))]++aD (aP [Ck.l 3] 1) 0 [CV.l 3 (aP [Ck.i ao] (aW 16))]++aD (aP [Ck.l 3] 1) 0 [CV.l 3 (aP [Ck.i ao] (aW 16))],0,[],[],0)
theorem eG(kr:ed R):b kr=kr v.1 v.2.1 v.2.2.1 v.2.2.2.1 v.2.2.2.2.1 v.2.2.2.2.2.1 v.2.2.2.2.2.2.1 v.2.2.2.2.2.2.2.1 v.2.2.2.2.2.2.2.2:=by first|rfl|(unfold b v;simp only[cL];(repeat' split)<;>rfl)
end U42

namespace wV
def b(kr:aR->aC R)(a:aR):aC R:=bif cw ((aP [Ck.s,Ck.i ao,Ck.i ao,Ck.s] 0).length+a.length) 48 then kr (aP [Ck.s,Ck.i ao,Ck.i ao,Ck.s] 0++a)else aj
def vo:=b λr0=>ah r0
def c:=λa=>(vo a).isSome
def v:=λa=>(vo a).getD ([])
theorem out{x}:∀a,vo a=ah x->c a=ai/\v a=x:=λ_=>Lib.dg
end wV

namespace tq
def b(kr:aR->aC R)(a:aR):aC R:=bif cw ((aP [.s] 0).length+a.length) 16 then kr (aP [.s] 0++a)else aj
def vo:=b λr0=>ah r0
def c:=λa=>(vo a).isSome
def v:=λa=>(vo a).getD ([])
theorem out{x}:∀a,vo a=ah x->c a=ai/\v a=x:=λ_=>Lib.dg
end tq

namespace v5
def b(kr:aR->aC R)(a:aR):aC R:=bif cw ((aP [Ck.i ao] 0).length+a.length) 8 then kr (aP [Ck.i ao] 0++a)else aj
def vo:=b λr0=>ah r0
def c:=λa=>(vo a).isSome
def v:=λa=>(vo a).getD ([])
theorem out{x}:∀a,vo a=ah x->c a=ai/\v a=x:=λ_=>Lib.dg
end v5

namespace jq
def r3(N:aF)(g:kY R)(g1:o9 R)(k0:kY R)(k1:o9 R)(a:aR)(d e f h:aw):aC R:=bif decide (e<d)then bif decide (0<=e)&&decide (e<(a.length:aw))then bif v5.c (jz (ar a e.toNat 0))then g1 a d (bJ (e+1)) f h ([]++aD (aP [Ck.l 3] 1) 0 [CV.l 3 (v5.v (jz (ar a e.toNat 0)))])else aj else aj else k0 a d e f h
def zQ(N:aF)(g:kY R)(g1:o9 R)(k0:kY R)(k1:o9 R)(a:aR)(d e f h:aw)(i:aR):aC R:=bif decide (e<d)then bif decide (0<=e)&&decide (e<(a.length:aw))then bif v5.c (jz (ar a e.toNat 0))then bif cw (i.length+(aD (aP [Ck.l 3] 1) 0 [CV.l 3 (v5.v (jz (ar a e.toNat 0)))]).length) 24 then g1 a d (bJ (e+1)) f h (i++aD (aP [Ck.l 3] 1) 0 [CV.l 3 (v5.v (jz (ar a e.toNat 0)))])else aj else aj else aj else k1 a d e f h i
def sO(N:aF)(k0:kY R)(k1:o9 R):aF->o9 R
 |0=>λ_ _ _ _ _ _=>aj
 |n+1=>zQ N (λx0 x1 x2 x3 x4=>aj) (sO N k0 k1 n) k0 k1
def l3(N:aF)(k0:kY R)(k1:o9 R):aF->kY R
 |0=>λ_ _ _ _ _=>aj
 |n+1=>r3 N (l3 N k0 k1 n) (sO N k0 k1 n) k0 k1
def b(N:aF)(kr:s9 R)(a:aR)(d:aw):aC R:=l3 N (λ_ _ _ _ e=>kr [] e) (λ_ _ _ _ e f=>kr f e) N a (a.length:aw) 0 0 d
def vo:=b Lib.cU λr0 r1=>ah (r0,r1)
def c:=λa d=>(vo a d).isSome
def v:=λa d=>(vo a d).getD ([],0)
theorem out{x}:∀a d,vo a d=ah x->c a d=ai/\v a d=x:=λ_ _=>Lib.dg
end jq

namespace jw
def b(kr:s_ R)(a d e:aR)(f:aw):aC R:=bif tq.c a then bif tq.c d then bif jq.c e f then kr (tq.v a) (tq.v d) (jq.v e f).1 (jq.v e f).2 else aj else aj else aj
def vo:=b λr0 r1 r2 r3=>ah (r0,r1,r2,r3)
def c:=λa d e f=>(vo a d e f).isSome
def v:=λa d e f=>(vo a d e f).getD ([],[],[],0)
theorem out{x}:∀a d e f,vo a d e f=ah x->c a d e f=ai/\v a d e f=x:=λ_ _ _ _=>Lib.dg
end jw

namespace iP
def b(kr:ed R)(a:aw)(d e f h:aR)(i:aw)(j l:aR)(m:aw):aC R:=bif wV.c d then bif jw.c e f h i then bif cw ((aP [Ck.s,Ck.s,Ck.i ao,Ck.i ao,Ck.i ao] 0).length+j.length) 56 then bif cw ((aP [Ck.i ao,Ck.s,Ck.i ao,Ck.i ao,Ck.i ao,Ck.s,Ck.i ao] 0).length+l.length) 72 then kr a (wV.v d) (jw.v e f h i).1 (jw.v e f h i).2.1 (jw.v e f h i).2.2.1 (jw.v e f h i).2.2.2 (aP [Ck.s,Ck.s,Ck.i ao,Ck.i ao,Ck.i ao] 0++j) (aP [Ck.i ao,Ck.s,Ck.i ao,Ck.i ao,Ck.i ao,Ck.s,Ck.i ao] 0++l) m else aj else aj else aj else aj
def vo:=b λr0 r1 r2 r3 r4 r5 r6 r7 r8=>ah (r0,r1,r2,r3,r4,r5,r6,r7,r8)
def c:=λa d e f h i j l m=>(vo a d e f h i j l m).isSome
def v:=λa d e f h i j l m=>(vo a d e f h i j l m).getD (0,[],[],[],[],0,[],[],0)
theorem out{x}:∀a d e f h i j l m,vo a d e f h i j l m=ah x->c a d e f h i j l m=ai/\v a d e f h i j l m=x:=λ_ _ _ _ _ _ _ _ _=>Lib.dg
end iP

namespace zv
def b(kr:aX->aC R)(a:aq):aC R:=kr (lB.v (a.size:aw) 1 30)
def v(a0:aq):aX:=(lB.v (a0.size:aw) 1 30)
theorem eG(kr:aX->aC R)(a0:aq):b kr a0=kr (v a0):=by first|rfl|(unfold b v;simp only[cL];(repeat' split)<;>rfl)
end zv

namespace R9
def b(kr:aX->aC R)(a:aw):aC R:=kr (lB.v a 0 1000000000)
def v(a0:aw):aX:=(lB.v a0 0 1000000000)
theorem eG(kr:aX->aC R)(a0:aw):b kr a0=kr (v a0):=by first|rfl|(unfold b v;simp only[cL];(repeat' split)<;>rfl)
end R9

namespace wP
def b(kr:aX->aC R)(a:aq)(d e:aw)(f:aq):aC R:=bif zv.v a then bif R9.v d then bif lB.v e 1 999999 then kr (decide ((f.size:aw)<=400))else kr ak else kr ak else kr ak
def v(a0:aq)(a1 a2:aw)(a3:aq):aX:=bif zv.v a0 then bif R9.v a1 then bif lB.v a2 1 999999 then decide ((a3.size:aw)<=400)else ak else ak else ak
theorem eG(kr:aX->aC R)(a0:aq)(a1 a2:aw)(a3:aq):b kr a0 a1 a2 a3=kr (v a0 a1 a2 a3):=by first|rfl|(unfold b v;simp only[cL];(repeat' split)<;>rfl)
end wP

namespace DW
def b(kr:aR->aC R)(a:aw):aC R:=bif decide (a<0)then aj else bif decide (bJ (a-bJ (0-0))>0)then bif decide (0<=bJ (a-bJ (0-0)))&&cw (([]:aR).length+(bJ (a-bJ (0-0))).toNat) 16&&decide (bJ (a-bJ (0-0))<=9223372036854775807)then kr (eA ([]++aP [.s] (bJ (a-bJ (0-0))).toNat) (aW 0) (aW 0))else aj else kr []
def vo:=b λr0=>ah r0
def c:=λa=>(vo a).isSome
def v:=λa=>(vo a).getD ([])
theorem out{x}:∀a,vo a=ah x->c a=ai/\v a=x:=λ_=>Lib.dg
end DW

namespace wU
def Aw(N:aF)(g k0:qh R)(a:aR)(d e:aw)(f:aR):aC R:=bif decide (e<d)then bif decide (0<=e)&&decide (e<(a.length:aw))then bif cw (f.length+(jz (ar a e.toNat 0)).length) 16 then g a d (bJ (e+1)) (f++jz (ar a e.toNat 0))else aj else aj else k0 a d e f
def PH(N:aF)(k0:qh R):aF->qh R
 |0=>λ_ _ _ _=>aj
 |n+1=>Aw N (PH N k0 n) k0
def r3(N:aF)(g k0:FT R)(a:aR)(d:aw)(e:aR)(f h:aw):aC R:=bif decide (h<f)then bif decide (0<=h)&&decide (h<(e.length:aw))then bif decide (bJ (d+((jz (ar e h.toNat 0)).length:aw))<0)then aj else g a (bJ (d+((jz (ar e h.toNat 0)).length:aw))) e f (bJ (h+1))else aj else k0 a d e f h
def l3(N:aF)(k0:FT R):aF->FT R
 |0=>λ_ _ _ _ _=>aj
 |n+1=>r3 N (l3 N k0 n) k0
def b(N:aF)(kr:aR->aC R)(a:aR):aC R:=l3 N (λd e _ _ _=>bif DW.c e then PH N (λ_ _ _ f=>kr f) N d (d.length:aw) 0 (DW.v e)else aj) N a 0 a (a.length:aw) 0
def vo:=b Lib.cU λr0=>ah r0
def c:=λa=>(vo a).isSome
def v:=λa=>(vo a).getD ([])
theorem out{x}:∀a,vo a=ah x->c a=ai/\v a=x:=λ_=>Lib.dg
end wU

namespace qH
def b(kr:aR->aC R)(a d e:aR)(f:aw):aC R:=bif wU.c (aD (aD (aP [Ck.l 9] 2) 0 [CV.l 9 a]) 1 [CV.l 9 d])then kr (wU.v (aD (aD (aP [Ck.l 9] 2) 0 [CV.l 9 a]) 1 [CV.l 9 d]))else aj
def vo:=b λr0=>ah r0
def c:=λa d e f=>(vo a d e f).isSome
def v:=λa d e f=>(vo a d e f).getD ([])
theorem out{x}:∀a d e f,vo a d e f=ah x->c a d e f=ai/\v a d e f=x:=λ_ _ _ _=>Lib.dg
end qH

namespace A0
def r2(N:aF)(g k0 k1:ij R)(a:aR)(d:aq)(e f h:aw):aC R:=bif decide (h<f)then bif decide (0<=h)&&decide (h<(a.length:aw))then bif bZ (aA d) (bw (ar a h.toNat 0)).toList then k0 a d h f h else g a d e f (bJ (h+1))else aj else k1 a d e f h
def l2(N:aF)(k0 k1:ij R):aF->ij R
 |0=>λ_ _ _ _ _=>aj
 |n+1=>r2 N (l2 N k0 k1 n) k0 k1
def b(N:aF)(kr:aw->aC R)(a:aR)(d:aq):aC R:=l2 N (λ_ _ e _ _=>kr e) (λ_ _ _ _ _=>kr (-1)) N a d 0 (a.length:aw) 0
def vo:=b Lib.cU λr0=>ah r0
def c:=λa d=>(vo a d).isSome
def v:=λa d=>(vo a d).getD (0)
theorem out{x}:∀a d,vo a d=ah x->c a d=ai/\v a d=x:=λ_ _=>Lib.dg
end A0

namespace sK
def b(kr:aX->aC R)(a:aR)(d:aq):aC R:=bif A0.c a d then kr (decide (A0.v a d≥0))else aj
def vo:=b λr0=>ah r0
def c:=λa d=>(vo a d).isSome
def v:=λa d=>(vo a d).getD ak
theorem out{x}:∀a d,vo a d=ah x->c a d=ai/\v a d=x:=λ_ _=>Lib.dg
end sK

namespace sJ
def b(kr:aX->aC R)(a d e:aR)(f:aw)(h:aq):aC R:=bif qH.c a d e f then bif sK.c (qH.v a d e f) h then kr (sK.v (qH.v a d e f) h)else aj else aj
def vo:=b λr0=>ah r0
def c:=λa d e f h=>(vo a d e f h).isSome
def v:=λa d e f h=>(vo a d e f h).getD ak
theorem out{x}:∀a d e f h,vo a d e f h=ah x->c a d e f h=ai/\v a d e f h=x:=λ_ _ _ _ _=>Lib.dg
end sJ

namespace pQ
def r5(N:aF)(g k0 k1:ru R)(a:aX)(d e:aR)(f h:aw)(i:aR)(j l:aw)(m:aR)(o:aw):aC R:=bif decide (l<j)then bif decide (0<=l)&&decide (l<(i.length:aw))then bif !lB.v (bF (ar i l.toNat 0)) 0 15 then k0 ak d e f h i j l m o else g a d e f h i j (bJ (l+1)) m o else aj else k1 a d e f h i j l m o
def l5(N:aF)(k0 k1:ru R):aF->ru R
 |0=>λ_ _ _ _ _ _ _ _ _ _=>aj
 |n+1=>r5 N (l5 N k0 k1 n) k0 k1
def r2(N:aF)(g k0 k1:BP R)(a:aX)(d:aR)(e f:aw)(h:aR)(i:aw):aC R:=bif decide (f<e)then bif decide (0<=f)&&decide (f<(d.length:aw))then l5 N (λj _ l m o _ _ _ p q=>k0 j l m o p q) (λj l m o p _ _ _ q r=>bif(l.length:aw) !=16 then k0 ak m o p q r else g j m o (bJ (p+1)) q r) N a (jz (ar d f.toNat 0)) d e f (jz (ar d f.toNat 0)) ((jz (ar d f.toNat 0)).length:aw) 0 h i else aj else k1 a d e f h i
def l2(N:aF)(k0 k1:BP R):aF->BP R
 |0=>λ_ _ _ _ _ _=>aj
 |n+1=>r2 N (l2 N k0 k1 n) k0 k1
def b(N:aF)(kr:aX->aC R)(a:aR)(d:aw):aC R:=l2 N (λe _ _ _ _ _=>kr e) (λ_ _ _ _ e f=>bif decide ((e.length:aw)=3)then kr (lB.v f 0 63)else kr ak) N ak a (a.length:aw) 0 a d
def vo:=b Lib.cU λr0=>ah r0
def c:=λa d=>(vo a d).isSome
def v:=λa d=>(vo a d).getD ak
theorem out{x}:∀a d,vo a d=ah x->c a d=ai/\v a d=x:=λ_ _=>Lib.dg
end pQ

namespace pd
def r3(N:aF)(g k0 k1:vG R)(a:aX)(d e:aw)(f h i:aR)(j:aw)(l:aR):aC R:=bif decide (e<d)then bif decide (0<=e)&&decide (e<(l.length:aw))then bif !zv.v (bw (ar l e.toNat 0))then k0 ak d e f h i j l else bif g8 0 e (l.length:aw)then bif sK.c (eA l (aW 0) e.toNat) (bw (ar l e.toNat 0))then bif sK.v (eA l (aW 0) e.toNat) (bw (ar l e.toNat 0))then k0 ak d e f h i j l else g a d (bJ (e+1)) f h i j l else aj else aj else aj else k1 a d e f h i j l
def l3(N:aF)(k0 k1:vG R):aF->vG R
 |0=>λ_ _ _ _ _ _ _ _=>aj
 |n+1=>r3 N (l3 N k0 k1 n) k0 k1
def b(N:aF)(kr:aX->aC R)(a d e:aR)(f:aw):aC R:=bif qH.c a d e f then l3 N (λh _ _ _ _ _ _ _=>kr h) (λ_ _ _ h i j l _=>bif decide ((h.length:aw)<=2)then bif decide ((i.length:aw)<=4)then bif pQ.c j l then kr (pQ.v j l)else aj else kr ak else kr ak) N ak ((qH.v a d e f).length:aw) 0 a d e f (qH.v a d e f)else aj
def vo:=b Lib.cU λr0=>ah r0
def c:=λa d e f=>(vo a d e f).isSome
def v:=λa d e f=>(vo a d e f).getD ak
theorem out{x}:∀a d e f,vo a d e f=ah x->c a d e f=ai/\v a d e f=x:=λ_ _ _ _=>Lib.dg
end pd

namespace Qz
def r2(N:aF)(g k0 k1:eU R)(a:aX)(d:aR)(e f h:aw)(i j l m:aR)(o:aw)(p q:aR)(r:aw):aC R:=bif decide (f<e)then bif decide (0<=f)&&decide (f<(d.length:aw))then bif !wP.v (bw (ar d f.toNat 0)) (bF (ar d f.toNat 1)) (bF (ar d f.toNat (1+1))) (bw (ar d f.toNat (1+1+1)))then k0 ak d e f h i j l m o p q r else bif decide (f>0)then bif decide (0<=bJ (f-1))&&decide (bJ (f-1)<(i.length:aw))then bif !Op.bytesLess (bw (ar i (bJ (f-1)).toNat 0)).toList (bw (ar d f.toNat 0)).toList then k0 ak d e f h i j l m o p q r else bif sJ.c j l m o (bw (ar d f.toNat 0))then bif !sJ.v j l m o (bw (ar d f.toNat 0))then k0 ak d e f h i j l m o p q r else g a d e (bJ (f+1)) h i j l m o p q r else aj else aj else bif sJ.c j l m o (bw (ar d f.toNat 0))then bif !sJ.v j l m o (bw (ar d f.toNat 0))then k0 ak d e f h i j l m o p q r else g a d e (bJ (f+1)) h i j l m o p q r else aj else aj else k1 a d e f h i j l m o p q r
def l2(N:aF)(k0 k1:eU R):aF->eU R
 |0=>λ_ _ _ _ _ _ _ _ _ _ _ _ _=>aj
 |n+1=>r2 N (l2 N k0 k1 n) k0 k1
def b(N:aF)(kr:aX->aC R)(a:aw)(d e f h:aR)(i:aw)(j l:aR)(m:aw):aC R:=l2 N (λo _ _ _ _ _ _ _ _ _ _ _ _=>kr o) (λ_ _ _ _ _ o p q r s _ _ _=>bif pd.c p q r s then bif pd.v p q r s then bif qH.c p q r s then kr (decide (((qH.v p q r s).length:aw)=(o.length:aw)))else aj else kr ak else aj) N ak d (d.length:aw) 0 a d e f h i j l m
def vo:=b Lib.cU λr0=>ah r0
def c:=λa d e f h i j l m=>(vo a d e f h i j l m).isSome
def v:=λa d e f h i j l m=>(vo a d e f h i j l m).getD ak
theorem out{x}:∀a d e f h i j l m,vo a d e f h i j l m=ah x->c a d e f h i j l m=ai/\v a d e f h i j l m=x:=λ_ _ _ _ _ _ _ _ _=>Lib.dg
end Qz

namespace Ii
def b(kr:aX->aC R)(a d:aq)(e f h:aw)(gO:aq):aC R:=bif bZ (aA a) (aA gO)then kr (decide (e=1))else kr ak
def v(a0 a1:aq)(a2 a3 a4:aw)(gO:aq):aX:=bif bZ (aA a0) (aA gO)then decide (a2=1)else ak
theorem eG(kr:aX->aC R)(a0 a1:aq)(a2 a3 a4:aw)(gO:aq):b kr a0 a1 a2 a3 a4 gO=kr (v a0 a1 a2 a3 a4 gO):=by first|rfl|(unfold b v;simp only[cL];(repeat' split)<;>rfl)
end Ii

namespace qI
def r2(N:aF)(g k0 k1:ij R)(a:aR)(d:aq)(e f h:aw):aC R:=bif decide (h<f)then bif decide (0<=h)&&decide (h<(a.length:aw))then bif Ii.v (bw (ar a h.toNat 0)) (bw (ar a h.toNat 1)) (bF (ar a h.toNat (1+1))) (bF (ar a h.toNat (1+1+1))) (bF (ar a h.toNat (1+1+1+1))) d then k0 a d h f h else g a d e f (bJ (h+1))else aj else k1 a d e f h
def l2(N:aF)(k0 k1:ij R):aF->ij R
 |0=>λ_ _ _ _ _=>aj
 |n+1=>r2 N (l2 N k0 k1 n) k0 k1
def b(N:aF)(kr:aw->aC R)(a:aR)(gO:aq):aC R:=l2 N (λ_ _ d _ _=>kr d) (λ_ _ _ _ _=>kr (-1)) N a gO 0 (a.length:aw) 0
def vo:=b Lib.cU λr0=>ah r0
def c:=λa d=>(vo a d).isSome
def v:=λa d=>(vo a d).getD (0)
theorem out{x}:∀a d,vo a d=ah x->c a d=ai/\v a d=x:=λ_ _=>Lib.dg
end qI

namespace KE
def b(kr:aw->aC R)(a:aw)(d e f h:aR)(i:aw)(j l:aR)(m:aw)(o:aq):aC R:=bif qI.c j o then kr (qI.v j o)else aj
def vo:=b λr0=>ah r0
def c:=λa d e f h i j l m o=>(vo a d e f h i j l m o).isSome
def v:=λa d e f h i j l m o=>(vo a d e f h i j l m o).getD (0)
theorem out{x}:∀a d e f h i j l m o,vo a d e f h i j l m o=ah x->c a d e f h i j l m o=ai/\v a d e f h i j l m o=x:=λ_ _ _ _ _ _ _ _ _ _=>Lib.dg
end KE

namespace M4
def r2(N:aF)(g k0 k1:eU R)(a:aX)(d:aR)(e f h:aw)(i j l m:aR)(o:aw)(p q:aR)(r:aw):aC R:=bif decide (f<e)then bif decide (0<=f)&&decide (f<(d.length:aw))then bif decide (bF (ar d f.toNat (1+1))=1)then bif KE.c h i j l m o p q r (bw (ar d f.toNat 0))then bif KE.v h i j l m o p q r (bw (ar d f.toNat 0)) !=f then k0 ak d e f h i j l m o p q r else g a d e (bJ (f+1)) h i j l m o p q r else aj else g a d e (bJ (f+1)) h i j l m o p q r else aj else k1 a d e f h i j l m o p q r
def l2(N:aF)(k0 k1:eU R):aF->eU R
 |0=>λ_ _ _ _ _ _ _ _ _ _ _ _ _=>aj
 |n+1=>r2 N (l2 N k0 k1 n) k0 k1
def b(N:aF)(kr:aX->aC R)(a:aw)(d e f h:aR)(i:aw)(j l:aR)(m:aw):aC R:=l2 N (λo _ _ _ _ _ _ _ _ _ _ _ _=>kr o) (λ_ _ _ _ _ _ _ _ _ _ _ _ _=>kr ai) N ak j (j.length:aw) 0 a d e f h i j l m
def vo:=b Lib.cU λr0=>ah r0
def c:=λa d e f h i j l m=>(vo a d e f h i j l m).isSome
def v:=λa d e f h i j l m=>(vo a d e f h i j l m).getD ak
theorem out{x}:∀a d e f h i j l m,vo a d e f h i j l m=ah x->c a d e f h i j l m=ai/\v a d e f h i j l m=x:=λ_ _ _ _ _ _ _ _ _=>Lib.dg
end M4

namespace OT
def r2(N:aF)(g k0 k1:eU R)(a:aX)(d:aR)(e f h:aw)(i j l m:aR)(o:aw)(p q:aR)(r:aw):aC R:=bif decide (f<e)then bif decide (0<=f)&&decide (f<(d.length:aw))then bif !zv.v (bw (ar d f.toNat 0))then k0 ak d e f h i j l m o p q r else bif decide (((bw (ar d f.toNat 1)).size:aw)>400)then k0 ak d e f h i j l m o p q r else bif !lB.v (bF (ar d f.toNat (1+1))) 1 3 then k0 ak d e f h i j l m o p q r else bif !lB.v (bF (ar d f.toNat (1+1+1))) 0 999999 then k0 ak d e f h i j l m o p q r else bif !lB.v (bF (ar d f.toNat (1+1+1+1))) 0 h then k0 ak d e f h i j l m o p q r else g a d e (bJ (f+1)) h i j l m o p q r else aj else k1 a d e f h i j l m o p q r
def l2(N:aF)(k0 k1:eU R):aF->eU R
 |0=>λ_ _ _ _ _ _ _ _ _ _ _ _ _=>aj
 |n+1=>r2 N (l2 N k0 k1 n) k0 k1
def b(N:aF)(kr:aX->aC R)(a:aw)(d e f h:aR)(i:aw)(j l:aR)(m:aw):aC R:=l2 N (λo _ _ _ _ _ _ _ _ _ _ _ _=>kr o) (λ_ _ _ _ o p q r s t u w y=>bif decide ((u.length:aw)<=20)then bif M4.c o p q r s t u w y then kr (M4.v o p q r s t u w y)else aj else kr ak) N ak j (j.length:aw) 0 a d e f h i j l m
def vo:=b Lib.cU λr0=>ah r0
def c:=λa d e f h i j l m=>(vo a d e f h i j l m).isSome
def v:=λa d e f h i j l m=>(vo a d e f h i j l m).getD ak
theorem out{x}:∀a d e f h i j l m,vo a d e f h i j l m=ah x->c a d e f h i j l m=ai/\v a d e f h i j l m=x:=λ_ _ _ _ _ _ _ _ _=>Lib.dg
end OT

namespace QA
def r2(N:aF)(g k0 k1:eU R)(a:aX)(d:aR)(e f h:aw)(i j l m:aR)(o:aw)(p q:aR)(r:aw):aC R:=bif decide (f<e)then bif decide (0<=f)&&decide (f<(d.length:aw))then bif !lB.v (bF (ar d f.toNat 0)) 1 9 then k0 ak d e f h i j l m o p q r else bif decide (f>0)then bif decide (0<=bJ (f-1))&&decide (bJ (f-1)<(q.length:aw))then bif decide (bF (ar q (bJ (f-1)).toNat 0)≥bF (ar d f.toNat 0))then k0 ak d e f h i j l m o p q r else bif !zv.v (bw (ar d f.toNat 1))then k0 ak d e f h i j l m o p q r else bif !lB.v (bF (ar d f.toNat (1+1+1+1))) 1 3 then k0 ak d e f h i j l m o p q r else bif !lB.v (bF (ar d f.toNat (1+1))) 0 (p.length:aw)then k0 ak d e f h i j l m o p q r else bif decide (((bw (ar d f.toNat (1+1+1+1+1))).size:aw)>400)then k0 ak d e f h i j l m o p q r else bif !lB.v (bF (ar d f.toNat (1+1+1))) 0 h then k0 ak d e f h i j l m o p q r else bif decide (bF (ar d f.toNat (1+1+1+1+1+1))<0)then k0 ak d e f h i j l m o p q r else g a d e (bJ (f+1)) h i j l m o p q r else aj else bif !zv.v (bw (ar d f.toNat 1))then k0 ak d e f h i j l m o p q r else bif !lB.v (bF (ar d f.toNat (1+1+1+1))) 1 3 then k0 ak d e f h i j l m o p q r else bif !lB.v (bF (ar d f.toNat (1+1))) 0 (p.length:aw)then k0 ak d e f h i j l m o p q r else bif decide (((bw (ar d f.toNat (1+1+1+1+1))).size:aw)>400)then k0 ak d e f h i j l m o p q r else bif !lB.v (bF (ar d f.toNat (1+1+1))) 0 h then k0 ak d e f h i j l m o p q r else bif decide (bF (ar d f.toNat (1+1+1+1+1+1))<0)then k0 ak d e f h i j l m o p q r else g a d e (bJ (f+1)) h i j l m o p q r else aj else k1 a d e f h i j l m o p q r
def l2(N:aF)(k0 k1:eU R):aF->eU R
 |0=>λ_ _ _ _ _ _ _ _ _ _ _ _ _=>aj
 |n+1=>r2 N (l2 N k0 k1 n) k0 k1
def b(N:aF)(kr:aX->aC R)(a:aw)(d e f h:aR)(i:aw)(j l:aR)(m:aw):aC R:=l2 N (λo _ _ _ _ _ _ _ _ _ _ _ _=>kr o) (λ_ _ _ _ _ _ _ _ _ _ _ o _=>kr (decide ((o.length:aw)<=6))) N ak l (l.length:aw) 0 a d e f h i j l m
def vo:=b Lib.cU λr0=>ah r0
def c:=λa d e f h i j l m=>(vo a d e f h i j l m).isSome
def v:=λa d e f h i j l m=>(vo a d e f h i j l m).getD ak
theorem out{x}:∀a d e f h i j l m,vo a d e f h i j l m=ah x->c a d e f h i j l m=ai/\v a d e f h i j l m=x:=λ_ _ _ _ _ _ _ _ _=>Lib.dg
end QA

namespace OS
def b(kr:aX->aC R)(a:aw)(d e f h:aR)(i:aw)(j l:aR)(m:aw):aC R:=bif lB.v a 1 1000000000 then bif Qz.c a d e f h i j l m then bif Qz.v a d e f h i j l m then bif OT.c a d e f h i j l m then bif OT.v a d e f h i j l m then bif QA.c a d e f h i j l m then bif QA.v a d e f h i j l m then kr (R9.v m)else kr ak else aj else kr ak else aj else kr ak else aj else kr ak
def vo:=b λr0=>ah r0
def c:=λa d e f h i j l m=>(vo a d e f h i j l m).isSome
def v:=λa d e f h i j l m=>(vo a d e f h i j l m).getD ak
theorem out{x}:∀a d e f h i j l m,vo a d e f h i j l m=ah x->c a d e f h i j l m=ai/\v a d e f h i j l m=x:=λ_ _ _ _ _ _ _ _ _=>Lib.dg
end OS

namespace Ky
def b(kr:aX->aC R)(a:aw)(d:aq)(e f h:aw)(i:aq)(j CE:aw):aC R:=kr (decide (a=CE))
def v(a0:aw)(a1:aq)(a2 a3 a4:aw)(a5:aq)(a6 CE:aw):aX:=(decide (a0=CE))
theorem eG(kr:aX->aC R)(a0:aw)(a1:aq)(a2 a3 a4:aw)(a5:aq)(a6 CE:aw):b kr a0 a1 a2 a3 a4 a5 a6 CE=kr (v a0 a1 a2 a3 a4 a5 a6 CE):=by first|rfl|(unfold b v;simp only[cL];(repeat' split)<;>rfl)
end Ky

namespace qJ
def r2(N:aF)(g k0 k1:kY R)(a:aR)(d e f h:aw):aC R:=bif decide (h<f)then bif decide (0<=h)&&decide (h<(a.length:aw))then bif Ky.v (bF (ar a h.toNat 0)) (bw (ar a h.toNat 1)) (bF (ar a h.toNat (1+1))) (bF (ar a h.toNat (1+1+1))) (bF (ar a h.toNat (1+1+1+1))) (bw (ar a h.toNat (1+1+1+1+1))) (bF (ar a h.toNat (1+1+1+1+1+1))) d then k0 a d h f h else g a d e f (bJ (h+1))else aj else k1 a d e f h
def l2(N:aF)(k0 k1:kY R):aF->kY R
 |0=>λ_ _ _ _ _=>aj
 |n+1=>r2 N (l2 N k0 k1 n) k0 k1
def b(N:aF)(kr:aw->aC R)(a:aR)(CE:aw):aC R:=l2 N (λ_ _ d _ _=>kr d) (λ_ _ _ _ _=>kr (-1)) N a CE 0 (a.length:aw) 0
def vo:=b Lib.cU λr0=>ah r0
def c:=λa d=>(vo a d).isSome
def v:=λa d=>(vo a d).getD (0)
theorem out{x}:∀a d,vo a d=ah x->c a d=ai/\v a d=x:=λ_ _=>Lib.dg
end qJ

namespace AW
def b(kr:aX->aC R)(a:aw)(d:aq)(e f h:aw)(i:aq)(j CE:aw):aC R:=kr (decide (a=CE))
def v(a0:aw)(a1:aq)(a2 a3 a4:aw)(a5:aq)(a6 CE:aw):aX:=(decide (a0=CE))
theorem eG(kr:aX->aC R)(a0:aw)(a1:aq)(a2 a3 a4:aw)(a5:aq)(a6 CE:aw):b kr a0 a1 a2 a3 a4 a5 a6 CE=kr (v a0 a1 a2 a3 a4 a5 a6 CE):=by first|rfl|(unfold b v;simp only[cL];(repeat' split)<;>rfl)
end AW

namespace ny
def r2(N:aF)(g k0 k1:kY R)(a:aR)(d e f h:aw):aC R:=bif decide (h<f)then bif decide (0<=h)&&decide (h<(a.length:aw))then bif AW.v (bF (ar a h.toNat 0)) (bw (ar a h.toNat 1)) (bF (ar a h.toNat (1+1))) (bF (ar a h.toNat (1+1+1))) (bF (ar a h.toNat (1+1+1+1))) (bw (ar a h.toNat (1+1+1+1+1))) (bF (ar a h.toNat (1+1+1+1+1+1))) d then k0 a d h f h else g a d e f (bJ (h+1))else aj else k1 a d e f h
def l2(N:aF)(k0 k1:kY R):aF->kY R
 |0=>λ_ _ _ _ _=>aj
 |n+1=>r2 N (l2 N k0 k1 n) k0 k1
def b(N:aF)(kr:aw->aC R)(a:aR)(CE:aw):aC R:=l2 N (λ_ _ d _ _=>kr d) (λ_ _ _ _ _=>kr (-1)) N a CE 0 (a.length:aw) 0
def vo:=b Lib.cU λr0=>ah r0
def c:=λa d=>(vo a d).isSome
def v:=λa d=>(vo a d).getD (0)
theorem out{x}:∀a d,vo a d=ah x->c a d=ai/\v a d=x:=λ_ _=>Lib.dg
end ny

namespace zu
def b(kr:aw->aC R)(a:aw)(d e f h:aR)(i:aw)(j l:aR)(m o:aw):aC R:=bif qJ.c l o then kr (qJ.v l o)else aj
def vo:=b λr0=>ah r0
def c:=λa d e f h i j l m o=>(vo a d e f h i j l m o).isSome
def v:=λa d e f h i j l m o=>(vo a d e f h i j l m o).getD (0)
theorem out{x}:∀a d e f h i j l m o,vo a d e f h i j l m o=ah x->c a d e f h i j l m o=ai/\v a d e f h i j l m o=x:=λ_ _ _ _ _ _ _ _ _ _=>Lib.dg
end zu

namespace Kx
def b(kr:aX->aC R)(a:aq)(d e:aw)(f gO:aq):aC R:=kr (bZ (aA a) (aA gO))
def v(a0:aq)(a1 a2:aw)(a3 gO:aq):aX:=(bZ (aA a0) (aA gO))
theorem eG(kr:aX->aC R)(a0:aq)(a1 a2:aw)(a3 gO:aq):b kr a0 a1 a2 a3 gO=kr (v a0 a1 a2 a3 gO):=by first|rfl|(unfold b v;simp only[cL];(repeat' split)<;>rfl)
end Kx

namespace pW
def r2(N:aF)(g k0 k1:ij R)(a:aR)(d:aq)(e f h:aw):aC R:=bif decide (h<f)then bif decide (0<=h)&&decide (h<(a.length:aw))then bif Kx.v (bw (ar a h.toNat 0)) (bF (ar a h.toNat 1)) (bF (ar a h.toNat (1+1))) (bw (ar a h.toNat (1+1+1))) d then k0 a d h f h else g a d e f (bJ (h+1))else aj else k1 a d e f h
def l2(N:aF)(k0 k1:ij R):aF->ij R
 |0=>λ_ _ _ _ _=>aj
 |n+1=>r2 N (l2 N k0 k1 n) k0 k1
def b(N:aF)(kr:aw->aC R)(a:aR)(gO:aq):aC R:=l2 N (λ_ _ d _ _=>kr d) (λ_ _ _ _ _=>kr (-1)) N a gO 0 (a.length:aw) 0
def vo:=b Lib.cU λr0=>ah r0
def c:=λa d=>(vo a d).isSome
def v:=λa d=>(vo a d).getD (0)
theorem out{x}:∀a d,vo a d=ah x->c a d=ai/\v a d=x:=λ_ _=>Lib.dg
end pW

namespace AZ
def b(kr:aX->aC R)(a:aq)(d e:aw)(f gO:aq):aC R:=kr (bZ (aA a) (aA gO))
def v(a0:aq)(a1 a2:aw)(a3 gO:aq):aX:=(bZ (aA a0) (aA gO))
theorem eG(kr:aX->aC R)(a0:aq)(a1 a2:aw)(a3 gO:aq):b kr a0 a1 a2 a3 gO=kr (v a0 a1 a2 a3 gO):=by first|rfl|(unfold b v;simp only[cL];(repeat' split)<;>rfl)
end AZ

namespace nv
def r2(N:aF)(g k0 k1:ij R)(a:aR)(d:aq)(e f h:aw):aC R:=bif decide (h<f)then bif decide (0<=h)&&decide (h<(a.length:aw))then bif AZ.v (bw (ar a h.toNat 0)) (bF (ar a h.toNat 1)) (bF (ar a h.toNat (1+1))) (bw (ar a h.toNat (1+1+1))) d then k0 a d h f h else g a d e f (bJ (h+1))else aj else k1 a d e f h
def l2(N:aF)(k0 k1:ij R):aF->ij R
 |0=>λ_ _ _ _ _=>aj
 |n+1=>r2 N (l2 N k0 k1 n) k0 k1
def b(N:aF)(kr:aw->aC R)(a:aR)(gO:aq):aC R:=l2 N (λ_ _ d _ _=>kr d) (λ_ _ _ _ _=>kr (-1)) N a gO 0 (a.length:aw) 0
def vo:=b Lib.cU λr0=>ah r0
def c:=λa d=>(vo a d).isSome
def v:=λa d=>(vo a d).getD (0)
theorem out{x}:∀a d,vo a d=ah x->c a d=ai/\v a d=x:=λ_ _=>Lib.dg
end nv

namespace U89
def b(kr:aX->aC R)(a:aq)(d e:aw)(f:aq)(O0:aw)(Iy:aq)(O2 Iz O3:aw)(IA:aq)(IB:aw):aC R:=bif bZ (aA a) (aA Iy)then bif decide (d=Iz)then bif bZ (aA f) (aA IA)then kr (decide (e>IB))else kr ak else kr ak else kr ak
def v(a0:aq)(a1 a2:aw)(a3:aq)(O0:aw)(Iy:aq)(O2 Iz O3:aw)(IA:aq)(IB:aw):aX:=bif bZ (aA a0) (aA Iy)then bif decide (a1=Iz)then bif bZ (aA a3) (aA IA)then decide (a2>IB)else ak else ak else ak
theorem eG(kr:aX->aC R)(a0:aq)(a1 a2:aw)(a3:aq)(O0:aw)(Iy:aq)(O2 Iz O3:aw)(IA:aq)(IB:aw):b kr a0 a1 a2 a3 O0 Iy O2 Iz O3 IA IB=kr (v a0 a1 a2 a3 O0 Iy O2 Iz O3 IA IB):=by first|rfl|(unfold b v;simp only[cL];(repeat' split)<;>rfl)
end U89

namespace B2
def r2(N:aF)(g k0 k1:qi R)(a:aR)(d:aw)(e:aq)(f h i:aw)(j:aq)(l m o p:aw):aC R:=bif decide (p<o)then bif decide (0<=p)&&decide (p<(a.length:aw))then bif U89.v (bw (ar a p.toNat 0)) (bF (ar a p.toNat 1)) (bF (ar a p.toNat (1+1))) (bw (ar a p.toNat (1+1+1))) d e f h i j l then k0 a d e f h i j l p o p else g a d e f h i j l m o (bJ (p+1))else aj else k1 a d e f h i j l m o p
def l2(N:aF)(k0 k1:qi R):aF->qi R
 |0=>λ_ _ _ _ _ _ _ _ _ _ _=>aj
 |n+1=>r2 N (l2 N k0 k1 n) k0 k1
def b(N:aF)(kr:aw->aC R)(a:aR)(O0:aw)(Iy:aq)(O2 Iz O3:aw)(IA:aq)(IB:aw):aC R:=l2 N (λ_ _ _ _ _ _ _ _ d _ _=>kr d) (λ_ _ _ _ _ _ _ _ _ _ _=>kr (-1)) N a O0 Iy O2 Iz O3 IA IB 0 (a.length:aw) 0
def vo:=b Lib.cU λr0=>ah r0
def c:=λa d e f h i j l=>(vo a d e f h i j l).isSome
def v:=λa d e f h i j l=>(vo a d e f h i j l).getD (0)
theorem out{x}:∀a d e f h i j l,vo a d e f h i j l=ah x->c a d e f h i j l=ai/\v a d e f h i j l=x:=λ_ _ _ _ _ _ _ _=>Lib.dg
end B2

namespace GN
def b(kr:aX->aC R)(a:aq)(d e:aw)(f:aq)(h:aw):aC R:=bif wP.v a d e f then bif R9.v h then kr (lB.v h d (bJ (bJ (d+e)-1)))else kr ak else kr ak
def v(a0:aq)(a1 a2:aw)(a3:aq)(a4:aw):aX:=bif wP.v a0 a1 a2 a3 then bif R9.v a4 then lB.v a4 a1 (bJ (bJ (a1+a2)-1))else ak else ak
theorem eG(kr:aX->aC R)(a0:aq)(a1 a2:aw)(a3:aq)(a4:aw):b kr a0 a1 a2 a3 a4=kr (v a0 a1 a2 a3 a4):=by first|rfl|(unfold b v;simp only[cL];(repeat' split)<;>rfl)
end GN

namespace wZ
def r6(N:aF)(g k0:yQ R)(a:aw)(d:aq)(e f:aw):aC R:=bif decide (f<8)then bif decide (cy a 2=1)then g (bE eI (↑(dV (mm (ca 32 (bE eI (cQ a 2))) (ca 32 3558460437))):aw)) d e (bJ (f+1))else g (bE eI (cQ a 2)) d e (bJ (f+1))else k0 a d e f
def l6(N:aF)(k0:yQ R):aF->yQ R
 |0=>λ_ _ _ _=>aj
 |n+1=>r6 N (l6 N k0 n) k0
def r2(N:aF)(g k0:BR R)(a:aw)(d:aq)(e:aw):aC R:=bif decide (e<(d.size:aw))then bif decide (0<=e)&&decide (e<(d.size:aw))then l6 N (λf h i _=>g f h (bJ (i+1))) N (bE eI (↑(dV (mm (ca 32 a) (ca 32 (bE eI (↑(gQ d e.toNat):aw))))):aw)) d e 0 else aj else k0 a d e
def l2(N:aF)(k0:BR R):aF->BR R
 |0=>λ_ _ _=>aj
 |n+1=>r2 N (l2 N k0 n) k0
def b(N:aF)(kr:aw->aC R)(a:aw)(d:aq):aC R:=l2 N (λe _ _=>kr e) N a d 0
def vo:=b Lib.cU λr0=>ah r0
def c:=λa d=>(vo a d).isSome
def v:=λa d=>(vo a d).getD (0)
theorem out{x}:∀a d,vo a d=ah x->c a d=ai/\v a d=x:=λ_ _=>Lib.dg
end wZ

namespace vi
def b(kr:aw->aC R)(a:aq):aC R:=bif wZ.c 4294967295 a then kr (wZ.v 4294967295 a)else aj
def vo:=b λr0=>ah r0
def c:=λa=>(vo a).isSome
def v:=λa=>(vo a).getD (0)
theorem out{x}:∀a,vo a=ah x->c a=ai/\v a=x:=λ_=>Lib.dg
end vi

namespace qL
def b(kr:aw->aC R)(a:aw)(d:aq):aC R:=bif decide (d.size+(bytesOf (aD (aP [Ck.i bh] 1) 0 [CV.i bh (bE bh (bJ (↑(dV (jv (ca 64 a) (ca 64 255))):aw)))])).size<=4611686018427387904)then bif vi.c (d++bytesOf (aD (aP [Ck.i bh] 1) 0 [CV.i bh (bE bh (bJ (↑(dV (jv (ca 64 a) (ca 64 255))):aw)))]))then kr (cy (bJ (vi.v (d++bytesOf (aD (aP [Ck.i bh] 1) 0 [CV.i bh (bE bh (bJ (↑(dV (jv (ca 64 a) (ca 64 255))):aw)))])))) 16)else aj else aj
def vo:=b λr0=>ah r0
def c:=λa d=>(vo a d).isSome
def v:=λa d=>(vo a d).getD (0)
theorem out{x}:∀a d,vo a d=ah x->c a d=ai/\v a d=x:=λ_ _=>Lib.dg
end qL

namespace iL
def r18(N:aF)(g k0:vH R)(a:aF)(d e f h i j:aw)(l:aR):aC R:=bif decide (h<f)then bif decide (0<=h)&&decide (h<((jz (ar l a 0)).length:aw))then bif decide (0<=h)&&decide (h<((jz (ar l a 0)).length:aw))then g a d e f (bJ (h+1)) i j (eJ l a 0 [CV.l 3 (eJ (jz (ar l a 0)) h.toNat 0 [.i .i64 (bJ (cQ (bF (ar (jz (ar l a 0)) h.toNat 0)) 2))])])else aj else aj else k0 a d e f h i j l
def l18(N:aF)(k0:vH R):aF->vH R
 |0=>λ_ _ _ _ _ _ _ _=>aj
 |n+1=>r18 N (l18 N k0 n) k0
def QJ(N:aF)(g k0:oF R)(a d e f:aw)(h:aR):aC R:=bif decide (d<a)then bif decide (0<=d)&&decide (d<(h.length:aw))then l18 N (λ_ i j _ _ l m o=>g i (bJ (j+1)) l m o) N d.toNat a d ((jz (ar h d.toNat 0)).length:aw) 0 e f h else aj else k0 a d e f h
def Jv(N:aF)(k0:oF R):aF->oF R
 |0=>λ_ _ _ _ _=>aj
 |n+1=>QJ N (Jv N k0 n) k0
def r5(N:aF)(g k0:BU R)(a:aq)(d e f h:aw)(i:aR):aC R:=bif decide (e<d)then bif decide (0<=e)&&decide (e<(i.length:aw))then bif qL.c e a then bif decide (0<=qL.v e a)&&decide (qL.v e a<((jz (ar i e.toNat 0)).length:aw))then bif decide (0<=qL.v e a)&&decide (qL.v e a<((jz (ar i e.toNat 0)).length:aw))then g a d (bJ (e+1)) f h (eJ i e.toNat 0 [CV.l 3 (eJ (jz (ar i e.toNat 0)) (qL.v e a).toNat 0 [.i .i64 (iv ak (bJ (bF (ar (jz (ar i e.toNat 0)) (qL.v e a).toNat 0)+1)) 15)])])else aj else aj else aj else aj else k0 a d e f h i
def l5(N:aF)(k0:BU R):aF->BU R
 |0=>λ_ _ _ _ _ _=>aj
 |n+1=>r5 N (l5 N k0 n) k0
def b(N:aF)(kr:s9 R)(a:aR)(d:aw)(e:aq):aC R:=bif jq.c a d then bif pQ.c a d then bif !pQ.v a d then kr (jq.v a d).1 (jq.v a d).2 else l5 N (λ_ _ _ f h i=>bif decide (bJ (h+1)<64)then kr i (bJ (h+1))else Jv N (λ_ _ _ j l=>kr l j) N (i.length:aw) 0 f 0 i) N e ((jq.v a d).1.length:aw) 0 0 (jq.v a d).2 (jq.v a d).1 else aj else aj
def vo:=b Lib.cU λr0 r1=>ah (r0,r1)
def c:=λa d e=>(vo a d e).isSome
def v:=λa d e=>(vo a d e).getD ([],0)
theorem out{x}:∀a d e,vo a d e=ah x->c a d e=ai/\v a d e=x:=λ_ _ _=>Lib.dg
end iL

namespace A1
def b(kr:aX->aC R)(a gO:aq):aC R:=kr (bZ (aA a) (aA gO))
def v(a0 gO:aq):aX:=(bZ (aA a0) (aA gO))
theorem eG(kr:aX->aC R)(a0 gO:aq):b kr a0 gO=kr (v a0 gO):=by first|rfl|(unfold b v;simp only[cL];(repeat' split)<;>rfl)
end A1

namespace sM
def r2(N:aF)(g k0 k1:ij R)(a:aR)(d:aq)(e f h:aw):aC R:=bif decide (h<f)then bif decide (0<=h)&&decide (h<(a.length:aw))then bif A1.v (bw (ar a h.toNat 0)) d then k0 a d h f h else g a d e f (bJ (h+1))else aj else k1 a d e f h
def l2(N:aF)(k0 k1:ij R):aF->ij R
 |0=>λ_ _ _ _ _=>aj
 |n+1=>r2 N (l2 N k0 k1 n) k0 k1
def b(N:aF)(kr:aw->aC R)(a:aR)(gO:aq):aC R:=l2 N (λ_ _ d _ _=>kr d) (λ_ _ _ _ _=>kr (-1)) N a gO 0 (a.length:aw) 0
def vo:=b Lib.cU λr0=>ah r0
def c:=λa d=>(vo a d).isSome
def v:=λa d=>(vo a d).getD (0)
theorem out{x}:∀a d,vo a d=ah x->c a d=ai/\v a d=x:=λ_ _=>Lib.dg
end sM

namespace wY
def r5(N:aF)(g k0:mr R)(a:aq)(d e:aw)(f:aR):aC R:=bif decide (e<(f.length:aw))then bif decide (0<=e)&&decide (e<(f.length:aw))then bif !A1.v (bw (ar f e.toNat 0)) a then bif decide (0<=d)&&decide (d<(f.length:aw))then g a (bJ (d+1)) (bJ (e+1)) (eJ f d.toNat 0 [.s (bw (ar f e.toNat 0))])else aj else g a d (bJ (e+1)) f else aj else k0 a d e f
def l5(N:aF)(k0:mr R):aF->mr R
 |0=>λ_ _ _ _=>aj
 |n+1=>r5 N (l5 N k0 n) k0
def b(N:aF)(kr:aR->aC R)(a:aR)(gO:aq):aC R:=bif sM.c a gO then bif decide (sM.v a gO=Ku 1)then kr a else l5 N (λ_ d _ e=>bif g8 d (e.length:aw) (e.length:aw)then bif g8 0 d ((g_ d.toNat e++aP [.s] ((e.length:aw).toNat-d.toNat)++nt (e.length:aw).toNat e).length:aw)then kr (eA (g_ d.toNat e++aP [.s] ((e.length:aw).toNat-d.toNat)++nt (e.length:aw).toNat e) (aW 0) d.toNat)else aj else aj) N gO (sM.v a gO) (bJ (sM.v a gO+1)) a else aj
def vo:=b Lib.cU λr0=>ah r0
def c:=λa d=>(vo a d).isSome
def v:=λa d=>(vo a d).getD ([])
theorem out{x}:∀a d,vo a d=ah x->c a d=ai/\v a d=x:=λ_ _=>Lib.dg
end wY

namespace kg
def b(kr:aR->aC R)(a:aR)(d:aq):aC R:=bif tq.c a then bif wY.c (tq.v a) d then kr (wY.v (tq.v a) d)else aj else aj
def vo:=b λr0=>ah r0
def c:=λa d=>(vo a d).isSome
def v:=λa d=>(vo a d).getD ([])
theorem out{x}:∀a d,vo a d=ah x->c a d=ai/\v a d=x:=λ_ _=>Lib.dg
end kg

namespace vZ
def r5(N:aF)(g k0:FX R)(a:aq)(d:aw)(e:aR)(f h:aw):aC R:=bif decide (h<f)then bif decide (0<=h)&&decide (h<(e.length:aw))then bif qL.c h a then bif decide (0<=qL.v h a)&&decide (qL.v h a<((jz (ar e h.toNat 0)).length:aw))then g a (iv ak d (bF (ar (jz (ar e h.toNat 0)) (qL.v h a).toNat 0))) e f (bJ (h+1))else aj else aj else aj else k0 a d e f h
def l5(N:aF)(k0:FX R):aF->FX R
 |0=>λ_ _ _ _ _=>aj
 |n+1=>r5 N (l5 N k0 n) k0
def b(N:aF)(kr:aw->aC R)(a:aR)(d:aw)(e:aq):aC R:=bif pQ.c a d then bif !pQ.v a d then kr 0 else l5 N (λ_ f _ _ _=>kr f) N e 15 a (a.length:aw) 0 else aj
def vo:=b Lib.cU λr0=>ah r0
def c:=λa d e=>(vo a d e).isSome
def v:=λa d e=>(vo a d e).getD (0)
theorem out{x}:∀a d e,vo a d e=ah x->c a d e=ai/\v a d e=x:=λ_ _ _=>Lib.dg
end vZ

namespace zw
def b(kr:Mm R)(a d e:aR)(f:aw)(h:aq):aC R:=bif jw.c a d e f then bif pd.c a d e f then bif !pd.v a d e f then kr (jw.v a d e f).1 (jw.v a d e f).2.1 (jw.v a d e f).2.2.1 (jw.v a d e f).2.2.2 ⟨#[]⟩else bif !zv.v h then kr (jw.v a d e f).1 (jw.v a d e f).2.1 (jw.v a d e f).2.2.1 (jw.v a d e f).2.2.2 ⟨#[]⟩else bif iL.c e f h then bif sK.c d h then bif sK.v d h then bif kg.c d h then bif cw ((kg.v d h).length+(aD (aP [.s] 1) 0 [.s h]).length) 16 then kr (jw.v a d e f).1 (kg.v d h++aD (aP [.s] 1) 0 [.s h]) (iL.v e f h).1 (iL.v e f h).2 ⟨#[]⟩else aj else aj else bif kg.c a h then bif cw ((kg.v a h).length+(aD (aP [.s] 1) 0 [.s h]).length) 16 then bif decide (((kg.v a h++aD (aP [.s] 1) 0 [.s h]).length:aw)<=2)then kr (kg.v a h++aD (aP [.s] 1) 0 [.s h]) (jw.v a d e f).2.1 (iL.v e f h).1 (iL.v e f h).2 ⟨#[]⟩else bif decide (0<((kg.v a h++aD (aP [.s] 1) 0 [.s h]).length:aw))then bif g8 1 ((kg.v a h++aD (aP [.s] 1) 0 [.s h]).length:aw) ((kg.v a h++aD (aP [.s] 1) 0 [.s h]).length:aw)then bif decide (((jw.v a d e f).2.1.length:aw)<4)then bif cw ((jw.v a d e f).2.1.length+(aD (aP [.s] 1) 0 [.s (bw (ar (kg.v a h++aD (aP [.s] 1) 0 [.s h]) (aW 0) 0))]).length) 16 then kr (eA (kg.v a h++aD (aP [.s] 1) 0 [.s h]) (aW 1) ((kg.v a h++aD (aP [.s] 1) 0 [.s h]).length:aw).toNat) ((jw.v a d e f).2.1++aD (aP [.s] 1) 0 [.s (bw (ar (kg.v a h++aD (aP [.s] 1) 0 [.s h]) (aW 0) 0))]) (iL.v e f h).1 (iL.v e f h).2 ⟨#[]⟩else aj else bif decide (0<((jw.v a d e f).2.1.length:aw))then bif vZ.c (iL.v e f h).1 (iL.v e f h).2 (bw (ar (kg.v a h++aD (aP [.s] 1) 0 [.s h]) (aW 0) 0))then bif vZ.c (iL.v e f h).1 (iL.v e f h).2 (bw (ar (jw.v a d e f).2.1 (aW 0) 0))then bif decide (vZ.v (iL.v e f h).1 (iL.v e f h).2 (bw (ar (kg.v a h++aD (aP [.s] 1) 0 [.s h]) (aW 0) 0))>vZ.v (iL.v e f h).1 (iL.v e f h).2 (bw (ar (jw.v a d e f).2.1 (aW 0) 0)))then bif g8 1 ((jw.v a d e f).2.1.length:aw) ((jw.v a d e f).2.1.length:aw)then bif cw ((eA (jw.v a d e f).2.1 (aW 1) ((jw.v a d e f).2.1.length:aw).toNat).length+(aD (aP [.s] 1) 0 [.s (bw (ar (kg.v a h++aD (aP [.s] 1) 0 [.s h]) (aW 0) 0))]).length) 16 then kr (eA (kg.v a h++aD (aP [.s] 1) 0 [.s h]) (aW 1) ((kg.v a h++aD (aP [.s] 1) 0 [.s h]).length:aw).toNat) (eA (jw.v a d e f).2.1 (aW 1) ((jw.v a d e f).2.1.length:aw).toNat++aD (aP [.s] 1) 0 [.s (bw (ar (kg.v a h++aD (aP [.s] 1) 0 [.s h]) (aW 0) 0))]) (iL.v e f h).1 (iL.v e f h).2 (bw (ar (jw.v a d e f).2.1 (aW 0) 0))else aj else aj else kr (eA (kg.v a h++aD (aP [.s] 1) 0 [.s h]) (aW 1) ((kg.v a h++aD (aP [.s] 1) 0 [.s h]).length:aw).toNat) (jw.v a d e f).2.1 (iL.v e f h).1 (iL.v e f h).2 (bw (ar (kg.v a h++aD (aP [.s] 1) 0 [.s h]) (aW 0) 0))else aj else aj else aj else aj else aj else aj else aj else aj else aj else aj else aj
def vo:=b λr0 r1 r2 r3 r4=>ah (r0,r1,r2,r3,r4)
def c:=λa d e f h=>(vo a d e f h).isSome
def v:=λa d e f h=>(vo a d e f h).getD ([],[],[],0,⟨#[]⟩)
theorem out{x}:∀a d e f h,vo a d e f h=ah x->c a d e f h=ai/\v a d e f h=x:=λ_ _ _ _ _=>Lib.dg
end zw


namespace jo
def r2(N:aF)(g k0:jF R)(a d e f h:aw)(i:aq)(j l m:aw)(o:aq)(p:aw)(q r s t u w:aR):aC R:=bif decide (a<(w.length:aw))then bif decide (0<=a)&&decide (a<(w.length:aw))then bif decide (bF (ar w a.toNat 0)<h)then g (bJ (a+1)) d e f h i j l m o p q r s t u w else k0 a d e f h i j l m o p q r s t u w else aj else k0 a d e f h i j l m o p q r s t u w
def l2(N:aF)(k0:jF R):aF->jF R
 |0=>λ_ _ _ _ _ _ _ _ _ _ _ _ _ _ _ _ _=>aj
 |n+1=>r2 N (l2 N k0 n) k0
def b(N:aF)(kr:ed R)(a:aw)(d e f h:aR)(i:aw)(j l:aR)(m o:aw)(p:aq)(q r s:aw)(t:aq)(u:aw):aC R:=l2 N (λw y z α xa xb xc xd xe xf xg xh xi xj xk xl xm=>bif decide (0<=w)&&decide (w<=(xm.length:aw))&&cw (xm.length+(aD (aP [Ck.i ao,Ck.s,Ck.i ao,Ck.i ao,Ck.i ao,Ck.s,Ck.i ao] 1) 0 [.i .i64 xa, .s xb, .i .i64 xc, .i .i64 xd, .i .i64 xe, .s xf, .i .i64 xg]).length) 72 then kr y xh xi xj xk z xl (Pu.tN xm w.toNat (aD (aP [Ck.i ao,Ck.s,Ck.i ao,Ck.i ao,Ck.i ao,Ck.s,Ck.i ao] 1) 0 [.i .i64 xa, .s xb, .i .i64 xc, .i .i64 xd, .i .i64 xe, .s xf, .i .i64 xg])) α else aj) N 0 a i m o p q r s t u d e f h j l
def vo:=b Lib.cU λr0 r1 r2 r3 r4 r5 r6 r7 r8=>ah (r0,r1,r2,r3,r4,r5,r6,r7,r8)
def c:=λa d e f h i j l m o p q r s t u=>(vo a d e f h i j l m o p q r s t u).isSome
def v:=λa d e f h i j l m o p q r s t u=>(vo a d e f h i j l m o p q r s t u).getD (0,[],[],[],[],0,[],[],0)
theorem out{x}:∀a d e f h i j l m o p q r s t u,vo a d e f h i j l m o p q r s t u=ah x->c a d e f h i j l m o p q r s t u=ai/\v a d e f h i j l m o p q r s t u=x:=λ_ _ _ _ _ _ _ _ _ _ _ _ _ _ _ _=>Lib.dg
end jo

namespace pf
def r5(N:aF)(g k0:mr R)(a:aq)(d e:aw)(f:aR):aC R:=bif decide (e<(f.length:aw))then bif decide (0<=e)&&decide (e<(f.length:aw))then bif !AZ.v (bw (ar f e.toNat 0)) (bF (ar f e.toNat 1)) (bF (ar f e.toNat (1+1))) (bw (ar f e.toNat (1+1+1))) a then bif decide (0<=d)&&decide (d<(f.length:aw))then g a (bJ (d+1)) (bJ (e+1)) (eJ f d.toNat 0 [.s (bw (ar f e.toNat 0)), .i .i64 (bF (ar f e.toNat 1)), .i .i64 (bF (ar f e.toNat (1+1))), .s (bw (ar f e.toNat (1+1+1)))])else aj else g a d (bJ (e+1)) f else aj else k0 a d e f
def l5(N:aF)(k0:mr R):aF->mr R
 |0=>λ_ _ _ _=>aj
 |n+1=>r5 N (l5 N k0 n) k0
def b(N:aF)(kr:aR->aC R)(a:aR)(gO:aq):aC R:=bif nv.c a gO then bif decide (nv.v a gO=Ku 1)then kr a else l5 N (λ_ d _ e=>bif g8 d (e.length:aw) (e.length:aw)then bif g8 0 d ((g_ d.toNat e++aP [Ck.s,Ck.i ao,Ck.i ao,Ck.s] ((e.length:aw).toNat-d.toNat)++nt (e.length:aw).toNat e).length:aw)then kr (eA (g_ d.toNat e++aP [Ck.s,Ck.i ao,Ck.i ao,Ck.s] ((e.length:aw).toNat-d.toNat)++nt (e.length:aw).toNat e) (aW 0) d.toNat)else aj else aj) N gO (nv.v a gO) (bJ (nv.v a gO+1)) a else aj
def vo:=b Lib.cU λr0=>ah r0
def c:=λa d=>(vo a d).isSome
def v:=λa d=>(vo a d).getD ([])
theorem out{x}:∀a d,vo a d=ah x->c a d=ai/\v a d=x:=λ_ _=>Lib.dg
end pf

namespace pP
def b(kr:aR->aC R)(a:aR)(d:aq):aC R:=bif wV.c a then bif pf.c (wV.v a) d then kr (pf.v (wV.v a) d)else aj else aj
def vo:=b λr0=>ah r0
def c:=λa d=>(vo a d).isSome
def v:=λa d=>(vo a d).getD ([])
theorem out{x}:∀a d,vo a d=ah x->c a d=ai/\v a d=x:=λ_ _=>Lib.dg
end pP

namespace va
def b(kr:s_ R)(a d e:aR)(f:aw)(h:aq):aC R:=bif jw.c a d e f then bif kg.c a h then bif kg.c d h then kr (kg.v a h) (kg.v d h) (jw.v a d e f).2.2.1 (jw.v a d e f).2.2.2 else aj else aj else aj
def vo:=b λr0 r1 r2 r3=>ah (r0,r1,r2,r3)
def c:=λa d e f h=>(vo a d e f h).isSome
def v:=λa d e f h=>(vo a d e f h).getD ([],[],[],0)
theorem out{x}:∀a d e f h,vo a d e f h=ah x->c a d e f h=ai/\v a d e f h=x:=λ_ _ _ _ _=>Lib.dg
end va

namespace R_
def b(kr:wG R)(a:aw)(d e f h:aR)(i:aw)(j l:aR)(m o:aw)(p:aq):aC R:=bif iP.c a d e f h i j l m then Lib.lt (iP.v a d e f h i j l m) λq=>bif OS.c a d e f h i j l m then Lib.lt (OS.v a d e f h i j l m) λr=>bif !r then kr q.1 q.2.1 q.2.2.1 q.2.2.2.1 q.2.2.2.2.1 q.2.2.2.2.2.1 q.2.2.2.2.2.2.1 q.2.2.2.2.2.2.2.1 q.2.2.2.2.2.2.2.2 1 else bif !lB.v o 1 9 then kr q.1 q.2.1 q.2.2.1 q.2.2.2.1 q.2.2.2.2.1 q.2.2.2.2.2.1 q.2.2.2.2.2.2.1 q.2.2.2.2.2.2.2.1 q.2.2.2.2.2.2.2.2 1 else bif !zv.v p then kr q.1 q.2.1 q.2.2.1 q.2.2.2.1 q.2.2.2.2.1 q.2.2.2.2.2.1 q.2.2.2.2.2.2.1 q.2.2.2.2.2.2.2.1 q.2.2.2.2.2.2.2.2 1 else bif zu.c a d e f h i j l m o then Lib.lt (zu.v a d e f h i j l m o) λs=>bif decide (s≥0)then kr q.1 q.2.1 q.2.2.1 q.2.2.2.1 q.2.2.2.2.1 q.2.2.2.2.2.1 q.2.2.2.2.2.2.1 q.2.2.2.2.2.2.2.1 q.2.2.2.2.2.2.2.2 1 else bif decide ((l.length:aw)=6)then kr q.1 q.2.1 q.2.2.1 q.2.2.2.1 q.2.2.2.2.1 q.2.2.2.2.2.1 q.2.2.2.2.2.2.1 q.2.2.2.2.2.2.2.1 q.2.2.2.2.2.2.2.2 1 else bif pW.c d p then Lib.lt (pW.v d p) λt=>bif decide (t≥0)then bif decide (0<=t)&&decide (t<(d.length:aw))then bif GN.v (bw (ar d t.toNat 0)) (bF (ar d t.toNat 1)) (bF (ar d t.toNat (1+1))) (bw (ar d t.toNat (1+1+1))) a then bif decide (0<=t)&&decide (t<(d.length:aw))then bif zw.c e f h i p then Lib.lt (zw.v e f h i p) λu=>bif jo.c q.1 q.2.1 u.1 u.2.1 u.2.2.1 u.2.2.2.1 q.2.2.2.2.2.2.1 q.2.2.2.2.2.2.2.1 q.2.2.2.2.2.2.2.2 o p 0 (bF (ar d t.toNat 1)) 2 (bw (ar d t.toNat (1+1+1))) (bJ (a-bF (ar d t.toNat 1)))then Lib.lt (jo.v q.1 q.2.1 u.1 u.2.1 u.2.2.1 u.2.2.2.1 q.2.2.2.2.2.2.1 q.2.2.2.2.2.2.2.1 q.2.2.2.2.2.2.2.2 o p 0 (bF (ar d t.toNat 1)) 2 (bw (ar d t.toNat (1+1+1))) (bJ (a-bF (ar d t.toNat 1)))) λw=>kr w.1 w.2.1 w.2.2.1 w.2.2.2.1 w.2.2.2.2.1 w.2.2.2.2.2.1 w.2.2.2.2.2.2.1 w.2.2.2.2.2.2.2.1 (iv ak (bJ (m+1)) 1000000000) 0 else aj else aj else aj else bif KE.c a d e f h i j l m p then Lib.lt (KE.v a d e f h i j l m p) λu=>bif decide (u<0)then bif decide ((j.length:aw)=20)then kr q.1 q.2.1 q.2.2.1 q.2.2.2.1 q.2.2.2.2.1 q.2.2.2.2.2.1 q.2.2.2.2.2.2.1 q.2.2.2.2.2.2.2.1 q.2.2.2.2.2.2.2.2 2 else bif decide (t≥0)then bif pP.c d p then Lib.lt (pP.v d p) λw=>bif va.c e f h i p then Lib.lt (va.v e f h i p) λy=>bif iL.c h i p then Lib.lt (iL.v h i p) λz=>bif decide (u<0)then bif cw (q.2.2.2.2.2.2.1.length+(aD (aP [Ck.s,Ck.s,Ck.i ao,Ck.i ao,Ck.i ao] 1) 0 [.s p, .s ⟨#[]⟩, .i .i64 1, .i .i64 0, .i .i64 0]).length) 56 then bif decide ((j.length:aw)<((q.2.2.2.2.2.2.1++aD (aP [Ck.s,Ck.s,Ck.i ao,Ck.i ao,Ck.i ao] 1) 0 [.s p, .s ⟨#[]⟩, .i .i64 1, .i .i64 0, .i .i64 0]).length:aw))then bif jo.c q.1 w y.1 y.2.1 z.1 z.2 (q.2.2.2.2.2.2.1++aD (aP [Ck.s,Ck.s,Ck.i ao,Ck.i ao,Ck.i ao] 1) 0 [.s p, .s ⟨#[]⟩, .i .i64 1, .i .i64 0, .i .i64 0]) q.2.2.2.2.2.2.2.1 q.2.2.2.2.2.2.2.2 o p (bJ ((j.length:aw)+1)) 0 1 (bw (ar (q.2.2.2.2.2.2.1++aD (aP [Ck.s,Ck.s,Ck.i ao,Ck.i ao,Ck.i ao] 1) 0 [.s p, .s ⟨#[]⟩, .i .i64 1, .i .i64 0, .i .i64 0]) (j.length:aw).toNat 1)) 0 then Lib.lt (jo.v q.1 w y.1 y.2.1 z.1 z.2 (q.2.2.2.2.2.2.1++aD (aP [Ck.s,Ck.s,Ck.i ao,Ck.i ao,Ck.i ao] 1) 0 [.s p, .s ⟨#[]⟩, .i .i64 1, .i .i64 0, .i .i64 0]) q.2.2.2.2.2.2.2.1 q.2.2.2.2.2.2.2.2 o p (bJ ((j.length:aw)+1)) 0 1 (bw (ar (q.2.2.2.2.2.2.1++aD (aP [Ck.s,Ck.s,Ck.i ao,Ck.i ao,Ck.i ao] 1) 0 [.s p, .s ⟨#[]⟩, .i .i64 1, .i .i64 0, .i .i64 0]) (j.length:aw).toNat 1)) 0) λα=>kr α.1 α.2.1 α.2.2.1 α.2.2.2.1 α.2.2.2.2.1 α.2.2.2.2.2.1 α.2.2.2.2.2.2.1 α.2.2.2.2.2.2.2.1 α.2.2.2.2.2.2.2.2 0 else aj else aj else aj else bif decide (0<=u)&&decide (u<(q.2.2.2.2.2.2.1.length:aw))then bif jo.c q.1 w y.1 y.2.1 z.1 z.2 q.2.2.2.2.2.2.1 q.2.2.2.2.2.2.2.1 q.2.2.2.2.2.2.2.2 o p (bJ (u+1)) 0 1 (bw (ar q.2.2.2.2.2.2.1 u.toNat 1)) 0 then Lib.lt (jo.v q.1 w y.1 y.2.1 z.1 z.2 q.2.2.2.2.2.2.1 q.2.2.2.2.2.2.2.1 q.2.2.2.2.2.2.2.2 o p (bJ (u+1)) 0 1 (bw (ar q.2.2.2.2.2.2.1 u.toNat 1)) 0) λα=>kr α.1 α.2.1 α.2.2.1 α.2.2.2.1 α.2.2.2.2.1 α.2.2.2.2.2.1 α.2.2.2.2.2.2.1 α.2.2.2.2.2.2.2.1 α.2.2.2.2.2.2.2.2 0 else aj else aj else aj else aj else aj else bif iL.c h i p then Lib.lt (iL.v h i p) λw=>bif decide (u<0)then bif cw (q.2.2.2.2.2.2.1.length+(aD (aP [Ck.s,Ck.s,Ck.i ao,Ck.i ao,Ck.i ao] 1) 0 [.s p, .s ⟨#[]⟩, .i .i64 1, .i .i64 0, .i .i64 0]).length) 56 then bif decide ((j.length:aw)<((q.2.2.2.2.2.2.1++aD (aP [Ck.s,Ck.s,Ck.i ao,Ck.i ao,Ck.i ao] 1) 0 [.s p, .s ⟨#[]⟩, .i .i64 1, .i .i64 0, .i .i64 0]).length:aw))then bif jo.c q.1 q.2.1 q.2.2.1 q.2.2.2.1 w.1 w.2 (q.2.2.2.2.2.2.1++aD (aP [Ck.s,Ck.s,Ck.i ao,Ck.i ao,Ck.i ao] 1) 0 [.s p, .s ⟨#[]⟩, .i .i64 1, .i .i64 0, .i .i64 0]) q.2.2.2.2.2.2.2.1 q.2.2.2.2.2.2.2.2 o p (bJ ((j.length:aw)+1)) 0 1 (bw (ar (q.2.2.2.2.2.2.1++aD (aP [Ck.s,Ck.s,Ck.i ao,Ck.i ao,Ck.i ao] 1) 0 [.s p, .s ⟨#[]⟩, .i .i64 1, .i .i64 0, .i .i64 0]) (j.length:aw).toNat 1)) 0 then Lib.lt (jo.v q.1 q.2.1 q.2.2.1 q.2.2.2.1 w.1 w.2 (q.2.2.2.2.2.2.1++aD (aP [Ck.s,Ck.s,Ck.i ao,Ck.i ao,Ck.i ao] 1) 0 [.s p, .s ⟨#[]⟩, .i .i64 1, .i .i64 0, .i .i64 0]) q.2.2.2.2.2.2.2.1 q.2.2.2.2.2.2.2.2 o p (bJ ((j.length:aw)+1)) 0 1 (bw (ar (q.2.2.2.2.2.2.1++aD (aP [Ck.s,Ck.s,Ck.i ao,Ck.i ao,Ck.i ao] 1) 0 [.s p, .s ⟨#[]⟩, .i .i64 1, .i .i64 0, .i .i64 0]) (j.length:aw).toNat 1)) 0) λy=>kr y.1 y.2.1 y.2.2.1 y.2.2.2.1 y.2.2.2.2.1 y.2.2.2.2.2.1 y.2.2.2.2.2.2.1 y.2.2.2.2.2.2.2.1 y.2.2.2.2.2.2.2.2 0 else aj else aj else aj else bif decide (0<=u)&&decide (u<(q.2.2.2.2.2.2.1.length:aw))then bif jo.c q.1 q.2.1 q.2.2.1 q.2.2.2.1 w.1 w.2 q.2.2.2.2.2.2.1 q.2.2.2.2.2.2.2.1 q.2.2.2.2.2.2.2.2 o p (bJ (u+1)) 0 1 (bw (ar q.2.2.2.2.2.2.1 u.toNat 1)) 0 then Lib.lt (jo.v q.1 q.2.1 q.2.2.1 q.2.2.2.1 w.1 w.2 q.2.2.2.2.2.2.1 q.2.2.2.2.2.2.2.1 q.2.2.2.2.2.2.2.2 o p (bJ (u+1)) 0 1 (bw (ar q.2.2.2.2.2.2.1 u.toNat 1)) 0) λy=>kr y.1 y.2.1 y.2.2.1 y.2.2.2.1 y.2.2.2.2.1 y.2.2.2.2.2.1 y.2.2.2.2.2.2.1 y.2.2.2.2.2.2.2.1 y.2.2.2.2.2.2.2.2 0 else aj else aj else aj else bif decide (t≥0)then bif pP.c d p then Lib.lt (pP.v d p) λw=>bif va.c e f h i p then Lib.lt (va.v e f h i p) λy=>bif iL.c h i p then Lib.lt (iL.v h i p) λz=>bif decide (u<0)then bif cw (q.2.2.2.2.2.2.1.length+(aD (aP [Ck.s,Ck.s,Ck.i ao,Ck.i ao,Ck.i ao] 1) 0 [.s p, .s ⟨#[]⟩, .i .i64 1, .i .i64 0, .i .i64 0]).length) 56 then bif decide ((j.length:aw)<((q.2.2.2.2.2.2.1++aD (aP [Ck.s,Ck.s,Ck.i ao,Ck.i ao,Ck.i ao] 1) 0 [.s p, .s ⟨#[]⟩, .i .i64 1, .i .i64 0, .i .i64 0]).length:aw))then bif jo.c q.1 w y.1 y.2.1 z.1 z.2 (q.2.2.2.2.2.2.1++aD (aP [Ck.s,Ck.s,Ck.i ao,Ck.i ao,Ck.i ao] 1) 0 [.s p, .s ⟨#[]⟩, .i .i64 1, .i .i64 0, .i .i64 0]) q.2.2.2.2.2.2.2.1 q.2.2.2.2.2.2.2.2 o p (bJ ((j.length:aw)+1)) 0 1 (bw (ar (q.2.2.2.2.2.2.1++aD (aP [Ck.s,Ck.s,Ck.i ao,Ck.i ao,Ck.i ao] 1) 0 [.s p, .s ⟨#[]⟩, .i .i64 1, .i .i64 0, .i .i64 0]) (j.length:aw).toNat 1)) 0 then Lib.lt (jo.v q.1 w y.1 y.2.1 z.1 z.2 (q.2.2.2.2.2.2.1++aD (aP [Ck.s,Ck.s,Ck.i ao,Ck.i ao,Ck.i ao] 1) 0 [.s p, .s ⟨#[]⟩, .i .i64 1, .i .i64 0, .i .i64 0]) q.2.2.2.2.2.2.2.1 q.2.2.2.2.2.2.2.2 o p (bJ ((j.length:aw)+1)) 0 1 (bw (ar (q.2.2.2.2.2.2.1++aD (aP [Ck.s,Ck.s,Ck.i ao,Ck.i ao,Ck.i ao] 1) 0 [.s p, .s ⟨#[]⟩, .i .i64 1, .i .i64 0, .i .i64 0]) (j.length:aw).toNat 1)) 0) λα=>kr α.1 α.2.1 α.2.2.1 α.2.2.2.1 α.2.2.2.2.1 α.2.2.2.2.2.1 α.2.2.2.2.2.2.1 α.2.2.2.2.2.2.2.1 α.2.2.2.2.2.2.2.2 0 else aj else aj else aj else bif decide (0<=u)&&decide (u<(q.2.2.2.2.2.2.1.length:aw))then bif jo.c q.1 w y.1 y.2.1 z.1 z.2 q.2.2.2.2.2.2.1 q.2.2.2.2.2.2.2.1 q.2.2.2.2.2.2.2.2 o p (bJ (u+1)) 0 1 (bw (ar q.2.2.2.2.2.2.1 u.toNat 1)) 0 then Lib.lt (jo.v q.1 w y.1 y.2.1 z.1 z.2 q.2.2.2.2.2.2.1 q.2.2.2.2.2.2.2.1 q.2.2.2.2.2.2.2.2 o p (bJ (u+1)) 0 1 (bw (ar q.2.2.2.2.2.2.1 u.toNat 1)) 0) λα=>kr α.1 α.2.1 α.2.2.1 α.2.2.2.1 α.2.2.2.2.1 α.2.2.2.2.2.1 α.2.2.2.2.2.2.1 α.2.2.2.2.2.2.2.1 α.2.2.2.2.2.2.2.2 0 else aj else aj else aj else aj else aj else bif iL.c h i p then Lib.lt (iL.v h i p) λw=>bif decide (u<0)then bif cw (q.2.2.2.2.2.2.1.length+(aD (aP [Ck.s,Ck.s,Ck.i ao,Ck.i ao,Ck.i ao] 1) 0 [.s p, .s ⟨#[]⟩, .i .i64 1, .i .i64 0, .i .i64 0]).length) 56 then bif decide ((j.length:aw)<((q.2.2.2.2.2.2.1++aD (aP [Ck.s,Ck.s,Ck.i ao,Ck.i ao,Ck.i ao] 1) 0 [.s p, .s ⟨#[]⟩, .i .i64 1, .i .i64 0, .i .i64 0]).length:aw))then bif jo.c q.1 q.2.1 q.2.2.1 q.2.2.2.1 w.1 w.2 (q.2.2.2.2.2.2.1++aD (aP [Ck.s,Ck.s,Ck.i ao,Ck.i ao,Ck.i ao] 1) 0 [.s p, .s ⟨#[]⟩, .i .i64 1, .i .i64 0, .i .i64 0]) q.2.2.2.2.2.2.2.1 q.2.2.2.2.2.2.2.2 o p (bJ ((j.length:aw)+1)) 0 1 (bw (ar (q.2.2.2.2.2.2.1++aD (aP [Ck.s,Ck.s,Ck.i ao,Ck.i ao,Ck.i ao] 1) 0 [.s p, .s ⟨#[]⟩, .i .i64 1, .i .i64 0, .i .i64 0]) (j.length:aw).toNat 1)) 0 then Lib.lt (jo.v q.1 q.2.1 q.2.2.1 q.2.2.2.1 w.1 w.2 (q.2.2.2.2.2.2.1++aD (aP [Ck.s,Ck.s,Ck.i ao,Ck.i ao,Ck.i ao] 1) 0 [.s p, .s ⟨#[]⟩, .i .i64 1, .i .i64 0, .i .i64 0]) q.2.2.2.2.2.2.2.1 q.2.2.2.2.2.2.2.2 o p (bJ ((j.length:aw)+1)) 0 1 (bw (ar (q.2.2.2.2.2.2.1++aD (aP [Ck.s,Ck.s,Ck.i ao,Ck.i ao,Ck.i ao] 1) 0 [.s p, .s ⟨#[]⟩, .i .i64 1, .i .i64 0, .i .i64 0]) (j.length:aw).toNat 1)) 0) λy=>kr y.1 y.2.1 y.2.2.1 y.2.2.2.1 y.2.2.2.2.1 y.2.2.2.2.2.1 y.2.2.2.2.2.2.1 y.2.2.2.2.2.2.2.1 y.2.2.2.2.2.2.2.2 0 else aj else aj else aj else bif decide (0<=u)&&decide (u<(q.2.2.2.2.2.2.1.length:aw))then bif jo.c q.1 q.2.1 q.2.2.1 q.2.2.2.1 w.1 w.2 q.2.2.2.2.2.2.1 q.2.2.2.2.2.2.2.1 q.2.2.2.2.2.2.2.2 o p (bJ (u+1)) 0 1 (bw (ar q.2.2.2.2.2.2.1 u.toNat 1)) 0 then Lib.lt (jo.v q.1 q.2.1 q.2.2.1 q.2.2.2.1 w.1 w.2 q.2.2.2.2.2.2.1 q.2.2.2.2.2.2.2.1 q.2.2.2.2.2.2.2.2 o p (bJ (u+1)) 0 1 (bw (ar q.2.2.2.2.2.2.1 u.toNat 1)) 0) λy=>kr y.1 y.2.1 y.2.2.1 y.2.2.2.1 y.2.2.2.2.1 y.2.2.2.2.2.1 y.2.2.2.2.2.2.1 y.2.2.2.2.2.2.2.1 y.2.2.2.2.2.2.2.2 0 else aj else aj else aj else aj else aj else bif KE.c a d e f h i j l m p then Lib.lt (KE.v a d e f h i j l m p) λu=>bif decide (u<0)then bif decide ((j.length:aw)=20)then kr q.1 q.2.1 q.2.2.1 q.2.2.2.1 q.2.2.2.2.1 q.2.2.2.2.2.1 q.2.2.2.2.2.2.1 q.2.2.2.2.2.2.2.1 q.2.2.2.2.2.2.2.2 2 else bif decide (t≥0)then bif pP.c d p then Lib.lt (pP.v d p) λw=>bif va.c e f h i p then Lib.lt (va.v e f h i p) λy=>bif iL.c h i p then Lib.lt (iL.v h i p) λz=>bif decide (u<0)then bif cw (q.2.2.2.2.2.2.1.length+(aD (aP [Ck.s,Ck.s,Ck.i ao,Ck.i ao,Ck.i ao] 1) 0 [.s p, .s ⟨#[]⟩, .i .i64 1, .i .i64 0, .i .i64 0]).length) 56 then bif decide ((j.length:aw)<((q.2.2.2.2.2.2.1++aD (aP [Ck.s,Ck.s,Ck.i ao,Ck.i ao,Ck.i ao] 1) 0 [.s p, .s ⟨#[]⟩, .i .i64 1, .i .i64 0, .i .i64 0]).length:aw))then bif jo.c q.1 w y.1 y.2.1 z.1 z.2 (q.2.2.2.2.2.2.1++aD (aP [Ck.s,Ck.s,Ck.i ao,Ck.i ao,Ck.i ao] 1) 0 [.s p, .s ⟨#[]⟩, .i .i64 1, .i .i64 0, .i .i64 0]) q.2.2.2.2.2.2.2.1 q.2.2.2.2.2.2.2.2 o p (bJ ((j.length:aw)+1)) 0 1 (bw (ar (q.2.2.2.2.2.2.1++aD (aP [Ck.s,Ck.s,Ck.i ao,Ck.i ao,Ck.i ao] 1) 0 [.s p, .s ⟨#[]⟩, .i .i64 1, .i .i64 0, .i .i64 0]) (j.length:aw).toNat 1)) 0 then Lib.lt (jo.v q.1 w y.1 y.2.1 z.1 z.2 (q.2.2.2.2.2.2.1++aD (aP [Ck.s,Ck.s,Ck.i ao,Ck.i ao,Ck.i ao] 1) 0 [.s p, .s ⟨#[]⟩, .i .i64 1, .i .i64 0, .i .i64 0]) q.2.2.2.2.2.2.2.1 q.2.2.2.2.2.2.2.2 o p (bJ ((j.length:aw)+1)) 0 1 (bw (ar (q.2.2.2.2.2.2.1++aD (aP [Ck.s,Ck.s,Ck.i ao,Ck.i ao,Ck.i ao] 1) 0 [.s p, .s ⟨#[]⟩, .i .i64 1, .i .i64 0, .i .i64 0]) (j.length:aw).toNat 1)) 0) λα=>kr α.1 α.2.1 α.2.2.1 α.2.2.2.1 α.2.2.2.2.1 α.2.2.2.2.2.1 α.2.2.2.2.2.2.1 α.2.2.2.2.2.2.2.1 α.2.2.2.2.2.2.2.2 0 else aj else aj else aj else bif decide (0<=u)&&decide (u<(q.2.2.2.2.2.2.1.length:aw))then bif jo.c q.1 w y.1 y.2.1 z.1 z.2 q.2.2.2.2.2.2.1 q.2.2.2.2.2.2.2.1 q.2.2.2.2.2.2.2.2 o p (bJ (u+1)) 0 1 (bw (ar q.2.2.2.2.2.2.1 u.toNat 1)) 0 then Lib.lt (jo.v q.1 w y.1 y.2.1 z.1 z.2 q.2.2.2.2.2.2.1 q.2.2.2.2.2.2.2.1 q.2.2.2.2.2.2.2.2 o p (bJ (u+1)) 0 1 (bw (ar q.2.2.2.2.2.2.1 u.toNat 1)) 0) λα=>kr α.1 α.2.1 α.2.2.1 α.2.2.2.1 α.2.2.2.2.1 α.2.2.2.2.2.1 α.2.2.2.2.2.2.1 α.2.2.2.2.2.2.2.1 α.2.2.2.2.2.2.2.2 0 else aj else aj else aj else aj else aj else bif iL.c h i p then Lib.lt (iL.v h i p) λw=>bif decide (u<0)then bif cw (q.2.2.2.2.2.2.1.length+(aD (aP [Ck.s,Ck.s,Ck.i ao,Ck.i ao,Ck.i ao] 1) 0 [.s p, .s ⟨#[]⟩, .i .i64 1, .i .i64 0, .i .i64 0]).length) 56 then bif decide ((j.length:aw)<((q.2.2.2.2.2.2.1++aD (aP [Ck.s,Ck.s,Ck.i ao,Ck.i ao,Ck.i ao] 1) 0 [.s p, .s ⟨#[]⟩, .i .i64 1, .i .i64 0, .i .i64 0]).length:aw))then bif jo.c q.1 q.2.1 q.2.2.1 q.2.2.2.1 w.1 w.2 (q.2.2.2.2.2.2.1++aD (aP [Ck.s,Ck.s,Ck.i ao,Ck.i ao,Ck.i ao] 1) 0 [.s p, .s ⟨#[]⟩, .i .i64 1, .i .i64 0, .i .i64 0]) q.2.2.2.2.2.2.2.1 q.2.2.2.2.2.2.2.2 o p (bJ ((j.length:aw)+1)) 0 1 (bw (ar (q.2.2.2.2.2.2.1++aD (aP [Ck.s,Ck.s,Ck.i ao,Ck.i ao,Ck.i ao] 1) 0 [.s p, .s ⟨#[]⟩, .i .i64 1, .i .i64 0, .i .i64 0]) (j.length:aw).toNat 1)) 0 then Lib.lt (jo.v q.1 q.2.1 q.2.2.1 q.2.2.2.1 w.1 w.2 (q.2.2.2.2.2.2.1++aD (aP [Ck.s,Ck.s,Ck.i ao,Ck.i ao,Ck.i ao] 1) 0 [.s p, .s ⟨#[]⟩, .i .i64 1, .i .i64 0, .i .i64 0]) q.2.2.2.2.2.2.2.1 q.2.2.2.2.2.2.2.2 o p (bJ ((j.length:aw)+1)) 0 1 (bw (ar (q.2.2.2.2.2.2.1++aD (aP [Ck.s,Ck.s,Ck.i ao,Ck.i ao,Ck.i ao] 1) 0 [.s p, .s ⟨#[]⟩, .i .i64 1, .i .i64 0, .i .i64 0]) (j.length:aw).toNat 1)) 0) λy=>kr y.1 y.2.1 y.2.2.1 y.2.2.2.1 y.2.2.2.2.1 y.2.2.2.2.2.1 y.2.2.2.2.2.2.1 y.2.2.2.2.2.2.2.1 y.2.2.2.2.2.2.2.2 0 else aj else aj else aj else bif decide (0<=u)&&decide (u<(q.2.2.2.2.2.2.1.length:aw))then bif jo.c q.1 q.2.1 q.2.2.1 q.2.2.2.1 w.1 w.2 q.2.2.2.2.2.2.1 q.2.2.2.2.2.2.2.1 q.2.2.2.2.2.2.2.2 o p (bJ (u+1)) 0 1 (bw (ar q.2.2.2.2.2.2.1 u.toNat 1)) 0 then Lib.lt (jo.v q.1 q.2.1 q.2.2.1 q.2.2.2.1 w.1 w.2 q.2.2.2.2.2.2.1 q.2.2.2.2.2.2.2.1 q.2.2.2.2.2.2.2.2 o p (bJ (u+1)) 0 1 (bw (ar q.2.2.2.2.2.2.1 u.toNat 1)) 0) λy=>kr y.1 y.2.1 y.2.2.1 y.2.2.2.1 y.2.2.2.2.1 y.2.2.2.2.2.1 y.2.2.2.2.2.2.1 y.2.2.2.2.2.2.2.1 y.2.2.2.2.2.2.2.2 0 else aj else aj else aj else bif decide (t≥0)then bif pP.c d p then Lib.lt (pP.v d p) λw=>bif va.c e f h i p then Lib.lt (va.v e f h i p) λy=>bif iL.c h i p then Lib.lt (iL.v h i p) λz=>bif decide (u<0)then bif cw (q.2.2.2.2.2.2.1.length+(aD (aP [Ck.s,Ck.s,Ck.i ao,Ck.i ao,Ck.i ao] 1) 0 [.s p, .s ⟨#[]⟩, .i .i64 1, .i .i64 0, .i .i64 0]).length) 56 then bif decide ((j.length:aw)<((q.2.2.2.2.2.2.1++aD (aP [Ck.s,Ck.s,Ck.i ao,Ck.i ao,Ck.i ao] 1) 0 [.s p, .s ⟨#[]⟩, .i .i64 1, .i .i64 0, .i .i64 0]).length:aw))then bif jo.c q.1 w y.1 y.2.1 z.1 z.2 (q.2.2.2.2.2.2.1++aD (aP [Ck.s,Ck.s,Ck.i ao,Ck.i ao,Ck.i ao] 1) 0 [.s p, .s ⟨#[]⟩, .i .i64 1, .i .i64 0, .i .i64 0]) q.2.2.2.2.2.2.2.1 q.2.2.2.2.2.2.2.2 o p (bJ ((j.length:aw)+1)) 0 1 (bw (ar (q.2.2.2.2.2.2.1++aD (aP [Ck.s,Ck.s,Ck.i ao,Ck.i ao,Ck.i ao] 1) 0 [.s p, .s ⟨#[]⟩, .i .i64 1, .i .i64 0, .i .i64 0]) (j.length:aw).toNat 1)) 0 then Lib.lt (jo.v q.1 w y.1 y.2.1 z.1 z.2 (q.2.2.2.2.2.2.1++aD (aP [Ck.s,Ck.s,Ck.i ao,Ck.i ao,Ck.i ao] 1) 0 [.s p, .s ⟨#[]⟩, .i .i64 1, .i .i64 0, .i .i64 0]) q.2.2.2.2.2.2.2.1 q.2.2.2.2.2.2.2.2 o p (bJ ((j.length:aw)+1)) 0 1 (bw (ar (q.2.2.2.2.2.2.1++aD (aP [Ck.s,Ck.s,Ck.i ao,Ck.i ao,Ck.i ao] 1) 0 [.s p, .s ⟨#[]⟩, .i .i64 1, .i .i64 0, .i .i64 0]) (j.length:aw).toNat 1)) 0) λα=>kr α.1 α.2.1 α.2.2.1 α.2.2.2.1 α.2.2.2.2.1 α.2.2.2.2.2.1 α.2.2.2.2.2.2.1 α.2.2.2.2.2.2.2.1 α.2.2.2.2.2.2.2.2 0 else aj else aj else aj else bif decide (0<=u)&&decide (u<(q.2.2.2.2.2.2.1.length:aw))then bif jo.c q.1 w y.1 y.2.1 z.1 z.2 q.2.2.2.2.2.2.1 q.2.2.2.2.2.2.2.1 q.2.2.2.2.2.2.2.2 o p (bJ (u+1)) 0 1 (bw (ar q.2.2.2.2.2.2.1 u.toNat 1)) 0 then Lib.lt (jo.v q.1 w y.1 y.2.1 z.1 z.2 q.2.2.2.2.2.2.1 q.2.2.2.2.2.2.2.1 q.2.2.2.2.2.2.2.2 o p (bJ (u+1)) 0 1 (bw (ar q.2.2.2.2.2.2.1 u.toNat 1)) 0) λα=>kr α.1 α.2.1 α.2.2.1 α.2.2.2.1 α.2.2.2.2.1 α.2.2.2.2.2.1 α.2.2.2.2.2.2.1 α.2.2.2.2.2.2.2.1 α.2.2.2.2.2.2.2.2 0 else aj else aj else aj else aj else aj else bif iL.c h i p then Lib.lt (iL.v h i p) λw=>bif decide (u<0)then bif cw (q.2.2.2.2.2.2.1.length+(aD (aP [Ck.s,Ck.s,Ck.i ao,Ck.i ao,Ck.i ao] 1) 0 [.s p, .s ⟨#[]⟩, .i .i64 1, .i .i64 0, .i .i64 0]).length) 56 then bif decide ((j.length:aw)<((q.2.2.2.2.2.2.1++aD (aP [Ck.s,Ck.s,Ck.i ao,Ck.i ao,Ck.i ao] 1) 0 [.s p, .s ⟨#[]⟩, .i .i64 1, .i .i64 0, .i .i64 0]).length:aw))then bif jo.c q.1 q.2.1 q.2.2.1 q.2.2.2.1 w.1 w.2 (q.2.2.2.2.2.2.1++aD (aP [Ck.s,Ck.s,Ck.i ao,Ck.i ao,Ck.i ao] 1) 0 [.s p, .s ⟨#[]⟩, .i .i64 1, .i .i64 0, .i .i64 0]) q.2.2.2.2.2.2.2.1 q.2.2.2.2.2.2.2.2 o p (bJ ((j.length:aw)+1)) 0 1 (bw (ar (q.2.2.2.2.2.2.1++aD (aP [Ck.s,Ck.s,Ck.i ao,Ck.i ao,Ck.i ao] 1) 0 [.s p, .s ⟨#[]⟩, .i .i64 1, .i .i64 0, .i .i64 0]) (j.length:aw).toNat 1)) 0 then Lib.lt (jo.v q.1 q.2.1 q.2.2.1 q.2.2.2.1 w.1 w.2 (q.2.2.2.2.2.2.1++aD (aP [Ck.s,Ck.s,Ck.i ao,Ck.i ao,Ck.i ao] 1) 0 [.s p, .s ⟨#[]⟩, .i .i64 1, .i .i64 0, .i .i64 0]) q.2.2.2.2.2.2.2.1 q.2.2.2.2.2.2.2.2 o p (bJ ((j.length:aw)+1)) 0 1 (bw (ar (q.2.2.2.2.2.2.1++aD (aP [Ck.s,Ck.s,Ck.i ao,Ck.i ao,Ck.i ao] 1) 0 [.s p, .s ⟨#[]⟩, .i .i64 1, .i .i64 0, .i .i64 0]) (j.length:aw).toNat 1)) 0) λy=>kr y.1 y.2.1 y.2.2.1 y.2.2.2.1 y.2.2.2.2.1 y.2.2.2.2.2.1 y.2.2.2.2.2.2.1 y.2.2.2.2.2.2.2.1 y.2.2.2.2.2.2.2.2 0 else aj else aj else aj else bif decide (0<=u)&&decide (u<(q.2.2.2.2.2.2.1.length:aw))then bif jo.c q.1 q.2.1 q.2.2.1 q.2.2.2.1 w.1 w.2 q.2.2.2.2.2.2.1 q.2.2.2.2.2.2.2.1 q.2.2.2.2.2.2.2.2 o p (bJ (u+1)) 0 1 (bw (ar q.2.2.2.2.2.2.1 u.toNat 1)) 0 then Lib.lt (jo.v q.1 q.2.1 q.2.2.1 q.2.2.2.1 w.1 w.2 q.2.2.2.2.2.2.1 q.2.2.2.2.2.2.2.1 q.2.2.2.2.2.2.2.2 o p (bJ (u+1)) 0 1 (bw (ar q.2.2.2.2.2.2.1 u.toNat 1)) 0) λy=>kr y.1 y.2.1 y.2.2.1 y.2.2.2.1 y.2.2.2.2.1 y.2.2.2.2.2.1 y.2.2.2.2.2.2.1 y.2.2.2.2.2.2.2.1 y.2.2.2.2.2.2.2.2 0 else aj else aj else aj else aj else aj else aj else aj else aj
def vo:=b λr0 r1 r2 r3 r4 r5 r6 r7 r8 r9=>ah (r0,r1,r2,r3,r4,r5,r6,r7,r8,r9)
def c:=λa d e f h i j l m o p=>(vo a d e f h i j l m o p).isSome
def v:=λa d e f h i j l m o p=>(vo a d e f h i j l m o p).getD (0,[],[],[],[],0,[],[],0,0)
theorem out{x}:∀a d e f h i j l m o p,vo a d e f h i j l m o p=ah x->c a d e f h i j l m o p=ai/\v a d e f h i j l m o p=x:=λ_ _ _ _ _ _ _ _ _ _ _=>Lib.dg
end R_

namespace vd
def b(kr:aX->aC R)(a:aw)(d e f h:aR)(i:aw)(j l:aR)(m o:aw):aC R:=bif OS.c a d e f h i j l m then bif OS.v a d e f h i j l m then kr (lB.v o 0 (bJ ((j.length:aw)-1)))else kr ak else aj
def vo:=b λr0=>ah r0
def c:=λa d e f h i j l m o=>(vo a d e f h i j l m o).isSome
def v:=λa d e f h i j l m o=>(vo a d e f h i j l m o).getD ak
theorem out{x}:∀a d e f h i j l m o,vo a d e f h i j l m o=ah x->c a d e f h i j l m o=ai/\v a d e f h i j l m o=x:=λ_ _ _ _ _ _ _ _ _ _=>Lib.dg
end vd

namespace Kz
def b(kr:BS R)(a:aw)(d:aq)(e:aR):aC R:=bif cw ((aP [Ck.i ao,Ck.i ao] 0).length+e.length) 16 then kr a d (aP [Ck.i ao,Ck.i ao] 0++e)else aj
def v(fW:aw)(e8:aq)(dF:aR):aw×aq×aR:=(fW,e8,dF)
def c(fW:aw)(e8:aq)(dF:aR):aX:=decide (dF.length<=4294967296)
theorem eG(kr:BS R)(fW:aw)(e8:aq)(dF:aR)(hc:c fW e8 dF=ai):b kr fW e8 dF=kr (v fW e8 dF).1 (v fW e8 dF).2.1 (v fW e8 dF).2.2:=by have h:dF.length<=4294967296:=cq hc;unfold b;rw[show bT (aP [Ck.i ao,Ck.i ao] 0)+dF.length=dF.length by simp[aP],Lib.ch (by omega) (by omega)];rfl
end Kz

namespace Ij
def r2(N:aF)(g k0 k1:yP R)(a:aX)(d:aR)(e f h:aw)(i:aq)(j:aR):aC R:=bif decide (f<e)then bif decide (0<=f)&&decide (f<(d.length:aw))then bif !lB.v (bF (ar d f.toNat 0)) 1 9 then k0 ak d e f h i j else bif !lB.v (bF (ar d f.toNat 1)) 0 (i.size:aw)then k0 ak d e f h i j else bif decide (f>0)then bif decide (0<=bJ (f-1))&&decide (bJ (f-1)<(j.length:aw))then bif decide (bF (ar j (bJ (f-1)).toNat 0)≥bF (ar d f.toNat 0))then k0 ak d e f h i j else g a d e (bJ (f+1)) h i j else aj else g a d e (bJ (f+1)) h i j else aj else k1 a d e f h i j
def l2(N:aF)(k0 k1:yP R):aF->yP R
 |0=>λ_ _ _ _ _ _ _=>aj
 |n+1=>r2 N (l2 N k0 k1 n) k0 k1
def b(N:aF)(kr:aX->aC R)(a:aw)(d:aq)(e:aR):aC R:=l2 N (λf _ _ _ _ _ _=>kr f) (λ_ _ _ _ f h i=>bif lB.v f 1 3 then bif decide ((h.size:aw)<=400)then kr (decide ((i.length:aw)<=6))else kr ak else kr ak) N ak e (e.length:aw) 0 a d e
def v(fW:aw)(e8:aq)(dF:aR):aX:=(b9 dF.length).all (lL.el e8 dF)&&lL.rest fW e8 dF
theorem eG(kr:aX->aC R)(fW:aw)(e8:aq)(dF:aR)(f0:Ec e8)(f1:vL dF):∃N,b N kr fW e8 dF=kr (v fW e8 dF):=by
 refine⟨dF.length+1, ?_⟩
 unfold b;have ew:lB.v=km.v:=rfl;simp only[ew,lL.N6]
 have:=Lib.g9 (λn (i:aF)=>l2 (dF.length+1) (λy7 y8 y9 Ki wz Mj HR=>kr y7) (λOE WM QO DC FH El wA=>kr (lL.rest FH El wA)) n ak dF dF.length i fW e8 dF) (λi=>dF.length-i) (λi=>i<=dF.length)
  (λi=>kr ((mw i (dF.length-i)).all (lL.el e8 dF)&&lL.rest fW e8 dF)) (λn i hi=>by
  simp only[l2,r2,ew,Lib.dm,Lib.cE,Lib.dX,bc,lL.m_]
  by_cases h:i<dF.length
  ·rw[lL.Ir _ h];simp only[h,aN,au,Lib.cZ h f1.1];cases h1:decide (1<=bF (ar dF i 0)/\bF (ar dF i 0)<=9)with
   |false=>left;simp[lL.el,h1]
   |true=>
    simp only[a_,ax];cases h3:decide (0<=bF (ar dF i 1)/\bF (ar dF i 1)<=e8.size)with
    |false=>left;simp[lL.el,h3]
    |true=>
     simp only[a_,ax];by_cases hz:0<i
     ·have e0:decide ((i:aw)>0)=true:=by simp;omega
      have hp:i-1<dF.length:=by omega
      have hi0:(i==0)=false:=by simp;omega
      simp only[e0,au,lL.Dn hz (by have:=f1.1;omega),Lib.cE,Lib.dm,Lib.dX,hp,aN,aM];cases h2:decide (bF (ar dF (i-1) 0)≥bF (ar dF i 0))with
      |true=>
       left;have e3:decide (bF (ar dF (i-1) 0)<bF (ar dF i 0))=false:=by simp at h2⊢;omega
       simp[lL.el,e3,hi0]
      |false=>
       have e3:decide (bF (ar dF (i-1) 0)<bF (ar dF i 0))=true:=by simp at h2⊢;omega
       right;exact⟨i+1,h,by omega,by simp only[lL.el,h1,h3,e3,Kn,bc],rfl⟩
     ·have hz:i=0:=by omega
      subst hz;simp only[show decide (((0:aF):aw)>0)=ak from rfl,ax];right;exact⟨1,h,by omega,by simp only[lL.el,h1,h3,bc];rfl,rfl⟩
  ·left;have h0:dF.length-i=0:=by omega
   simp only[h,bj,ax,h0,R4,List.all_nil,bc]) (dF.length+1) 0 (by omega) (by omega)
 refine this.trans ?_;unfold v;rw[sr,<-R5]
end Ij

namespace DO
def b(kr:FQ R)(a:aw)(d:aq)(e:aR)(f:aq):aC R:=bif Kz.c a d e then bif !Ij.v a d e then kr a d e ak else bif a !=1 then kr a d e ak else bif !lB.v (f.size:aw) 1 40 then kr a d e ak else bif decide (bJ ((d.size:aw)+(f.size:aw))>400)then kr a d e ak else bif decide (d.size+f.size<=4611686018427387904)then kr a (d++f) e ai else aj else aj
def v(fW:aw)(e8:aq)(dF:aR)(gn:aq):aw×aq×aR×aX:=
 if lL.v fW e8 dF=ai/\fW=1/\1<=gn.size/\gn.size<=40/\e8.size+gn.size<=400 then(fW,e8++gn,dF,ai)else(fW,e8,dF,ak)
def c(fW:aw)(e8:aq)(dF:aR)(gn:aq):aX:=decide (dF.length<=4294967296)
theorem eG(kr:FQ R)(fW:aw)(e8:aq)(dF:aR)(gn:aq)(hc:c fW e8 dF gn=ai)(f0:Ec e8)(f1:vL dF)(f2:Ec gn):b kr fW e8 dF gn=kr (v fW e8 dF gn).1 (v fW e8 dF gn).2.1 (v fW e8 dF gn).2.2.1 (v fW e8 dF gn).2.2.2:=by
 have hs1:e8.size<=4611686018427387904:=f0;have NC:gn.size<=4611686018427387904:=f2;have e1:Kz.c fW e8 dF=true:=hc;have e2:∀a b c,Ij.v a b c=lL.v a b c:=λ_ _ _=>rfl;have e3:∀n a b,lB.v n a b=decide (a<=n/\n<=b):=lL.m_;unfold b v;rw[e1,e2,e3,au];cases h1:lL.v fW e8 dF with
 |false=>simp
 |true=>
  by_cases h2:fW=1
  ·by_cases h3:1<=(gn.size:aw)/\(gn.size:aw)<=40
   ·have e4:bJ ((e8.size:aw)+(gn.size:aw))=e8.size+gn.size:=iI (by omega) (by omega);rw[e4,aE h3];by_cases h4:(e8.size:aw)+(gn.size:aw)>400
    ·rw[Lib.Ah h4,bH (by omega)];simp[h2]
    ·rw[Lib.IM h4,bz (by refine⟨rfl,h2, ?_, ?_, ?_⟩<;>omega),Lib.Ah (show e8.size+gn.size<=4611686018427387904 by omega)];simp[h2]
   ·rw[aK h3,bH (by omega)];simp
  ·have iB:(fW !=1)=true:=bne_iff_ne.mpr h2;rw[bH (by simp[h2]),iB];rfl
end DO

namespace AR
def r1(N:aF)(g k0:iY R)(a d e f h i:aw)(j l m o p q:aR):aC R:=bif decide (e<d)then bif decide (0<=e)&&decide (e<(j.length:aw))then bif decide (bF (ar j e.toNat (1+1))=bJ (a+1))then bif decide (bF (ar j e.toNat (1+1+1+1))=1)then bif decide (0<=a)&&decide (a<(q.length:aw))then bif decide (0<=e)&&decide (e<(j.length:aw))then g a d (bJ (e+1)) f h i (eJ j e.toNat 5 [.s (bw (ar q a.toNat 1))]) l m o p q else aj else aj else g a d (bJ (e+1)) f h i j l m o p q else g a d (bJ (e+1)) f h i j l m o p q else aj else k0 a d e f h i j l m o p q
def l1(N:aF)(k0:iY R):aF->iY R
 |0=>λ_ _ _ _ _ _ _ _ _ _ _ _=>aj
 |n+1=>r1 N (l1 N k0 n) k0
def b(N:aF)(kr:ed R)(a:aw)(d e f h:aR)(i:aw)(j l:aR)(m o:aw):aC R:=l1 N (λ_ _ _ p q r s t u w y z=>kr p t u w y q z s r) N o (l.length:aw) 0 a i m l d e f h j
def vo:=b Lib.cU λr0 r1 r2 r3 r4 r5 r6 r7 r8=>ah (r0,r1,r2,r3,r4,r5,r6,r7,r8)
def c:=λa d e f h i j l m o=>(vo a d e f h i j l m o).isSome
def v:=λa d e f h i j l m o=>(vo a d e f h i j l m o).getD (0,[],[],[],[],0,[],[],0)
theorem out{x}:∀a d e f h i j l m o,vo a d e f h i j l m o=ah x->c a d e f h i j l m o=ai/\v a d e f h i j l m o=x:=λ_ _ _ _ _ _ _ _ _ _=>Lib.dg
end AR

namespace Wp
def b(kr:kX R)(a:aw)(d e f h:aR)(i:aw)(j l:aR)(m o:aw)(p:aq):aC R:=bif iP.c a d e f h i j l m then Lib.lt (iP.v a d e f h i j l m) λq=>bif vd.c a d e f h i j l m o then Lib.lt (vd.v a d e f h i j l m o) λr=>bif !r then kr q.1 q.2.1 q.2.2.1 q.2.2.2.1 q.2.2.2.2.1 q.2.2.2.2.2.1 q.2.2.2.2.2.2.1 q.2.2.2.2.2.2.2.1 q.2.2.2.2.2.2.2.2 ak else bif decide (0<=o)&&decide (o<(j.length:aw))then bif decide (0<=o)&&decide (o<(j.length:aw))then bif !(DO.v (bF (ar j o.toNat 2)) (bw (ar j o.toNat 1)) [] p).2.2.2 then kr q.1 q.2.1 q.2.2.1 q.2.2.2.1 q.2.2.2.2.1 q.2.2.2.2.2.1 q.2.2.2.2.2.2.1 q.2.2.2.2.2.2.2.1 q.2.2.2.2.2.2.2.2 ak else bif decide (0<=o)&&decide (o<(q.2.2.2.2.2.2.1.length:aw))then bif AR.c q.1 q.2.1 q.2.2.1 q.2.2.2.1 q.2.2.2.2.1 q.2.2.2.2.2.1 (eJ q.2.2.2.2.2.2.1 o.toNat 1 [.s (DO.v (bF (ar j o.toNat 2)) (bw (ar j o.toNat 1)) [] p).2.1]) q.2.2.2.2.2.2.2.1 q.2.2.2.2.2.2.2.2 o then Lib.lt (AR.v q.1 q.2.1 q.2.2.1 q.2.2.2.1 q.2.2.2.2.1 q.2.2.2.2.2.1 (eJ q.2.2.2.2.2.2.1 o.toNat 1 [.s (DO.v (bF (ar j o.toNat 2)) (bw (ar j o.toNat 1)) [] p).2.1]) q.2.2.2.2.2.2.2.1 q.2.2.2.2.2.2.2.2 o) λs=>kr s.1 s.2.1 s.2.2.1 s.2.2.2.1 s.2.2.2.2.1 s.2.2.2.2.2.1 s.2.2.2.2.2.2.1 s.2.2.2.2.2.2.2.1 s.2.2.2.2.2.2.2.2 ai else aj else aj else aj else aj else aj else aj
def vo:=b λr0 r1 r2 r3 r4 r5 r6 r7 r8 r9=>ah (r0,r1,r2,r3,r4,r5,r6,r7,r8,r9)
def c:=λa d e f h i j l m o p=>(vo a d e f h i j l m o p).isSome
def v:=λa d e f h i j l m o p=>(vo a d e f h i j l m o p).getD (0,[],[],[],[],0,[],[],0,ak)
theorem out{x}:∀a d e f h i j l m o p,vo a d e f h i j l m o p=ah x->c a d e f h i j l m o p=ai/\v a d e f h i j l m o p=x:=λ_ _ _ _ _ _ _ _ _ _ _=>Lib.dg
end Wp

namespace vV
def r1(N:aF)(g k0:jg R)(a d e f h i j:aw)(l m o p q r:aR):aC R:=bif decide (f<e)then bif decide (0<=f)&&decide (f<(l.length:aw))then bif decide (bF (ar l f.toNat (1+1))=bJ (a+1))then bif decide (bF (ar l f.toNat (1+1+1+1))=1)then bif decide (0<=a)&&decide (a<(r.length:aw))then bif decide (0<=f)&&decide (f<(l.length:aw))then bif decide (0<=f)&&decide (f<((eJ l f.toNat 4 [.i .i64 d]).length:aw))then g a d e (bJ (f+1)) h i j (eJ (eJ l f.toNat 4 [.i .i64 d]) f.toNat 5 [.s (bw (ar r a.toNat 1))]) m o p q r else aj else aj else aj else g a d e (bJ (f+1)) h i j l m o p q r else g a d e (bJ (f+1)) h i j l m o p q r else aj else k0 a d e f h i j l m o p q r
def l1(N:aF)(k0:jg R):aF->jg R
 |0=>λ_ _ _ _ _ _ _ _ _ _ _ _ _=>aj
 |n+1=>r1 N (l1 N k0 n) k0
def b(N:aF)(kr:ed R)(a:aw)(d e f h:aR)(i:aw)(j l:aR)(m o p:aw):aC R:=l1 N (λ_ _ _ _ q r s t u w y z α=>kr q u w y z r α t s) N o p (l.length:aw) 0 a i m l d e f h j
def vo:=b Lib.cU λr0 r1 r2 r3 r4 r5 r6 r7 r8=>ah (r0,r1,r2,r3,r4,r5,r6,r7,r8)
def c:=λa d e f h i j l m o p=>(vo a d e f h i j l m o p).isSome
def v:=λa d e f h i j l m o p=>(vo a d e f h i j l m o p).getD (0,[],[],[],[],0,[],[],0)
theorem out{x}:∀a d e f h i j l m o p,vo a d e f h i j l m o p=ah x->c a d e f h i j l m o p=ai/\v a d e f h i j l m o p=x:=λ_ _ _ _ _ _ _ _ _ _ _=>Lib.dg
end vV


namespace u9
def r3(N:aF)(g k0:wH R)(a:aw)(d:aq)(e f:aw)(h:aq)(i:aR):aC R:=bif decide (a<(i.length:aw))then bif decide (0<=a)&&decide (a<(i.length:aw))then bif b7 (bw (ar i a.toNat 0)).toList (aA d)then g (bJ (a+1)) d e f h i else k0 a d e f h i else aj else k0 a d e f h i
def l3(N:aF)(k0:wH R):aF->wH R
 |0=>λ_ _ _ _ _ _=>aj
 |n+1=>r3 N (l3 N k0 n) k0
def b(N:aF)(kr:aR->aC R)(a:aR)(d:aq)(e f:aw)(h:aq):aC R:=bif pP.c a d then l3 N (λi j l m o p=>bif decide (0<=i)&&decide (i<=(p.length:aw))&&cw (p.length+(aD (aP [Ck.s,Ck.i ao,Ck.i ao,Ck.s] 1) 0 [.s j, .i .i64 l, .i .i64 m, .s o]).length) 48 then kr (Pu.tN p i.toNat (aD (aP [Ck.s,Ck.i ao,Ck.i ao,Ck.s] 1) 0 [.s j, .i .i64 l, .i .i64 m, .s o]))else aj) N 0 d e f h (pP.v a d)else aj
def vo:=b Lib.cU λr0=>ah r0
def c:=λa d e f h=>(vo a d e f h).isSome
def v:=λa d e f h=>(vo a d e f h).getD ([])
theorem out{x}:∀a d e f h,vo a d e f h=ah x->c a d e f h=ai/\v a d e f h=x:=λ_ _ _ _ _=>Lib.dg
end u9

namespace OU
def b(kr:ed R)(a:aw)(d e f h:aR)(i:aw)(j l:aR)(m:aw)(o:aq)(p q:aw)(r:aq):aC R:=bif zw.c e f h i o then Lib.lt (zw.v e f h i o) λs=>bif pP.c d s.2.2.2.2 then Lib.lt (pP.v d s.2.2.2.2) λt=>bif sJ.c s.1 s.2.1 s.2.2.1 s.2.2.2.1 o then Lib.lt (sJ.v s.1 s.2.1 s.2.2.1 s.2.2.2.1 o) λu=>bif u then bif u9.c t o p q r then Lib.lt (u9.v t o p q r) λw=>kr a w s.1 s.2.1 s.2.2.1 s.2.2.2.1 j l m else aj else kr a t s.1 s.2.1 s.2.2.1 s.2.2.2.1 j l m else aj else aj else aj
def vo:=b λr0 r1 r2 r3 r4 r5 r6 r7 r8=>ah (r0,r1,r2,r3,r4,r5,r6,r7,r8)
def c:=λa d e f h i j l m o p q r=>(vo a d e f h i j l m o p q r).isSome
def v:=λa d e f h i j l m o p q r=>(vo a d e f h i j l m o p q r).getD (0,[],[],[],[],0,[],[],0)
theorem out{x}:∀a d e f h i j l m o p q r,vo a d e f h i j l m o p q r=ah x->c a d e f h i j l m o p q r=ai/\v a d e f h i j l m o p q r=x:=λ_ _ _ _ _ _ _ _ _ _ _ _ _=>Lib.dg
end OU

namespace DP
def b(kr:kX R)(a:aw)(d e f h:aR)(i:aw)(j l:aR)(m o p:aw):aC R:=bif iP.c a d e f h i j l m then Lib.lt (iP.v a d e f h i j l m) λq=>bif vd.c a d e f h i j l m o then Lib.lt (vd.v a d e f h i j l m o) λr=>bif !r then kr q.1 q.2.1 q.2.2.1 q.2.2.2.1 q.2.2.2.2.1 q.2.2.2.2.2.1 q.2.2.2.2.2.2.1 q.2.2.2.2.2.2.2.1 q.2.2.2.2.2.2.2.2 ak else bif decide (0<=o)&&decide (o<(j.length:aw))then bif bF (ar j o.toNat 2) !=1 then kr q.1 q.2.1 q.2.2.1 q.2.2.2.1 q.2.2.2.2.1 q.2.2.2.2.2.1 q.2.2.2.2.2.2.1 q.2.2.2.2.2.2.2.1 q.2.2.2.2.2.2.2.2 ak else bif !lB.v p 0 999999 then kr q.1 q.2.1 q.2.2.1 q.2.2.2.1 q.2.2.2.2.1 q.2.2.2.2.2.1 q.2.2.2.2.2.2.1 q.2.2.2.2.2.2.2.1 q.2.2.2.2.2.2.2.2 ak else bif decide (0<=o)&&decide (o<(q.2.2.2.2.2.2.1.length:aw))then bif vV.c q.1 q.2.1 q.2.2.1 q.2.2.2.1 q.2.2.2.2.1 q.2.2.2.2.2.1 (eJ (eJ (eJ q.2.2.2.2.2.2.1 o.toNat 2 [.i .i64 2]) o.toNat 3 [.i .i64 p]) o.toNat 4 [.i .i64 a]) q.2.2.2.2.2.2.2.1 q.2.2.2.2.2.2.2.2 o 2 then Lib.lt (vV.v q.1 q.2.1 q.2.2.1 q.2.2.2.1 q.2.2.2.2.1 q.2.2.2.2.2.1 (eJ (eJ (eJ q.2.2.2.2.2.2.1 o.toNat 2 [.i .i64 2]) o.toNat 3 [.i .i64 p]) o.toNat 4 [.i .i64 a]) q.2.2.2.2.2.2.2.1 q.2.2.2.2.2.2.2.2 o 2) λs=>bif decide (p>0)then bif OU.c s.1 s.2.1 s.2.2.1 s.2.2.2.1 s.2.2.2.2.1 s.2.2.2.2.2.1 s.2.2.2.2.2.2.1 s.2.2.2.2.2.2.2.1 s.2.2.2.2.2.2.2.2 (bw (ar s.2.2.2.2.2.2.1 o.toNat 0)) a p (bw (ar s.2.2.2.2.2.2.1 o.toNat 1))then Lib.lt (OU.v s.1 s.2.1 s.2.2.1 s.2.2.2.1 s.2.2.2.2.1 s.2.2.2.2.2.1 s.2.2.2.2.2.2.1 s.2.2.2.2.2.2.2.1 s.2.2.2.2.2.2.2.2 (bw (ar s.2.2.2.2.2.2.1 o.toNat 0)) a p (bw (ar s.2.2.2.2.2.2.1 o.toNat 1))) λt=>kr t.1 t.2.1 t.2.2.1 t.2.2.2.1 t.2.2.2.2.1 t.2.2.2.2.2.1 t.2.2.2.2.2.2.1 t.2.2.2.2.2.2.2.1 t.2.2.2.2.2.2.2.2 ai else aj else kr s.1 s.2.1 s.2.2.1 s.2.2.2.1 s.2.2.2.2.1 s.2.2.2.2.2.1 s.2.2.2.2.2.2.1 s.2.2.2.2.2.2.2.1 s.2.2.2.2.2.2.2.2 ai else aj else aj else aj else aj else aj
def vo:=b λr0 r1 r2 r3 r4 r5 r6 r7 r8 r9=>ah (r0,r1,r2,r3,r4,r5,r6,r7,r8,r9)
def c:=λa d e f h i j l m o p=>(vo a d e f h i j l m o p).isSome
def v:=λa d e f h i j l m o p=>(vo a d e f h i j l m o p).getD (0,[],[],[],[],0,[],[],0,ak)
theorem out{x}:∀a d e f h i j l m o p,vo a d e f h i j l m o p=ah x->c a d e f h i j l m o p=ai/\v a d e f h i j l m o p=x:=λ_ _ _ _ _ _ _ _ _ _ _=>Lib.dg
end DP

namespace nV
def r4(N:aF)(g k0:AH R)(a:aw)(d:aR):aC R:=bif decide (a>127)then bif cw (d.length+(aD (aP [Ck.i bh] 1) 0 [CV.i bh (bE bh (bJ (cy a 128+128)))]).length) 1 then g (bJ (cQ a 128)) (d++aD (aP [Ck.i bh] 1) 0 [CV.i bh (bE bh (bJ (cy a 128+128)))])else aj else k0 a d
def l4(N:aF)(k0:AH R):aF->AH R
 |0=>λ_ _=>aj
 |n+1=>r4 N (l4 N k0 n) k0
def b(N:aF)(kr:wJ R)(a:aw):aC R:=bif !lB.v a 0 1000000000 then kr ⟨#[]⟩ ak else l4 N (λd e=>bif cw (e.length+(aD (aP [Ck.i bh] 1) 0 [CV.i bh (bE bh d)]).length) 1 then bif decide ((e++aD (aP [Ck.i bh] 1) 0 [CV.i bh (bE bh d)]).length<=4611686018427387904)then kr (bytesOf (e++aD (aP [Ck.i bh] 1) 0 [CV.i bh (bE bh d)])) ai else aj else aj) N a (aP [Ck.i bh] 0)
def v(n0:aw):aq×aX:=if 0<=n0/\n0<=1000000000 then(bytesOf (Lib.vb n0),ai)else(⟨#[]⟩,ak)
theorem eG(kr:wJ R)(n0:aw):∃N,b N kr n0=kr (v n0).1 (v n0).2:=by
 refine⟨n0.toNat+1, ?_⟩
 unfold b v;by_cases hn:0<=n0/\n0<=1000000000
 ·have e:lB.v n0 0 1000000000=true:=by simp[lB.v,hn]
  rw[e,bz hn];refine Lib.Ou (λn x acc=>l4 (n0.toNat+1) _ n x acc) (λy=>kr y ai) (λn x acc h hl=> ?_) (λn x acc h hl=> ?_) n0 (by omega)
  ·simp only[l4,r4,h,aN,au,Lib.iM,show acc.length+bT [[CV.i bh (bE bh (bJ (cy x 128+128)))]]=acc.length+1 from rfl,Lib.HC (show acc.length+1<=140737488355328 by omega),show decide ((128:aw)=0)=ak from rfl,wC,bR]
  ·simp only[l4,r4,h,bj,ax,Lib.iM,show acc.length+bT [[CV.i bh (bE bh x)]]=acc.length+1 from rfl,Lib.HC (show acc.length+1<=140737488355328 by omega),au];exact Lib.tz (Lib.Ah (by rw[bP,bA];omega))
 ·have e:lB.v n0 0 1000000000=false:=by simp[lB.v];omega
  rw[e,bH hn];rfl
end nV

namespace DY
def b(kr:wJ R)(a:aq):aC R:=bif decide ((a.size:aw)>20000)then kr ⟨#[]⟩ ak else bif decide ((nV.v (a.size:aw)).1.size+a.size<=4611686018427387904)then kr ((nV.v (a.size:aw)).1++a) ai else aj
def v(s0:aq):aq×aX:=if s0.size>20000 then(⟨#[]⟩,ak)else(bytesOf (Lib.vb s0.size)++s0,ai)
theorem eG(kr:wJ R)(s0:aq):b kr s0=kr (v s0).1 (v s0).2:=by
 unfold b v;by_cases h:s0.size>20000
 ·rw[bz h,show decide ((s0.size:aw)>20000)=ai by simp;omega];rfl
 ·rw[bH h,show decide ((s0.size:aw)>20000)=ak by simp;omega];have e:nV.v (s0.size:aw)=(bytesOf (Lib.vb s0.size),ai):=by unfold nV.v;rw[bz (by omega)]
  have:=Lib.jQ (x:=(s0.size:aw)) (by omega);rw[e,ax];simp(disch:=omega) only[Lib.Sz,au]
end DY

namespace DX
def b(kr:wJ R)(a:aq)(d e:aw)(f:aq):aC R:=bif !wP.v a d e f then kr ⟨#[]⟩ ak else bif decide ((DY.v a).1.size+(nV.v d).1.size<=4611686018427387904)then bif decide (((DY.v a).1++(nV.v d).1).size+(nV.v e).1.size<=4611686018427387904)then bif decide (((DY.v a).1++(nV.v d).1++(nV.v e).1).size+f.size<=4611686018427387904)then kr ((DY.v a).1++(nV.v d).1++(nV.v e).1++f) ai else aj else aj else aj
def v(oQ:aq)(pw:aw)(py:aw)(vk:aq):aq×aX:=jM.v oQ pw py vk
theorem eG(kr:wJ R)(oQ:aq)(pw:aw)(py:aw)(vk:aq):b kr oQ pw py vk=kr (v oQ pw py vk).1 (v oQ pw py vk).2:=by
 have ee:wP.v oQ pw py vk=ni.v oQ pw py vk:=rfl;unfold b v jM.v;rw[ee];cases h:ni.v oQ pw py vk with
 |false=>rfl
 |true=>
  have hr:=ni.Ef h;have z1:(bytesOf (Lib.vb (oQ.size:aw))).size<=64:=Lib.jQ (x:=(oQ.size:aw)) (by omega);have z2:(bytesOf (Lib.vb pw)).size<=64:=Lib.jQ (x:=pw) (by omega);have z3:(bytesOf (Lib.vb py)).size<=64:=Lib.jQ (x:=py) (by omega);have e1:DY.v oQ=(bytesOf (Lib.vb oQ.size)++oQ,ai):=by unfold DY.v;rw[bH (by omega)]
  have e2:nV.v pw=(bytesOf (Lib.vb pw),ai):=by unfold nV.v;rw[bz (by omega)]
  have e3:nV.v py=(bytesOf (Lib.vb py),ai):=by unfold nV.v;rw[bz (by omega)]
  rw[e1,e2,e3];simp(disch:=omega) only[a_,ax,au,if_true,Lib.kj,Lib.Sz];rfl
end DX

namespace vf
def b(kr:aq->aC R)(a:aq):aC R:=bif vi.c a then kr (bytesOf (aD (aD (aD (aD (aP [Ck.i bh] 4) 0 [CV.i bh (bE bh (lA (vi.v a) (ia 2 (if aW 24<=32 then aW 24 else 32))))]) 1 [CV.i bh (bE bh (lA (vi.v a) (ia 2 (if aW 16<=32 then aW 16 else 32))))]) 2 [CV.i bh (bE bh (lA (vi.v a) (ia 2 (if aW 8<=32 then aW 8 else 32))))]) 3 [CV.i bh (bE bh (vi.v a))]))else aj
def vo:=b λr0=>ah r0
def c:=λa=>(vo a).isSome
def v:=λa=>(vo a).getD (⟨#[]⟩)
theorem out{x}:∀a,vo a=ah x->c a=ai/\v a=x:=λ_=>Lib.dg
end vf

namespace B3
def b(kr:wJ R)(a:aq):aC R:=bif !lB.v (a.size:aw) 1 9000 then kr ⟨#[]⟩ ak else bif vf.c a then bif decide ((nV.v (a.size:aw)).1.size+(vf.v a).size<=4611686018427387904)then bif decide (((nV.v (a.size:aw)).1++vf.v a).size+a.size<=4611686018427387904)then kr ((nV.v (a.size:aw)).1++vf.v a++a) ai else aj else aj else aj
def vo:=b λr0 r1=>ah (r0,r1)
def c:=λa=>(vo a).isSome
def v:=λa=>(vo a).getD (⟨#[]⟩,ak)
theorem out{x}:∀a,vo a=ah x->c a=ai/\v a=x:=λ_=>Lib.dg
end B3

namespace mY
def b(kr:wJ R)(a:aq)(d e:aw)(f:aq):aC R:=bif !(DX.v a d e f).2 then kr ⟨#[]⟩ ak else bif B3.c (DX.v a d e f).1 then kr (B3.v (DX.v a d e f).1).1 (B3.v (DX.v a d e f).1).2 else aj
def vo:=b λr0 r1=>ah (r0,r1)
def c:=λa d e f=>(vo a d e f).isSome
def v:=λa d e f=>(vo a d e f).getD (⟨#[]⟩,ak)
theorem out{x}:∀a d e f,vo a d e f=ah x->c a d e f=ai/\v a d e f=x:=λ_ _ _ _=>Lib.dg
end mY

namespace ve
def b(kr:DG R)(a:aq)(d e:aw)(f:aq):aC R:=bif mY.c a d e f then bif !(mY.v a d e f).2 then kr [] ak else kr (aD (aD (aP [Ck.i ao,Ck.s,Ck.s,Ck.s] 2) 0 [.i .i64 1, .s {data:= #[ay 107,ay 101,ay 112,ay 116]}, .s (mY.v a d e f).1, .s ⟨#[]⟩]) 1 [.i .i64 2, .s {data:= #[ay 107,ay 101,ay 112,ay 116]}, .s ⟨#[]⟩, .s ⟨#[]⟩]) ai else aj
def vo:=b λr0 r1=>ah (r0,r1)
def c:=λa d e f=>(vo a d e f).isSome
def v:=λa d e f=>(vo a d e f).getD ([],ak)
theorem out{x}:∀a d e f,vo a d e f=ah x->c a d e f=ai/\v a d e f=x:=λ_ _ _ _=>Lib.dg
end ve

namespace tp
def b(kr:aR->aC R)(a:aR):aC R:=bif cw ((aP [Ck.s,Ck.s,Ck.i ao] 0).length+a.length) 40 then kr (aP [Ck.s,Ck.s,Ck.i ao] 0++a)else aj
def vo:=b λr0=>ah r0
def c:=λa=>(vo a).isSome
def v:=λa=>(vo a).getD ([])
theorem out{x}:∀a,vo a=ah x->c a=ai/\v a=x:=λ_=>Lib.dg
end tp

namespace KA
def b(kr:aX->aC R)(a d:aq)(e:aw)(kR:aq):aC R:=kr (bZ (aA a) (aA kR))
def v(a0 a1:aq)(a2:aw)(kR:aq):aX:=(bZ (aA a0) (aA kR))
theorem eG(kr:aX->aC R)(a0 a1:aq)(a2:aw)(kR:aq):b kr a0 a1 a2 kR=kr (v a0 a1 a2 kR):=by first|rfl|(unfold b v;simp only[cL];(repeat' split)<;>rfl)
end KA

namespace sA
def r2(N:aF)(g k0 k1:ij R)(a:aR)(d:aq)(e f h:aw):aC R:=bif decide (h<f)then bif decide (0<=h)&&decide (h<(a.length:aw))then bif KA.v (bw (ar a h.toNat 0)) (bw (ar a h.toNat 1)) (bF (ar a h.toNat (1+1))) d then k0 a d h f h else g a d e f (bJ (h+1))else aj else k1 a d e f h
def l2(N:aF)(k0 k1:ij R):aF->ij R
 |0=>λ_ _ _ _ _=>aj
 |n+1=>r2 N (l2 N k0 k1 n) k0 k1
def b(N:aF)(kr:aw->aC R)(a:aR)(kR:aq):aC R:=l2 N (λ_ _ d _ _=>kr d) (λ_ _ _ _ _=>kr (-1)) N a kR 0 (a.length:aw) 0
def vo:=b Lib.cU λr0=>ah r0
def c:=λa d=>(vo a d).isSome
def v:=λa d=>(vo a d).getD (0)
theorem out{x}:∀a d,vo a d=ah x->c a d=ai/\v a d=x:=λ_ _=>Lib.dg
end sA

namespace A2
def b(kr:aX->aC R)(a d:aq)(e:aw)(kR:aq):aC R:=kr (bZ (aA a) (aA kR))
def v(a0 a1:aq)(a2:aw)(kR:aq):aX:=(bZ (aA a0) (aA kR))
theorem eG(kr:aX->aC R)(a0 a1:aq)(a2:aw)(kR:aq):b kr a0 a1 a2 kR=kr (v a0 a1 a2 kR):=by first|rfl|(unfold b v;simp only[cL];(repeat' split)<;>rfl)
end A2

namespace nz
def r2(N:aF)(g k0 k1:ij R)(a:aR)(d:aq)(e f h:aw):aC R:=bif decide (h<f)then bif decide (0<=h)&&decide (h<(a.length:aw))then bif A2.v (bw (ar a h.toNat 0)) (bw (ar a h.toNat 1)) (bF (ar a h.toNat (1+1))) d then k0 a d h f h else g a d e f (bJ (h+1))else aj else k1 a d e f h
def l2(N:aF)(k0 k1:ij R):aF->ij R
 |0=>λ_ _ _ _ _=>aj
 |n+1=>r2 N (l2 N k0 k1 n) k0 k1
def b(N:aF)(kr:aw->aC R)(a:aR)(kR:aq):aC R:=l2 N (λ_ _ d _ _=>kr d) (λ_ _ _ _ _=>kr (-1)) N a kR 0 (a.length:aw) 0
def vo:=b Lib.cU λr0=>ah r0
def c:=λa d=>(vo a d).isSome
def v:=λa d=>(vo a d).getD (0)
theorem out{x}:∀a d,vo a d=ah x->c a d=ai/\v a d=x:=λ_ _=>Lib.dg
end nz

namespace eE
def b(kr:aw->aC R)(a:aR)(d:aq):aC R:=bif sA.c a d then kr (sA.v a d)else aj
def vo:=b λr0=>ah r0
def c:=λa d=>(vo a d).isSome
def v:=λa d=>(vo a d).getD (0)
theorem out{x}:∀a d,vo a d=ah x->c a d=ai/\v a d=x:=λ_ _=>Lib.dg
end eE

namespace il
def r2(N:aF)(g k0 k1:FN R)(a:aX)(d:aR)(e f:aw)(h:aR):aC R:=bif decide (f<e)then bif decide (0<=f)&&decide (f<(d.length:aw))then bif !lB.v ((bw (ar d f.toNat 0)).size:aw) 1 8 then k0 ak d e f h else bif decide (((bw (ar d f.toNat 1)).size:aw)>20000)then k0 ak d e f h else bif !lB.v (bF (ar d f.toNat (1+1))) 0 ((bw (ar d f.toNat 1)).size:aw)then k0 ak d e f h else bif decide (f>0)then bif decide (0<=bJ (f-1))&&decide (bJ (f-1)<(h.length:aw))then bif !Op.bytesLess (bw (ar h (bJ (f-1)).toNat 0)).toList (bw (ar d f.toNat 0)).toList then k0 ak d e f h else g a d e (bJ (f+1)) h else aj else g a d e (bJ (f+1)) h else aj else k1 a d e f h
def l2(N:aF)(k0 k1:FN R):aF->FN R
 |0=>λ_ _ _ _ _=>aj
 |n+1=>r2 N (l2 N k0 k1 n) k0 k1
def b(N:aF)(kr:aX->aC R)(a:aR):aC R:=l2 N (λd _ _ _ _=>kr d) (λ_ _ _ _ d=>kr (decide ((d.length:aw)<=30))) N ak a (a.length:aw) 0 a
def vo:=b Lib.cU λr0=>ah r0
def c:=λa=>(vo a).isSome
def v:=λa=>(vo a).getD ak
theorem out{x}:∀a,vo a=ah x->c a=ai/\v a=x:=λ_=>Lib.dg
end il

namespace KB
def b(kr:aX->aC R)(a:aw)(d e f:aq):aC R:=bif lB.v a 1 4 then bif bZ (aA e) (aA ⟨#[]⟩)then bif bZ (aA f) (aA ⟨#[]⟩)then kr ai else kr (decide (a=3))else bif decide (a=1)then bif bZ (aA f) (aA ⟨#[]⟩)then kr ai else kr (decide (a=3))else kr ak else kr ak
def v(a0:aw)(a1 a2 a3:aq):aX:=bif lB.v a0 1 4 then bif bZ (aA a2) (aA {data:= #[]})then bif bZ (aA a3) (aA {data:= #[]})then ai else decide (a0=3)else bif decide (a0=1)then bif bZ (aA a3) (aA {data:= #[]})then ai else decide (a0=3)else ak else ak
theorem eG(kr:aX->aC R)(a0:aw)(a1 a2 a3:aq):b kr a0 a1 a2 a3=kr (v a0 a1 a2 a3):=by first|rfl|(unfold b v;simp only[cL];(repeat' split)<;>rfl)
end KB

namespace w7
def r5(N:aF)(g k0:mr R)(a:aq)(d e:aw)(f:aR):aC R:=bif decide (e<(f.length:aw))then bif decide (0<=e)&&decide (e<(f.length:aw))then bif !A2.v (bw (ar f e.toNat 0)) (bw (ar f e.toNat 1)) (bF (ar f e.toNat (1+1))) a then bif decide (0<=d)&&decide (d<(f.length:aw))then g a (bJ (d+1)) (bJ (e+1)) (eJ f d.toNat 0 [.s (bw (ar f e.toNat 0)), .s (bw (ar f e.toNat 1)), .i .i64 (bF (ar f e.toNat (1+1)))])else aj else g a d (bJ (e+1)) f else aj else k0 a d e f
def l5(N:aF)(k0:mr R):aF->mr R
 |0=>λ_ _ _ _=>aj
 |n+1=>r5 N (l5 N k0 n) k0
def b(N:aF)(kr:aR->aC R)(a:aR)(kR:aq):aC R:=bif nz.c a kR then bif decide (nz.v a kR=Ku 1)then kr a else l5 N (λ_ d _ e=>bif g8 d (e.length:aw) (e.length:aw)then bif g8 0 d ((g_ d.toNat e++aP [Ck.s,Ck.s,Ck.i ao] ((e.length:aw).toNat-d.toNat)++nt (e.length:aw).toNat e).length:aw)then kr (eA (g_ d.toNat e++aP [Ck.s,Ck.s,Ck.i ao] ((e.length:aw).toNat-d.toNat)++nt (e.length:aw).toNat e) (aW 0) d.toNat)else aj else aj) N kR (nz.v a kR) (bJ (nz.v a kR+1)) a else aj
def vo:=b Lib.cU λr0=>ah r0
def c:=λa d=>(vo a d).isSome
def v:=λa d=>(vo a d).getD ([])
theorem out{x}:∀a d,vo a d=ah x->c a d=ai/\v a d=x:=λ_ _=>Lib.dg
end w7

namespace i9
def b(kr:aR->aC R)(a:aR)(d:aq):aC R:=bif tp.c a then bif w7.c (tp.v a) d then kr (w7.v (tp.v a) d)else aj else aj
def vo:=b λr0=>ah r0
def c:=λa d=>(vo a d).isSome
def v:=λa d=>(vo a d).getD ([])
theorem out{x}:∀a d,vo a d=ah x->c a d=ai/\v a d=x:=λ_ _=>Lib.dg
end i9


namespace gM
def r3(N:aF)(g k0:FR R)(a:aw)(d e:aq)(f:aw)(h:aR):aC R:=bif decide (a<(h.length:aw))then bif decide (0<=a)&&decide (a<(h.length:aw))then bif b7 (bw (ar h a.toNat 0)).toList (aA d)then g (bJ (a+1)) d e f h else k0 a d e f h else aj else k0 a d e f h
def l3(N:aF)(k0:FR R):aF->FR R
 |0=>λ_ _ _ _ _=>aj
 |n+1=>r3 N (l3 N k0 n) k0
def b(N:aF)(kr:aR->aC R)(a:aR)(d e:aq)(f:aw):aC R:=bif i9.c a d then l3 N (λh i j l m=>bif decide (0<=h)&&decide (h<=(m.length:aw))&&cw (m.length+(aD (aP [Ck.s,Ck.s,Ck.i ao] 1) 0 [.s i, .s j, .i .i64 l]).length) 40 then kr (Pu.tN m h.toNat (aD (aP [Ck.s,Ck.s,Ck.i ao] 1) 0 [.s i, .s j, .i .i64 l]))else aj) N 0 d e f (i9.v a d)else aj
def vo:=b Lib.cU λr0=>ah r0
def c:=λa d e f=>(vo a d e f).isSome
def v:=λa d e f=>(vo a d e f).getD ([])
theorem out{x}:∀a d e f,vo a d e f=ah x->c a d e f=ai/\v a d e f=x:=λ_ _ _ _=>Lib.dg
end gM

namespace rL
def b(kr:DG R)(a:aR)(d:aw)(e f h:aq):aC R:=bif eE.c a e then bif il.c a then bif !il.v a then kr [] ak else bif !KB.v d e f h then kr [] ak else bif decide (eE.v a e<0)then bif d !=1 then kr [] ak else bif decide (eE.v a e≥0)then bif decide (0<=eE.v a e)&&decide (eE.v a e<(a.length:aw))then bif decide (d=1)then bif decide ((bw (ar a (eE.v a e).toNat 1)).size+f.size<=4611686018427387904)then bif gM.c a (bw (ar a (eE.v a e).toNat 0)) (bw (ar a (eE.v a e).toNat 1)++f) (bF (ar a (eE.v a e).toNat (1+1)))then bif il.c (gM.v a (bw (ar a (eE.v a e).toNat 0)) (bw (ar a (eE.v a e).toNat 1)++f) (bF (ar a (eE.v a e).toNat (1+1))))then bif !il.v (gM.v a (bw (ar a (eE.v a e).toNat 0)) (bw (ar a (eE.v a e).toNat 1)++f) (bF (ar a (eE.v a e).toNat (1+1))))then kr [] ak else kr (gM.v a (bw (ar a (eE.v a e).toNat 0)) (bw (ar a (eE.v a e).toNat 1)++f) (bF (ar a (eE.v a e).toNat (1+1)))) ai else aj else aj else aj else bif decide (d=2)then bif gM.c a (bw (ar a (eE.v a e).toNat 0)) (bw (ar a (eE.v a e).toNat 1)) ((bw (ar a (eE.v a e).toNat 1)).size:aw)then bif il.c (gM.v a (bw (ar a (eE.v a e).toNat 0)) (bw (ar a (eE.v a e).toNat 1)) ((bw (ar a (eE.v a e).toNat 1)).size:aw))then bif !il.v (gM.v a (bw (ar a (eE.v a e).toNat 0)) (bw (ar a (eE.v a e).toNat 1)) ((bw (ar a (eE.v a e).toNat 1)).size:aw))then kr [] ak else kr (gM.v a (bw (ar a (eE.v a e).toNat 0)) (bw (ar a (eE.v a e).toNat 1)) ((bw (ar a (eE.v a e).toNat 1)).size:aw)) ai else aj else aj else bif decide (d=3)then bif bF (ar a (eE.v a e).toNat (1+1)) !=((bw (ar a (eE.v a e).toNat 1)).size:aw)then kr [] ak else bif bZ (aA h) (aA e)then kr [] ak else bif i9.c a e then bif gM.c (i9.v a e) h (bw (ar a (eE.v a e).toNat 1)) (bF (ar a (eE.v a e).toNat (1+1)))then bif il.c (gM.v (i9.v a e) h (bw (ar a (eE.v a e).toNat 1)) (bF (ar a (eE.v a e).toNat (1+1))))then bif !il.v (gM.v (i9.v a e) h (bw (ar a (eE.v a e).toNat 1)) (bF (ar a (eE.v a e).toNat (1+1))))then kr [] ak else kr (gM.v (i9.v a e) h (bw (ar a (eE.v a e).toNat 1)) (bF (ar a (eE.v a e).toNat (1+1)))) ai else aj else aj else aj else bif i9.c a e then bif il.c (i9.v a e)then bif !il.v (i9.v a e)then kr [] ak else kr (i9.v a e) ai else aj else aj else aj else bif decide (d=1)then bif decide (cm ⟨#[]⟩+f.size<=4611686018427387904)then bif gM.c a e ({data:= #[]}++f) 0 then bif il.c (gM.v a e ({data:= #[]}++f) 0)then bif !il.v (gM.v a e ({data:= #[]}++f) 0)then kr [] ak else kr (gM.v a e ({data:= #[]}++f) 0) ai else aj else aj else aj else bif decide (d=2)then bif gM.c a e ⟨#[]⟩ (cm ⟨#[]⟩:aw)then bif il.c (gM.v a e ⟨#[]⟩ (cm ⟨#[]⟩:aw))then bif !il.v (gM.v a e ⟨#[]⟩ (cm ⟨#[]⟩:aw))then kr [] ak else kr (gM.v a e ⟨#[]⟩ (cm ⟨#[]⟩:aw)) ai else aj else aj else bif decide (d=3)then bif bZ (aA h) (aA e)then kr [] ak else bif i9.c a e then bif gM.c (i9.v a e) h ⟨#[]⟩ 0 then bif il.c (gM.v (i9.v a e) h ⟨#[]⟩ 0)then bif !il.v (gM.v (i9.v a e) h ⟨#[]⟩ 0)then kr [] ak else kr (gM.v (i9.v a e) h ⟨#[]⟩ 0) ai else aj else aj else aj else bif i9.c a e then bif il.c (i9.v a e)then bif !il.v (i9.v a e)then kr [] ak else kr (i9.v a e) ai else aj else aj else bif decide (eE.v a e≥0)then bif decide (0<=eE.v a e)&&decide (eE.v a e<(a.length:aw))then bif decide (d=1)then bif decide ((bw (ar a (eE.v a e).toNat 1)).size+f.size<=4611686018427387904)then bif gM.c a (bw (ar a (eE.v a e).toNat 0)) (bw (ar a (eE.v a e).toNat 1)++f) (bF (ar a (eE.v a e).toNat (1+1)))then bif il.c (gM.v a (bw (ar a (eE.v a e).toNat 0)) (bw (ar a (eE.v a e).toNat 1)++f) (bF (ar a (eE.v a e).toNat (1+1))))then bif !il.v (gM.v a (bw (ar a (eE.v a e).toNat 0)) (bw (ar a (eE.v a e).toNat 1)++f) (bF (ar a (eE.v a e).toNat (1+1))))then kr [] ak else kr (gM.v a (bw (ar a (eE.v a e).toNat 0)) (bw (ar a (eE.v a e).toNat 1)++f) (bF (ar a (eE.v a e).toNat (1+1)))) ai else aj else aj else aj else bif decide (d=2)then bif gM.c a (bw (ar a (eE.v a e).toNat 0)) (bw (ar a (eE.v a e).toNat 1)) ((bw (ar a (eE.v a e).toNat 1)).size:aw)then bif il.c (gM.v a (bw (ar a (eE.v a e).toNat 0)) (bw (ar a (eE.v a e).toNat 1)) ((bw (ar a (eE.v a e).toNat 1)).size:aw))then bif !il.v (gM.v a (bw (ar a (eE.v a e).toNat 0)) (bw (ar a (eE.v a e).toNat 1)) ((bw (ar a (eE.v a e).toNat 1)).size:aw))then kr [] ak else kr (gM.v a (bw (ar a (eE.v a e).toNat 0)) (bw (ar a (eE.v a e).toNat 1)) ((bw (ar a (eE.v a e).toNat 1)).size:aw)) ai else aj else aj else bif decide (d=3)then bif bF (ar a (eE.v a e).toNat (1+1)) !=((bw (ar a (eE.v a e).toNat 1)).size:aw)then kr [] ak else bif bZ (aA h) (aA e)then kr [] ak else bif i9.c a e then bif gM.c (i9.v a e) h (bw (ar a (eE.v a e).toNat 1)) (bF (ar a (eE.v a e).toNat (1+1)))then bif il.c (gM.v (i9.v a e) h (bw (ar a (eE.v a e).toNat 1)) (bF (ar a (eE.v a e).toNat (1+1))))then bif !il.v (gM.v (i9.v a e) h (bw (ar a (eE.v a e).toNat 1)) (bF (ar a (eE.v a e).toNat (1+1))))then kr [] ak else kr (gM.v (i9.v a e) h (bw (ar a (eE.v a e).toNat 1)) (bF (ar a (eE.v a e).toNat (1+1)))) ai else aj else aj else aj else bif i9.c a e then bif il.c (i9.v a e)then bif !il.v (i9.v a e)then kr [] ak else kr (i9.v a e) ai else aj else aj else aj else bif decide (d=1)then bif decide (cm ⟨#[]⟩+f.size<=4611686018427387904)then bif gM.c a e ({data:= #[]}++f) 0 then bif il.c (gM.v a e ({data:= #[]}++f) 0)then bif !il.v (gM.v a e ({data:= #[]}++f) 0)then kr [] ak else kr (gM.v a e ({data:= #[]}++f) 0) ai else aj else aj else aj else bif decide (d=2)then bif gM.c a e ⟨#[]⟩ (cm ⟨#[]⟩:aw)then bif il.c (gM.v a e ⟨#[]⟩ (cm ⟨#[]⟩:aw))then bif !il.v (gM.v a e ⟨#[]⟩ (cm ⟨#[]⟩:aw))then kr [] ak else kr (gM.v a e ⟨#[]⟩ (cm ⟨#[]⟩:aw)) ai else aj else aj else bif decide (d=3)then bif bZ (aA h) (aA e)then kr [] ak else bif i9.c a e then bif gM.c (i9.v a e) h ⟨#[]⟩ 0 then bif il.c (gM.v (i9.v a e) h ⟨#[]⟩ 0)then bif !il.v (gM.v (i9.v a e) h ⟨#[]⟩ 0)then kr [] ak else kr (gM.v (i9.v a e) h ⟨#[]⟩ 0) ai else aj else aj else aj else bif i9.c a e then bif il.c (i9.v a e)then bif !il.v (i9.v a e)then kr [] ak else kr (i9.v a e) ai else aj else aj else aj else aj
def vo:=b λr0 r1=>ah (r0,r1)
def c:=λa d e f h=>(vo a d e f h).isSome
def v:=λa d e f h=>(vo a d e f h).getD ([],ak)
theorem out{x}:∀a d e f h,vo a d e f h=ah x->c a d e f h=ai/\v a d e f h=x:=λ_ _ _ _ _=>Lib.dg
end rL

namespace vU
def r3(N:aF)(g k0 k1:BT R)(a:aR)(d:aw)(e:aR)(f h:aw)(i:aR):aC R:=bif decide (h<f)then bif decide (0<=h)&&decide (h<(e.length:aw))then bif rL.c i (bF (ar e h.toNat 0)) (bw (ar e h.toNat 1)) (bw (ar e h.toNat (1+1))) (bw (ar e h.toNat (1+1+1)))then bif !(rL.v i (bF (ar e h.toNat 0)) (bw (ar e h.toNat 1)) (bw (ar e h.toNat (1+1))) (bw (ar e h.toNat (1+1+1)))).2 then k0 a h e f h i else g a d e f (bJ (h+1)) (rL.v i (bF (ar e h.toNat 0)) (bw (ar e h.toNat 1)) (bw (ar e h.toNat (1+1))) (bw (ar e h.toNat (1+1+1)))).1 else aj else aj else k1 a d e f h i
def l3(N:aF)(k0 k1:BT R):aF->BT R
 |0=>λ_ _ _ _ _ _=>aj
 |n+1=>r3 N (l3 N k0 k1 n) k0 k1
def b(N:aF)(kr:s9 R)(a d:aR):aC R:=bif tp.c a then l3 N (λ_ e _ _ _ f=>kr f e) (λe _ _ _ _ f=>kr f (e.length:aw)) N d 0 d (d.length:aw) 0 (tp.v a)else aj
def vo:=b Lib.cU λr0 r1=>ah (r0,r1)
def c:=λa d=>(vo a d).isSome
def v:=λa d=>(vo a d).getD ([],0)
theorem out{x}:∀a d,vo a d=ah x->c a d=ai/\v a d=x:=λ_ _=>Lib.dg
end vU

namespace Wq
def b(kr:AG R)(a:aw)(d e f h:aR)(i:aw)(j l:aR)(m:aw)(o p q:aR)(r s:aw):aC R:=bif DP.c a d e f h i j l m r s then Lib.lt (DP.v a d e f h i j l m r s) λt=>bif !t.2.2.2.2.2.2.2.2.2 then kr t.2.2.2.2.2.2.2.2.2 t.1 t.2.1 t.2.2.1 t.2.2.2.1 t.2.2.2.2.1 t.2.2.2.2.2.1 t.2.2.2.2.2.2.1 t.2.2.2.2.2.2.2.1 t.2.2.2.2.2.2.2.2.1 o p q else bif decide (s=0)then kr t.2.2.2.2.2.2.2.2.2 t.1 t.2.1 t.2.2.1 t.2.2.2.1 t.2.2.2.2.1 t.2.2.2.2.2.1 t.2.2.2.2.2.2.1 t.2.2.2.2.2.2.2.1 t.2.2.2.2.2.2.2.2.1 o p q else bif decide (0<=r)&&decide (r<(t.2.2.2.2.2.2.1.length:aw))then bif sJ.c t.2.2.1 t.2.2.2.1 t.2.2.2.2.1 t.2.2.2.2.2.1 (bw (ar t.2.2.2.2.2.2.1 r.toNat 0))then Lib.lt (sJ.v t.2.2.1 t.2.2.2.1 t.2.2.2.2.1 t.2.2.2.2.2.1 (bw (ar t.2.2.2.2.2.2.1 r.toNat 0))) λu=>bif u then bif cw (q.length+(aD (aP [Ck.s,Ck.i ao,Ck.i ao,Ck.s] 1) 0 [.s (bw (ar t.2.2.2.2.2.2.1 r.toNat 0)), .i .i64 (bF (ar t.2.2.2.2.2.2.1 r.toNat (1+1+1+1))), .i .i64 (bF (ar t.2.2.2.2.2.2.1 r.toNat (1+1+1))), .s (bw (ar t.2.2.2.2.2.2.1 r.toNat 1))]).length) 48 then bif ve.c (bw (ar t.2.2.2.2.2.2.1 r.toNat 0)) (bF (ar t.2.2.2.2.2.2.1 r.toNat (1+1+1+1))) (bF (ar t.2.2.2.2.2.2.1 r.toNat (1+1+1))) (bw (ar t.2.2.2.2.2.2.1 r.toNat 1))then Lib.lt (ve.v (bw (ar t.2.2.2.2.2.2.1 r.toNat 0)) (bF (ar t.2.2.2.2.2.2.1 r.toNat (1+1+1+1))) (bF (ar t.2.2.2.2.2.2.1 r.toNat (1+1+1))) (bw (ar t.2.2.2.2.2.2.1 r.toNat 1))) λw=>bif vU.c o w.1 then Lib.lt (vU.v o w.1) λy=>kr ai t.1 t.2.1 t.2.2.1 t.2.2.2.1 t.2.2.2.2.1 t.2.2.2.2.2.1 t.2.2.2.2.2.2.1 t.2.2.2.2.2.2.2.1 t.2.2.2.2.2.2.2.2.1 y.1 p (q++aD (aP [Ck.s,Ck.i ao,Ck.i ao,Ck.s] 1) 0 [.s (bw (ar t.2.2.2.2.2.2.1 r.toNat 0)), .i .i64 (bF (ar t.2.2.2.2.2.2.1 r.toNat (1+1+1+1))), .i .i64 (bF (ar t.2.2.2.2.2.2.1 r.toNat (1+1+1))), .s (bw (ar t.2.2.2.2.2.2.1 r.toNat 1))])else aj else aj else aj else kr ai t.1 t.2.1 t.2.2.1 t.2.2.2.1 t.2.2.2.2.1 t.2.2.2.2.2.1 t.2.2.2.2.2.2.1 t.2.2.2.2.2.2.2.1 t.2.2.2.2.2.2.2.2.1 o p q else aj else aj else aj
def vo:=b λr0 r1 r2 r3 r4 r5 r6 r7 r8 r9 JN Aw UW=>ah (r0,r1,r2,r3,r4,r5,r6,r7,r8,r9,JN,Aw,UW)
def c:=λa d e f h i j l m o p q r s=>(vo a d e f h i j l m o p q r s).isSome
def v:=λa d e f h i j l m o p q r s=>(vo a d e f h i j l m o p q r s).getD (ak,0,[],[],[],[],0,[],[],0,[],[],[])
theorem out{x}:∀a d e f h i j l m o p q r s,vo a d e f h i j l m o p q r s=ah x->c a d e f h i j l m o p q r s=ai/\v a d e f h i j l m o p q r s=x:=λ_ _ _ _ _ _ _ _ _ _ _ _ _ _=>Lib.dg
end Wq

namespace Wr
def b(kr:kX R)(a:aw)(d e f h:aR)(i:aw)(j l:aR)(m o:aw):aC R:=bif iP.c a d e f h i j l m then Lib.lt (iP.v a d e f h i j l m) λp=>bif vd.c a d e f h i j l m o then Lib.lt (vd.v a d e f h i j l m o) λq=>bif !q then kr p.1 p.2.1 p.2.2.1 p.2.2.2.1 p.2.2.2.2.1 p.2.2.2.2.2.1 p.2.2.2.2.2.2.1 p.2.2.2.2.2.2.2.1 p.2.2.2.2.2.2.2.2 ak else bif decide (0<=o)&&decide (o<(j.length:aw))then bif bF (ar j o.toNat 2) !=1 then kr p.1 p.2.1 p.2.2.1 p.2.2.2.1 p.2.2.2.2.1 p.2.2.2.2.2.1 p.2.2.2.2.2.2.1 p.2.2.2.2.2.2.2.1 p.2.2.2.2.2.2.2.2 ak else bif decide (0<=o)&&decide (o<(p.2.2.2.2.2.2.1.length:aw))then bif vV.c p.1 p.2.1 p.2.2.1 p.2.2.2.1 p.2.2.2.2.1 p.2.2.2.2.2.1 (eJ p.2.2.2.2.2.2.1 o.toNat 2 [.i .i64 3]) p.2.2.2.2.2.2.2.1 p.2.2.2.2.2.2.2.2 o 3 then Lib.lt (vV.v p.1 p.2.1 p.2.2.1 p.2.2.2.1 p.2.2.2.2.1 p.2.2.2.2.2.1 (eJ p.2.2.2.2.2.2.1 o.toNat 2 [.i .i64 3]) p.2.2.2.2.2.2.2.1 p.2.2.2.2.2.2.2.2 o 3) λr=>kr r.1 r.2.1 r.2.2.1 r.2.2.2.1 r.2.2.2.2.1 r.2.2.2.2.2.1 r.2.2.2.2.2.2.1 r.2.2.2.2.2.2.2.1 r.2.2.2.2.2.2.2.2 ai else aj else aj else aj else aj else aj
def vo:=b λr0 r1 r2 r3 r4 r5 r6 r7 r8 r9=>ah (r0,r1,r2,r3,r4,r5,r6,r7,r8,r9)
def c:=λa d e f h i j l m o=>(vo a d e f h i j l m o).isSome
def v:=λa d e f h i j l m o=>(vo a d e f h i j l m o).getD (0,[],[],[],[],0,[],[],0,ak)
theorem out{x}:∀a d e f h i j l m o,vo a d e f h i j l m o=ah x->c a d e f h i j l m o=ai/\v a d e f h i j l m o=x:=λ_ _ _ _ _ _ _ _ _ _=>Lib.dg
end Wr

namespace AU
def b(kr:aw->aC R)(a d:aw):aC R:=bif !decide (d=0)then bif !decide (d=0)then kr (cy (bJ (cy a d+d)) d)else aj else aj
def vo:=b λr0=>ah r0
def c:=λa d=>(vo a d).isSome
def v:=λa d=>(vo a d).getD (0)
theorem out{x}:∀a d,vo a d=ah x->c a d=ai/\v a d=x:=λ_ _=>Lib.dg
end AU

namespace DK
def b(kr:ed R)(a:aw)(d e f h:aR)(i:aw)(j l:aR)(m o:aw):aC R:=bif iP.c a d e f h i j l m then bif decide (a>bJ (1000000000-AU.v o 1000))then kr 1000000000 (iP.v a d e f h i j l m).2.1 (iP.v a d e f h i j l m).2.2.1 (iP.v a d e f h i j l m).2.2.2.1 (iP.v a d e f h i j l m).2.2.2.2.1 (iP.v a d e f h i j l m).2.2.2.2.2.1 (iP.v a d e f h i j l m).2.2.2.2.2.2.1 (iP.v a d e f h i j l m).2.2.2.2.2.2.2.1 (iP.v a d e f h i j l m).2.2.2.2.2.2.2.2 else kr (bJ (a+AU.v o 1000)) (iP.v a d e f h i j l m).2.1 (iP.v a d e f h i j l m).2.2.1 (iP.v a d e f h i j l m).2.2.2.1 (iP.v a d e f h i j l m).2.2.2.2.1 (iP.v a d e f h i j l m).2.2.2.2.2.1 (iP.v a d e f h i j l m).2.2.2.2.2.2.1 (iP.v a d e f h i j l m).2.2.2.2.2.2.2.1 (iP.v a d e f h i j l m).2.2.2.2.2.2.2.2 else aj
def vo:=b λr0 r1 r2 r3 r4 r5 r6 r7 r8=>ah (r0,r1,r2,r3,r4,r5,r6,r7,r8)
def c:=λa d e f h i j l m o=>(vo a d e f h i j l m o).isSome
def v:=λa d e f h i j l m o=>(vo a d e f h i j l m o).getD (0,[],[],[],[],0,[],[],0)
theorem out{x}:∀a d e f h i j l m o,vo a d e f h i j l m o=ah x->c a d e f h i j l m o=ai/\v a d e f h i j l m o=x:=λ_ _ _ _ _ _ _ _ _ _=>Lib.dg
end DK

namespace wQ
def r5(N:aF)(g k0:iZ R)(a d e:aw)(f:aR):aC R:=bif decide (e<(f.length:aw))then bif decide (0<=e)&&decide (e<(f.length:aw))then bif !AW.v (bF (ar f e.toNat 0)) (bw (ar f e.toNat 1)) (bF (ar f e.toNat (1+1))) (bF (ar f e.toNat (1+1+1))) (bF (ar f e.toNat (1+1+1+1))) (bw (ar f e.toNat (1+1+1+1+1))) (bF (ar f e.toNat (1+1+1+1+1+1))) a then bif decide (0<=d)&&decide (d<(f.length:aw))then g a (bJ (d+1)) (bJ (e+1)) (eJ f d.toNat 0 [.i .i64 (bF (ar f e.toNat 0)), .s (bw (ar f e.toNat 1)), .i .i64 (bF (ar f e.toNat (1+1))), .i .i64 (bF (ar f e.toNat (1+1+1))), .i .i64 (bF (ar f e.toNat (1+1+1+1))), .s (bw (ar f e.toNat (1+1+1+1+1))), .i .i64 (bF (ar f e.toNat (1+1+1+1+1+1)))])else aj else g a d (bJ (e+1)) f else aj else k0 a d e f
def l5(N:aF)(k0:iZ R):aF->iZ R
 |0=>λ_ _ _ _=>aj
 |n+1=>r5 N (l5 N k0 n) k0
def b(N:aF)(kr:aR->aC R)(a:aR)(CE:aw):aC R:=bif ny.c a CE then bif decide (ny.v a CE=Ku 1)then kr a else l5 N (λ_ d _ e=>bif g8 d (e.length:aw) (e.length:aw)then bif g8 0 d ((g_ d.toNat e++aP [Ck.i ao,Ck.s,Ck.i ao,Ck.i ao,Ck.i ao,Ck.s,Ck.i ao] ((e.length:aw).toNat-d.toNat)++nt (e.length:aw).toNat e).length:aw)then kr (eA (g_ d.toNat e++aP [Ck.i ao,Ck.s,Ck.i ao,Ck.i ao,Ck.i ao,Ck.s,Ck.i ao] ((e.length:aw).toNat-d.toNat)++nt (e.length:aw).toNat e) (aW 0) d.toNat)else aj else aj) N CE (ny.v a CE) (bJ (ny.v a CE+1)) a else aj
def vo:=b Lib.cU λr0=>ah r0
def c:=λa d=>(vo a d).isSome
def v:=λa d=>(vo a d).getD ([])
theorem out{x}:∀a d,vo a d=ah x->c a d=ai/\v a d=x:=λ_ _=>Lib.dg
end wQ

namespace DL
def b(kr:ed R)(a:aw)(d e f h:aR)(i:aw)(j l:aR)(m o:aw):aC R:=bif iP.c a d e f h i j l m then bif wQ.c (iP.v a d e f h i j l m).2.2.2.2.2.2.2.1 o then kr (iP.v a d e f h i j l m).1 (iP.v a d e f h i j l m).2.1 (iP.v a d e f h i j l m).2.2.1 (iP.v a d e f h i j l m).2.2.2.1 (iP.v a d e f h i j l m).2.2.2.2.1 (iP.v a d e f h i j l m).2.2.2.2.2.1 (iP.v a d e f h i j l m).2.2.2.2.2.2.1 (wQ.v (iP.v a d e f h i j l m).2.2.2.2.2.2.2.1 o) (iP.v a d e f h i j l m).2.2.2.2.2.2.2.2 else aj else aj
def vo:=b λr0 r1 r2 r3 r4 r5 r6 r7 r8=>ah (r0,r1,r2,r3,r4,r5,r6,r7,r8)
def c:=λa d e f h i j l m o=>(vo a d e f h i j l m o).isSome
def v:=λa d e f h i j l m o=>(vo a d e f h i j l m o).getD (0,[],[],[],[],0,[],[],0)
theorem out{x}:∀a d e f h i j l m o,vo a d e f h i j l m o=ah x->c a d e f h i j l m o=ai/\v a d e f h i j l m o=x:=λ_ _ _ _ _ _ _ _ _ _=>Lib.dg
end DL

namespace wR
def r5(N:aF)(g k0:FU R)(a d:aR)(e f:aw)(h:aR):aC R:=bif decide (f<e)then bif decide (0<=f)&&decide (f<(d.length:aw))then bif decide (f<(a.length:aw))then bif decide (0<=f)&&decide (f<(a.length:aw))then bif g8 0 (iv ai (bF (ar d f.toNat (1+1))) (iv ak (bF (ar a f.toNat 0)) ((bw (ar d f.toNat 1)).size:aw))) ((bw (ar d f.toNat 1)).size:aw)then bif decide (0<=f)&&decide (f<(h.length:aw))then g a d e (bJ (f+1)) (eJ h f.toNat 0 [.s (bw (ar d f.toNat 0)), .s (bO (bw (ar d f.toNat 1)) (aW 0) (iv ai (bF (ar d f.toNat (1+1))) (iv ak (bF (ar a f.toNat 0)) ((bw (ar d f.toNat 1)).size:aw))).toNat), .i .i64 (iv ai (bF (ar d f.toNat (1+1))) (iv ak (bF (ar a f.toNat 0)) ((bw (ar d f.toNat 1)).size:aw)))])else aj else aj else aj else bif g8 0 (bF (ar d f.toNat (1+1))) ((bw (ar d f.toNat 1)).size:aw)then bif decide (0<=f)&&decide (f<(h.length:aw))then g a d e (bJ (f+1)) (eJ h f.toNat 0 [.s (bw (ar d f.toNat 0)), .s (bO (bw (ar d f.toNat 1)) (aW 0) (bF (ar d f.toNat (1+1))).toNat), .i .i64 (bF (ar d f.toNat (1+1)))])else aj else aj else aj else k0 a d e f h
def l5(N:aF)(k0:FU R):aF->FU R
 |0=>λ_ _ _ _ _=>aj
 |n+1=>r5 N (l5 N k0 n) k0
def b(N:aF)(kr:DG R)(a d:aR):aC R:=bif il.c a then bif !il.v a then kr [] ak else bif tp.c a then l5 N (λ_ _ _ _ e=>kr e ai) N d a (a.length:aw) 0 (tp.v a)else aj else aj
def vo:=b Lib.cU λr0 r1=>ah (r0,r1)
def c:=λa d=>(vo a d).isSome
def v:=λa d=>(vo a d).getD ([],ak)
theorem out{x}:∀a d,vo a d=ah x->c a d=ai/\v a d=x:=λ_ _=>Lib.dg
end wR

namespace u6
def b(kr:wJ R)(a:aR)(d:aq):aC R:=bif eE.c a d then bif decide (eE.v a d<0)then kr ⟨#[]⟩ ak else bif decide (0<=eE.v a d)&&decide (eE.v a d<(a.length:aw))then kr (bw (ar a (eE.v a d).toNat 1)) ai else aj else aj
def vo:=b λr0 r1=>ah (r0,r1)
def c:=λa d=>(vo a d).isSome
def v:=λa d=>(vo a d).getD (⟨#[]⟩,ak)
theorem out{x}:∀a d,vo a d=ah x->c a d=ai/\v a d=x:=λ_ _=>Lib.dg
end u6

namespace gk
def r5(N:aF)(g k0 k1:yT R)(a:aq)(d e f:aw)(h:aX)(i j:aw):aC R:=bif decide (j<5)then bif decide (bJ (d+j)<(a.size:aw))then bif decide (0<=bJ (d+j))&&decide (bJ (d+j)<(a.size:aw))then bif decide (0<=bJ (7*j))then bif decide (bJ (↑(gQ a (bJ (d+j)).toNat):aw)>127)then g a d e f h (bJ (i+bJ (cy (bJ (↑(gQ a (bJ (d+j)).toNat):aw)) 128*ia 2 (if(bJ (7*j)).toNat<=64 then(bJ (7*j)).toNat else 64)))) (bJ (j+1))else bif decide (j>0)then bif decide (bJ (↑(gQ a (bJ (d+j)).toNat):aw)=0)then k0 a d 0 0 ak (bJ (i+bJ (cy (bJ (↑(gQ a (bJ (d+j)).toNat):aw)) 128*ia 2 (if(bJ (7*j)).toNat<=64 then(bJ (7*j)).toNat else 64)))) j else bif decide (bJ (i+bJ (cy (bJ (↑(gQ a (bJ (d+j)).toNat):aw)) 128*ia 2 (if(bJ (7*j)).toNat<=64 then(bJ (7*j)).toNat else 64)))>1000000000)then k0 a d 0 0 ak (bJ (i+bJ (cy (bJ (↑(gQ a (bJ (d+j)).toNat):aw)) 128*ia 2 (if(bJ (7*j)).toNat<=64 then(bJ (7*j)).toNat else 64)))) j else k0 a d (bJ (i+bJ (cy (bJ (↑(gQ a (bJ (d+j)).toNat):aw)) 128*ia 2 (if(bJ (7*j)).toNat<=64 then(bJ (7*j)).toNat else 64)))) (bJ (bJ (d+j)+1)) ai (bJ (i+bJ (cy (bJ (↑(gQ a (bJ (d+j)).toNat):aw)) 128*ia 2 (if(bJ (7*j)).toNat<=64 then(bJ (7*j)).toNat else 64)))) j else bif decide (bJ (i+bJ (cy (bJ (↑(gQ a (bJ (d+j)).toNat):aw)) 128*ia 2 (if(bJ (7*j)).toNat<=64 then(bJ (7*j)).toNat else 64)))>1000000000)then k0 a d 0 0 ak (bJ (i+bJ (cy (bJ (↑(gQ a (bJ (d+j)).toNat):aw)) 128*ia 2 (if(bJ (7*j)).toNat<=64 then(bJ (7*j)).toNat else 64)))) j else k0 a d (bJ (i+bJ (cy (bJ (↑(gQ a (bJ (d+j)).toNat):aw)) 128*ia 2 (if(bJ (7*j)).toNat<=64 then(bJ (7*j)).toNat else 64)))) (bJ (bJ (d+j)+1)) ai (bJ (i+bJ (cy (bJ (↑(gQ a (bJ (d+j)).toNat):aw)) 128*ia 2 (if(bJ (7*j)).toNat<=64 then(bJ (7*j)).toNat else 64)))) j else aj else aj else k1 a d e f h i j else k1 a d e f h i j
def l5(N:aF)(k0 k1:yT R):aF->yT R
 |0=>λ_ _ _ _ _ _ _=>aj
 |n+1=>r5 N (l5 N k0 k1 n) k0 k1
def b(N:aF)(kr:Ml R)(a:aq)(d:aw):aC R:=bif !lB.v d 0 (a.size:aw)then kr 0 0 ak else l5 N (λ_ _ e f h _ _=>kr e f h) (λ_ _ _ _ _ _ _=>kr 0 0 ak) N a d 0 0 ak 0 0
def v(cX:aq)(gP:aw):aw×aw×aX:=if 0<=gP/\gP<=cX.size then Lib.rv cX gP.toNat 5 0 0 else(0,0,ak)
theorem eG(kr:Ml R)(cX:aq)(gP:aw)(f0:Ec cX):∃N,b N kr cX gP=kr (v cX gP).1 (v cX gP).2.1 (v cX gP).2.2:=by
 refine⟨6, ?_⟩
 unfold b v;by_cases hn:0<=gP/\gP<=cX.size
 ·have e:lB.v gP 0 (cX.size:aw)=true:=by simp[lB.v,hn]
  obtain⟨a,rfl⟩:∃a:aF,gP=(a:aw):=⟨gP.toNat,by omega⟩
  have ha:a<=cX.size:=by omega
  rw[e,bz hn,Lib.dX];have hs:cX.size<=4611686018427387904:=f0;simp only[a_,ax]
  have:=Lib.g9 (λm (s:aF×aw)=>l5 6 (λy7 y8 y9 Ki wz Mj HR=>kr y9 Ki wz) (λOE WM QO DC FH El wA=>kr 0 0 ak) m cX a 0 0 ak s.2 s.1) (λs=>5-s.1) (λs=>s.1<=5/\0<=s.2/\s.2<128^s.1)
   (λs=>kr (Lib.rv cX a (5-s.1) s.1 s.2).1 (Lib.rv cX a (5-s.1) s.1 s.2).2.1 (Lib.rv cX a (5-s.1) s.1 s.2).2.2) (λm s hs5=>by
   obtain⟨j,n⟩:=s
   obtain⟨hj,h0,jD⟩:=hs5
   dsimp only at hj h0 jD⊢
   have hb:=Lib.GW cX (a+j)
   by_cases hj5:j<5
   ·by_cases gg:a+j<cX.size
    ·have ew:bJ ((a:aw)+(j:aw))=((a+j:aF):aw):=by rw[iI (by omega) (by omega)];omega
     have ew2:bJ ((a+j:aF):aw)=((a+j:aF):aw):=iI (by omega) (by omega);have eb:bJ (gQ cX (a+j):aw)=(gQ cX (a+j):aw):=iI (by omega) (by omega);have em:cy (gQ cX (a+j):aw) 128=(gQ cX (a+j):aw)%128:=ir (by omega);have e7:bJ (7*(j:aw))=((7*j:aF):aw):=by rw[iI (by omega) (by omega)];omega
     have ep:ia 2 (if 7*j<=64 then 7*j else 64)=128^j:=by rw[bz (by omega)];show(2:aw)^(7*j)=128^j;rw[Int.pow_mul];rfl
     have hp:(128:aw)^j<=268435456/\(1:aw)<=128^j/\(128:aw)^(j+1)=128*128^j:=by
      obtain rfl|rfl|rfl|rfl|rfl:j=0\/j=1\/j=2\/j=3\/j=4:=by omega
      all_goals decide
     have hm0:0<=(gQ cX (a+j):aw)%128/\(gQ cX (a+j):aw)%128<=127:=by omega
     have hq:0<=(gQ cX (a+j):aw)%128*128^j/\(gQ cX (a+j):aw)%128*128^j<=127*128^j:=
      ⟨Int.mul_nonneg hm0.1 (by omega),DH hm0.2 (by omega)⟩
     have eq1:bJ ((gQ cX (a+j):aw)%128*128^j)=(gQ cX (a+j):aw)%128*128^j:=iI (by omega) (by omega);have eq2:bJ (n+(gQ cX (a+j):aw)%128*128^j)=n+(gQ cX (a+j):aw)%128*128^j:=iI (by omega) (by omega);have ej:bJ ((j:aw)+1)=((j+1:aF):aw):=Lib.cZ hj5 (by omega);have ef:5-j=(5-(j+1))+1:=by omega
     have c1:decide ((j:aw)<5)=true:=by simp;omega
     have c2:decide (((a+j:aF):aw)<(cX.size:aw))=true:=Lib.Ni gg
     have XX:Lib.rv cX a (5-j) j n=(if(gQ cX (a+j):aw)>127 then Lib.rv cX a (5-(j+1)) (j+1) (n+(gQ cX (a+j):aw)%128*128^j)
       else if(j>0/\gQ cX (a+j)=0)\/n+(gQ cX (a+j):aw)%128*128^j>1000000000 then(0,0,ak)
       else(n+(gQ cX (a+j):aw)%128*128^j,((a+j+1:aF):aw),ai)):=by
      rw[ef];simp only[Lib.rv];rw[bz gg]
     have en:bJ (((a+j:aF):aw)+1)=((a+j+1:aF):aw):=Lib.cZ gg (by omega);simp only[l5,r5,c1,ew,c2,Lib.cE,Lib.dX,eb,em,e7,ep,eq1,eq2,ej,en,au,aM];by_cases hc:(gQ cX (a+j):aw)>127
     ·right;rw[aE hc];exact⟨(j+1,n+(gQ cX (a+j):aw)%128*128^j),⟨by dsimp only;omega,by dsimp only;omega,by dsimp only;omega⟩,by dsimp only;omega,by dsimp only;rw[XX,bz hc],rfl⟩
     ·left;rw[aK hc,ax,XX,bH hc];by_cases hj0:(j:aw)>0
      ·rw[aE hj0,au];by_cases hz:(gQ cX (a+j):aw)=0
       ·rw[aE hz,bz (.inl ⟨by omega,by omega⟩)];rfl
       ·rw[aK hz,ax];by_cases tK:n+(gQ cX (a+j):aw)%128*128^j>1000000000
        ·rw[aE tK,bz (.inr tK)];rfl
        ·rw[aK tK,bH (by omega)];rfl
      ·rw[aK hj0,ax];by_cases tK:n+(gQ cX (a+j):aw)%128*128^j>1000000000
       ·rw[aE tK,bz (.inr tK)];rfl
       ·rw[aK tK,bH (by omega)];rfl
    ·left;have ew:bJ ((a:aw)+(j:aw))=((a+j:aF):aw):=by rw[iI (by omega) (by omega)];omega
     have ef:5-j=(5-(j+1))+1:=by omega
     have XX:Lib.rv cX a (5-j) j n=(0,0,ak):=by rw[ef];simp only[Lib.rv];rw[bH gg]
     simp only[l5,r5,show decide ((j:aw)<5)=ai by simp;omega,ew,Lib.Sy gg,au,ax,XX]
   ·left;have Kc:j=5:=by omega
    subst Kc;simp only[l5,r5,show decide (((5:aF):aw)<5)=ak from rfl,ax];rfl) 6 (0,0) ⟨by dsimp only;omega,by dsimp only;omega,by dsimp only;decide⟩ (by dsimp only;omega)
  exact this
 ·have e:lB.v gP 0 (cX.size:aw)=false:=by simp[lB.v];omega
  rw[e,bH hn];rfl
end gk

namespace U122
def r3(N:aF)(g k0:oy R)(a:aq)(d:aw)(e:aR):aC R:=bif decide ((a.size:aw)<=20000)then bif !(gk.v a d).2.2 then k0 a d e else bif !lB.v (gk.v a d).1 1 9000 then k0 a d e else bif decide (bJ ((gk.v a d).1+4)>bJ ((a.size:aw)-(gk.v a d).2.1))then k0 a d e else bif g8 (bJ ((gk.v a d).2.1+4)) (bJ (bJ ((gk.v a d).2.1+4)+(gk.v a d).1)) (a.size:aw)then bif vf.c (bO a (bJ ((gk.v a d).2.1+4)).toNat (bJ (bJ ((gk.v a d).2.1+4)+(gk.v a d).1)).toNat)then bif g8 (gk.v a d).2.1 (bJ ((gk.v a d).2.1+4)) (a.size:aw)then bif !List.beq (vf.v (bO a (bJ ((gk.v a d).2.1+4)).toNat (bJ (bJ ((gk.v a d).2.1+4)+(gk.v a d).1)).toNat)).toList (bO a (gk.v a d).2.1.toNat (bJ ((gk.v a d).2.1+4)).toNat).toList then k0 a d e else bif cw (e.length+(aD (aP [.s] 1) 0 [.s (bO a (bJ ((gk.v a d).2.1+4)).toNat (bJ (bJ ((gk.v a d).2.1+4)+(gk.v a d).1)).toNat)]).length) 16 then g a (bJ (bJ ((gk.v a d).2.1+4)+(gk.v a d).1)) (e++aD (aP [.s] 1) 0 [.s (bO a (bJ ((gk.v a d).2.1+4)).toNat (bJ (bJ ((gk.v a d).2.1+4)+(gk.v a d).1)).toNat)])else aj else aj else aj else aj else k0 a d e
def l3(N:aF)(k0:oy R):aF->oy R
 |0=>λ_ _ _=>aj
 |n+1=>r3 N (l3 N k0 n) k0
def b(N:aF)(kr:s9 R)(a:aq):aC R:=l3 N (λ_ d e=>kr e d) N a 0 (aP [.s] 0)
def vo:=b Lib.cU λr0 r1=>ah (r0,r1)
def c:=λa=>(vo a).isSome
def v:=λa=>(vo a).getD ([],0)
theorem out{x}:∀a,vo a=ah x->c a=ai/\v a=x:=λ_=>Lib.dg
end U122

namespace tn
def b(kr:Mn R)(a:aq)(d:aw):aC R:=bif !(gk.v a d).2.2 then kr ⟨#[]⟩ 0 ak else bif decide ((gk.v a d).1>20000)then kr ⟨#[]⟩ 0 ak else bif decide ((gk.v a d).1>bJ ((a.size:aw)-(gk.v a d).2.1))then kr ⟨#[]⟩ 0 ak else bif g8 (gk.v a d).2.1 (bJ ((gk.v a d).2.1+(gk.v a d).1)) (a.size:aw)then kr (bO a (gk.v a d).2.1.toNat (bJ ((gk.v a d).2.1+(gk.v a d).1)).toNat) (bJ ((gk.v a d).2.1+(gk.v a d).1)) ai else aj
def v(cX:aq)(gP:aw):aq×aw×aX:=Lib.ic cX gP
theorem eG(kr:Mn R)(cX:aq)(gP:aw)(f0:Ec cX):b kr cX gP=kr (v cX gP).1 (v cX gP).2.1 (v cX gP).2.2:=Lib.vE f0 gP kr
end tn

namespace vS
def b(kr:wK R)(a:aq):aC R:=bif !(tn.v a 0).2.2 then kr ⟨#[]⟩ 0 0 ⟨#[]⟩ ak else bif !(gk.v a (tn.v a 0).2.1).2.2 then kr ⟨#[]⟩ 0 0 ⟨#[]⟩ ak else bif !(gk.v a (gk.v a (tn.v a 0).2.1).2.1).2.2 then kr ⟨#[]⟩ 0 0 ⟨#[]⟩ ak else bif g8 (gk.v a (gk.v a (tn.v a 0).2.1).2.1).2.1 (a.size:aw) (a.size:aw)then bif !wP.v (tn.v a 0).1 (gk.v a (tn.v a 0).2.1).1 (gk.v a (gk.v a (tn.v a 0).2.1).2.1).1 (bO a (gk.v a (gk.v a (tn.v a 0).2.1).2.1).2.1.toNat (a.size:aw).toNat)then kr ⟨#[]⟩ 0 0 ⟨#[]⟩ ak else kr (tn.v a 0).1 (gk.v a (tn.v a 0).2.1).1 (gk.v a (gk.v a (tn.v a 0).2.1).2.1).1 (bO a (gk.v a (gk.v a (tn.v a 0).2.1).2.1).2.1.toNat (a.size:aw).toNat) ai else aj
def v(t0:aq):aq×aw×aw×aq×aX:=rM.v t0
theorem eG(kr:wK R)(t0:aq)(f0:Ec t0):b kr t0=kr (v t0).1 (v t0).2.1 (v t0).2.2.1 (v t0).2.2.2.1 (v t0).2.2.2.2:=by
 have e1:tn.v=Lib.ic:=rfl;have e2:gk.v=Lib.eF:=rfl;have e3:∀a b c d,wP.v a b c d=ni.v a b c d:=λ_ _ _ _=>rfl;unfold b v rM.v;simp only[e1,e2,e3,Lib.dX];cases h1:Lib.ic t0 0 with
 |mk k r1=>
  obtain⟨a,ok1⟩:=r1;cases ok1 with
  |false=>rfl
  |true=>
   dsimp only;cases h2:Lib.eF t0 a with
   |mk s r2=>
    obtain⟨x,ok2⟩:=r2;cases ok2 with
    |false=>rfl
    |true=>
     dsimp only;cases h3:Lib.eF t0 x with
     |mk l r3=>
      obtain⟨y,ok3⟩:=r3;cases ok3 with
      |false=>rfl
      |true=>
       obtain⟨r1,r2,r3,r4,r5,r6⟩:=Lib.j7 h3;dsimp only;simp only[a_,ax];rw[Lib.tz (show g8 y (t0.size:aw) (t0.size:aw)=ai by simp[g8];omega)];cases hE:ni.v k s l (t0.extract y.toNat t0.size)with
       |false=>rfl
       |true=>rfl
end vS

namespace U61
def r7(N:aF)(g k0:Kp R)(a d:aw)(e f:aR):aC R:=bif decide (d<a)then bif decide (0<=d)&&decide (d<(f.length:aw))then bif(vS.v (bw (ar f d.toNat 0))).2.2.2.2 then bif u9.c e (vS.v (bw (ar f d.toNat 0))).1 (vS.v (bw (ar f d.toNat 0))).2.1 (vS.v (bw (ar f d.toNat 0))).2.2.1 (vS.v (bw (ar f d.toNat 0))).2.2.2.1 then g a (bJ (d+1)) (u9.v e (vS.v (bw (ar f d.toNat 0))).1 (vS.v (bw (ar f d.toNat 0))).2.1 (vS.v (bw (ar f d.toNat 0))).2.2.1 (vS.v (bw (ar f d.toNat 0))).2.2.2.1) f else aj else g a (bJ (d+1)) e f else aj else k0 a d e f
def l7(N:aF)(k0:Kp R):aF->Kp R
 |0=>λ_ _ _ _=>aj
 |n+1=>r7 N (l7 N k0 n) k0
def b(N:aF)(kr:aR->aC R)(a:aR):aC R:=bif il.c a then bif !il.v a then kr (aP [Ck.s,Ck.i ao,Ck.i ao,Ck.s] 0)else bif u6.c a {data:= #[ay 107,ay 101,ay 112,ay 116]}then bif U122.c (u6.v a {data:= #[ay 107,ay 101,ay 112,ay 116]}).1 then l7 N (λ_ _ d _=>kr d) N ((U122.v (u6.v a {data:= #[ay 107,ay 101,ay 112,ay 116]}).1).1.length:aw) 0 (aP [Ck.s,Ck.i ao,Ck.i ao,Ck.s] 0) (U122.v (u6.v a {data:= #[ay 107,ay 101,ay 112,ay 116]}).1).1 else aj else aj else aj
def vo:=b Lib.cU λr0=>ah r0
def c:=λa=>(vo a).isSome
def v:=λa=>(vo a).getD ([])
theorem out{x}:∀a,vo a=ah x->c a=ai/\v a=x:=λ_=>Lib.dg
end U61

end Go.FG
