/- Functions of the program, told as functions of numbers, texts and lists, and what each comes to. No condition but those that each states. -/
import Derived.Test.YtilcgpcemjeaeaaGreatLib
set_option linter.unusedVariables false
set_option linter.unusedSimpArgs false
set_option maxRecDepth 100000
open BitVec renaming toNat->dW,and->ju,ofInt->cf,xor->mq
open Bool renaming cond_eq_ite->cz,true->ai,false->ak,false_eq_true->dx,true_and->ba,not_true->aY,and_self->aL,or_true->KO,and_false->wH,not_false->bP
open ByteArray renaming toList->aC,size->eu,extract->bK
open Go.IntKind renaming i64->ao,wrap->bH,u32->eB,u8->bj
open Go.Op renaming bytesLess->b9
open Int renaming toNat->aZ,fdiv->lF,pow->g_,tmod->cF,tdiv->cQ,tmod_eq_emod_of_nonneg->im,mul_le_mul_of_nonneg_right->DW,neg->KV
open List renaming set->aD,beq->bW,length->bS,range->b8,range'->iV,all_cons->u0,range'_zero->XB,range_eq_range'->XD,length_append->bU,length_singleton->bC,take->g7,drop->nt
open Nat renaming sub_zero->sA,lt_irrefl->bk
open Option renaming none->aj,some->ah
open UInt8 renaming ofNat->ay
open _root_ renaming Int->ax,Option->aA,ByteArray->aq,Bool->aU,Nat->aE,cond_true->au,cond_false->aw,of_decide_eq_true->cq,decide_eq_decide->ca,decide_true->aN,decide_false->bc,decide_eq_true->aG,if_neg->bJ,if_pos->bA,decide_eq_false->aK
namespace Go.FG
variable {R:Type}
abbrev sK(R:Type):=aQ->ax->aA R
abbrev AR(R:Type):=ax->aQ->aA R
abbrev wN(R:Type):=aq->aU->aA R
abbrev AU(R:Type):=aQ->aU->aA R
abbrev Aj(R:Type):=aQ->ax->ax->aA R
abbrev lE(R:Type):=ax->ax->ax->aA R
abbrev B6(R:Type):=ax->aq->ax->aA R
abbrev B7(R:Type):=ax->aq->aQ->aA R
abbrev Rt(R:Type):=aU->AR R
abbrev ox(R:Type):=aq->AR R
abbrev wM(R:Type):=aQ->AR R
abbrev MK(R:Type):=ax->ax->aU->aA R
abbrev MN(R:Type):=aq->ax->aU->aA R
abbrev B5(R:Type):=ax->aQ->aQ->aA R
abbrev iZ(R:Type):=ax->ax->AR R
abbrev td(R:Type):=aQ->aQ->sK R
abbrev Gj(R:Type):=ax->Aj R
abbrev aeZ(R:Type):=aq->Aj R
abbrev aeY(R:Type):=aU->Aj R
abbrev KT(R:Type):=aQ->aq->aU->ax->aA R
abbrev KQ(R:Type):=aU->ax->sK R
abbrev yS(R:Type):=ax->aq->ax->ax->aA R
abbrev yU(R:Type):=aQ->ox R
abbrev Gk(R:Type):=ax->aq->AU R
abbrev my(R:Type):=aq->ax->AR R
abbrev tf(R:Type):=aq->B5 R
abbrev qf(R:Type):=aQ->ax->AR R
abbrev vK(R:Type):=aQ->B5 R
abbrev Ru(R:Type):=aQ->Aj R
abbrev KS(R:Type):=ax->B5 R
abbrev rA(R:Type):=aQ->aQ->aU->ax->aA R
abbrev KR(R:Type):=aU->B5 R
abbrev ML(R:Type):=ax->qf R
abbrev MO(R:Type):=aq->qf R
abbrev ru(R:Type):=ax->aQ->lE R
abbrev Gg(R:Type):=aU->ax->ax->sK R
abbrev wO(R:Type):=aq->ax->ax->wN R
abbrev oF(R:Type):=ax->iZ R
abbrev Gq(R:Type):=aq->iZ R
abbrev Gr(R:Type):=aq->ax->ax->sK R
abbrev MM(R:Type):=aQ->aQ->aQ->ax->aq->aA R
abbrev Gh(R:Type):=aU->ax->B7 R
abbrev ry(R:Type):=ax->aQ->aq->aq->ax->aA R
abbrev Bn(R:Type):=aQ->aU->ox R
abbrev la(R:Type):=aQ->ax->lE R
abbrev Gm(R:Type):=aQ->Gj R
abbrev ie(R:Type):=aQ->aq->lE R
abbrev Gs(R:Type):=aq->Gj R
abbrev Gi(R:Type):=aU->qf R
abbrev Gl(R:Type):=ax->aq->ox R
abbrev Gn(R:Type):=aQ->qf R
abbrev o8(R:Type):=ax->aQ->iZ R
abbrev lX(R:Type):=ax->aQ->aq->ox R
abbrev IL(R:Type):=aQ->aU->tf R
abbrev o9(R:Type):=aQ->oF R
abbrev B3(R:Type):=aU->aQ->ax->ax->sK R
abbrev B_(R:Type):=aq->oF R
abbrev wL(R:Type):=ax->aq->ax->B7 R
abbrev B9(R:Type):=aQ->ML R
abbrev B4(R:Type):=aU->MO R
abbrev B8(R:Type):=aQ->aU->ax->lE R
abbrev B2(R:Type):=aU->ax->aQ->ax->sK R
abbrev yQ(R:Type):=aU->ax->aQ->aQ->wM R
abbrev oV(R:Type):=aQ->wL R
abbrev yR(R:Type):=aU->aQ->ax->ax->B7 R
abbrev yV(R:Type):=aq->ax->ax->ax->aU->ax->ax->aA R
abbrev yT(R:Type):=aQ->aU->ax->aq->ax->ax->aq->aA R
abbrev vL(R:Type):=aq->ax->ax->ax->aU->lE R
abbrev vG(R:Type):=aU->ax->ax->aQ->aQ->wM R
abbrev vH(R:Type):=aE->ax->ax->oF R
abbrev vI(R:Type):=aQ->aU->aQ->ax->ax->lE R
abbrev vJ(R:Type):=aQ->ax->ax->ax->aq->ax->ax->aq->aA R
abbrev dY(R:Type):=ax->aQ->aQ->aQ->aQ->ax->aQ->sK R
abbrev ld(R:Type):=aQ->ax->ax->aq->ax->ax->ax->ox R
abbrev wK(R:Type):=ax->aQ->aQ->aQ->aQ->ax->Ru R
abbrev k_(R:Type):=ax->aQ->aQ->aQ->aQ->ax->aQ->aQ->ax->aU->aA R
abbrev rq(R:Type):=aU->aQ->aQ->ax->ax->aQ->ax->ax->sK R
abbrev fF(R:Type):=aU->ax->dY R
abbrev qg(R:Type):=aQ->ax->aq->ax->ax->ax->aq->ax->lE R
abbrev iY(R:Type):=ax->ax->ax->ax->ax->ax->aQ->aQ->aQ->aQ->aQ->aQ->aA R
abbrev jH(R:Type):=ax->aQ->aQ->aQ->aQ->ax->aQ->aQ->ax->aQ->aQ->aQ->aA R
abbrev o7(R:Type):=aU->ax->ax->dY R
abbrev j_(R:Type):=ax->jH R
abbrev eQ(R:Type):=aU->aQ->ax->ax->dY R
abbrev jh(R:Type):=ax->iY R
abbrev AQ(R:Type):=aU->jH R
abbrev sq(R:Type):=ax->aQ->aQ->aQ->aQ->ax->aQ->aQ->ax->aQ->aQ->AU R
abbrev iU(R:Type):=aU->j_ R
abbrev mV(R:Type):=ax->aQ->jh R
abbrev gH(R:Type):=ax->ax->ax->ax->aQ->aQ->aQ->aQ->aQ->aQ->aQ->aQ->aQ->aQ->aQ->aA R
abbrev mU(R:Type):=aU->ax->ax->aQ->aQ->aQ->aQ->ax->aQ->aQ->ax->aQ->aQ->aQ->aQ->aA R
abbrev mw(R:Type):=aq->aU->ax->ax->aQ->aQ->aQ->aQ->ax->aQ->aQ->ax->aq->ax->ax->aq->aA R
abbrev mv(R:Type):=ax->aQ->ax->jh R
abbrev mr(R:Type):=ax->gH R
abbrev g8(R:Type):=aU->aQ->ax->j_ R
abbrev iI(R:Type):=ax->ax->aq->ax->aQ->aQ->ax->ax->aQ->aQ->aQ->aQ->aQ->aQ->aQ->aQ->aQ->aA R
abbrev lN(R:Type):=ax->aU->ax->ax->aQ->aQ->aQ->aQ->ax->aQ->aQ->ax->aq->aq->lE R
abbrev jB(R:Type):=ax->ax->ax->ax->ax->aq->ax->ax->ax->aq->ax->aQ->aQ->aQ->aQ->aQ->aQ->aA R
abbrev lO(R:Type):=aQ->ax->ax->ax->ax->ax->ax->ax->aQ->aQ->aQ->aQ->aQ->aQ->aQ->aQ->aQ->aA R
abbrev lM(R:Type):=aU->aQ->ax->ax->ax->aQ->aQ->aQ->aQ->ax->aQ->aQ->ax->aQ->aQ->aQ->aQ->aA R
abbrev kJ(R:Type):=ax->ax->aQ->ax->ax->ax->ax->ax->aQ->aQ->aQ->aQ->aQ->aQ->aQ->aQ->aQ->aQ->aA R
abbrev kK(R:Type):=aQ->ax->ax->ax->ax->ax->ax->ax->ax->aQ->aQ->aQ->aQ->aQ->aQ->aQ->aQ->aQ->aA R
abbrev fK(R:Type):=aU->ax->ax->aQ->aQ->aQ->aQ->ax->aQ->aQ->ax->dY R
abbrev jG(R:Type):=aU->ax->ax->aQ->aQ->aQ->aQ->ax->aQ->aQ->ax->aQ->aQ->aQ->ax->aq->ax->ax->B6 R
abbrev gY(R:Type):=ax->ax->ax->aQ->aQ->aQ->aQ->ax->aQ->aQ->jh R
abbrev iM(R:Type):=ax->aq->gY R
abbrev g9(R:Type):=ax->ax->ax->ax->aQ->ax->ax->aQ->aQ->aQ->aQ->aQ->aQ->aQ->aQ->aQ->ax->ax->ax->ax->ax->aq->ax->ax->ax->ox R
abbrev gA(R:Type):=aq->aU->ax->ax->aQ->aQ->aQ->aQ->ax->aQ->aQ->ax->ax->ax->jB R

namespace U8
def b(kr:aU->aA R)(a:aQ):aA R:=kr (decide ((a.length:ax)>1048576))
def v(a0:aQ):aU:=(decide ((a0.length:ax)>1048576))
theorem eh(kr:aU->aA R)(a0:aQ):b kr a0=kr (v a0):=by first|rfl|(unfold b v;simp only[cz];(repeat' split)<;>rfl)
end U8

namespace Q3
def r3(N:aE)(g k0:Aj R)(a:aQ)(d e:ax):aA R:=bif decide (e<(a.length:ax))then bif decide (e<4000)then bif decide (0<=e)&&decide (e<(a.length:ax))then g a (bG (↑(dW (ju (cf 64 (bG (bG (bG (d*131)+bG (bE (ar a e.toNat 0)))+7))) (cf 64 1073741823))):ax)) (bG (e+1))else aj else k0 a d e else k0 a d e
def l3(N:aE)(k0:Aj R):aE->Aj R
 |0=>λ_ _ _=>aj
 |n+1=>r3 N (l3 N k0 n) k0
def b(N:aE)(kr:Aj R)(a:aQ):aA R:=l3 N (λd e _=>kr d 0 e) N a (bG (34901+(a.length:ax))) 0
def vo:=b Lib.cJ λr0 r1 r2=>ah (r0,r1,r2)
def c:=λa=>(vo a).isSome
def v:=λa=>(vo a).getD ([],0,0)
theorem out{x}:∀a,vo a=ah x->c a=ai/\v a=x:=λ_=>Lib.c5
end Q3

namespace G_
def r3(N:aE)(g:lE R)(g1:iZ R)(k0:lE R)(k1:iZ R)(a d e:ax):aA R:=bif decide (a<3)then g1 (bG (a+1)) d e ([]++aD (aP [Ck.l 3] 1) 0 [CV.l 3 (aP [Ck.i ao] (aZ 16))])else k0 a d e
def zZ(N:aE)(g:lE R)(g1:iZ R)(k0:lE R)(k1:iZ R)(a d e:ax)(f:aQ):aA R:=bif decide (a<3)then bif cw (f.length+(aD (aP [Ck.l 3] 1) 0 [CV.l 3 (aP [Ck.i ao] (aZ 16))]).length) 24 then g1 (bG (a+1)) d e (f++aD (aP [Ck.l 3] 1) 0 [CV.l 3 (aP [Ck.i ao] (aZ 16))])else aj else k1 a d e f
def sR(N:aE)(k0:lE R)(k1:iZ R):aE->iZ R
 |0=>λ_ _ _ _=>aj
 |n+1=>zZ N (λx0 x1 x2=>aj) (sR N k0 k1 n) k0 k1
def l3(N:aE)(k0:lE R)(k1:iZ R):aE->lE R
 |0=>λ_ _ _=>aj
 |n+1=>r3 N (l3 N k0 k1 n) (sR N k0 k1 n) k0 k1
def b(N:aE)(kr:sK R):aA R:=l3 N (λ_ _ a=>kr [] a) (λ_ _ a d=>kr d a) N 0 0 0
def vo:=b Lib.cJ λr0 r1=>ah (r0,r1)
def c:=vo.isSome
def v:=vo.getD ([],0)
end G_

namespace XE
def b(kr:td R):aA R:=kr [] [] ([]++aD (aP [Ck.l 3] 1) 0 [CV.l 3 (aP [Ck.i ao] (aZ 16))]++aD (aP [Ck.l 3] 1) 0 [CV.l 3 (aP [Ck.i ao] (aZ 16))]++aD (aP [Ck.l 3] 1) 0 [CV.l 3 (aP [Ck.i ao] (aZ 16))]) 0
def v:aQ×aQ×aQ×ax:=([],[],[]++aD (aP [Ck.l 3] 1) 0 [CV.l 3 (aP [Ck.i ao] (aZ 16))]++aD (aP [Ck.l 3] 1) 0 [CV.l 3 (aP [Ck.i ao] (aZ 16))]++aD (aP [Ck.l 3] 1) 0 [CV.l 3 (aP [Ck.i ao] (aZ 16))],0)
theorem eh(kr:td R):b kr=kr v.1 v.2.1 v.2.2.1 v.2.2.2:=by first|rfl|(unfold b v;simp only[cz];(repeat' split)<;>rfl)
end XE

namespace U57
def b(kr:dY R):aA R:=kr 1 [] [] [] ([]++aD (aP [Ck.l 3] 1) 0 [CV.l 3 (aP [Ck.i ao] (aZ 16))]++aD (aP [Ck.l 3] 1) 0 [CV.l 3 (aP [Ck.i ao] (aZ 16))]++aD (aP [Ck.l 3] 1) 0 [CV.l 3 (aP [Ck.i ao] (aZ 16))]) 0 [] [] 0
def v:ax×aQ×aQ×aQ×aQ×ax×aQ×aQ×ax:=(1,[],[],[],[]++aD (aP [Ck.l 3] 1) 0 [CV.l 3 (aP [Ck.i ao] (aZ 16))]++aD (aP [Ck.l 3] 1) 0 [CV.l 3 (aP [Ck.i ao] (aZ 16))]++aD (aP [Ck.l 3] 1) 0 [CV.l 3 (aP [Ck.i ao] (aZ 16))],0,[],[],0)
theorem eh(kr:dY R):b kr=kr v.1 v.2.1 v.2.2.1 v.2.2.2.1 v.2.2.2.2.1 v.2.2.2.2.2.1 v.2.2.2.2.2.2.1 v.2.2.2.2.2.2.2.1 v.2.2.2.2.2.2.2.2:=by first|rfl|(unfold b v;simp only[cz];(repeat' split)<;>rfl)
end U57

namespace dr
def b(kr:Gj R)(a:aQ)(d e:ax):aA R:=bif decide (d<(a.length:ax))then bif decide (0<=d)&&decide (d<(a.length:ax))then kr (bG (↑(dW (ju (cf 64 (bG (bG (↑(dW (ju (cf 64 (bG (↑(dW (mq (cf 64 (lF (bG (bG (e*6364136223846793005)+1442695040888963407)) (g_ 2 (if aZ 33<=64 then aZ 33 else 64)))) (cf 64 (lF (bG (bG (e*6364136223846793005)+1442695040888963407)) (g_ 2 (if aZ 45<=64 then aZ 45 else 64)))))):ax))) (cf 64 255))):ax)+bG (bE (ar a d.toNat 0))))) (cf 64 255))):ax)) a (bG (d+1)) (bG (bG (e*6364136223846793005)+1442695040888963407))else aj else kr (bG (↑(dW (ju (cf 64 (bG (↑(dW (mq (cf 64 (lF (bG (bG (e*6364136223846793005)+1442695040888963407)) (g_ 2 (if aZ 33<=64 then aZ 33 else 64)))) (cf 64 (lF (bG (bG (e*6364136223846793005)+1442695040888963407)) (g_ 2 (if aZ 45<=64 then aZ 45 else 64)))))):ax))) (cf 64 255))):ax)) a d (bG (bG (e*6364136223846793005)+1442695040888963407))
def vo:=b λr0 r1 r2 r3=>ah (r0,r1,r2,r3)
def c:=λa d e=>(vo a d e).isSome
def v:=λa d e=>(vo a d e).getD (0,[],0,0)
theorem out{x}:∀a d e,vo a d e=ah x->c a d e=ai/\v a d e=x:=λ_ _ _=>Lib.c5
end dr

namespace n9
def b(kr:Gj R)(a:aQ)(d e f:ax):aA R:=bif decide (f<=0)then kr 0 a d e else bif decide (f<=256)then bif dr.c a d e then bif !decide (f=0)then kr (cF (dr.v a d e).1 f) (dr.v a d e).2.1 (dr.v a d e).2.2.1 (dr.v a d e).2.2.2 else aj else aj else bif dr.c a d e then bif dr.c (dr.v a d e).2.1 (dr.v a d e).2.2.1 (dr.v a d e).2.2.2 then bif dr.c (dr.v (dr.v a d e).2.1 (dr.v a d e).2.2.1 (dr.v a d e).2.2.2).2.1 (dr.v (dr.v a d e).2.1 (dr.v a d e).2.2.1 (dr.v a d e).2.2.2).2.2.1 (dr.v (dr.v a d e).2.1 (dr.v a d e).2.2.1 (dr.v a d e).2.2.2).2.2.2 then bif dr.c (dr.v (dr.v (dr.v a d e).2.1 (dr.v a d e).2.2.1 (dr.v a d e).2.2.2).2.1 (dr.v (dr.v a d e).2.1 (dr.v a d e).2.2.1 (dr.v a d e).2.2.2).2.2.1 (dr.v (dr.v a d e).2.1 (dr.v a d e).2.2.1 (dr.v a d e).2.2.2).2.2.2).2.1 (dr.v (dr.v (dr.v a d e).2.1 (dr.v a d e).2.2.1 (dr.v a d e).2.2.2).2.1 (dr.v (dr.v a d e).2.1 (dr.v a d e).2.2.1 (dr.v a d e).2.2.2).2.2.1 (dr.v (dr.v a d e).2.1 (dr.v a d e).2.2.1 (dr.v a d e).2.2.2).2.2.2).2.2.1 (dr.v (dr.v (dr.v a d e).2.1 (dr.v a d e).2.2.1 (dr.v a d e).2.2.2).2.1 (dr.v (dr.v a d e).2.1 (dr.v a d e).2.2.1 (dr.v a d e).2.2.2).2.2.1 (dr.v (dr.v a d e).2.1 (dr.v a d e).2.2.1 (dr.v a d e).2.2.2).2.2.2).2.2.2 then bif !decide (f=0)then kr (cF (bG (bG (bG (bG ((dr.v a d e).1*16777216)+bG ((dr.v (dr.v a d e).2.1 (dr.v a d e).2.2.1 (dr.v a d e).2.2.2).1*65536))+bG ((dr.v (dr.v (dr.v a d e).2.1 (dr.v a d e).2.2.1 (dr.v a d e).2.2.2).2.1 (dr.v (dr.v a d e).2.1 (dr.v a d e).2.2.1 (dr.v a d e).2.2.2).2.2.1 (dr.v (dr.v a d e).2.1 (dr.v a d e).2.2.1 (dr.v a d e).2.2.2).2.2.2).1*256))+(dr.v (dr.v (dr.v (dr.v a d e).2.1 (dr.v a d e).2.2.1 (dr.v a d e).2.2.2).2.1 (dr.v (dr.v a d e).2.1 (dr.v a d e).2.2.1 (dr.v a d e).2.2.2).2.2.1 (dr.v (dr.v a d e).2.1 (dr.v a d e).2.2.1 (dr.v a d e).2.2.2).2.2.2).2.1 (dr.v (dr.v (dr.v a d e).2.1 (dr.v a d e).2.2.1 (dr.v a d e).2.2.2).2.1 (dr.v (dr.v a d e).2.1 (dr.v a d e).2.2.1 (dr.v a d e).2.2.2).2.2.1 (dr.v (dr.v a d e).2.1 (dr.v a d e).2.2.1 (dr.v a d e).2.2.2).2.2.2).2.2.1 (dr.v (dr.v (dr.v a d e).2.1 (dr.v a d e).2.2.1 (dr.v a d e).2.2.2).2.1 (dr.v (dr.v a d e).2.1 (dr.v a d e).2.2.1 (dr.v a d e).2.2.2).2.2.1 (dr.v (dr.v a d e).2.1 (dr.v a d e).2.2.1 (dr.v a d e).2.2.2).2.2.2).2.2.2).1)) f) (dr.v (dr.v (dr.v (dr.v a d e).2.1 (dr.v a d e).2.2.1 (dr.v a d e).2.2.2).2.1 (dr.v (dr.v a d e).2.1 (dr.v a d e).2.2.1 (dr.v a d e).2.2.2).2.2.1 (dr.v (dr.v a d e).2.1 (dr.v a d e).2.2.1 (dr.v a d e).2.2.2).2.2.2).2.1 (dr.v (dr.v (dr.v a d e).2.1 (dr.v a d e).2.2.1 (dr.v a d e).2.2.2).2.1 (dr.v (dr.v a d e).2.1 (dr.v a d e).2.2.1 (dr.v a d e).2.2.2).2.2.1 (dr.v (dr.v a d e).2.1 (dr.v a d e).2.2.1 (dr.v a d e).2.2.2).2.2.2).2.2.1 (dr.v (dr.v (dr.v a d e).2.1 (dr.v a d e).2.2.1 (dr.v a d e).2.2.2).2.1 (dr.v (dr.v a d e).2.1 (dr.v a d e).2.2.1 (dr.v a d e).2.2.2).2.2.1 (dr.v (dr.v a d e).2.1 (dr.v a d e).2.2.1 (dr.v a d e).2.2.2).2.2.2).2.2.2).2.1 (dr.v (dr.v (dr.v (dr.v a d e).2.1 (dr.v a d e).2.2.1 (dr.v a d e).2.2.2).2.1 (dr.v (dr.v a d e).2.1 (dr.v a d e).2.2.1 (dr.v a d e).2.2.2).2.2.1 (dr.v (dr.v a d e).2.1 (dr.v a d e).2.2.1 (dr.v a d e).2.2.2).2.2.2).2.1 (dr.v (dr.v (dr.v a d e).2.1 (dr.v a d e).2.2.1 (dr.v a d e).2.2.2).2.1 (dr.v (dr.v a d e).2.1 (dr.v a d e).2.2.1 (dr.v a d e).2.2.2).2.2.1 (dr.v (dr.v a d e).2.1 (dr.v a d e).2.2.1 (dr.v a d e).2.2.2).2.2.2).2.2.1 (dr.v (dr.v (dr.v a d e).2.1 (dr.v a d e).2.2.1 (dr.v a d e).2.2.2).2.1 (dr.v (dr.v a d e).2.1 (dr.v a d e).2.2.1 (dr.v a d e).2.2.2).2.2.1 (dr.v (dr.v a d e).2.1 (dr.v a d e).2.2.1 (dr.v a d e).2.2.2).2.2.2).2.2.2).2.2.1 (dr.v (dr.v (dr.v (dr.v a d e).2.1 (dr.v a d e).2.2.1 (dr.v a d e).2.2.2).2.1 (dr.v (dr.v a d e).2.1 (dr.v a d e).2.2.1 (dr.v a d e).2.2.2).2.2.1 (dr.v (dr.v a d e).2.1 (dr.v a d e).2.2.1 (dr.v a d e).2.2.2).2.2.2).2.1 (dr.v (dr.v (dr.v a d e).2.1 (dr.v a d e).2.2.1 (dr.v a d e).2.2.2).2.1 (dr.v (dr.v a d e).2.1 (dr.v a d e).2.2.1 (dr.v a d e).2.2.2).2.2.1 (dr.v (dr.v a d e).2.1 (dr.v a d e).2.2.1 (dr.v a d e).2.2.2).2.2.2).2.2.1 (dr.v (dr.v (dr.v a d e).2.1 (dr.v a d e).2.2.1 (dr.v a d e).2.2.2).2.1 (dr.v (dr.v a d e).2.1 (dr.v a d e).2.2.1 (dr.v a d e).2.2.2).2.2.1 (dr.v (dr.v a d e).2.1 (dr.v a d e).2.2.1 (dr.v a d e).2.2.2).2.2.2).2.2.2).2.2.2 else aj else aj else aj else aj else aj
def vo:=b λr0 r1 r2 r3=>ah (r0,r1,r2,r3)
def c:=λa d e f=>(vo a d e f).isSome
def v:=λa d e f=>(vo a d e f).getD (0,[],0,0)
theorem out{x}:∀a d e f,vo a d e f=ah x->c a d e f=ai/\v a d e f=x:=λ_ _ _ _=>Lib.c5
end n9

namespace Ap
def b(kr:ML R)(a:aQ)(d e:ax)(f:aQ):aA R:=bif n9.c a d e (f.length:ax)then bif decide (0<=(n9.v a d e (f.length:ax)).1)&&decide ((n9.v a d e (f.length:ax)).1<(f.length:ax))then kr (bE (ar f (n9.v a d e (f.length:ax)).1.toNat 0)) (n9.v a d e (f.length:ax)).2.1 (n9.v a d e (f.length:ax)).2.2.1 (n9.v a d e (f.length:ax)).2.2.2 f else aj else aj
def vo:=b λr0 r1 r2 r3 r4=>ah (r0,r1,r2,r3,r4)
def c:=λa d e f=>(vo a d e f).isSome
def v:=λa d e f=>(vo a d e f).getD (0,[],0,0,[])
theorem out{x}:∀a d e f,vo a d e f=ah x->c a d e f=ai/\v a d e f=x:=λ_ _ _ _=>Lib.c5
end Ap

namespace pO
def b(kr:MO R)(a:aQ)(d e:ax)(f:aQ):aA R:=bif n9.c a d e (f.length:ax)then bif decide (0<=(n9.v a d e (f.length:ax)).1)&&decide ((n9.v a d e (f.length:ax)).1<(f.length:ax))then kr (bz (ar f (n9.v a d e (f.length:ax)).1.toNat 0)) (n9.v a d e (f.length:ax)).2.1 (n9.v a d e (f.length:ax)).2.2.1 (n9.v a d e (f.length:ax)).2.2.2 f else aj else aj
def vo:=b λr0 r1 r2 r3 r4=>ah (r0,r1,r2,r3,r4)
def c:=λa d e f=>(vo a d e f).isSome
def v:=λa d e f=>(vo a d e f).getD (⟨#[]⟩,[],0,0,[])
theorem out{x}:∀a d e f,vo a d e f=ah x->c a d e f=ai/\v a d e f=x:=λ_ _ _ _=>Lib.c5
end pO

namespace u_
def b(kr:aeZ R)(a:aQ)(d e:ax):aA R:=bif pO.c a d e (aD (aD (aD (aD (aD (aD (aD (aD (aP [.s] 8) 0 [.s {data:= #[ay 47,ay 97]}]) 1 [.s {data:= #[ay 47,ay 98]}]) 2 [.s {data:= #[ay 47,ay 99]}]) 3 [.s {data:= #[ay 47,ay 100]}]) 4 [.s {data:= #[ay 47,ay 101]}]) 5 [.s {data:= #[ay 47,ay 102]}]) 6 [.s {data:= #[ay 47,ay 103]}]) 7 [.s {data:= #[ay 47,ay 104]}])then kr (pO.v a d e (aD (aD (aD (aD (aD (aD (aD (aD (aP [.s] 8) 0 [.s {data:= #[ay 47,ay 97]}]) 1 [.s {data:= #[ay 47,ay 98]}]) 2 [.s {data:= #[ay 47,ay 99]}]) 3 [.s {data:= #[ay 47,ay 100]}]) 4 [.s {data:= #[ay 47,ay 101]}]) 5 [.s {data:= #[ay 47,ay 102]}]) 6 [.s {data:= #[ay 47,ay 103]}]) 7 [.s {data:= #[ay 47,ay 104]}])).1 (pO.v a d e (aD (aD (aD (aD (aD (aD (aD (aD (aP [.s] 8) 0 [.s {data:= #[ay 47,ay 97]}]) 1 [.s {data:= #[ay 47,ay 98]}]) 2 [.s {data:= #[ay 47,ay 99]}]) 3 [.s {data:= #[ay 47,ay 100]}]) 4 [.s {data:= #[ay 47,ay 101]}]) 5 [.s {data:= #[ay 47,ay 102]}]) 6 [.s {data:= #[ay 47,ay 103]}]) 7 [.s {data:= #[ay 47,ay 104]}])).2.1 (pO.v a d e (aD (aD (aD (aD (aD (aD (aD (aD (aP [.s] 8) 0 [.s {data:= #[ay 47,ay 97]}]) 1 [.s {data:= #[ay 47,ay 98]}]) 2 [.s {data:= #[ay 47,ay 99]}]) 3 [.s {data:= #[ay 47,ay 100]}]) 4 [.s {data:= #[ay 47,ay 101]}]) 5 [.s {data:= #[ay 47,ay 102]}]) 6 [.s {data:= #[ay 47,ay 103]}]) 7 [.s {data:= #[ay 47,ay 104]}])).2.2.1 (pO.v a d e (aD (aD (aD (aD (aD (aD (aD (aD (aP [.s] 8) 0 [.s {data:= #[ay 47,ay 97]}]) 1 [.s {data:= #[ay 47,ay 98]}]) 2 [.s {data:= #[ay 47,ay 99]}]) 3 [.s {data:= #[ay 47,ay 100]}]) 4 [.s {data:= #[ay 47,ay 101]}]) 5 [.s {data:= #[ay 47,ay 102]}]) 6 [.s {data:= #[ay 47,ay 103]}]) 7 [.s {data:= #[ay 47,ay 104]}])).2.2.2.1 else aj
def vo:=b λr0 r1 r2 r3=>ah (r0,r1,r2,r3)
def c:=λa d e=>(vo a d e).isSome
def v:=λa d e=>(vo a d e).getD (⟨#[]⟩,[],0,0)
theorem out{x}:∀a d e,vo a d e=ah x->c a d e=ai/\v a d e=x:=λ_ _ _=>Lib.c5
end u_

namespace Iz
def b(kr:aeY R)(a:aQ)(d e f:ax):aA R:=bif n9.c a d e f then kr (decide ((n9.v a d e f).1=0)) (n9.v a d e f).2.1 (n9.v a d e f).2.2.1 (n9.v a d e f).2.2.2 else aj
def vo:=b λr0 r1 r2 r3=>ah (r0,r1,r2,r3)
def c:=λa d e f=>(vo a d e f).isSome
def v:=λa d e f=>(vo a d e f).getD (ak,[],0,0)
theorem out{x}:∀a d e f,vo a d e f=ah x->c a d e f=ai/\v a d e f=x:=λ_ _ _ _=>Lib.c5
end Iz

namespace K8
def r4(N:aE)(g k0:g9 R)(a d e f:ax)(h:aQ)(i j:ax)(l m o p q r s t u:aQ)(w y z α xa:ax)(xb:aq)(xc xd xe:ax)(xf:aq)(xg:ax)(xh:aQ):aA R:=bif decide (f<(q.length:ax))then bif decide (0<=f)&&decide (f<(q.length:ax))then bif decide (bE (ar q f.toNat 2)=1)then bif cw (xh.length+(aD (aP [Ck.i ao] 1) 0 [.i .i64 f]).length) 8 then g a d e (bG (f+1)) h i j l m o p q r s t u w y z α xa xb xc xd xe xf xg (xh++aD (aP [Ck.i ao] 1) 0 [.i .i64 f])else aj else g a d e (bG (f+1)) h i j l m o p q r s t u w y z α xa xb xc xd xe xf xg xh else aj else k0 a d e f h i j l m o p q r s t u w y z α xa xb xc xd xe xf xg xh
def l4(N:aE)(k0:g9 R):aE->g9 R
 |0=>λ_ _ _ _ _ _ _ _ _ _ _ _ _ _ _ _ _ _ _ _ _ _ _ _ _ _ _ _=>aj
 |n+1=>r4 N (l4 N k0 n) k0
abbrev h0{R:Type}(kr:iI R)(w:aQ)(y z:ax)(α xa xb xc xd xe xf xg xh:aQ)(xi:ax)(xk:aq)(xl:ax)(xm:aQ):aA R:=bif n9.c w y z 3 then Lib.lt (n9.v w y z 3) λxn=>bif decide ((xm.length:ax)>0)then bif Iz.c xn.2.1 xn.2.2.1 xn.2.2.2 6 then Lib.lt (Iz.v xn.2.1 xn.2.2.1 xn.2.2.2 6) λxo=>bif !xo.1 then bif n9.c xo.2.1 xo.2.2.1 xo.2.2.2 (xm.length:ax)then Lib.lt (n9.v xo.2.1 xo.2.2.1 xo.2.2.2 (xm.length:ax)) λxp=>bif decide (0<=xp.1)&&decide (xp.1<(xm.length:ax))then bif decide (xi=2)then bif pO.c xp.2.1 xp.2.2.1 xp.2.2.2 (aD (aD (aD (aD (aP [.s] 4) 0 [.s {data:= #[ay 120]}]) 1 [.s {data:= #[ay 104,ay 101,ay 108,ay 108,ay 111]}]) 2 [.s {data:= #[ay 109,ay 111,ay 114,ay 101,ay 32]}]) 3 [.s {data:= #[ay 48,ay 49,ay 50,ay 51,ay 52,ay 53,ay 54,ay 55,ay 56,ay 57]}])then Lib.lt (pO.v xp.2.1 xp.2.2.1 xp.2.2.2 (aD (aD (aD (aD (aP [.s] 4) 0 [.s {data:= #[ay 120]}]) 1 [.s {data:= #[ay 104,ay 101,ay 108,ay 108,ay 111]}]) 2 [.s {data:= #[ay 109,ay 111,ay 114,ay 101,ay 32]}]) 3 [.s {data:= #[ay 48,ay 49,ay 50,ay 51,ay 52,ay 53,ay 54,ay 55,ay 56,ay 57]}])) λxq=>bif decide (xi=3)then bif Ap.c xq.2.1 xq.2.2.1 xq.2.2.2.1 (aD (aD (aD (aD (aD (aP [Ck.i ao] 5) 0 [.i .i64 0]) 1 [.i .i64 3]) 2 [.i .i64 20]) 3 [.i .i64 60]) 4 [.i .i64 60])then Lib.lt (Ap.v xq.2.1 xq.2.2.1 xq.2.2.2.1 (aD (aD (aD (aD (aD (aP [Ck.i ao] 5) 0 [.i .i64 0]) 1 [.i .i64 3]) 2 [.i .i64 20]) 3 [.i .i64 60]) 4 [.i .i64 60])) λxr=>kr xi (bE (ar xm xp.1.toNat 0)) xq.1 xr.1 [] xr.2.1 xr.2.2.1 xr.2.2.2.1 α xa xb xc xd xe xf xg xh else aj else kr xi (bE (ar xm xp.1.toNat 0)) xq.1 xl [] xq.2.1 xq.2.2.1 xq.2.2.2.1 α xa xb xc xd xe xf xg xh else aj else bif decide (xi=3)then bif Ap.c xp.2.1 xp.2.2.1 xp.2.2.2 (aD (aD (aD (aD (aD (aP [Ck.i ao] 5) 0 [.i .i64 0]) 1 [.i .i64 3]) 2 [.i .i64 20]) 3 [.i .i64 60]) 4 [.i .i64 60])then Lib.lt (Ap.v xp.2.1 xp.2.2.1 xp.2.2.2 (aD (aD (aD (aD (aD (aP [Ck.i ao] 5) 0 [.i .i64 0]) 1 [.i .i64 3]) 2 [.i .i64 20]) 3 [.i .i64 60]) 4 [.i .i64 60])) λxq=>kr xi (bE (ar xm xp.1.toNat 0)) xk xq.1 [] xq.2.1 xq.2.2.1 xq.2.2.2.1 α xa xb xc xd xe xf xg xh else aj else kr xi (bE (ar xm xp.1.toNat 0)) xk xl [] xp.2.1 xp.2.2.1 xp.2.2.2 α xa xb xc xd xe xf xg xh else aj else aj else bif decide (xi=2)then bif pO.c xo.2.1 xo.2.2.1 xo.2.2.2 (aD (aD (aD (aD (aP [.s] 4) 0 [.s {data:= #[ay 120]}]) 1 [.s {data:= #[ay 104,ay 101,ay 108,ay 108,ay 111]}]) 2 [.s {data:= #[ay 109,ay 111,ay 114,ay 101,ay 32]}]) 3 [.s {data:= #[ay 48,ay 49,ay 50,ay 51,ay 52,ay 53,ay 54,ay 55,ay 56,ay 57]}])then Lib.lt (pO.v xo.2.1 xo.2.2.1 xo.2.2.2 (aD (aD (aD (aD (aP [.s] 4) 0 [.s {data:= #[ay 120]}]) 1 [.s {data:= #[ay 104,ay 101,ay 108,ay 108,ay 111]}]) 2 [.s {data:= #[ay 109,ay 111,ay 114,ay 101,ay 32]}]) 3 [.s {data:= #[ay 48,ay 49,ay 50,ay 51,ay 52,ay 53,ay 54,ay 55,ay 56,ay 57]}])) λxp=>bif decide (xi=3)then bif Ap.c xp.2.1 xp.2.2.1 xp.2.2.2.1 (aD (aD (aD (aD (aD (aP [Ck.i ao] 5) 0 [.i .i64 0]) 1 [.i .i64 3]) 2 [.i .i64 20]) 3 [.i .i64 60]) 4 [.i .i64 60])then Lib.lt (Ap.v xp.2.1 xp.2.2.1 xp.2.2.2.1 (aD (aD (aD (aD (aD (aP [Ck.i ao] 5) 0 [.i .i64 0]) 1 [.i .i64 3]) 2 [.i .i64 20]) 3 [.i .i64 60]) 4 [.i .i64 60])) λxq=>kr xi xn.1 xp.1 xq.1 [] xq.2.1 xq.2.2.1 xq.2.2.2.1 α xa xb xc xd xe xf xg xh else aj else kr xi xn.1 xp.1 xl [] xp.2.1 xp.2.2.1 xp.2.2.2.1 α xa xb xc xd xe xf xg xh else aj else bif decide (xi=3)then bif Ap.c xo.2.1 xo.2.2.1 xo.2.2.2 (aD (aD (aD (aD (aD (aP [Ck.i ao] 5) 0 [.i .i64 0]) 1 [.i .i64 3]) 2 [.i .i64 20]) 3 [.i .i64 60]) 4 [.i .i64 60])then Lib.lt (Ap.v xo.2.1 xo.2.2.1 xo.2.2.2 (aD (aD (aD (aD (aD (aP [Ck.i ao] 5) 0 [.i .i64 0]) 1 [.i .i64 3]) 2 [.i .i64 20]) 3 [.i .i64 60]) 4 [.i .i64 60])) λxp=>kr xi xn.1 xk xp.1 [] xp.2.1 xp.2.2.1 xp.2.2.2.1 α xa xb xc xd xe xf xg xh else aj else kr xi xn.1 xk xl [] xo.2.1 xo.2.2.1 xo.2.2.2 α xa xb xc xd xe xf xg xh else aj else bif decide (xi=2)then bif pO.c xn.2.1 xn.2.2.1 xn.2.2.2 (aD (aD (aD (aD (aP [.s] 4) 0 [.s {data:= #[ay 120]}]) 1 [.s {data:= #[ay 104,ay 101,ay 108,ay 108,ay 111]}]) 2 [.s {data:= #[ay 109,ay 111,ay 114,ay 101,ay 32]}]) 3 [.s {data:= #[ay 48,ay 49,ay 50,ay 51,ay 52,ay 53,ay 54,ay 55,ay 56,ay 57]}])then Lib.lt (pO.v xn.2.1 xn.2.2.1 xn.2.2.2 (aD (aD (aD (aD (aP [.s] 4) 0 [.s {data:= #[ay 120]}]) 1 [.s {data:= #[ay 104,ay 101,ay 108,ay 108,ay 111]}]) 2 [.s {data:= #[ay 109,ay 111,ay 114,ay 101,ay 32]}]) 3 [.s {data:= #[ay 48,ay 49,ay 50,ay 51,ay 52,ay 53,ay 54,ay 55,ay 56,ay 57]}])) λxo=>bif decide (xi=3)then bif Ap.c xo.2.1 xo.2.2.1 xo.2.2.2.1 (aD (aD (aD (aD (aD (aP [Ck.i ao] 5) 0 [.i .i64 0]) 1 [.i .i64 3]) 2 [.i .i64 20]) 3 [.i .i64 60]) 4 [.i .i64 60])then Lib.lt (Ap.v xo.2.1 xo.2.2.1 xo.2.2.2.1 (aD (aD (aD (aD (aD (aP [Ck.i ao] 5) 0 [.i .i64 0]) 1 [.i .i64 3]) 2 [.i .i64 20]) 3 [.i .i64 60]) 4 [.i .i64 60])) λxp=>kr xi xn.1 xo.1 xp.1 [] xp.2.1 xp.2.2.1 xp.2.2.2.1 α xa xb xc xd xe xf xg xh else aj else kr xi xn.1 xo.1 xl [] xo.2.1 xo.2.2.1 xo.2.2.2.1 α xa xb xc xd xe xf xg xh else aj else bif decide (xi=3)then bif Ap.c xn.2.1 xn.2.2.1 xn.2.2.2 (aD (aD (aD (aD (aD (aP [Ck.i ao] 5) 0 [.i .i64 0]) 1 [.i .i64 3]) 2 [.i .i64 20]) 3 [.i .i64 60]) 4 [.i .i64 60])then Lib.lt (Ap.v xn.2.1 xn.2.2.1 xn.2.2.2 (aD (aD (aD (aD (aD (aP [Ck.i ao] 5) 0 [.i .i64 0]) 1 [.i .i64 3]) 2 [.i .i64 20]) 3 [.i .i64 60]) 4 [.i .i64 60])) λxo=>kr xi xn.1 xk xo.1 [] xo.2.1 xo.2.2.1 xo.2.2.2.1 α xa xb xc xd xe xf xg xh else aj else kr xi xn.1 xk xl [] xn.2.1 xn.2.2.1 xn.2.2.2 α xa xb xc xd xe xf xg xh else aj
abbrev h1{R:Type}(kr:iI R)(w:aQ)(y z:ax)(α xa xb xc xd xe xf xg xh:aQ)(xi xj:ax)(xk:aq)(xl:ax):aA R:=bif decide (xi=5)then bif Ap.c w y z (aD (aD (aD (aD (aP [Ck.i ao] 4) 0 [.i .i64 1]) 1 [.i .i64 2]) 2 [.i .i64 5]) 3 [.i .i64 30])then Lib.lt (Ap.v w y z (aD (aD (aD (aD (aP [Ck.i ao] 4) 0 [.i .i64 1]) 1 [.i .i64 2]) 2 [.i .i64 5]) 3 [.i .i64 30])) λxn=>kr xi xj xk xn.1 [] xn.2.1 xn.2.2.1 xn.2.2.2.1 α xa xb xc xd xe xf xg xh else aj else bif decide (xi=6)then bif n9.c w y z 9 then Lib.lt (n9.v w y z 9) λxn=>bif decide ((xe.length:ax)>0)then bif Iz.c xn.2.1 xn.2.2.1 xn.2.2.2 4 then Lib.lt (Iz.v xn.2.1 xn.2.2.1 xn.2.2.2 4) λxo=>bif !xo.1 then bif n9.c xo.2.1 xo.2.2.1 xo.2.2.2 (xe.length:ax)then Lib.lt (n9.v xo.2.1 xo.2.2.1 xo.2.2.2 (xe.length:ax)) λxp=>bif decide (0<=xp.1)&&decide (xp.1<(xe.length:ax))then kr xi (bE (ar xe xp.1.toNat 0)) xk xl [] xp.2.1 xp.2.2.1 xp.2.2.2 α xa xb xc xd xe xf xg xh else aj else aj else kr xi (bG (1+xn.1)) xk xl [] xo.2.1 xo.2.2.1 xo.2.2.2 α xa xb xc xd xe xf xg xh else aj else kr xi (bG (1+xn.1)) xk xl [] xn.2.1 xn.2.2.1 xn.2.2.2 α xa xb xc xd xe xf xg xh else aj else kr xi xj xk xl [] w y z α xa xb xc xd xe xf xg xh
abbrev h2{R:Type}(kr:iI R)(w:aQ)(y z:ax)(α xa xb xc xd xe xf xg xh:aQ)(xk:aq)(xl:ax):aA R:=bif n9.c w y z 9 then Lib.lt (n9.v w y z 9) λxn=>bif decide ((xe.length:ax)>0)then bif Iz.c xn.2.1 xn.2.2.1 xn.2.2.2 4 then Lib.lt (Iz.v xn.2.1 xn.2.2.1 xn.2.2.2 4) λxo=>bif !xo.1 then bif n9.c xo.2.1 xo.2.2.1 xo.2.2.2 (xe.length:ax)then Lib.lt (n9.v xo.2.1 xo.2.2.1 xo.2.2.2 (xe.length:ax)) λxp=>bif decide (0<=xp.1)&&decide (xp.1<(xe.length:ax))then kr 6 (bE (ar xe xp.1.toNat 0)) xk xl [] xp.2.1 xp.2.2.1 xp.2.2.2 α xa xb xc xd xe xf xg xh else aj else aj else kr 6 (bG (1+xn.1)) xk xl [] xo.2.1 xo.2.2.1 xo.2.2.2 α xa xb xc xd xe xf xg xh else aj else kr 6 (bG (1+xn.1)) xk xl [] xn.2.1 xn.2.2.1 xn.2.2.2 α xa xb xc xd xe xf xg xh else aj
abbrev h3{R:Type}(kr:iI R)(w:aQ)(y z:ax)(α xa xb xc xd xe xf xg xh:aQ)(xi xl:ax):aA R:=bif n9.c w y z 9 then Lib.lt (n9.v w y z 9) λxn=>bif u_.c xn.2.1 xn.2.2.1 xn.2.2.2 then Lib.lt (u_.v xn.2.1 xn.2.2.1 xn.2.2.2) λxo=>kr xi (bG (1+xn.1)) xo.1 xl [] xo.2.1 xo.2.2.1 xo.2.2.2 α xa xb xc xd xe xf xg xh else aj else aj
def b(N:aE)(kr:iI R)(a:aQ)(d e f:ax)(h i j l:aQ)(m:ax)(o p:aQ)(q:ax)(r s t:aQ):aA R:=bif Ap.c a d e (aD (aD (aD (aD (aD (aD (aD (aD (aD (aD (aD (aD (aD (aD (aP [Ck.i ao] 14) 0 [.i .i64 1]) 1 [.i .i64 1]) 2 [.i .i64 1]) 3 [.i .i64 1]) 4 [.i .i64 2]) 5 [.i .i64 2]) 6 [.i .i64 2]) 7 [.i .i64 3]) 8 [.i .i64 3]) 9 [.i .i64 3]) 10 [.i .i64 4]) 11 [.i .i64 5]) 12 [.i .i64 6]) 13 [.i .i64 6])then Lib.lt (Ap.v a d e (aD (aD (aD (aD (aD (aD (aD (aD (aD (aD (aD (aD (aD (aD (aP [Ck.i ao] 14) 0 [.i .i64 1]) 1 [.i .i64 1]) 2 [.i .i64 1]) 3 [.i .i64 1]) 4 [.i .i64 2]) 5 [.i .i64 2]) 6 [.i .i64 2]) 7 [.i .i64 3]) 8 [.i .i64 3]) 9 [.i .i64 3]) 10 [.i .i64 4]) 11 [.i .i64 5]) 12 [.i .i64 6]) 13 [.i .i64 6])) λu=>l4 N (λ_ _ _ _ w y z α xa xb xc xd xe xf xg xh _ _ _ _ _ _ _ xi xj xk xl xm=>bif decide ((xm.length:ax)=0)then bif decide (xi=2)then bif decide ((xe.length:ax)≥6)then h2 kr w y z α xa xb xc xd xe xf xg xh xk xl else bif n9.c w y z 9 then Lib.lt (n9.v w y z 9) λxn=>bif u_.c xn.2.1 xn.2.2.1 xn.2.2.2 then Lib.lt (u_.v xn.2.1 xn.2.2.1 xn.2.2.2) λxo=>kr 1 (bG (1+xn.1)) xo.1 xl [] xo.2.1 xo.2.2.1 xo.2.2.2 α xa xb xc xd xe xf xg xh else aj else aj else bif decide (xi=3)then bif decide ((xe.length:ax)≥6)then h2 kr w y z α xa xb xc xd xe xf xg xh xk xl else bif n9.c w y z 9 then Lib.lt (n9.v w y z 9) λxn=>bif u_.c xn.2.1 xn.2.2.1 xn.2.2.2 then Lib.lt (u_.v xn.2.1 xn.2.2.1 xn.2.2.2) λxo=>kr 1 (bG (1+xn.1)) xo.1 xl [] xo.2.1 xo.2.2.1 xo.2.2.2 α xa xb xc xd xe xf xg xh else aj else aj else bif decide ((xe.length:ax)≥6)then bif decide (xi=1)then h2 kr w y z α xa xb xc xd xe xf xg xh xk xl else bif decide (xi=1)then h3 kr w y z α xa xb xc xd xe xf xg xh xi xl else bif decide (xi=2)then h0 kr w y z α xa xb xc xd xe xf xg xh xi xk xl xm else bif decide (xi=3)then h0 kr w y z α xa xb xc xd xe xf xg xh xi xk xl xm else bif decide (xi=4)then h0 kr w y z α xa xb xc xd xe xf xg xh xi xk xl xm else h1 kr w y z α xa xb xc xd xe xf xg xh xi xj xk xl else bif decide (xi=1)then h3 kr w y z α xa xb xc xd xe xf xg xh xi xl else bif decide (xi=2)then h0 kr w y z α xa xb xc xd xe xf xg xh xi xk xl xm else bif decide (xi=3)then h0 kr w y z α xa xb xc xd xe xf xg xh xi xk xl xm else bif decide (xi=4)then h0 kr w y z α xa xb xc xd xe xf xg xh xi xk xl xm else h1 kr w y z α xa xb xc xd xe xf xg xh xi xj xk xl else bif decide ((xe.length:ax)≥6)then bif decide (xi=1)then h2 kr w y z α xa xb xc xd xe xf xg xh xk xl else bif decide (xi=1)then h3 kr w y z α xa xb xc xd xe xf xg xh xi xl else bif decide (xi=2)then h0 kr w y z α xa xb xc xd xe xf xg xh xi xk xl xm else bif decide (xi=3)then h0 kr w y z α xa xb xc xd xe xf xg xh xi xk xl xm else bif decide (xi=4)then h0 kr w y z α xa xb xc xd xe xf xg xh xi xk xl xm else h1 kr w y z α xa xb xc xd xe xf xg xh xi xj xk xl else bif decide (xi=1)then h3 kr w y z α xa xb xc xd xe xf xg xh xi xl else bif decide (xi=2)then h0 kr w y z α xa xb xc xd xe xf xg xh xi xk xl xm else bif decide (xi=3)then h0 kr w y z α xa xb xc xd xe xf xg xh xi xk xl xm else bif decide (xi=4)then h0 kr w y z α xa xb xc xd xe xf xg xh xi xk xl xm else h1 kr w y z α xa xb xc xd xe xf xg xh xi xj xk xl) N f m q 0 u.2.1 u.2.2.1 u.2.2.2.1 h i j l o p r s t f m q 0 0 ⟨#[]⟩ 0 u.1 0 ⟨#[]⟩ 0 (aP [Ck.i ao] 0)else aj
def vo:=b Lib.cJ λr0 r1 r2 r3 r4 r5 r6 r7 r8 r9 AG wG Qq r13 r14 r15 r16=>ah (r0,r1,r2,r3,r4,r5,r6,r7,r8,r9,AG,wG,Qq,r13,r14,r15,r16)
def c:=λa d e f h i j l m o p q r s t=>(vo a d e f h i j l m o p q r s t).isSome
def v:=λa d e f h i j l m o p q r s t=>(vo a d e f h i j l m o p q r s t).getD (0,0,⟨#[]⟩,0,[],[],0,0,[],[],[],[],[],[],[],[],[])
theorem out{x}:∀a d e f h i j l m o p q r s t,vo a d e f h i j l m o p q r s t=ah x->c a d e f h i j l m o p q r s t=ai/\v a d e f h i j l m o p q r s t=x:=λ_ _ _ _ _ _ _ _ _ _ _ _ _ _ _=>Lib.c5
end K8

namespace oa
def r3(N:aE)(g:ru R)(g1:o8 R)(k0:ru R)(k1:o8 R)(a:ax)(d:aQ)(e f h:ax):aA R:=bif decide (a<(d.length:ax))then bif decide (0<=a)&&decide (a<(d.length:ax))then bif cw ((aP [Ck.i ao] 0).length+(iX (ar d a.toNat 0)).length) 8 then g1 (bG (a+1)) d e f h ([]++aD (aP [Ck.l 3] 1) 0 [CV.l 3 (aP [Ck.i ao] 0++iX (ar d a.toNat 0))])else aj else aj else k0 a d e f h
def zZ(N:aE)(g:ru R)(g1:o8 R)(k0:ru R)(k1:o8 R)(a:ax)(d:aQ)(e f h:ax)(i:aQ):aA R:=bif decide (a<(d.length:ax))then bif decide (0<=a)&&decide (a<(d.length:ax))then bif cw ((aP [Ck.i ao] 0).length+(iX (ar d a.toNat 0)).length) 8 then bif cw (i.length+(aD (aP [Ck.l 3] 1) 0 [CV.l 3 (aP [Ck.i ao] 0++iX (ar d a.toNat 0))]).length) 24 then g1 (bG (a+1)) d e f h (i++aD (aP [Ck.l 3] 1) 0 [CV.l 3 (aP [Ck.i ao] 0++iX (ar d a.toNat 0))])else aj else aj else aj else k1 a d e f h i
def sR(N:aE)(k0:ru R)(k1:o8 R):aE->o8 R
 |0=>λ_ _ _ _ _ _=>aj
 |n+1=>zZ N (λx0 x1 x2 x3 x4=>aj) (sR N k0 k1 n) k0 k1
def l3(N:aE)(k0:ru R)(k1:o8 R):aE->ru R
 |0=>λ_ _ _ _ _=>aj
 |n+1=>r3 N (l3 N k0 k1 n) (sR N k0 k1 n) k0 k1
def b(N:aE)(kr:sK R)(a:aQ)(d:ax):aA R:=l3 N (λ_ _ _ _ e=>kr [] e) (λ_ _ _ _ e f=>kr f e) N 0 a d 0 d
def vo:=b Lib.cJ λr0 r1=>ah (r0,r1)
def c:=λa d=>(vo a d).isSome
def v:=λa d=>(vo a d).getD ([],0)
theorem out{x}:∀a d,vo a d=ah x->c a d=ai/\v a d=x:=λ_ _=>Lib.c5
end oa

namespace gb
def b(kr:td R)(a d e:aQ)(f:ax):aA R:=bif cw ((aP [.s] 0).length+a.length) 16 then bif cw ((aP [.s] 0).length+d.length) 16 then bif oa.c e f then kr (aP [.s] 0++a) (aP [.s] 0++d) (oa.v e f).1 (oa.v e f).2 else aj else aj else aj
def vo:=b λr0 r1 r2 r3=>ah (r0,r1,r2,r3)
def c:=λa d e f=>(vo a d e f).isSome
def v:=λa d e f=>(vo a d e f).getD ([],[],[],0)
theorem out{x}:∀a d e f,vo a d e f=ah x->c a d e f=ai/\v a d e f=x:=λ_ _ _ _=>Lib.c5
end gb

namespace fI
def b(kr:dY R)(a:ax)(d e f h:aQ)(i:ax)(j l:aQ)(m:ax):aA R:=bif cw ((aP [Ck.s,Ck.i ao,Ck.i ao,Ck.s] 0).length+d.length) 48 then bif gb.c e f h i then bif cw ((aP [Ck.s,Ck.s,Ck.i ao,Ck.i ao,Ck.i ao] 0).length+j.length) 56 then bif cw ((aP [Ck.i ao,Ck.s,Ck.i ao,Ck.i ao,Ck.i ao,Ck.s,Ck.i ao] 0).length+l.length) 72 then kr a (aP [Ck.s,Ck.i ao,Ck.i ao,Ck.s] 0++d) (gb.v e f h i).1 (gb.v e f h i).2.1 (gb.v e f h i).2.2.1 (gb.v e f h i).2.2.2 (aP [Ck.s,Ck.s,Ck.i ao,Ck.i ao,Ck.i ao] 0++j) (aP [Ck.i ao,Ck.s,Ck.i ao,Ck.i ao,Ck.i ao,Ck.s,Ck.i ao] 0++l) m else aj else aj else aj else aj
def vo:=b λr0 r1 r2 r3 r4 r5 r6 r7 r8=>ah (r0,r1,r2,r3,r4,r5,r6,r7,r8)
def c:=λa d e f h i j l m=>(vo a d e f h i j l m).isSome
def v:=λa d e f h i j l m=>(vo a d e f h i j l m).getD (0,[],[],[],[],0,[],[],0)
theorem out{x}:∀a d e f h i j l m,vo a d e f h i j l m=ah x->c a d e f h i j l m=ai/\v a d e f h i j l m=x:=λ_ _ _ _ _ _ _ _ _=>Lib.c5
end fI

namespace ki
def b(kr:aU->aA R)(a d e:ax):aA R:=bif decide (a≥d)then kr (decide (a<=e))else kr ak
def v(a0 a1 a2:ax):aU:=bif decide (a0≥a1)then decide (a0<=a2)else ak
theorem eh(kr:aU->aA R)(a0 a1 a2:ax):b kr a0 a1 a2=kr (v a0 a1 a2):=by first|rfl|(unfold b v;simp only[cz];(repeat' split)<;>rfl)
end ki

namespace th
def b(kr:aU->aA R)(a:aq):aA R:=kr (ki.v (a.size:ax) 1 30)
def v(a0:aq):aU:=(ki.v (a0.size:ax) 1 30)
theorem eh(kr:aU->aA R)(a0:aq):b kr a0=kr (v a0):=by first|rfl|(unfold b v;simp only[cz];(repeat' split)<;>rfl)
end th

namespace m8
def b(kr:aU->aA R)(a:aq)(d e:ax)(f:aq):aA R:=bif th.v a then bif ki.v d 0 1000000000 then bif ki.v e 1 999999 then kr (decide ((f.size:ax)<=400))else kr ak else kr ak else kr ak
def v(a0:aq)(a1 a2:ax)(a3:aq):aU:=bif th.v a0 then bif ki.v a1 0 1000000000 then bif ki.v a2 1 999999 then decide ((a3.size:ax)<=400)else ak else ak else ak
theorem eh(kr:aU->aA R)(a0:aq)(a1 a2:ax)(a3:aq):b kr a0 a1 a2 a3=kr (v a0 a1 a2 a3):=by first|rfl|(unfold b v;simp only[cz];(repeat' split)<;>rfl)
theorem EC{k:aq}{s l:ax}{b:aq}(h:v k s l b=ai):(1<=k.size/\k.size<=30)/\(0<=s/\s<=1000000000)/\(1<=l/\l<=999999)/\b.size<=400:=by unfold v at h;cases h1:th.v k<;>rw[h1]at h<;>simp only[au,aw,dx]at h;cases h2:ki.v s 0 1000000000<;>rw[h2]at h<;>simp only[au,aw,dx]at h;cases h3:ki.v l 1 999999<;>rw[h3]at h<;>simp only[au,aw,dx]at h;simp[th.v,ki.v]at h1 h2 h3;have:=cq h;omega
end m8

namespace e9
def r2(N:aE)(g k0 k1:KT R)(a:aQ)(d:aq)(e:aU)(f:ax):aA R:=bif decide (f<(a.length:ax))then bif decide (0<=f)&&decide (f<(a.length:ax))then bif bW (bz (ar a f.toNat 0)).toList (aC d)then k0 a d ai f else g a d e (bG (f+1))else aj else k1 a d e f
def l2(N:aE)(k0 k1:KT R):aE->KT R
 |0=>λ_ _ _ _=>aj
 |n+1=>r2 N (l2 N k0 k1 n) k0 k1
def b(N:aE)(kr:aU->aA R)(a:aQ)(d:aq):aA R:=l2 N (λ_ _ e _=>kr e) (λ_ _ _ _=>kr ak) N a d ak 0
def vo:=b Lib.cJ λr0=>ah r0
def c:=λa d=>(vo a d).isSome
def v:=λa d=>(vo a d).getD ak
theorem out{x}:∀a d,vo a d=ah x->c a d=ai/\v a d=x:=λ_ _=>Lib.c5
end e9

namespace tl
def b(kr:aU->aA R)(a d e:aQ)(f:ax)(h:aq):aA R:=bif e9.c a h then bif e9.v a h then kr ai else bif e9.c d h then kr (e9.v d h)else aj else aj
def vo:=b λr0=>ah r0
def c:=λa d e f h=>(vo a d e f h).isSome
def v:=λa d e f h=>(vo a d e f h).getD ak
theorem out{x}:∀a d e f h,vo a d e f h=ah x->c a d e f h=ai/\v a d e f h=x:=λ_ _ _ _ _=>Lib.c5
end tl

namespace fB
def r9(N:aE)(g k0 k1:Gg R)(a:aU)(d e:ax)(f:aQ)(h:ax):aA R:=bif decide (0<=d)&&decide (d<(f.length:ax))then bif decide (e<((iX (ar f d.toNat 0)).length:ax))then bif decide (0<=d)&&decide (d<(f.length:ax))then bif decide (0<=e)&&decide (e<((iX (ar f d.toNat 0)).length:ax))then bif !ki.v (bE (ar (iX (ar f d.toNat 0)) e.toNat 0)) 0 15 then k0 ak d e f h else g a d (bG (e+1)) f h else aj else aj else k1 a d e f h else aj
def l9(N:aE)(k0 k1:Gg R):aE->Gg R
 |0=>λ_ _ _ _ _=>aj
 |n+1=>r9 N (l9 N k0 k1 n) k0 k1
def r4(N:aE)(g k0 k1:KQ R)(a:aU)(d:ax)(e:aQ)(f:ax):aA R:=bif decide (d<(e.length:ax))then bif decide (0<=d)&&decide (d<(e.length:ax))then bif((iX (ar e d.toNat 0)).length:ax) !=16 then k0 ak d e f else l9 N (λh i _ j l=>k0 h i j l) (λh i _ j l=>g h (bG (i+1)) j l) N a d 0 e f else aj else k1 a d e f
def l4(N:aE)(k0 k1:KQ R):aE->KQ R
 |0=>λ_ _ _ _=>aj
 |n+1=>r4 N (l4 N k0 k1 n) k0 k1
def b(N:aE)(kr:aU->aA R)(a:aQ)(d:ax):aA R:=bif(a.length:ax) !=3 then kr ak else bif !ki.v d 0 63 then kr ak else l4 N (λe _ _ _=>kr e) (λ_ _ _ _=>kr ai) N ak 0 a d
def vo:=b Lib.cJ λr0=>ah r0
def c:=λa d=>(vo a d).isSome
def v:=λa d=>(vo a d).getD ak
theorem out{x}:∀a d,vo a d=ah x->c a d=ai/\v a d=x:=λ_ _=>Lib.c5
end fB

namespace jz
def r3(N:aE)(g k0 k1:yQ R)(a:aU)(d:ax)(e f h:aQ)(i:ax)(j:aQ):aA R:=bif decide (d<(j.length:ax))then bif decide (0<=d)&&decide (d<(j.length:ax))then bif !th.v (bz (ar j d.toNat 0))then k0 ak d e f h i j else bif ic 0 d (j.length:ax)then bif decide (0<=d)&&decide (d<(j.length:ax))then bif e9.c (eW j (aZ 0) d.toNat) (bz (ar j d.toNat 0))then bif e9.v (eW j (aZ 0) d.toNat) (bz (ar j d.toNat 0))then k0 ak d e f h i j else g a (bG (d+1)) e f h i j else aj else aj else aj else aj else k1 a d e f h i j
def l3(N:aE)(k0 k1:yQ R):aE->yQ R
 |0=>λ_ _ _ _ _ _ _=>aj
 |n+1=>r3 N (l3 N k0 k1 n) k0 k1
def b(N:aE)(kr:aU->aA R)(a d e:aQ)(f:ax):aA R:=bif cw ((aP [.s] 0).length+a.length) 16 then bif cw ((aP [.s] 0++a).length+d.length) 16 then l3 N (λh _ _ _ _ _ _=>kr h) (λ_ _ h i j l _=>bif decide ((h.length:ax)<=2)then bif decide ((i.length:ax)<=4)then bif fB.c j l then kr (fB.v j l)else aj else kr ak else kr ak) N ak 0 a d e f (aP [.s] 0++a++d)else aj else aj
def vo:=b Lib.cJ λr0=>ah r0
def c:=λa d e f=>(vo a d e f).isSome
def v:=λa d e f=>(vo a d e f).getD ak
theorem out{x}:∀a d e f,vo a d e f=ah x->c a d e f=ai/\v a d e f=x:=λ_ _ _ _=>Lib.c5
end jz

namespace nU
def r2(N:aE)(g k0 k1:fF R)(a:aU)(d e:ax)(f h i j:aQ)(l:ax)(m o:aQ)(p:ax):aA R:=bif decide (d<(f.length:ax))then bif decide (0<=d)&&decide (d<(f.length:ax))then bif !m8.v (bz (ar f d.toNat 0)) (bE (ar f d.toNat 1)) (bE (ar f d.toNat (1+1))) (bz (ar f d.toNat (1+1+1)))then k0 ak d e f h i j l m o p else bif decide (d>0)then bif decide (0<=bG (d-1))&&decide (bG (d-1)<(f.length:ax))then bif decide (0<=d)&&decide (d<(f.length:ax))then bif !Op.bytesLess (bz (ar f (bG (d-1)).toNat 0)).toList (bz (ar f d.toNat 0)).toList then k0 ak d e f h i j l m o p else bif decide (0<=d)&&decide (d<(f.length:ax))then bif tl.c h i j l (bz (ar f d.toNat 0))then bif !tl.v h i j l (bz (ar f d.toNat 0))then k0 ak d e f h i j l m o p else g a (bG (d+1)) e f h i j l m o p else aj else aj else aj else aj else bif decide (0<=d)&&decide (d<(f.length:ax))then bif tl.c h i j l (bz (ar f d.toNat 0))then bif !tl.v h i j l (bz (ar f d.toNat 0))then k0 ak d e f h i j l m o p else g a (bG (d+1)) e f h i j l m o p else aj else aj else aj else k1 a d e f h i j l m o p
def l2(N:aE)(k0 k1:fF R):aE->fF R
 |0=>λ_ _ _ _ _ _ _ _ _ _ _=>aj
 |n+1=>r2 N (l2 N k0 k1 n) k0 k1
def b(N:aE)(kr:aU->aA R)(a:ax)(d e f h:aQ)(i:ax)(j l:aQ)(m:ax):aA R:=l2 N (λo _ _ _ _ _ _ _ _ _ _=>kr o) (λ_ _ _ o p q r s _ _ _=>bif jz.c p q r s then bif jz.v p q r s then kr (decide ((o.length:ax)=bG ((p.length:ax)+(q.length:ax))))else kr ak else aj) N ak 0 a d e f h i j l m
def vo:=b Lib.cJ λr0=>ah r0
def c:=λa d e f h i j l m=>(vo a d e f h i j l m).isSome
def v:=λa d e f h i j l m=>(vo a d e f h i j l m).getD ak
theorem out{x}:∀a d e f h i j l m,vo a d e f h i j l m=ah x->c a d e f h i j l m=ai/\v a d e f h i j l m=x:=λ_ _ _ _ _ _ _ _ _=>Lib.c5
end nU

namespace np
def r5(N:aE)(g k0 k1:lN R)(a:ax)(d:aU)(e f:ax)(h i j l:aQ)(m:ax)(o p:aQ)(q:ax)(r s:aq)(t u w:ax):aA R:=bif decide (e<a)then bif decide (0<=e)&&decide (e<(o.length:ax))then bif bW (bz (ar o e.toNat 0)).toList (aC r)then bif decide (0<=e)&&decide (e<(o.length:ax))then bif decide (bE (ar o e.toNat 2)=1)then bif decide (t=1)then k0 a ak e f h i j l m o p q r s t u w else g a d (bG (e+1)) f h i j l m o p q r s t u w else g a d (bG (e+1)) f h i j l m o p q r s t u w else aj else g a d (bG (e+1)) f h i j l m o p q r s t u w else aj else k1 a d e f h i j l m o p q r s t u w
def l5(N:aE)(k0 k1:lN R):aE->lN R
 |0=>λ_ _ _ _ _ _ _ _ _ _ _ _ _ _ _ _ _=>aj
 |n+1=>r5 N (l5 N k0 k1 n) k0 k1
def b(N:aE)(kr:aU->aA R)(a:ax)(d e f h:aQ)(i:ax)(j l:aQ)(m o:ax):aA R:=bif decide (0<=o)&&decide (o<(j.length:ax))then bif !th.v (bz (ar j o.toNat 0))then kr ak else bif decide (((bz (ar j o.toNat 1)).size:ax)>400)then kr ak else bif !ki.v (bE (ar j o.toNat (1+1))) 1 3 then kr ak else bif !ki.v (bE (ar j o.toNat (1+1+1))) 0 999999 then kr ak else bif !ki.v (bE (ar j o.toNat (1+1+1+1))) 0 a then kr ak else l5 N (λ_ p _ _ _ _ _ _ _ _ _ _ _ _ _ _ _=>kr p) (λ_ _ _ _ _ _ _ _ _ _ _ _ _ _ _ _ _=>kr ai) N o ak 0 a d e f h i j l m (bz (ar j o.toNat 0)) (bz (ar j o.toNat 1)) (bE (ar j o.toNat (1+1))) (bE (ar j o.toNat (1+1+1))) (bE (ar j o.toNat (1+1+1+1)))else aj
def vo:=b Lib.cJ λr0=>ah r0
def c:=λa d e f h i j l m o=>(vo a d e f h i j l m o).isSome
def v:=λa d e f h i j l m o=>(vo a d e f h i j l m o).getD ak
theorem out{x}:∀a d e f h i j l m o,vo a d e f h i j l m o=ah x->c a d e f h i j l m o=ai/\v a d e f h i j l m o=x:=λ_ _ _ _ _ _ _ _ _ _=>Lib.c5
end np

namespace oX
def r9(N:aE)(g k0 k1:fF R)(a:aU)(d e:ax)(f h i j:aQ)(l:ax)(m o:aQ)(p:ax):aA R:=bif decide (d<(o.length:ax))then bif decide (0<=d)&&decide (d<(o.length:ax))then bif !ki.v (bE (ar o d.toNat 0)) 1 9 then k0 ak d e f h i j l m o p else bif decide (d>0)then bif decide (0<=bG (d-1))&&decide (bG (d-1)<(o.length:ax))then bif decide (bE (ar o (bG (d-1)).toNat 0)≥bE (ar o d.toNat 0))then k0 ak d e f h i j l m o p else bif !th.v (bz (ar o d.toNat 1))then k0 ak d e f h i j l m o p else bif !ki.v (bE (ar o d.toNat (1+1+1+1))) 1 3 then k0 ak d e f h i j l m o p else bif !ki.v (bE (ar o d.toNat (1+1))) 0 (m.length:ax)then k0 ak d e f h i j l m o p else bif decide (((bz (ar o d.toNat (1+1+1+1+1))).size:ax)>400)then k0 ak d e f h i j l m o p else bif !ki.v (bE (ar o d.toNat (1+1+1))) 0 e then k0 ak d e f h i j l m o p else bif decide (bE (ar o d.toNat (1+1+1+1+1+1))<0)then k0 ak d e f h i j l m o p else g a (bG (d+1)) e f h i j l m o p else aj else bif !th.v (bz (ar o d.toNat 1))then k0 ak d e f h i j l m o p else bif !ki.v (bE (ar o d.toNat (1+1+1+1))) 1 3 then k0 ak d e f h i j l m o p else bif !ki.v (bE (ar o d.toNat (1+1))) 0 (m.length:ax)then k0 ak d e f h i j l m o p else bif decide (((bz (ar o d.toNat (1+1+1+1+1))).size:ax)>400)then k0 ak d e f h i j l m o p else bif !ki.v (bE (ar o d.toNat (1+1+1))) 0 e then k0 ak d e f h i j l m o p else bif decide (bE (ar o d.toNat (1+1+1+1+1+1))<0)then k0 ak d e f h i j l m o p else g a (bG (d+1)) e f h i j l m o p else aj else k1 a d e f h i j l m o p
def l9(N:aE)(k0 k1:fF R):aE->fF R
 |0=>λ_ _ _ _ _ _ _ _ _ _ _=>aj
 |n+1=>r9 N (l9 N k0 k1 n) k0 k1
def r4(N:aE)(g k0 k1:fF R)(a:aU)(d e:ax)(f h i j:aQ)(l:ax)(m o:aQ)(p:ax):aA R:=bif decide (d<(m.length:ax))then bif np.c e f h i j l m o p d then bif !np.v e f h i j l m o p d then k0 ak d e f h i j l m o p else g a (bG (d+1)) e f h i j l m o p else aj else k1 a d e f h i j l m o p
def l4(N:aE)(k0 k1:fF R):aE->fF R
 |0=>λ_ _ _ _ _ _ _ _ _ _ _=>aj
 |n+1=>r4 N (l4 N k0 k1 n) k0 k1
def b(N:aE)(kr:aU->aA R)(a:ax)(d e f h:aQ)(i:ax)(j l:aQ)(m:ax):aA R:=bif !ki.v a 1 1000000000 then kr ak else bif nU.c a d e f h i j l m then bif !nU.v a d e f h i j l m then kr ak else bif decide ((j.length:ax)>20)then kr ak else bif decide ((l.length:ax)>6)then kr ak else bif !ki.v m 0 1000000000 then kr ak else l4 N (λo _ _ _ _ _ _ _ _ _ _=>kr o) (λo _ p q r s t u w y z=>l9 N (λα _ _ _ _ _ _ _ _ _ _=>kr α) (λ_ _ _ _ _ _ _ _ _ _ _=>kr ai) N o 0 p q r s t u w y z) N ak 0 a d e f h i j l m else aj
def vo:=b Lib.cJ λr0=>ah r0
def c:=λa d e f h i j l m=>(vo a d e f h i j l m).isSome
def v:=λa d e f h i j l m=>(vo a d e f h i j l m).getD ak
theorem out{x}:∀a d e f h i j l m,vo a d e f h i j l m=ah x->c a d e f h i j l m=ai/\v a d e f h i j l m=x:=λ_ _ _ _ _ _ _ _ _=>Lib.c5
end oX

namespace w7
def r2(N:aE)(g k0 k1:mw R)(a:aq)(d:aU)(e f:ax)(h i j l:aQ)(m:ax)(o p:aQ)(q:ax)(r:aq)(s t:ax)(u:aq):aA R:=bif decide (e<(h.length:ax))then bif decide (0<=e)&&decide (e<(h.length:ax))then bif bW (bz (ar h e.toNat 0)).toList (aC a)then bif decide (0<=e)&&decide (e<(h.length:ax))then k0 a ai e f h i j l m o p q (bz (ar h e.toNat 0)) (bE (ar h e.toNat 1)) (bE (ar h e.toNat (1+1))) (bz (ar h e.toNat (1+1+1)))else aj else g a d (bG (e+1)) f h i j l m o p q r s t u else aj else k1 a d e f h i j l m o p q r s t u
def l2(N:aE)(k0 k1:mw R):aE->mw R
 |0=>λ_ _ _ _ _ _ _ _ _ _ _ _ _ _ _ _=>aj
 |n+1=>r2 N (l2 N k0 k1 n) k0 k1
def b(N:aE)(kr:wO R)(a:ax)(d e f h:aQ)(i:ax)(j l:aQ)(m:ax)(o:aq):aA R:=l2 N (λ_ p _ _ _ _ _ _ _ _ _ _ q r s t=>kr q r s t p) (λ_ _ _ _ _ _ _ _ _ _ _ _ _ _ _ _=>kr ⟨#[]⟩ 0 0 ⟨#[]⟩ ak) N o ak 0 a d e f h i j l m ⟨#[]⟩ 0 0 ⟨#[]⟩
def vo:=b Lib.cJ λr0 r1 r2 r3 r4=>ah (r0,r1,r2,r3,r4)
def c:=λa d e f h i j l m o=>(vo a d e f h i j l m o).isSome
def v:=λa d e f h i j l m o=>(vo a d e f h i j l m o).getD (⟨#[]⟩,0,0,⟨#[]⟩,ak)
theorem out{x}:∀a d e f h i j l m o,vo a d e f h i j l m o=ah x->c a d e f h i j l m o=ai/\v a d e f h i j l m o=x:=λ_ _ _ _ _ _ _ _ _ _=>Lib.c5
end w7

namespace zC
def b(kr:aU->aA R)(a:aq)(d e:ax)(f:aq)(h:ax):aA R:=bif m8.v a d e f then bif ki.v h d 1000000000 then kr (decide (bG (h-d)<e))else kr ak else kr ak
def v(a0:aq)(a1 a2:ax)(a3:aq)(a4:ax):aU:=bif m8.v a0 a1 a2 a3 then bif ki.v a4 a1 1000000000 then decide (bG (a4-a1)<a2)else ak else ak
theorem eh(kr:aU->aA R)(a0:aq)(a1 a2:ax)(a3:aq)(a4:ax):b kr a0 a1 a2 a3 a4=kr (v a0 a1 a2 a3 a4):=by first|rfl|(unfold b v;simp only[cz];(repeat' split)<;>rfl)
end zC

namespace jU
def r6(N:aE)(g k0:yS R)(a:ax)(d:aq)(e f:ax):aA R:=bif decide (f<8)then bif decide (cF a 2=1)then g (bH eB (↑(dW (mq (cf 32 (bH eB (cQ a 2))) (cf 32 3558460437))):ax)) d e (bG (f+1))else g (bH eB (cQ a 2)) d e (bG (f+1))else k0 a d e f
def l6(N:aE)(k0:yS R):aE->yS R
 |0=>λ_ _ _ _=>aj
 |n+1=>r6 N (l6 N k0 n) k0
def r2(N:aE)(g k0:B6 R)(a:ax)(d:aq)(e:ax):aA R:=bif decide (e<(d.size:ax))then bif decide (0<=e)&&decide (e<(d.size:ax))then l6 N (λf h i _=>g f h (bG (i+1))) N (bH eB (↑(dW (mq (cf 32 a) (cf 32 (bH eB (↑(gU d e.toNat):ax))))):ax)) d e 0 else aj else k0 a d e
def l2(N:aE)(k0:B6 R):aE->B6 R
 |0=>λ_ _ _=>aj
 |n+1=>r2 N (l2 N k0 n) k0
def b(N:aE)(kr:ax->aA R)(a:ax)(d:aq):aA R:=l2 N (λe _ _=>kr e) N a d 0
def vo:=b Lib.cJ λr0=>ah r0
def c:=λa d=>(vo a d).isSome
def v:=λa d=>(vo a d).getD (0)
theorem out{x}:∀a d,vo a d=ah x->c a d=ai/\v a d=x:=λ_ _=>Lib.c5
end jU

namespace v8
def b(kr:ax->aA R)(a:aq):aA R:=bif jU.c 4294967295 a then kr (jU.v 4294967295 a)else aj
def vo:=b λr0=>ah r0
def c:=λa=>(vo a).isSome
def v:=λa=>(vo a).getD (0)
theorem out{x}:∀a,vo a=ah x->c a=ai/\v a=x:=λ_=>Lib.c5
end v8

namespace gp
def b(kr:ax->aA R)(a:ax)(d:aq):aA R:=bif decide (d.size+(bytesOf (aD (aP [Ck.i bj] 1) 0 [CV.i bj (bH bj a)])).size<=4611686018427387904)then bif v8.c (d++bytesOf (aD (aP [Ck.i bj] 1) 0 [CV.i bj (bH bj a)]))then kr (bG (cF (v8.v (d++bytesOf (aD (aP [Ck.i bj] 1) 0 [CV.i bj (bH bj a)]))) 16))else aj else aj
def vo:=b λr0=>ah r0
def c:=λa d=>(vo a d).isSome
def v:=λa d=>(vo a d).getD (0)
theorem out{x}:∀a d,vo a d=ah x->c a d=ai/\v a d=x:=λ_ _=>Lib.c5
end gp

namespace du
def r17(N:aE)(g k0:oF R)(a d e f:ax)(h:aQ):aA R:=bif decide (0<=a)&&decide (a<(h.length:ax))then bif decide (d<((iX (ar h a.toNat 0)).length:ax))then bif decide (0<=a)&&decide (a<(h.length:ax))then bif decide (0<=a)&&decide (a<(h.length:ax))then bif decide (0<=d)&&decide (d<((iX (ar h a.toNat 0)).length:ax))then bif decide (0<=d)&&decide (d<((iX (ar h a.toNat 0)).length:ax))then g a (bG (d+1)) e f (eC h a.toNat 0 [CV.l 3 (eC (iX (ar h a.toNat 0)) d.toNat 0 [.i .i64 (bG (cQ (bE (ar (iX (ar h a.toNat 0)) d.toNat 0)) 2))])])else aj else aj else aj else aj else k0 a d e f h else aj
def l17(N:aE)(k0:oF R):aE->oF R
 |0=>λ_ _ _ _ _=>aj
 |n+1=>r17 N (l17 N k0 n) k0
def r14(N:aE)(g k0:iZ R)(a d e:ax)(f:aQ):aA R:=bif decide (a<(f.length:ax))then l17 N (λh _ i j l=>g (bG (h+1)) i j l) N a 0 d e f else k0 a d e f
def l14(N:aE)(k0:iZ R):aE->iZ R
 |0=>λ_ _ _ _=>aj
 |n+1=>r14 N (l14 N k0 n) k0
def r5(N:aE)(g k0:Gq R)(a:aq)(d e f:ax)(h:aQ):aA R:=bif decide (d<(h.length:ax))then bif gp.c d a then bif decide (0<=d)&&decide (d<(h.length:ax))then bif decide (0<=gp.v d a)&&decide (gp.v d a<((iX (ar h d.toNat 0)).length:ax))then bif decide (bE (ar (iX (ar h d.toNat 0)) (gp.v d a).toNat 0)<15)then bif decide (0<=d)&&decide (d<(h.length:ax))then bif decide (0<=gp.v d a)&&decide (gp.v d a<((iX (ar h d.toNat 0)).length:ax))then bif decide (0<=gp.v d a)&&decide (gp.v d a<((iX (ar h d.toNat 0)).length:ax))then g a (bG (d+1)) e f (eC h d.toNat 0 [CV.l 3 (eC (iX (ar h d.toNat 0)) (gp.v d a).toNat 0 [.i .i64 (bG (bE (ar (iX (ar h d.toNat 0)) (gp.v d a).toNat 0)+1))])])else aj else aj else aj else g a (bG (d+1)) e f h else aj else aj else aj else k0 a d e f h
def l5(N:aE)(k0:Gq R):aE->Gq R
 |0=>λ_ _ _ _ _=>aj
 |n+1=>r5 N (l5 N k0 n) k0
def b(N:aE)(kr:sK R)(a:aQ)(d:ax)(e:aq):aA R:=bif oa.c a d then bif fB.c a d then bif !fB.v a d then kr (oa.v a d).1 (oa.v a d).2 else l5 N (λ_ _ f h i=>bif decide (bG (h+1)=64)then l14 N (λ_ _ j l=>kr l j) N 0 f 0 i else kr i (bG (h+1))) N e 0 0 (oa.v a d).2 (oa.v a d).1 else aj else aj
def vo:=b Lib.cJ λr0 r1=>ah (r0,r1)
def c:=λa d e=>(vo a d e).isSome
def v:=λa d e=>(vo a d e).getD ([],0)
theorem out{x}:∀a d e,vo a d e=ah x->c a d e=ai/\v a d e=x:=λ_ _ _=>Lib.c5
end du

namespace ph
def r3(N:aE)(g k0:yU R)(a:aQ)(d:aq)(e:ax)(f:aQ):aA R:=bif decide (e<(a.length:ax))then bif decide (0<=e)&&decide (e<(a.length:ax))then bif !List.beq (bz (ar a e.toNat 0)).toList (aC d)then bif decide (0<=e)&&decide (e<(a.length:ax))then bif cw (f.length+(aD (aP [.s] 1) 0 [.s (bz (ar a e.toNat 0))]).length) 16 then g a d (bG (e+1)) (f++aD (aP [.s] 1) 0 [.s (bz (ar a e.toNat 0))])else aj else aj else g a d (bG (e+1)) f else aj else k0 a d e f
def l3(N:aE)(k0:yU R):aE->yU R
 |0=>λ_ _ _ _=>aj
 |n+1=>r3 N (l3 N k0 n) k0
def b(N:aE)(kr:aQ->aA R)(a:aQ)(d:aq):aA R:=l3 N (λ_ _ _ e=>kr e) N a d 0 (aP [.s] 0)
def vo:=b Lib.cJ λr0=>ah r0
def c:=λa d=>(vo a d).isSome
def v:=λa d=>(vo a d).getD ([])
theorem out{x}:∀a d,vo a d=ah x->c a d=ai/\v a d=x:=λ_ _=>Lib.c5
end ph

namespace mO
def r5(N:aE)(g k0:Gr R)(a:aq)(d e:ax)(f:aQ)(h:ax):aA R:=bif decide (e<(f.length:ax))then bif decide (0<=e)&&decide (e<(f.length:ax))then bif gp.c e a then bif decide (0<=gp.v e a)&&decide (gp.v e a<((iX (ar f e.toNat 0)).length:ax))then bif decide (bE (ar (iX (ar f e.toNat 0)) (gp.v e a).toNat 0)<d)then g a (bE (ar (iX (ar f e.toNat 0)) (gp.v e a).toNat 0)) (bG (e+1)) f h else g a d (bG (e+1)) f h else aj else aj else aj else k0 a d e f h
def l5(N:aE)(k0:Gr R):aE->Gr R
 |0=>λ_ _ _ _ _=>aj
 |n+1=>r5 N (l5 N k0 n) k0
def b(N:aE)(kr:ax->aA R)(a:aQ)(d:ax)(e:aq):aA R:=bif fB.c a d then bif !fB.v a d then kr 0 else l5 N (λ_ f _ _ _=>kr f) N e 15 0 a d else aj
def vo:=b Lib.cJ λr0=>ah r0
def c:=λa d e=>(vo a d e).isSome
def v:=λa d e=>(vo a d e).getD (0)
theorem out{x}:∀a d e,vo a d e=ah x->c a d e=ai/\v a d e=x:=λ_ _ _=>Lib.c5
end mO

namespace eT
def b(kr:MM R)(a d e:aQ)(f:ax)(h:aq):aA R:=bif gb.c a d e f then bif jz.c a d e f then bif !jz.v a d e f then kr (gb.v a d e f).1 (gb.v a d e f).2.1 (gb.v a d e f).2.2.1 (gb.v a d e f).2.2.2 ⟨#[]⟩else bif !th.v h then kr (gb.v a d e f).1 (gb.v a d e f).2.1 (gb.v a d e f).2.2.1 (gb.v a d e f).2.2.2 ⟨#[]⟩else bif du.c e f h then bif e9.c a h then bif e9.v a h then bif ph.c a h then bif cw ((ph.v a h).length+(aD (aP [.s] 1) 0 [.s h]).length) 16 then kr (ph.v a h++aD (aP [.s] 1) 0 [.s h]) (gb.v a d e f).2.1 (du.v e f h).1 (du.v e f h).2 ⟨#[]⟩else aj else aj else bif e9.c d h then bif e9.v d h then bif ph.c d h then bif cw ((ph.v d h).length+(aD (aP [.s] 1) 0 [.s h]).length) 16 then kr (gb.v a d e f).1 (ph.v d h++aD (aP [.s] 1) 0 [.s h]) (du.v e f h).1 (du.v e f h).2 ⟨#[]⟩else aj else aj else bif cw ((gb.v a d e f).1.length+(aD (aP [.s] 1) 0 [.s h]).length) 16 then bif decide ((((gb.v a d e f).1++aD (aP [.s] 1) 0 [.s h]).length:ax)<=2)then kr ((gb.v a d e f).1++aD (aP [.s] 1) 0 [.s h]) (gb.v a d e f).2.1 (du.v e f h).1 (du.v e f h).2 ⟨#[]⟩else bif decide (0<(((gb.v a d e f).1++aD (aP [.s] 1) 0 [.s h]).length:ax))then bif ic 1 (((gb.v a d e f).1++aD (aP [.s] 1) 0 [.s h]).length:ax) (((gb.v a d e f).1++aD (aP [.s] 1) 0 [.s h]).length:ax)then bif cw ((aP [.s] 0).length+(eW ((gb.v a d e f).1++aD (aP [.s] 1) 0 [.s h]) (aZ 1) (((gb.v a d e f).1++aD (aP [.s] 1) 0 [.s h]).length:ax).toNat).length) 16 then bif decide (((gb.v a d e f).2.1.length:ax)<4)then bif cw ((gb.v a d e f).2.1.length+(aD (aP [.s] 1) 0 [.s (bz (ar ((gb.v a d e f).1++aD (aP [.s] 1) 0 [.s h]) (aZ 0) 0))]).length) 16 then kr (aP [.s] 0++eW ((gb.v a d e f).1++aD (aP [.s] 1) 0 [.s h]) (aZ 1) (((gb.v a d e f).1++aD (aP [.s] 1) 0 [.s h]).length:ax).toNat) ((gb.v a d e f).2.1++aD (aP [.s] 1) 0 [.s (bz (ar ((gb.v a d e f).1++aD (aP [.s] 1) 0 [.s h]) (aZ 0) 0))]) (du.v e f h).1 (du.v e f h).2 ⟨#[]⟩else aj else bif mO.c (du.v e f h).1 (du.v e f h).2 (bz (ar ((gb.v a d e f).1++aD (aP [.s] 1) 0 [.s h]) (aZ 0) 0))then bif decide (0<((gb.v a d e f).2.1.length:ax))then bif mO.c (du.v e f h).1 (du.v e f h).2 (bz (ar (gb.v a d e f).2.1 (aZ 0) 0))then bif decide (mO.v (du.v e f h).1 (du.v e f h).2 (bz (ar ((gb.v a d e f).1++aD (aP [.s] 1) 0 [.s h]) (aZ 0) 0))>mO.v (du.v e f h).1 (du.v e f h).2 (bz (ar (gb.v a d e f).2.1 (aZ 0) 0)))then bif decide (0<((gb.v a d e f).2.1.length:ax))then bif ic 1 ((gb.v a d e f).2.1.length:ax) ((gb.v a d e f).2.1.length:ax)then bif cw ((aP [.s] 0).length+(eW (gb.v a d e f).2.1 (aZ 1) ((gb.v a d e f).2.1.length:ax).toNat).length) 16 then bif cw ((aP [.s] 0++eW (gb.v a d e f).2.1 (aZ 1) ((gb.v a d e f).2.1.length:ax).toNat).length+(aD (aP [.s] 1) 0 [.s (bz (ar ((gb.v a d e f).1++aD (aP [.s] 1) 0 [.s h]) (aZ 0) 0))]).length) 16 then kr (aP [.s] 0++eW ((gb.v a d e f).1++aD (aP [.s] 1) 0 [.s h]) (aZ 1) (((gb.v a d e f).1++aD (aP [.s] 1) 0 [.s h]).length:ax).toNat) (aP [.s] 0++eW (gb.v a d e f).2.1 (aZ 1) ((gb.v a d e f).2.1.length:ax).toNat++aD (aP [.s] 1) 0 [.s (bz (ar ((gb.v a d e f).1++aD (aP [.s] 1) 0 [.s h]) (aZ 0) 0))]) (du.v e f h).1 (du.v e f h).2 (bz (ar (gb.v a d e f).2.1 (aZ 0) 0))else aj else aj else aj else aj else kr (aP [.s] 0++eW ((gb.v a d e f).1++aD (aP [.s] 1) 0 [.s h]) (aZ 1) (((gb.v a d e f).1++aD (aP [.s] 1) 0 [.s h]).length:ax).toNat) (gb.v a d e f).2.1 (du.v e f h).1 (du.v e f h).2 (bz (ar ((gb.v a d e f).1++aD (aP [.s] 1) 0 [.s h]) (aZ 0) 0))else aj else aj else aj else aj else aj else aj else aj else aj else aj else aj else aj else aj
def vo:=b λr0 r1 r2 r3 r4=>ah (r0,r1,r2,r3,r4)
def c:=λa d e f h=>(vo a d e f h).isSome
def v:=λa d e f h=>(vo a d e f h).getD ([],[],[],0,⟨#[]⟩)
theorem out{x}:∀a d e f h,vo a d e f h=ah x->c a d e f h=ai/\v a d e f h=x:=λ_ _ _ _ _=>Lib.c5
end eT

namespace lZ
def r9(N:aE)(g k0:ld R)(a:aQ)(d e:ax)(f:aq)(h i j:ax)(l:aq)(m:ax)(o:aQ):aA R:=bif decide (d<(a.length:ax))then bif decide (0<=d)&&decide (d<(a.length:ax))then bif decide (bE (ar a d.toNat 0)>e)then bif decide (0<=d)&&decide (d<(a.length:ax))then bif cw (o.length+(aD (aP [Ck.i ao,Ck.s,Ck.i ao,Ck.i ao,Ck.i ao,Ck.s,Ck.i ao] 1) 0 [.i .i64 (bE (ar a d.toNat 0)), .s (bz (ar a d.toNat 1)), .i .i64 (bE (ar a d.toNat (1+1))), .i .i64 (bE (ar a d.toNat (1+1+1))), .i .i64 (bE (ar a d.toNat (1+1+1+1))), .s (bz (ar a d.toNat (1+1+1+1+1))), .i .i64 (bE (ar a d.toNat (1+1+1+1+1+1)))]).length) 72 then g a (bG (d+1)) e f h i j l m (o++aD (aP [Ck.i ao,Ck.s,Ck.i ao,Ck.i ao,Ck.i ao,Ck.s,Ck.i ao] 1) 0 [.i .i64 (bE (ar a d.toNat 0)), .s (bz (ar a d.toNat 1)), .i .i64 (bE (ar a d.toNat (1+1))), .i .i64 (bE (ar a d.toNat (1+1+1))), .i .i64 (bE (ar a d.toNat (1+1+1+1))), .s (bz (ar a d.toNat (1+1+1+1+1))), .i .i64 (bE (ar a d.toNat (1+1+1+1+1+1)))])else aj else aj else g a (bG (d+1)) e f h i j l m o else aj else k0 a d e f h i j l m o
def l9(N:aE)(k0:ld R):aE->ld R
 |0=>λ_ _ _ _ _ _ _ _ _ _=>aj
 |n+1=>r9 N (l9 N k0 n) k0
def r3(N:aE)(g k0:ld R)(a:aQ)(d e:ax)(f:aq)(h i j:ax)(l:aq)(m:ax)(o:aQ):aA R:=bif decide (d<(a.length:ax))then bif decide (0<=d)&&decide (d<(a.length:ax))then bif decide (bE (ar a d.toNat 0)<e)then bif decide (0<=d)&&decide (d<(a.length:ax))then bif cw (o.length+(aD (aP [Ck.i ao,Ck.s,Ck.i ao,Ck.i ao,Ck.i ao,Ck.s,Ck.i ao] 1) 0 [.i .i64 (bE (ar a d.toNat 0)), .s (bz (ar a d.toNat 1)), .i .i64 (bE (ar a d.toNat (1+1))), .i .i64 (bE (ar a d.toNat (1+1+1))), .i .i64 (bE (ar a d.toNat (1+1+1+1))), .s (bz (ar a d.toNat (1+1+1+1+1))), .i .i64 (bE (ar a d.toNat (1+1+1+1+1+1)))]).length) 72 then g a (bG (d+1)) e f h i j l m (o++aD (aP [Ck.i ao,Ck.s,Ck.i ao,Ck.i ao,Ck.i ao,Ck.s,Ck.i ao] 1) 0 [.i .i64 (bE (ar a d.toNat 0)), .s (bz (ar a d.toNat 1)), .i .i64 (bE (ar a d.toNat (1+1))), .i .i64 (bE (ar a d.toNat (1+1+1))), .i .i64 (bE (ar a d.toNat (1+1+1+1))), .s (bz (ar a d.toNat (1+1+1+1+1))), .i .i64 (bE (ar a d.toNat (1+1+1+1+1+1)))])else aj else aj else g a (bG (d+1)) e f h i j l m o else aj else k0 a d e f h i j l m o
def l3(N:aE)(k0:ld R):aE->ld R
 |0=>λ_ _ _ _ _ _ _ _ _ _=>aj
 |n+1=>r3 N (l3 N k0 n) k0
def b(N:aE)(kr:aQ->aA R)(a:aQ)(d:ax)(e:aq)(f h i:ax)(j:aq)(l:ax):aA R:=l3 N (λm _ o p q r s t u w=>bif cw (w.length+(aD (aP [Ck.i ao,Ck.s,Ck.i ao,Ck.i ao,Ck.i ao,Ck.s,Ck.i ao] 1) 0 [.i .i64 o, .s p, .i .i64 q, .i .i64 r, .i .i64 s, .s t, .i .i64 u]).length) 72 then l9 N (λ_ _ _ _ _ _ _ _ _ y=>kr y) N m 0 o p q r s t u (w++aD (aP [Ck.i ao,Ck.s,Ck.i ao,Ck.i ao,Ck.i ao,Ck.s,Ck.i ao] 1) 0 [.i .i64 o, .s p, .i .i64 q, .i .i64 r, .i .i64 s, .s t, .i .i64 u])else aj) N a 0 d e f h i j l (aP [Ck.i ao,Ck.s,Ck.i ao,Ck.i ao,Ck.i ao,Ck.s,Ck.i ao] 0)
def vo:=b Lib.cJ λr0=>ah r0
def c:=λa d e f h i j l=>(vo a d e f h i j l).isSome
def v:=λa d e f h i j l=>(vo a d e f h i j l).getD ([])
theorem out{x}:∀a d e f h i j l,vo a d e f h i j l=ah x->c a d e f h i j l=ai/\v a d e f h i j l=x:=λ_ _ _ _ _ _ _ _=>Lib.c5
end lZ

namespace qm
def r3(N:aE)(g k0:yU R)(a:aQ)(d:aq)(e:ax)(f:aQ):aA R:=bif decide (e<(a.length:ax))then bif decide (0<=e)&&decide (e<(a.length:ax))then bif !List.beq (bz (ar a e.toNat 0)).toList (aC d)then bif decide (0<=e)&&decide (e<(a.length:ax))then bif cw (f.length+(aD (aP [Ck.s,Ck.i ao,Ck.i ao,Ck.s] 1) 0 [.s (bz (ar a e.toNat 0)), .i .i64 (bE (ar a e.toNat 1)), .i .i64 (bE (ar a e.toNat (1+1))), .s (bz (ar a e.toNat (1+1+1)))]).length) 48 then g a d (bG (e+1)) (f++aD (aP [Ck.s,Ck.i ao,Ck.i ao,Ck.s] 1) 0 [.s (bz (ar a e.toNat 0)), .i .i64 (bE (ar a e.toNat 1)), .i .i64 (bE (ar a e.toNat (1+1))), .s (bz (ar a e.toNat (1+1+1)))])else aj else aj else g a d (bG (e+1)) f else aj else k0 a d e f
def l3(N:aE)(k0:yU R):aE->yU R
 |0=>λ_ _ _ _=>aj
 |n+1=>r3 N (l3 N k0 n) k0
def b(N:aE)(kr:aQ->aA R)(a:aQ)(d:aq):aA R:=l3 N (λ_ _ _ e=>kr e) N a d 0 (aP [Ck.s,Ck.i ao,Ck.i ao,Ck.s] 0)
def vo:=b Lib.cJ λr0=>ah r0
def c:=λa d=>(vo a d).isSome
def v:=λa d=>(vo a d).getD ([])
theorem out{x}:∀a d,vo a d=ah x->c a d=ai/\v a d=x:=λ_ _=>Lib.c5
end qm

namespace vg
def b(kr:td R)(a d e:aQ)(f:ax)(h:aq):aA R:=bif ph.c a h then bif ph.c d h then bif oa.c e f then kr (ph.v a h) (ph.v d h) (oa.v e f).1 (oa.v e f).2 else aj else aj else aj
def vo:=b λr0 r1 r2 r3=>ah (r0,r1,r2,r3)
def c:=λa d e f h=>(vo a d e f h).isSome
def v:=λa d e f h=>(vo a d e f h).getD ([],[],[],0)
theorem out{x}:∀a d e f h,vo a d e f h=ah x->c a d e f h=ai/\v a d e f h=x:=λ_ _ _ _ _=>Lib.c5
end vg

namespace wW
def r22(N:aE)(g k0:gA R)(a:aq)(d:aU)(e f:ax)(h i j l:aQ)(m:ax)(o p:aQ)(q r s t u w y z:ax)(α:aq)(xa xb xc:ax)(xd:aq)(xe:ax)(xf xg xh xi xj xk:aQ):aA R:=bif decide (e<(o.length:ax))then bif decide (0<=e)&&decide (e<(o.length:ax))then bif bW (bz (ar o e.toNat 0)).toList (aC a)then bif decide (0<=e)&&decide (e<(o.length:ax))then bif decide (bE (ar o e.toNat 2)=1)then bif decide (0<=e)&&decide (e<(o.length:ax))then g a d (bG (e+1)) f h i j l m o p q r s t u w y z α (bG (e+1)) xb xc (bz (ar o e.toNat 1)) xe xf xg xh xi xj xk else aj else g a d (bG (e+1)) f h i j l m o p q r s t u w y z α xa xb xc xd xe xf xg xh xi xj xk else aj else g a d (bG (e+1)) f h i j l m o p q r s t u w y z α xa xb xc xd xe xf xg xh xi xj xk else aj else k0 a d e f h i j l m o p q r s t u w y z α xa xb xc xd xe xf xg xh xi xj xk
def YF(N:aE)(k0:gA R):aE->gA R
 |0=>λ_ _ _ _ _ _ _ _ _ _ _ _ _ _ _ _ _ _ _ _ _ _ _ _ _ _ _ _ _ _ _=>aj
 |n+1=>r22 N (YF N k0 n) k0
def r5(N:aE)(g k0 k1:iM R)(a:ax)(d:aq)(e f h:ax)(i j l m:aQ)(o:ax)(p q:aQ)(r s t u w y z:ax)(α xa xb xc xd xe:aQ):aA R:=bif decide (f<(q.length:ax))then bif decide (0<=f)&&decide (f<(q.length:ax))then bif decide (bE (ar q f.toNat 0)=a)then k0 a d 1 f h i j l m o p q r w y z w y z α xa xb xc xd xe else g a d e (bG (f+1)) h i j l m o p q r s t u w y z α xa xb xc xd xe else aj else k1 a d e f h i j l m o p q r s t u w y z α xa xb xc xd xe
def l5(N:aE)(k0 k1:iM R):aE->iM R
 |0=>λ_ _ _ _ _ _ _ _ _ _ _ _ _ _ _ _ _ _ _ _ _ _ _ _ _=>aj
 |n+1=>r5 N (l5 N k0 k1 n) k0 k1
def b(N:aE)(kr:wK R)(a:ax)(d e f h:aQ)(i:ax)(j l:aQ)(m o:ax)(p:aq):aA R:=bif fI.c a d e f h i j l m then Lib.lt (fI.v a d e f h i j l m) λq=>bif oX.c a d e f h i j l m then Lib.lt (oX.v a d e f h i j l m) λr=>bif !r then kr q.1 q.2.1 q.2.2.1 q.2.2.2.1 q.2.2.2.2.1 q.2.2.2.2.2.1 q.2.2.2.2.2.2.1 q.2.2.2.2.2.2.2.1 q.2.2.2.2.2.2.2.2 1 else bif !ki.v o 1 9 then kr q.1 q.2.1 q.2.2.1 q.2.2.2.1 q.2.2.2.2.1 q.2.2.2.2.2.1 q.2.2.2.2.2.2.1 q.2.2.2.2.2.2.2.1 q.2.2.2.2.2.2.2.2 1 else bif !th.v p then kr q.1 q.2.1 q.2.2.1 q.2.2.2.1 q.2.2.2.2.1 q.2.2.2.2.2.1 q.2.2.2.2.2.2.1 q.2.2.2.2.2.2.2.1 q.2.2.2.2.2.2.2.2 1 else bif decide ((l.length:ax)≥6)then kr q.1 q.2.1 q.2.2.1 q.2.2.2.1 q.2.2.2.2.1 q.2.2.2.2.2.1 q.2.2.2.2.2.2.1 q.2.2.2.2.2.2.2.1 q.2.2.2.2.2.2.2.2 1 else l5 N (λ_ _ s _ _ _ _ _ _ _ _ _ _ t u w _ _ _ y z α xa xb xc=>kr t y z α xa u xb xc w s) (λs t _ _ u w y z α xa xb xc xd xe xf xg xh xi xj xk xl xm xn xo xp=>bif w7.c u w y z α xa xb xc xd t then Lib.lt (w7.v u w y z α xa xb xc xd t) λxq=>bif xq.2.2.2.2 then bif zC.v xq.1 xq.2.1 xq.2.2.1 xq.2.2.2.1 u then bif eT.c y z α xa t then Lib.lt (eT.v y z α xa t) λxr=>bif decide (xj<1000000000)then bif lZ.c xp s t 0 xq.2.1 2 xq.2.2.2.1 (bG (u-xq.2.1))then Lib.lt (lZ.v xp s t 0 xq.2.1 2 xq.2.2.2.1 (bG (u-xq.2.1))) λxs=>kr xh xk xr.1 xr.2.1 xr.2.2.1 xr.2.2.2.1 xo xs (bG (xj+1)) 0 else aj else bif lZ.c xp s t 0 xq.2.1 2 xq.2.2.2.1 (bG (u-xq.2.1))then Lib.lt (lZ.v xp s t 0 xq.2.1 2 xq.2.2.2.1 (bG (u-xq.2.1))) λxs=>kr xh xk xr.1 xr.2.1 xr.2.2.1 xr.2.2.2.1 xo xs xj 0 else aj else aj else YF N (λxr xs _ _ _ _ _ _ _ xt _ _ _ _ _ xu xv xw xx xy xz ya yb yc yd ye yf yg yh yi yj=>bif decide (xz=0)then bif decide ((xt.length:ax)≥20)then kr xu ye yf yg yh xv yi yj xw 2 else bif cw (yi.length+(aD (aP [Ck.s,Ck.s,Ck.i ao,Ck.i ao,Ck.i ao] 1) 0 [.s xr, .s ⟨#[]⟩, .i .i64 1, .i .i64 0, .i .i64 0]).length) 56 then bif xs then bif qm.c ye xr then Lib.lt (qm.v ye xr) λyk=>bif vg.c yf yg yh xv xr then Lib.lt (vg.v yf yg yh xv xr) λyl=>bif du.c yl.2.2.1 yl.2.2.2 xr then Lib.lt (du.v yl.2.2.1 yl.2.2.2 xr) λym=>bif lZ.c yj xx xy ((yi++aD (aP [Ck.s,Ck.s,Ck.i ao,Ck.i ao,Ck.i ao] 1) 0 [.s xr, .s ⟨#[]⟩, .i .i64 1, .i .i64 0, .i .i64 0]).length:ax) ya yb yc yd then Lib.lt (lZ.v yj xx xy ((yi++aD (aP [Ck.s,Ck.s,Ck.i ao,Ck.i ao,Ck.i ao] 1) 0 [.s xr, .s ⟨#[]⟩, .i .i64 1, .i .i64 0, .i .i64 0]).length:ax) ya yb yc yd) λyn=>kr xu yk yl.1 yl.2.1 ym.1 ym.2 (yi++aD (aP [Ck.s,Ck.s,Ck.i ao,Ck.i ao,Ck.i ao] 1) 0 [.s xr, .s ⟨#[]⟩, .i .i64 1, .i .i64 0, .i .i64 0]) yn xw 0 else aj else aj else aj else aj else bif du.c yh xv xr then Lib.lt (du.v yh xv xr) λyk=>bif lZ.c yj xx xy ((yi++aD (aP [Ck.s,Ck.s,Ck.i ao,Ck.i ao,Ck.i ao] 1) 0 [.s xr, .s ⟨#[]⟩, .i .i64 1, .i .i64 0, .i .i64 0]).length:ax) ya yb yc yd then Lib.lt (lZ.v yj xx xy ((yi++aD (aP [Ck.s,Ck.s,Ck.i ao,Ck.i ao,Ck.i ao] 1) 0 [.s xr, .s ⟨#[]⟩, .i .i64 1, .i .i64 0, .i .i64 0]).length:ax) ya yb yc yd) λyl=>kr xu ye yf yg yk.1 yk.2 (yi++aD (aP [Ck.s,Ck.s,Ck.i ao,Ck.i ao,Ck.i ao] 1) 0 [.s xr, .s ⟨#[]⟩, .i .i64 1, .i .i64 0, .i .i64 0]) yl xw 0 else aj else aj else aj else bif xs then bif qm.c ye xr then Lib.lt (qm.v ye xr) λyk=>bif vg.c yf yg yh xv xr then Lib.lt (vg.v yf yg yh xv xr) λyl=>bif du.c yl.2.2.1 yl.2.2.2 xr then Lib.lt (du.v yl.2.2.1 yl.2.2.2 xr) λym=>bif lZ.c yj xx xy xz ya yb yc yd then Lib.lt (lZ.v yj xx xy xz ya yb yc yd) λyn=>kr xu yk yl.1 yl.2.1 ym.1 ym.2 yi yn xw 0 else aj else aj else aj else aj else bif du.c yh xv xr then Lib.lt (du.v yh xv xr) λyk=>bif lZ.c yj xx xy xz ya yb yc yd then Lib.lt (lZ.v yj xx xy xz ya yb yc yd) λyl=>kr xu ye yf yg yk.1 yk.2 yi yl xw 0 else aj else aj) N t xq.2.2.2.2 0 u w y z α xa xb xc xd xe xf xg xh xi xj s t 0 0 1 ⟨#[]⟩ 0 xk xl xm xn xo xp else YF N (λxr xs _ _ _ _ _ _ _ xt _ _ _ _ _ xu xv xw xx xy xz ya yb yc yd ye yf yg yh yi yj=>bif decide (xz=0)then bif decide ((xt.length:ax)≥20)then kr xu ye yf yg yh xv yi yj xw 2 else bif cw (yi.length+(aD (aP [Ck.s,Ck.s,Ck.i ao,Ck.i ao,Ck.i ao] 1) 0 [.s xr, .s ⟨#[]⟩, .i .i64 1, .i .i64 0, .i .i64 0]).length) 56 then bif xs then bif qm.c ye xr then Lib.lt (qm.v ye xr) λyk=>bif vg.c yf yg yh xv xr then Lib.lt (vg.v yf yg yh xv xr) λyl=>bif du.c yl.2.2.1 yl.2.2.2 xr then Lib.lt (du.v yl.2.2.1 yl.2.2.2 xr) λym=>bif lZ.c yj xx xy ((yi++aD (aP [Ck.s,Ck.s,Ck.i ao,Ck.i ao,Ck.i ao] 1) 0 [.s xr, .s ⟨#[]⟩, .i .i64 1, .i .i64 0, .i .i64 0]).length:ax) ya yb yc yd then Lib.lt (lZ.v yj xx xy ((yi++aD (aP [Ck.s,Ck.s,Ck.i ao,Ck.i ao,Ck.i ao] 1) 0 [.s xr, .s ⟨#[]⟩, .i .i64 1, .i .i64 0, .i .i64 0]).length:ax) ya yb yc yd) λyn=>kr xu yk yl.1 yl.2.1 ym.1 ym.2 (yi++aD (aP [Ck.s,Ck.s,Ck.i ao,Ck.i ao,Ck.i ao] 1) 0 [.s xr, .s ⟨#[]⟩, .i .i64 1, .i .i64 0, .i .i64 0]) yn xw 0 else aj else aj else aj else aj else bif du.c yh xv xr then Lib.lt (du.v yh xv xr) λyk=>bif lZ.c yj xx xy ((yi++aD (aP [Ck.s,Ck.s,Ck.i ao,Ck.i ao,Ck.i ao] 1) 0 [.s xr, .s ⟨#[]⟩, .i .i64 1, .i .i64 0, .i .i64 0]).length:ax) ya yb yc yd then Lib.lt (lZ.v yj xx xy ((yi++aD (aP [Ck.s,Ck.s,Ck.i ao,Ck.i ao,Ck.i ao] 1) 0 [.s xr, .s ⟨#[]⟩, .i .i64 1, .i .i64 0, .i .i64 0]).length:ax) ya yb yc yd) λyl=>kr xu ye yf yg yk.1 yk.2 (yi++aD (aP [Ck.s,Ck.s,Ck.i ao,Ck.i ao,Ck.i ao] 1) 0 [.s xr, .s ⟨#[]⟩, .i .i64 1, .i .i64 0, .i .i64 0]) yl xw 0 else aj else aj else aj else bif xs then bif qm.c ye xr then Lib.lt (qm.v ye xr) λyk=>bif vg.c yf yg yh xv xr then Lib.lt (vg.v yf yg yh xv xr) λyl=>bif du.c yl.2.2.1 yl.2.2.2 xr then Lib.lt (du.v yl.2.2.1 yl.2.2.2 xr) λym=>bif lZ.c yj xx xy xz ya yb yc yd then Lib.lt (lZ.v yj xx xy xz ya yb yc yd) λyn=>kr xu yk yl.1 yl.2.1 ym.1 ym.2 yi yn xw 0 else aj else aj else aj else aj else bif du.c yh xv xr then Lib.lt (du.v yh xv xr) λyk=>bif lZ.c yj xx xy xz ya yb yc yd then Lib.lt (lZ.v yj xx xy xz ya yb yc yd) λyl=>kr xu ye yf yg yk.1 yk.2 yi yl xw 0 else aj else aj) N t xq.2.2.2.2 0 u w y z α xa xb xc xd xe xf xg xh xi xj s t 0 0 1 ⟨#[]⟩ 0 xk xl xm xn xo xp else aj) N o p 0 0 a d e f h i j l m 0 0 0 q.1 q.2.2.2.2.2.1 q.2.2.2.2.2.2.2.2 q.2.1 q.2.2.1 q.2.2.2.1 q.2.2.2.2.1 q.2.2.2.2.2.2.1 q.2.2.2.2.2.2.2.1 else aj else aj
def vo:=b Lib.cJ λr0 r1 r2 r3 r4 r5 r6 r7 r8 r9=>ah (r0,r1,r2,r3,r4,r5,r6,r7,r8,r9)
def c:=λa d e f h i j l m o p=>(vo a d e f h i j l m o p).isSome
def v:=λa d e f h i j l m o p=>(vo a d e f h i j l m o p).getD (0,[],[],[],[],0,[],[],0,0)
theorem out{x}:∀a d e f h i j l m o p,vo a d e f h i j l m o p=ah x->c a d e f h i j l m o p=ai/\v a d e f h i j l m o p=x:=λ_ _ _ _ _ _ _ _ _ _ _=>Lib.c5
end wW

namespace vh
def b(kr:aU->aA R)(a:ax)(d e f h:aQ)(i:ax)(j l:aQ)(m o:ax):aA R:=bif oX.c a d e f h i j l m then bif oX.v a d e f h i j l m then bif ki.v o 0 (bG ((j.length:ax)-1))then bif decide (0<=o)&&decide (o<(j.length:ax))then kr (decide (bE (ar j o.toNat 2)=1))else aj else kr ak else kr ak else aj
def vo:=b λr0=>ah r0
def c:=λa d e f h i j l m o=>(vo a d e f h i j l m o).isSome
def v:=λa d e f h i j l m o=>(vo a d e f h i j l m o).getD ak
theorem out{x}:∀a d e f h i j l m o,vo a d e f h i j l m o=ah x->c a d e f h i j l m o=ai/\v a d e f h i j l m o=x:=λ_ _ _ _ _ _ _ _ _ _=>Lib.c5
end vh

namespace K6
def b(kr:B7 R)(a:ax)(d:aq)(e:aQ):aA R:=bif cw ((aP [Ck.i ao,Ck.i ao] 0).length+e.length) 16 then kr a d (aP [Ck.i ao,Ck.i ao] 0++e)else aj
def v(fY:ax)(eV:aq)(dE:aQ):ax×aq×aQ:=(fY,eV,dE)
def c(fY:ax)(eV:aq)(dE:aQ):aU:=decide (dE.length<=4294967296)
theorem eh(kr:B7 R)(fY:ax)(eV:aq)(dE:aQ)(hc:c fY eV dE=ai):b kr fY eV dE=kr (v fY eV dE).1 (v fY eV dE).2.1 (v fY eV dE).2.2:=by have h:dE.length<=4294967296:=cq hc;unfold b;rw[show bS (aP [Ck.i ao,Ck.i ao] 0)+dE.length=dE.length by simp[aP],Lib.ch (by omega) (by omega)];rfl
end K6

namespace lR
def r2(N:aE)(g k0 k1:Gh R)(a:aU)(d e:ax)(f:aq)(h:aQ):aA R:=bif decide (d<(h.length:ax))then bif decide (0<=d)&&decide (d<(h.length:ax))then bif !ki.v (bE (ar h d.toNat 0)) 1 9 then k0 ak d e f h else bif decide (d>0)then bif decide (0<=bG (d-1))&&decide (bG (d-1)<(h.length:ax))then bif decide (bE (ar h (bG (d-1)).toNat 0)≥bE (ar h d.toNat 0))then k0 ak d e f h else bif !ki.v (bE (ar h d.toNat 1)) 0 (f.size:ax)then k0 ak d e f h else g a (bG (d+1)) e f h else aj else bif !ki.v (bE (ar h d.toNat 1)) 0 (f.size:ax)then k0 ak d e f h else g a (bG (d+1)) e f h else aj else k1 a d e f h
def l2(N:aE)(k0 k1:Gh R):aE->Gh R
 |0=>λ_ _ _ _ _=>aj
 |n+1=>r2 N (l2 N k0 k1 n) k0 k1
def b(N:aE)(kr:aU->aA R)(a:ax)(d:aq)(e:aQ):aA R:=l2 N (λf _ _ _ _=>kr f) (λ_ _ f h i=>bif ki.v f 1 3 then bif decide ((h.size:ax)<=400)then kr (decide ((i.length:ax)<=6))else kr ak else kr ak) N ak 0 a d e
def el(t:aq)(rs:aQ)(i:aE):aU:=decide (1<=bE (ar rs i 0)/\bE (ar rs i 0)<=9)&&(decide (0<=bE (ar rs i 1)/\bE (ar rs i 1)<=t.size)&&(i==0||decide (bE (ar rs (i-1) 0)<bE (ar rs i 0))))
def rest(st:ax)(t:aq)(rs:aQ):aU:=decide (1<=st/\st<=3)&&(decide (t.size<=400)&&decide (rs.length<=6))
def v(fY:ax)(eV:aq)(dE:aQ):aU:=(b8 dE.length).all (el eV dE)&&rest fY eV dE
theorem nb(n a b:ax):ki.v n a b=decide (a<=n/\n<=b):=by unfold ki.v;by_cases h:a<=n<;>by_cases h2:n<=b<;>simp[h,h2]
theorem Ov(st:ax)(t:aq)(rs:aQ){R:Type}(kr:aU->aA R):(bif ki.v st 1 3 then bif decide ((t.size:ax)<=400)then kr (decide ((rs.length:ax)<=6))else kr ak else kr ak)=kr (rest st t rs):=by
 unfold rest;rw[nb];have e1:decide ((t.size:ax)<=400)=decide (t.size<=400):=by rw[ca];omega
 have e2:decide ((rs.length:ax)<=6)=decide (rs.length<=6):=by rw[ca];omega
 rw[e1,e2];cases decide (1<=st/\st<=3)<;>cases decide (t.size<=400)<;>rfl
theorem DF{i:aE}(h:0<i)(hn:i<=9223372036854775807):bG ((i:ax)-1)=((i-1:aE):ax):=by rw[iG (by omega) (by omega)];omega
theorem I9(p:aE->aU){i n:aE}(h:i<n):(iV i (n-i)).all p=(p i&&(iV (i+1) (n-(i+1))).all p):=by rw[show n-i=(n-(i+1))+1 by omega,List.range'_succ,u0]
theorem eh(kr:aU->aA R)(fY:ax)(eV:aq)(dE:aQ)(f0:Ez eV)(f1:vM dE):∃N,b N kr fY eV dE=kr (v fY eV dE):=by
 refine⟨dE.length+1, ?_⟩
 unfold b;simp only[Ov]
 have:=Lib.fE (λn (i:aE)=>l2 (dE.length+1) (λy5 y6 y7 y8 y9=>kr y5) (λKK wC MH Ir DR=>kr (rest MH Ir DR)) n ak i fY eV dE) (λi=>dE.length-i) (λi=>i<=dE.length)
  (λi=>kr ((iV i (dE.length-i)).all (el eV dE)&&rest fY eV dE)) (λn i hi=>by
  simp only[l2,r2,Lib.c6,Lib.cm,Lib.dN,ba,nb]
  by_cases h:i<dE.length
  ·rw[I9 _ h];simp only[h,aN,au,Lib.cS h f1.1];cases h1:decide (1<=bE (ar dE i 0)/\bE (ar dE i 0)<=9)with
   |false=>left;simp[el,h1]
   |true=>
    simp only[aY,aw];by_cases hz:0<i
    ·have e0:decide ((i:ax)>0)=true:=by simp;omega
     have hp:i-1<dE.length:=by omega
     have hi0:(i==0)=false:=by simp;omega
     simp only[e0,au,DF hz (by have:=f1.1;omega),Lib.cm,Lib.c6,Lib.dN,hp,aN,aL];cases h2:decide (bE (ar dE (i-1) 0)≥bE (ar dE i 0))with
     |true=>
      left;have e3:decide (bE (ar dE (i-1) 0)<bE (ar dE i 0))=false:=by simp at h2⊢;omega
      simp[el,e3,hi0]
     |false=>
      have e3:decide (bE (ar dE (i-1) 0)<bE (ar dE i 0))=true:=by simp at h2⊢;omega
      cases h3:decide (0<=bE (ar dE i 1)/\bE (ar dE i 1)<=eV.size)with
      |false=>left;simp[el,h3]
      |true=>right;exact⟨i+1,h,by omega,by simp only[el,h1,h3,e3,KO,ba],rfl⟩
    ·have hz:i=0:=by omega
     subst hz;simp only[show decide (((0:aE):ax)>0)=ak from rfl,aw];cases h3:decide (0<=bE (ar dE 0 1)/\bE (ar dE 0 1)<=eV.size)with
     |false=>left;simp[el,h3]
     |true=>right;exact⟨1,h,by omega,by simp only[el,h1,h3,ba];rfl,rfl⟩
  ·left;have h0:dE.length-i=0:=by omega
   simp only[h,bc,aw,h0,XB,List.all_nil,ba]) (dE.length+1) 0 (by omega) (by omega)
 refine this.trans ?_;unfold v;rw[sA,<-XD]
end lR

namespace Ha
def b(kr:Gk R)(a:ax)(d:aq)(e:aQ)(f:aq):aA R:=bif K6.c a d e then bif !lR.v a d e then kr a d e ak else bif a !=1 then kr a d e ak else bif !ki.v (f.size:ax) 1 40 then kr a d e ak else bif decide (bG ((d.size:ax)+(f.size:ax))>400)then kr a d e ak else bif decide (d.size+f.size<=4611686018427387904)then kr a (d++f) e ai else aj else aj
def v(fY:ax)(eV:aq)(dE:aQ)(gq:aq):ax×aq×aQ×aU:=
 if lR.v fY eV dE=ai/\fY=1/\1<=gq.size/\gq.size<=40/\eV.size+gq.size<=400 then(fY,eV++gq,dE,ai)else(fY,eV,dE,ak)
def c(fY:ax)(eV:aq)(dE:aQ)(gq:aq):aU:=decide (dE.length<=4294967296)
theorem eh(kr:Gk R)(fY:ax)(eV:aq)(dE:aQ)(gq:aq)(hc:c fY eV dE gq=ai)(f0:Ez eV)(f1:vM dE)(f2:Ez gq):b kr fY eV dE gq=kr (v fY eV dE gq).1 (v fY eV dE gq).2.1 (v fY eV dE gq).2.2.1 (v fY eV dE gq).2.2.2:=by
 have hs1:eV.size<=4611686018427387904:=f0;have N0:gq.size<=4611686018427387904:=f2;have e1:K6.c fY eV dE=true:=hc;have e2:∀a b c,lR.v a b c=lR.v a b c:=λ_ _ _=>rfl;have e3:∀n a b,ki.v n a b=decide (a<=n/\n<=b):=lR.nb;unfold b v;rw[e1,e2,e3,au];cases h1:lR.v fY eV dE with
 |false=>simp
 |true=>
  by_cases h2:fY=1
  ·by_cases h3:1<=(gq.size:ax)/\(gq.size:ax)<=40
   ·have e4:bG ((eV.size:ax)+(gq.size:ax))=eV.size+gq.size:=iG (by omega) (by omega);rw[e4,aG h3];by_cases h4:(eV.size:ax)+(gq.size:ax)>400
    ·rw[Lib.Ar h4,bJ (by omega)];simp[h2]
    ·rw[Lib.Jo h4,bA (by refine⟨rfl,h2, ?_, ?_, ?_⟩<;>omega),Lib.Ar (show eV.size+gq.size<=4611686018427387904 by omega)];simp[h2]
   ·rw[aK h3,bJ (by omega)];simp
  ·have iz:(fY !=1)=true:=bne_iff_ne.mpr h2;rw[bJ (by simp[h2]),iz];rfl
end Ha

namespace sO
def r1(N:aE)(g k0:iY R)(a d e f h i:ax)(j l m o p q:aQ):aA R:=bif decide (e<(q.length:ax))then bif decide (0<=e)&&decide (e<(q.length:ax))then bif decide (bE (ar q e.toNat 2)=bG (a+1))then bif decide (0<=e)&&decide (e<(q.length:ax))then bif decide (bE (ar q e.toNat 4)=1)then bif decide (0<=a)&&decide (a<(p.length:ax))then bif decide (0<=e)&&decide (e<(q.length:ax))then bif decide (0<=e)&&decide (e<((eC q e.toNat 5 [.s (bz (ar p a.toNat 1))]).length:ax))then g a d (bG (e+1)) f h i j l m o p (eC (eC q e.toNat 5 [.s (bz (ar p a.toNat 1))]) e.toNat 4 [.i .i64 d])else aj else aj else aj else g a d (bG (e+1)) f h i j l m o p q else aj else g a d (bG (e+1)) f h i j l m o p q else aj else k0 a d e f h i j l m o p q
def l1(N:aE)(k0:iY R):aE->iY R
 |0=>λ_ _ _ _ _ _ _ _ _ _ _ _=>aj
 |n+1=>r1 N (l1 N k0 n) k0
def b(N:aE)(kr:dY R)(a:ax)(d e f h:aQ)(i:ax)(j l:aQ)(m o p:ax):aA R:=l1 N (λ_ _ _ q r s t u w y z α=>kr q t u w y r z α s) N o p 0 a i m d e f h j l
def vo:=b Lib.cJ λr0 r1 r2 r3 r4 r5 r6 r7 r8=>ah (r0,r1,r2,r3,r4,r5,r6,r7,r8)
def c:=λa d e f h i j l m o p=>(vo a d e f h i j l m o p).isSome
def v:=λa d e f h i j l m o p=>(vo a d e f h i j l m o p).getD (0,[],[],[],[],0,[],[],0)
theorem out{x}:∀a d e f h i j l m o p,vo a d e f h i j l m o p=ah x->c a d e f h i j l m o p=ai/\v a d e f h i j l m o p=x:=λ_ _ _ _ _ _ _ _ _ _ _=>Lib.c5
end sO

namespace D7
def b(kr:k_ R)(a:ax)(d e f h:aQ)(i:ax)(j l:aQ)(m o:ax)(p:aq):aA R:=bif fI.c a d e f h i j l m then Lib.lt (fI.v a d e f h i j l m) λq=>bif vh.c a d e f h i j l m o then Lib.lt (vh.v a d e f h i j l m o) λr=>bif !r then kr q.1 q.2.1 q.2.2.1 q.2.2.2.1 q.2.2.2.2.1 q.2.2.2.2.2.1 q.2.2.2.2.2.2.1 q.2.2.2.2.2.2.2.1 q.2.2.2.2.2.2.2.2 ak else bif decide (0<=o)&&decide (o<(j.length:ax))then bif !(Ha.v 1 (bz (ar j o.toNat 1)) [] p).2.2.2 then kr q.1 q.2.1 q.2.2.1 q.2.2.2.1 q.2.2.2.2.1 q.2.2.2.2.2.1 q.2.2.2.2.2.2.1 q.2.2.2.2.2.2.2.1 q.2.2.2.2.2.2.2.2 ak else bif decide (0<=o)&&decide (o<(q.2.2.2.2.2.2.1.length:ax))then bif sO.c q.1 q.2.1 q.2.2.1 q.2.2.2.1 q.2.2.2.2.1 q.2.2.2.2.2.1 (eC q.2.2.2.2.2.2.1 o.toNat 1 [.s (Ha.v 1 (bz (ar j o.toNat 1)) [] p).2.1]) q.2.2.2.2.2.2.2.1 q.2.2.2.2.2.2.2.2 o 1 then Lib.lt (sO.v q.1 q.2.1 q.2.2.1 q.2.2.2.1 q.2.2.2.2.1 q.2.2.2.2.2.1 (eC q.2.2.2.2.2.2.1 o.toNat 1 [.s (Ha.v 1 (bz (ar j o.toNat 1)) [] p).2.1]) q.2.2.2.2.2.2.2.1 q.2.2.2.2.2.2.2.2 o 1) λs=>kr s.1 s.2.1 s.2.2.1 s.2.2.2.1 s.2.2.2.2.1 s.2.2.2.2.2.1 s.2.2.2.2.2.2.1 s.2.2.2.2.2.2.2.1 s.2.2.2.2.2.2.2.2 ai else aj else aj else aj else aj else aj
def vo:=b λr0 r1 r2 r3 r4 r5 r6 r7 r8 r9=>ah (r0,r1,r2,r3,r4,r5,r6,r7,r8,r9)
def c:=λa d e f h i j l m o p=>(vo a d e f h i j l m o p).isSome
def v:=λa d e f h i j l m o p=>(vo a d e f h i j l m o p).getD (0,[],[],[],[],0,[],[],0,ak)
theorem out{x}:∀a d e f h i j l m o p,vo a d e f h i j l m o p=ah x->c a d e f h i j l m o p=ai/\v a d e f h i j l m o p=x:=λ_ _ _ _ _ _ _ _ _ _ _=>Lib.c5
end D7

namespace lU
def r9(N:aE)(g k0:oV R)(a:aQ)(d:ax)(e:aq)(f h:ax)(i:aq)(j:aQ):aA R:=bif decide (d<(a.length:ax))then bif decide (0<=d)&&decide (d<(a.length:ax))then bif !(b9 (bz (ar a d.toNat 0)).toList (aC e)||List.beq (bz (ar a d.toNat 0)).toList (aC e))then bif decide (0<=d)&&decide (d<(a.length:ax))then bif cw (j.length+(aD (aP [Ck.s,Ck.i ao,Ck.i ao,Ck.s] 1) 0 [.s (bz (ar a d.toNat 0)), .i .i64 (bE (ar a d.toNat 1)), .i .i64 (bE (ar a d.toNat (1+1))), .s (bz (ar a d.toNat (1+1+1)))]).length) 48 then g a (bG (d+1)) e f h i (j++aD (aP [Ck.s,Ck.i ao,Ck.i ao,Ck.s] 1) 0 [.s (bz (ar a d.toNat 0)), .i .i64 (bE (ar a d.toNat 1)), .i .i64 (bE (ar a d.toNat (1+1))), .s (bz (ar a d.toNat (1+1+1)))])else aj else aj else g a (bG (d+1)) e f h i j else aj else k0 a d e f h i j
def l9(N:aE)(k0:oV R):aE->oV R
 |0=>λ_ _ _ _ _ _ _=>aj
 |n+1=>r9 N (l9 N k0 n) k0
def r3(N:aE)(g k0:oV R)(a:aQ)(d:ax)(e:aq)(f h:ax)(i:aq)(j:aQ):aA R:=bif decide (d<(a.length:ax))then bif decide (0<=d)&&decide (d<(a.length:ax))then bif b9 (bz (ar a d.toNat 0)).toList (aC e)then bif decide (0<=d)&&decide (d<(a.length:ax))then bif cw (j.length+(aD (aP [Ck.s,Ck.i ao,Ck.i ao,Ck.s] 1) 0 [.s (bz (ar a d.toNat 0)), .i .i64 (bE (ar a d.toNat 1)), .i .i64 (bE (ar a d.toNat (1+1))), .s (bz (ar a d.toNat (1+1+1)))]).length) 48 then g a (bG (d+1)) e f h i (j++aD (aP [Ck.s,Ck.i ao,Ck.i ao,Ck.s] 1) 0 [.s (bz (ar a d.toNat 0)), .i .i64 (bE (ar a d.toNat 1)), .i .i64 (bE (ar a d.toNat (1+1))), .s (bz (ar a d.toNat (1+1+1)))])else aj else aj else g a (bG (d+1)) e f h i j else aj else k0 a d e f h i j
def l3(N:aE)(k0:oV R):aE->oV R
 |0=>λ_ _ _ _ _ _ _=>aj
 |n+1=>r3 N (l3 N k0 n) k0
def b(N:aE)(kr:aQ->aA R)(a:aQ)(d:aq)(e f:ax)(h:aq):aA R:=l3 N (λi _ j l m o p=>bif cw (p.length+(aD (aP [Ck.s,Ck.i ao,Ck.i ao,Ck.s] 1) 0 [.s j, .i .i64 l, .i .i64 m, .s o]).length) 48 then l9 N (λ_ _ _ _ _ _ q=>kr q) N i 0 j l m o (p++aD (aP [Ck.s,Ck.i ao,Ck.i ao,Ck.s] 1) 0 [.s j, .i .i64 l, .i .i64 m, .s o])else aj) N a 0 d e f h (aP [Ck.s,Ck.i ao,Ck.i ao,Ck.s] 0)
def vo:=b Lib.cJ λr0=>ah r0
def c:=λa d e f h=>(vo a d e f h).isSome
def v:=λa d e f h=>(vo a d e f h).getD ([])
theorem out{x}:∀a d e f h,vo a d e f h=ah x->c a d e f h=ai/\v a d e f h=x:=λ_ _ _ _ _=>Lib.c5
end lU

namespace Pn
def b(kr:dY R)(a:ax)(d e f h:aQ)(i:ax)(j l:aQ)(m:ax)(o:aq)(p q:ax)(r:aq):aA R:=bif eT.c e f h i o then Lib.lt (eT.v e f h i o) λs=>bif !List.beq (aC s.2.2.2.2) (aC ⟨#[]⟩)then bif qm.c d s.2.2.2.2 then Lib.lt (qm.v d s.2.2.2.2) λt=>bif tl.c s.1 s.2.1 s.2.2.1 s.2.2.2.1 o then Lib.lt (tl.v s.1 s.2.1 s.2.2.1 s.2.2.2.1 o) λu=>bif u then bif lU.c t o p q r then Lib.lt (lU.v t o p q r) λw=>kr a w s.1 s.2.1 s.2.2.1 s.2.2.2.1 j l m else aj else kr a t s.1 s.2.1 s.2.2.1 s.2.2.2.1 j l m else aj else aj else bif tl.c s.1 s.2.1 s.2.2.1 s.2.2.2.1 o then Lib.lt (tl.v s.1 s.2.1 s.2.2.1 s.2.2.2.1 o) λt=>bif t then bif lU.c d o p q r then Lib.lt (lU.v d o p q r) λu=>kr a u s.1 s.2.1 s.2.2.1 s.2.2.2.1 j l m else aj else kr a d s.1 s.2.1 s.2.2.1 s.2.2.2.1 j l m else aj else aj
def vo:=b λr0 r1 r2 r3 r4 r5 r6 r7 r8=>ah (r0,r1,r2,r3,r4,r5,r6,r7,r8)
def c:=λa d e f h i j l m o p q r=>(vo a d e f h i j l m o p q r).isSome
def v:=λa d e f h i j l m o p q r=>(vo a d e f h i j l m o p q r).getD (0,[],[],[],[],0,[],[],0)
theorem out{x}:∀a d e f h i j l m o p q r,vo a d e f h i j l m o p q r=ah x->c a d e f h i j l m o p q r=ai/\v a d e f h i j l m o p q r=x:=λ_ _ _ _ _ _ _ _ _ _ _ _ _=>Lib.c5
end Pn

namespace Ea
def b(kr:k_ R)(a:ax)(d e f h:aQ)(i:ax)(j l:aQ)(m o p:ax):aA R:=bif fI.c a d e f h i j l m then Lib.lt (fI.v a d e f h i j l m) λq=>bif vh.c a d e f h i j l m o then Lib.lt (vh.v a d e f h i j l m o) λr=>bif !r then kr q.1 q.2.1 q.2.2.1 q.2.2.2.1 q.2.2.2.2.1 q.2.2.2.2.2.1 q.2.2.2.2.2.2.1 q.2.2.2.2.2.2.2.1 q.2.2.2.2.2.2.2.2 ak else bif !ki.v p 0 999999 then kr q.1 q.2.1 q.2.2.1 q.2.2.2.1 q.2.2.2.2.1 q.2.2.2.2.2.1 q.2.2.2.2.2.2.1 q.2.2.2.2.2.2.2.1 q.2.2.2.2.2.2.2.2 ak else bif decide (0<=o)&&decide (o<(j.length:ax))then bif decide (0<=o)&&decide (o<(q.2.2.2.2.2.2.1.length:ax))then bif sO.c q.1 q.2.1 q.2.2.1 q.2.2.2.1 q.2.2.2.2.1 q.2.2.2.2.2.1 (eC q.2.2.2.2.2.2.1 o.toNat 0 [.s (bz (ar j o.toNat 0)), .s (bz (ar j o.toNat 1)), .i .i64 2, .i .i64 p, .i .i64 a]) q.2.2.2.2.2.2.2.1 q.2.2.2.2.2.2.2.2 o 2 then Lib.lt (sO.v q.1 q.2.1 q.2.2.1 q.2.2.2.1 q.2.2.2.2.1 q.2.2.2.2.2.1 (eC q.2.2.2.2.2.2.1 o.toNat 0 [.s (bz (ar j o.toNat 0)), .s (bz (ar j o.toNat 1)), .i .i64 2, .i .i64 p, .i .i64 a]) q.2.2.2.2.2.2.2.1 q.2.2.2.2.2.2.2.2 o 2) λs=>bif decide (p>0)then bif Pn.c s.1 s.2.1 s.2.2.1 s.2.2.2.1 s.2.2.2.2.1 s.2.2.2.2.2.1 s.2.2.2.2.2.2.1 s.2.2.2.2.2.2.2.1 s.2.2.2.2.2.2.2.2 (bz (ar j o.toNat 0)) a p (bz (ar j o.toNat 1))then Lib.lt (Pn.v s.1 s.2.1 s.2.2.1 s.2.2.2.1 s.2.2.2.2.1 s.2.2.2.2.2.1 s.2.2.2.2.2.2.1 s.2.2.2.2.2.2.2.1 s.2.2.2.2.2.2.2.2 (bz (ar j o.toNat 0)) a p (bz (ar j o.toNat 1))) λt=>kr t.1 t.2.1 t.2.2.1 t.2.2.2.1 t.2.2.2.2.1 t.2.2.2.2.2.1 t.2.2.2.2.2.2.1 t.2.2.2.2.2.2.2.1 t.2.2.2.2.2.2.2.2 ai else aj else kr s.1 s.2.1 s.2.2.1 s.2.2.2.1 s.2.2.2.2.1 s.2.2.2.2.2.1 s.2.2.2.2.2.2.1 s.2.2.2.2.2.2.2.1 s.2.2.2.2.2.2.2.2 ai else aj else aj else aj else aj else aj
def vo:=b λr0 r1 r2 r3 r4 r5 r6 r7 r8 r9=>ah (r0,r1,r2,r3,r4,r5,r6,r7,r8,r9)
def c:=λa d e f h i j l m o p=>(vo a d e f h i j l m o p).isSome
def v:=λa d e f h i j l m o p=>(vo a d e f h i j l m o p).getD (0,[],[],[],[],0,[],[],0,ak)
theorem out{x}:∀a d e f h i j l m o p,vo a d e f h i j l m o p=ah x->c a d e f h i j l m o p=ai/\v a d e f h i j l m o p=x:=λ_ _ _ _ _ _ _ _ _ _ _=>Lib.c5
end Ea

namespace kF
def r2(N:aE)(g k0:AR R)(a:ax)(d:aQ):aA R:=bif decide (a>127)then bif cw (d.length+(aD (aP [Ck.i bj] 1) 0 [CV.i bj (bH bj (bG (cF a 128+128)))]).length) 1 then g (bG (cQ a 128)) (d++aD (aP [Ck.i bj] 1) 0 [CV.i bj (bH bj (bG (cF a 128+128)))])else aj else k0 a d
def l2(N:aE)(k0:AR R):aE->AR R
 |0=>λ_ _=>aj
 |n+1=>r2 N (l2 N k0 n) k0
def b(N:aE)(kr:aq->aA R)(a:ax):aA R:=l2 N (λd e=>bif cw (e.length+(aD (aP [Ck.i bj] 1) 0 [CV.i bj (bH bj d)]).length) 1 then bif decide ((e++aD (aP [Ck.i bj] 1) 0 [CV.i bj (bH bj d)]).length<=4611686018427387904)then kr (bytesOf (e++aD (aP [Ck.i bj] 1) 0 [CV.i bj (bH bj d)]))else aj else aj) N a (aP [Ck.i bj] 0)
def v(n0:ax):aq:=bytesOf (Lib.vb n0)
def c(n0:ax):aU:=decide (n0<=9223372036854775807)
theorem eh(kr:aq->aA R)(n0:ax)(hc:c n0=ai):∃N,b N kr n0=kr (v n0):=by
 refine⟨n0.toNat+1, ?_⟩
 refine Lib.OS (λn x acc=>l2 (n0.toNat+1) _ n x acc) kr (λn x acc h hl=> ?_) (λn x acc h hl=> ?_) n0 (cq hc)
 ·simp only[l2,r2,h,aN,au,Lib.ja,show acc.length+bS [[CV.i bj (bH bj (bG (cF x 128+128)))]]=acc.length+1 from rfl,Lib.H9 (show acc.length+1<=140737488355328 by omega),show decide ((128:ax)=0)=ak from rfl,wH,bP]
 ·simp only[l2,r2,h,bc,aw,Lib.ja,show acc.length+bS [[CV.i bj (bH bj x)]]=acc.length+1 from rfl,Lib.H9 (show acc.length+1<=140737488355328 by omega),au];exact Lib.tz (Lib.Ar (by rw[bU,bC];omega))
end kF

namespace jK
def b(kr:wN R)(a:aq)(d e:ax)(f:aq):aA R:=bif !m8.v a d e f then kr ⟨#[]⟩ ak else bif kF.c (a.size:ax)then bif decide ((kF.v (a.size:ax)).size+a.size<=4611686018427387904)then bif kF.c d then bif decide ((kF.v (a.size:ax)++a).size+(kF.v d).size<=4611686018427387904)then bif kF.c e then bif decide ((kF.v (a.size:ax)++a++kF.v d).size+(kF.v e).size<=4611686018427387904)then bif decide ((kF.v (a.size:ax)++a++kF.v d++kF.v e).size+f.size<=4611686018427387904)then kr (kF.v (a.size:ax)++a++kF.v d++kF.v e++f) ai else aj else aj else aj else aj else aj else aj else aj
def s5(k:aq)(s l:ax)(b:aq):aq:=bytesOf (Lib.vb k.size)++k++bytesOf (Lib.vb s)++bytesOf (Lib.vb l)++b
def v(oP:aq)(pr:ax)(pw:ax)(vk:aq):aq×aU:=if m8.v oP pr pw vk=ai then(s5 oP pr pw vk,ai)else(⟨#[]⟩,ak)
theorem eh(kr:wN R)(oP:aq)(pr:ax)(pw:ax)(vk:aq):b kr oP pr pw vk=kr (v oP pr pw vk).1 (v oP pr pw vk).2:=by
 unfold b v;cases h:m8.v oP pr pw vk with
 |false=>rfl
 |true=>have hr:=m8.EC h;have cc:∀x:ax,x<=9223372036854775807->kF.c x=true:=λx hx=>aG hx;have z1:(kF.v (oP.size:ax)).size<=64:=Lib.jP (x:=(oP.size:ax)) (by omega);have z2:(kF.v pr).size<=64:=Lib.jP (x:=pr) (by omega);have z3:(kF.v pw).size<=64:=Lib.jP (x:=pw) (by omega);simp(disch:=omega) only[aY,aw,cc _ (show(oP.size:ax)<=9223372036854775807 by omega),cc pr (by omega),cc pw (by omega),au,if_true,Lib.km,Lib.Td];rfl
end jK

namespace pe
def b(kr:aq->aA R)(a:ax):aA R:=kr (bytesOf (aD (aD (aD (aD (aP [Ck.i bj] 4) 0 [CV.i bj (bH bj (lF a (g_ 2 (if aZ 24<=32 then aZ 24 else 32))))]) 1 [CV.i bj (bH bj (lF a (g_ 2 (if aZ 16<=32 then aZ 16 else 32))))]) 2 [CV.i bj (bH bj (lF a (g_ 2 (if aZ 8<=32 then aZ 8 else 32))))]) 3 [CV.i bj (bH bj a)]))
def v(a0:ax):aq:=(bytesOf (aD (aD (aD (aD (aP [Ck.i bj] 4) 0 [CV.i bj (bH bj (lF a0 (g_ 2 (if aZ 24<=32 then aZ 24 else 32))))]) 1 [CV.i bj (bH bj (lF a0 (g_ 2 (if aZ 16<=32 then aZ 16 else 32))))]) 2 [CV.i bj (bH bj (lF a0 (g_ 2 (if aZ 8<=32 then aZ 8 else 32))))]) 3 [CV.i bj (bH bj a0)]))
theorem eh(kr:aq->aA R)(a0:ax):b kr a0=kr (v a0):=by first|rfl|(unfold b v;simp only[cz];(repeat' split)<;>rfl)
end pe

namespace fH
def b(kr:wN R)(a:aq):aA R:=bif !ki.v (a.size:ax) 1 9000 then kr ⟨#[]⟩ ak else bif kF.c (a.size:ax)then bif v8.c a then bif decide ((kF.v (a.size:ax)).size+(pe.v (v8.v a)).size<=4611686018427387904)then bif decide ((kF.v (a.size:ax)++pe.v (v8.v a)).size+a.size<=4611686018427387904)then kr (kF.v (a.size:ax)++pe.v (v8.v a)++a) ai else aj else aj else aj else aj
def vo:=b λr0 r1=>ah (r0,r1)
def c:=λa=>(vo a).isSome
def v:=λa=>(vo a).getD (⟨#[]⟩,ak)
theorem out{x}:∀a,vo a=ah x->c a=ai/\v a=x:=λ_=>Lib.c5
end fH

namespace Eb
def b(kr:AU R)(a:aq)(d e:ax)(f:aq):aA R:=bif fH.c (jK.v a d e f).1 then bif !(jK.v a d e f).2 then kr (aP [Ck.i ao,Ck.s,Ck.s,Ck.s] 0) ak else bif !(fH.v (jK.v a d e f).1).2 then kr (aP [Ck.i ao,Ck.s,Ck.s,Ck.s] 0) ak else kr (aD (aD (aP [Ck.i ao,Ck.s,Ck.s,Ck.s] 2) 0 [.i .i64 1, .s {data:= #[ay 107,ay 101,ay 112,ay 116]}, .s (fH.v (jK.v a d e f).1).1, .s ⟨#[]⟩]) 1 [.i .i64 2, .s {data:= #[ay 107,ay 101,ay 112,ay 116]}, .s ⟨#[]⟩, .s ⟨#[]⟩]) ai else aj
def vo:=b λr0 r1=>ah (r0,r1)
def c:=λa d e f=>(vo a d e f).isSome
def v:=λa d e f=>(vo a d e f).getD ([],ak)
theorem out{x}:∀a d e f,vo a d e f=ah x->c a d e f=ai/\v a d e f=x:=λ_ _ _ _=>Lib.c5
end Eb

namespace vV
def b(kr:aU->aA R)(a:aq):aA R:=kr (ki.v (a.size:ax) 1 8)
def v(a0:aq):aU:=(ki.v (a0.size:ax) 1 8)
theorem eh(kr:aU->aA R)(a0:aq):b kr a0=kr (v a0):=by first|rfl|(unfold b v;simp only[cz];(repeat' split)<;>rfl)
end vV

namespace lG
def r4(N:aE)(g k0 k1:Rt R)(a:aU)(d:ax)(e:aQ):aA R:=bif decide (d<(e.length:ax))then bif decide (0<=d)&&decide (d<(e.length:ax))then bif !vV.v (bz (ar e d.toNat 0))then k0 ak d e else bif decide (((bz (ar e d.toNat 1)).size:ax)>20000)then k0 ak d e else bif !ki.v (bE (ar e d.toNat (1+1))) 0 ((bz (ar e d.toNat 1)).size:ax)then k0 ak d e else bif decide (d>0)then bif decide (0<=bG (d-1))&&decide (bG (d-1)<(e.length:ax))then bif !Op.bytesLess (bz (ar e (bG (d-1)).toNat 0)).toList (bz (ar e d.toNat 0)).toList then k0 ak d e else g a (bG (d+1)) e else aj else g a (bG (d+1)) e else aj else k1 a d e
def l4(N:aE)(k0 k1:Rt R):aE->Rt R
 |0=>λ_ _ _=>aj
 |n+1=>r4 N (l4 N k0 k1 n) k0 k1
def b(N:aE)(kr:aU->aA R)(a:aQ):aA R:=bif decide ((a.length:ax)>30)then kr ak else l4 N (λd _ _=>kr d) (λ_ _ _=>kr ai) N ak 0 a
def vo:=b Lib.cJ λr0=>ah r0
def c:=λa=>(vo a).isSome
def v:=λa=>(vo a).getD ak
theorem out{x}:∀a,vo a=ah x->c a=ai/\v a=x:=λ_=>Lib.c5
end lG

namespace kE
def r2(N:aE)(g k0 k1:my R)(a:aq)(d e:ax)(f:aQ):aA R:=bif decide (e<(f.length:ax))then bif decide (0<=e)&&decide (e<(f.length:ax))then bif bW (bz (ar f e.toNat 0)).toList (aC a)then k0 a e e f else g a d (bG (e+1)) f else aj else k1 a d e f
def l2(N:aE)(k0 k1:my R):aE->my R
 |0=>λ_ _ _ _=>aj
 |n+1=>r2 N (l2 N k0 k1 n) k0 k1
def b(N:aE)(kr:ax->aA R)(a:aQ)(d:aq):aA R:=l2 N (λ_ e _ _=>kr e) (λ_ _ _ _=>kr (-1)) N d 0 0 a
def vo:=b Lib.cJ λr0=>ah r0
def c:=λa d=>(vo a d).isSome
def v:=λa d=>(vo a d).getD (0)
theorem out{x}:∀a d,vo a d=ah x->c a d=ai/\v a d=x:=λ_ _=>Lib.c5
end kE

namespace lu
def r9(N:aE)(g k0:lX R)(a:ax)(d:aQ)(e f:aq)(h:ax)(i:aQ):aA R:=bif decide (a<(d.length:ax))then bif decide (0<=a)&&decide (a<(d.length:ax))then bif !(b9 (bz (ar d a.toNat 0)).toList (aC e)||List.beq (bz (ar d a.toNat 0)).toList (aC e))then bif decide (0<=a)&&decide (a<(d.length:ax))then bif cw (i.length+(aD (aP [Ck.s,Ck.s,Ck.i ao] 1) 0 [.s (bz (ar d a.toNat 0)), .s (bz (ar d a.toNat 1)), .i .i64 (bE (ar d a.toNat (1+1)))]).length) 40 then g (bG (a+1)) d e f h (i++aD (aP [Ck.s,Ck.s,Ck.i ao] 1) 0 [.s (bz (ar d a.toNat 0)), .s (bz (ar d a.toNat 1)), .i .i64 (bE (ar d a.toNat (1+1)))])else aj else aj else g (bG (a+1)) d e f h i else aj else k0 a d e f h i
def l9(N:aE)(k0:lX R):aE->lX R
 |0=>λ_ _ _ _ _ _=>aj
 |n+1=>r9 N (l9 N k0 n) k0
def r3(N:aE)(g:ry R)(g1:lX R)(k0:ry R)(k1:lX R)(a:ax)(d:aQ)(e f:aq)(h:ax):aA R:=bif decide (a<(d.length:ax))then bif decide (0<=a)&&decide (a<(d.length:ax))then bif b9 (bz (ar d a.toNat 0)).toList (aC e)then bif decide (0<=a)&&decide (a<(d.length:ax))then g1 (bG (a+1)) d e f h ([]++aD (aP [Ck.s,Ck.s,Ck.i ao] 1) 0 [.s (bz (ar d a.toNat 0)), .s (bz (ar d a.toNat 1)), .i .i64 (bE (ar d a.toNat (1+1)))])else aj else g (bG (a+1)) d e f h else aj else k0 a d e f h
def zZ(N:aE)(g:ry R)(g1:lX R)(k0:ry R)(k1:lX R)(a:ax)(d:aQ)(e f:aq)(h:ax)(i:aQ):aA R:=bif decide (a<(d.length:ax))then bif decide (0<=a)&&decide (a<(d.length:ax))then bif b9 (bz (ar d a.toNat 0)).toList (aC e)then bif decide (0<=a)&&decide (a<(d.length:ax))then bif cw (i.length+(aD (aP [Ck.s,Ck.s,Ck.i ao] 1) 0 [.s (bz (ar d a.toNat 0)), .s (bz (ar d a.toNat 1)), .i .i64 (bE (ar d a.toNat (1+1)))]).length) 40 then g1 (bG (a+1)) d e f h (i++aD (aP [Ck.s,Ck.s,Ck.i ao] 1) 0 [.s (bz (ar d a.toNat 0)), .s (bz (ar d a.toNat 1)), .i .i64 (bE (ar d a.toNat (1+1)))])else aj else aj else g1 (bG (a+1)) d e f h i else aj else k1 a d e f h i
def sR(N:aE)(k0:ry R)(k1:lX R):aE->lX R
 |0=>λ_ _ _ _ _ _=>aj
 |n+1=>zZ N (λx0 x1 x2 x3 x4=>aj) (sR N k0 k1 n) k0 k1
def l3(N:aE)(k0:ry R)(k1:lX R):aE->ry R
 |0=>λ_ _ _ _ _=>aj
 |n+1=>r3 N (l3 N k0 k1 n) (sR N k0 k1 n) k0 k1
def b(N:aE)(kr:aQ->aA R)(a:aQ)(d e:aq)(f:ax):aA R:=l3 N (λ_ h i j l=>l9 N (λ_ _ _ _ _ m=>kr m) N 0 h i j l ([]++aD (aP [Ck.s,Ck.s,Ck.i ao] 1) 0 [.s i, .s j, .i .i64 l])) (λ_ h i j l m=>bif cw (m.length+(aD (aP [Ck.s,Ck.s,Ck.i ao] 1) 0 [.s i, .s j, .i .i64 l]).length) 40 then l9 N (λ_ _ _ _ _ o=>kr o) N 0 h i j l (m++aD (aP [Ck.s,Ck.s,Ck.i ao] 1) 0 [.s i, .s j, .i .i64 l])else aj) N 0 a d e f
def vo:=b Lib.cJ λr0=>ah r0
def c:=λa d e f=>(vo a d e f).isSome
def v:=λa d e f=>(vo a d e f).getD ([])
theorem out{x}:∀a d e f,vo a d e f=ah x->c a d e f=ai/\v a d e f=x:=λ_ _ _ _=>Lib.c5
end lu

namespace mP
def r3(N:aE)(g:ox R)(g1:tf R)(k0:ox R)(k1:tf R)(a:aq)(d:ax)(e:aQ):aA R:=bif decide (d<(e.length:ax))then bif decide (0<=d)&&decide (d<(e.length:ax))then bif !List.beq (bz (ar e d.toNat 0)).toList (aC a)then bif decide (0<=d)&&decide (d<(e.length:ax))then g1 a (bG (d+1)) e ([]++aD (aP [Ck.s,Ck.s,Ck.i ao] 1) 0 [.s (bz (ar e d.toNat 0)), .s (bz (ar e d.toNat 1)), .i .i64 (bE (ar e d.toNat (1+1)))])else aj else g a (bG (d+1)) e else aj else k0 a d e
def zZ(N:aE)(g:ox R)(g1:tf R)(k0:ox R)(k1:tf R)(a:aq)(d:ax)(e f:aQ):aA R:=bif decide (d<(e.length:ax))then bif decide (0<=d)&&decide (d<(e.length:ax))then bif !List.beq (bz (ar e d.toNat 0)).toList (aC a)then bif decide (0<=d)&&decide (d<(e.length:ax))then bif cw (f.length+(aD (aP [Ck.s,Ck.s,Ck.i ao] 1) 0 [.s (bz (ar e d.toNat 0)), .s (bz (ar e d.toNat 1)), .i .i64 (bE (ar e d.toNat (1+1)))]).length) 40 then g1 a (bG (d+1)) e (f++aD (aP [Ck.s,Ck.s,Ck.i ao] 1) 0 [.s (bz (ar e d.toNat 0)), .s (bz (ar e d.toNat 1)), .i .i64 (bE (ar e d.toNat (1+1)))])else aj else aj else g1 a (bG (d+1)) e f else aj else k1 a d e f
def sR(N:aE)(k0:ox R)(k1:tf R):aE->tf R
 |0=>λ_ _ _ _=>aj
 |n+1=>zZ N (λx0 x1 x2=>aj) (sR N k0 k1 n) k0 k1
def l3(N:aE)(k0:ox R)(k1:tf R):aE->ox R
 |0=>λ_ _ _=>aj
 |n+1=>r3 N (l3 N k0 k1 n) (sR N k0 k1 n) k0 k1
def b(N:aE)(kr:aQ->aA R)(a:aQ)(d:aq):aA R:=l3 N (λ_ _ _=>kr []) (λ_ _ _ e=>kr e) N d 0 a
def vo:=b Lib.cJ λr0=>ah r0
def c:=λa d=>(vo a d).isSome
def v:=λa d=>(vo a d).getD ([])
theorem out{x}:∀a d,vo a d=ah x->c a d=ai/\v a d=x:=λ_ _=>Lib.c5
end mP

namespace Ci
abbrev h0{R:Type}(kr:AU R)(a:aQ)(d:ax)(e f h:aq):aA R:=bif kE.c a e then Lib.lt (kE.v a e) λi=>bif decide (i≥0)then bif decide (0<=i)&&decide (i<(a.length:ax))then bif decide (d=1)then bif decide ((bz (ar a i.toNat 1)).size+f.size<=4611686018427387904)then bif lu.c a (bz (ar a i.toNat 0)) (bz (ar a i.toNat 1)++f) (bE (ar a i.toNat (1+1)))then Lib.lt (lu.v a (bz (ar a i.toNat 0)) (bz (ar a i.toNat 1)++f) (bE (ar a i.toNat (1+1)))) λj=>bif lG.c j then bif !lG.v j then kr [] ak else kr j ai else aj else aj else aj else bif decide (i<0)then kr [] ak else bif decide (d=2)then bif lu.c a (bz (ar a i.toNat 0)) (bz (ar a i.toNat 1)) ((bz (ar a i.toNat 1)).size:ax)then Lib.lt (lu.v a (bz (ar a i.toNat 0)) (bz (ar a i.toNat 1)) ((bz (ar a i.toNat 1)).size:ax)) λj=>bif lG.c j then bif !lG.v j then kr [] ak else kr j ai else aj else aj else bif decide (d=3)then bif decide (bE (ar a i.toNat (1+1))<((bz (ar a i.toNat 1)).size:ax))then kr [] ak else bif bW (aC h) (aC e)then kr [] ak else bif !vV.v h then kr [] ak else bif mP.c a e then bif lu.c (mP.v a e) h (bz (ar a i.toNat 1)) (bE (ar a i.toNat (1+1)))then bif lG.c (lu.v (mP.v a e) h (bz (ar a i.toNat 1)) (bE (ar a i.toNat (1+1))))then bif !lG.v (lu.v (mP.v a e) h (bz (ar a i.toNat 1)) (bE (ar a i.toNat (1+1))))then kr [] ak else kr (lu.v (mP.v a e) h (bz (ar a i.toNat 1)) (bE (ar a i.toNat (1+1)))) ai else aj else aj else aj else bif decide (d=4)then bif mP.c a e then bif lG.c (mP.v a e)then bif !lG.v (mP.v a e)then kr [] ak else kr (mP.v a e) ai else aj else aj else kr [] ak else aj else bif decide (d=1)then bif decide (eu ⟨#[]⟩+f.size<=4611686018427387904)then bif lu.c a e ({data:= #[]}++f) 0 then bif lG.c (lu.v a e ({data:= #[]}++f) 0)then bif !lG.v (lu.v a e ({data:= #[]}++f) 0)then kr [] ak else kr (lu.v a e ({data:= #[]}++f) 0) ai else aj else aj else aj else bif decide (i<0)then kr [] ak else bif decide (d=2)then bif lu.c a e ⟨#[]⟩ (eu ⟨#[]⟩:ax)then bif lG.c (lu.v a e ⟨#[]⟩ (eu ⟨#[]⟩:ax))then bif !lG.v (lu.v a e ⟨#[]⟩ (eu ⟨#[]⟩:ax))then kr [] ak else kr (lu.v a e ⟨#[]⟩ (eu ⟨#[]⟩:ax)) ai else aj else aj else bif decide (d=3)then bif bW (aC h) (aC e)then kr [] ak else bif !vV.v h then kr [] ak else bif mP.c a e then bif lu.c (mP.v a e) h ⟨#[]⟩ 0 then bif lG.c (lu.v (mP.v a e) h ⟨#[]⟩ 0)then bif !lG.v (lu.v (mP.v a e) h ⟨#[]⟩ 0)then kr [] ak else kr (lu.v (mP.v a e) h ⟨#[]⟩ 0) ai else aj else aj else aj else bif decide (d=4)then bif mP.c a e then bif lG.c (mP.v a e)then bif !lG.v (mP.v a e)then kr [] ak else kr (mP.v a e) ai else aj else aj else kr [] ak else aj
def b(kr:AU R)(a:aQ)(d:ax)(e f h:aq):aA R:=bif lG.c a then bif !lG.v a then kr [] ak else bif !vV.v e then kr [] ak else bif d !=3 then bif !List.beq (aC h) (aC ⟨#[]⟩)then kr [] ak else bif d !=1 then bif !List.beq (aC f) (aC ⟨#[]⟩)then kr [] ak else h0 kr a d e f h else h0 kr a d e f h else bif d !=1 then bif !List.beq (aC f) (aC ⟨#[]⟩)then kr [] ak else h0 kr a d e f h else h0 kr a d e f h else aj
def vo:=b λr0 r1=>ah (r0,r1)
def c:=λa d e f h=>(vo a d e f h).isSome
def v:=λa d e f h=>(vo a d e f h).getD ([],ak)
theorem out{x}:∀a d e f h,vo a d e f h=ah x->c a d e f h=ai/\v a d e f h=x:=λ_ _ _ _ _=>Lib.c5
end Ci

namespace qn
def r3(N:aE)(g k0 k1:qf R)(a:aQ)(d e:ax)(f:aQ):aA R:=bif decide (e<(a.length:ax))then bif decide (0<=e)&&decide (e<(a.length:ax))then bif Ci.c f (bE (ar a e.toNat 0)) (bz (ar a e.toNat 1)) (bz (ar a e.toNat (1+1))) (bz (ar a e.toNat (1+1+1)))then bif !(Ci.v f (bE (ar a e.toNat 0)) (bz (ar a e.toNat 1)) (bz (ar a e.toNat (1+1))) (bz (ar a e.toNat (1+1+1)))).2 then k0 a e e f else g a d (bG (e+1)) (Ci.v f (bE (ar a e.toNat 0)) (bz (ar a e.toNat 1)) (bz (ar a e.toNat (1+1))) (bz (ar a e.toNat (1+1+1)))).1 else aj else aj else k1 a d e f
def l3(N:aE)(k0 k1:qf R):aE->qf R
 |0=>λ_ _ _ _=>aj
 |n+1=>r3 N (l3 N k0 k1 n) k0 k1
def b(N:aE)(kr:sK R)(a d:aQ):aA R:=bif cw ((aP [Ck.s,Ck.s,Ck.i ao] 0).length+a.length) 40 then l3 N (λ_ e _ f=>kr f e) (λe _ _ f=>kr f (e.length:ax)) N d 0 0 (aP [Ck.s,Ck.s,Ck.i ao] 0++a)else aj
def vo:=b Lib.cJ λr0 r1=>ah (r0,r1)
def c:=λa d=>(vo a d).isSome
def v:=λa d=>(vo a d).getD ([],0)
theorem out{x}:∀a d,vo a d=ah x->c a d=ai/\v a d=x:=λ_ _=>Lib.c5
end qn

namespace A_
def b(kr:ax->aA R)(a:aU):aA R:=bif a then kr 0 else kr 1
def v(a0:aU):ax:=bif a0 then 0 else 1
theorem eh(kr:ax->aA R)(a0:aU):b kr a0=kr (v a0):=by first|rfl|(unfold b v;simp only[cz];(repeat' split)<;>rfl)
end A_

namespace D8
def b(kr:j_ R)(a:ax)(d e f h:aQ)(i:ax)(j l:aQ)(m:ax)(o p q:aQ)(r s:ax)(t:aq)(u:ax)(w:aQ):aA R:=bif Ea.c a d e f h i j l m s (cF u 1000000)then Lib.lt (Ea.v a d e f h i j l m s (cF u 1000000)) λy=>bif y.2.2.2.2.2.2.2.2.2 then bif decide (cF u 1000000>0)then bif decide (0<=s)&&decide (s<(y.2.2.2.2.2.2.1.length:ax))then bif cw ((aP [Ck.s,Ck.i ao,Ck.i ao,Ck.s] 0).length+q.length) 48 then bif cw ((aP [Ck.s,Ck.i ao,Ck.i ao,Ck.s] 0++q).length+(aD (aP [Ck.s,Ck.i ao,Ck.i ao,Ck.s] 1) 0 [.s (bz (ar y.2.2.2.2.2.2.1 s.toNat 0)), .i .i64 (bE (ar y.2.2.2.2.2.2.1 s.toNat (1+1+1+1))), .i .i64 (bE (ar y.2.2.2.2.2.2.1 s.toNat (1+1+1))), .s (bz (ar y.2.2.2.2.2.2.1 s.toNat 1))]).length) 48 then bif Eb.c (bz (ar y.2.2.2.2.2.2.1 s.toNat 0)) (bE (ar y.2.2.2.2.2.2.1 s.toNat (1+1+1+1))) (bE (ar y.2.2.2.2.2.2.1 s.toNat (1+1+1))) (bz (ar y.2.2.2.2.2.2.1 s.toNat 1))then Lib.lt (Eb.v (bz (ar y.2.2.2.2.2.2.1 s.toNat 0)) (bE (ar y.2.2.2.2.2.2.1 s.toNat (1+1+1+1))) (bE (ar y.2.2.2.2.2.2.1 s.toNat (1+1+1))) (bz (ar y.2.2.2.2.2.2.1 s.toNat 1))) λz=>bif z.2 then bif qn.c o z.1 then Lib.lt (qn.v o z.1) λα=>kr (A_.v y.2.2.2.2.2.2.2.2.2) y.1 y.2.1 y.2.2.1 y.2.2.2.1 y.2.2.2.2.1 y.2.2.2.2.2.1 y.2.2.2.2.2.2.1 y.2.2.2.2.2.2.2.1 y.2.2.2.2.2.2.2.2.1 α.1 p (aP [Ck.s,Ck.i ao,Ck.i ao,Ck.s] 0++q++aD (aP [Ck.s,Ck.i ao,Ck.i ao,Ck.s] 1) 0 [.s (bz (ar y.2.2.2.2.2.2.1 s.toNat 0)), .i .i64 (bE (ar y.2.2.2.2.2.2.1 s.toNat (1+1+1+1))), .i .i64 (bE (ar y.2.2.2.2.2.2.1 s.toNat (1+1+1))), .s (bz (ar y.2.2.2.2.2.2.1 s.toNat 1))])else aj else kr (A_.v y.2.2.2.2.2.2.2.2.2) y.1 y.2.1 y.2.2.1 y.2.2.2.1 y.2.2.2.2.1 y.2.2.2.2.2.1 y.2.2.2.2.2.2.1 y.2.2.2.2.2.2.2.1 y.2.2.2.2.2.2.2.2.1 o p (aP [Ck.s,Ck.i ao,Ck.i ao,Ck.s] 0++q++aD (aP [Ck.s,Ck.i ao,Ck.i ao,Ck.s] 1) 0 [.s (bz (ar y.2.2.2.2.2.2.1 s.toNat 0)), .i .i64 (bE (ar y.2.2.2.2.2.2.1 s.toNat (1+1+1+1))), .i .i64 (bE (ar y.2.2.2.2.2.2.1 s.toNat (1+1+1))), .s (bz (ar y.2.2.2.2.2.2.1 s.toNat 1))])else aj else aj else aj else aj else kr (A_.v y.2.2.2.2.2.2.2.2.2) y.1 y.2.1 y.2.2.1 y.2.2.2.1 y.2.2.2.2.1 y.2.2.2.2.2.1 y.2.2.2.2.2.2.1 y.2.2.2.2.2.2.2.1 y.2.2.2.2.2.2.2.2.1 o p q else kr (A_.v y.2.2.2.2.2.2.2.2.2) y.1 y.2.1 y.2.2.1 y.2.2.2.1 y.2.2.2.2.1 y.2.2.2.2.2.1 y.2.2.2.2.2.2.1 y.2.2.2.2.2.2.2.1 y.2.2.2.2.2.2.2.2.1 o p q else aj
def vo:=b λr0 r1 r2 r3 r4 r5 r6 r7 r8 r9 AG wG Qq=>ah (r0,r1,r2,r3,r4,r5,r6,r7,r8,r9,AG,wG,Qq)
def c:=λa d e f h i j l m o p q r s t u w=>(vo a d e f h i j l m o p q r s t u w).isSome
def v:=λa d e f h i j l m o p q r s t u w=>(vo a d e f h i j l m o p q r s t u w).getD (0,0,[],[],[],[],0,[],[],0,[],[],[])
theorem out{x}:∀a d e f h i j l m o p q r s t u w,vo a d e f h i j l m o p q r s t u w=ah x->c a d e f h i j l m o p q r s t u w=ai/\v a d e f h i j l m o p q r s t u w=x:=λ_ _ _ _ _ _ _ _ _ _ _ _ _ _ _ _ _=>Lib.c5
end D8

namespace D9
def b(kr:k_ R)(a:ax)(d e f h:aQ)(i:ax)(j l:aQ)(m o:ax):aA R:=bif fI.c a d e f h i j l m then Lib.lt (fI.v a d e f h i j l m) λp=>bif vh.c a d e f h i j l m o then Lib.lt (vh.v a d e f h i j l m o) λq=>bif !q then kr p.1 p.2.1 p.2.2.1 p.2.2.2.1 p.2.2.2.2.1 p.2.2.2.2.2.1 p.2.2.2.2.2.2.1 p.2.2.2.2.2.2.2.1 p.2.2.2.2.2.2.2.2 ak else bif decide (0<=o)&&decide (o<(p.2.2.2.2.2.2.1.length:ax))then bif sO.c p.1 p.2.1 p.2.2.1 p.2.2.2.1 p.2.2.2.2.1 p.2.2.2.2.2.1 (eC p.2.2.2.2.2.2.1 o.toNat 2 [.i .i64 3]) p.2.2.2.2.2.2.2.1 p.2.2.2.2.2.2.2.2 o 3 then Lib.lt (sO.v p.1 p.2.1 p.2.2.1 p.2.2.2.1 p.2.2.2.2.1 p.2.2.2.2.2.1 (eC p.2.2.2.2.2.2.1 o.toNat 2 [.i .i64 3]) p.2.2.2.2.2.2.2.1 p.2.2.2.2.2.2.2.2 o 3) λr=>kr r.1 r.2.1 r.2.2.1 r.2.2.2.1 r.2.2.2.2.1 r.2.2.2.2.2.1 r.2.2.2.2.2.2.1 r.2.2.2.2.2.2.2.1 r.2.2.2.2.2.2.2.2 ai else aj else aj else aj else aj
def vo:=b λr0 r1 r2 r3 r4 r5 r6 r7 r8 r9=>ah (r0,r1,r2,r3,r4,r5,r6,r7,r8,r9)
def c:=λa d e f h i j l m o=>(vo a d e f h i j l m o).isSome
def v:=λa d e f h i j l m o=>(vo a d e f h i j l m o).getD (0,[],[],[],[],0,[],[],0,ak)
theorem out{x}:∀a d e f h i j l m o,vo a d e f h i j l m o=ah x->c a d e f h i j l m o=ai/\v a d e f h i j l m o=x:=λ_ _ _ _ _ _ _ _ _ _=>Lib.c5
end D9

namespace qI
def b(kr:dY R)(a:ax)(d e f h:aQ)(i:ax)(j l:aQ)(m o:ax):aA R:=bif fI.c a d e f h i j l m then bif decide (cF o 1000<0)then bif decide ((fI.v a d e f h i j l m).1>bG (1000000000-bG (cF o 1000+1000)))then kr 1000000000 (fI.v a d e f h i j l m).2.1 (fI.v a d e f h i j l m).2.2.1 (fI.v a d e f h i j l m).2.2.2.1 (fI.v a d e f h i j l m).2.2.2.2.1 (fI.v a d e f h i j l m).2.2.2.2.2.1 (fI.v a d e f h i j l m).2.2.2.2.2.2.1 (fI.v a d e f h i j l m).2.2.2.2.2.2.2.1 (fI.v a d e f h i j l m).2.2.2.2.2.2.2.2 else kr (bG ((fI.v a d e f h i j l m).1+bG (cF o 1000+1000))) (fI.v a d e f h i j l m).2.1 (fI.v a d e f h i j l m).2.2.1 (fI.v a d e f h i j l m).2.2.2.1 (fI.v a d e f h i j l m).2.2.2.2.1 (fI.v a d e f h i j l m).2.2.2.2.2.1 (fI.v a d e f h i j l m).2.2.2.2.2.2.1 (fI.v a d e f h i j l m).2.2.2.2.2.2.2.1 (fI.v a d e f h i j l m).2.2.2.2.2.2.2.2 else bif decide ((fI.v a d e f h i j l m).1>bG (1000000000-cF o 1000))then kr 1000000000 (fI.v a d e f h i j l m).2.1 (fI.v a d e f h i j l m).2.2.1 (fI.v a d e f h i j l m).2.2.2.1 (fI.v a d e f h i j l m).2.2.2.2.1 (fI.v a d e f h i j l m).2.2.2.2.2.1 (fI.v a d e f h i j l m).2.2.2.2.2.2.1 (fI.v a d e f h i j l m).2.2.2.2.2.2.2.1 (fI.v a d e f h i j l m).2.2.2.2.2.2.2.2 else kr (bG ((fI.v a d e f h i j l m).1+cF o 1000)) (fI.v a d e f h i j l m).2.1 (fI.v a d e f h i j l m).2.2.1 (fI.v a d e f h i j l m).2.2.2.1 (fI.v a d e f h i j l m).2.2.2.2.1 (fI.v a d e f h i j l m).2.2.2.2.2.1 (fI.v a d e f h i j l m).2.2.2.2.2.2.1 (fI.v a d e f h i j l m).2.2.2.2.2.2.2.1 (fI.v a d e f h i j l m).2.2.2.2.2.2.2.2 else aj
def vo:=b λr0 r1 r2 r3 r4 r5 r6 r7 r8=>ah (r0,r1,r2,r3,r4,r5,r6,r7,r8)
def c:=λa d e f h i j l m o=>(vo a d e f h i j l m o).isSome
def v:=λa d e f h i j l m o=>(vo a d e f h i j l m o).getD (0,[],[],[],[],0,[],[],0)
theorem out{x}:∀a d e f h i j l m o,vo a d e f h i j l m o=ah x->c a d e f h i j l m o=ai/\v a d e f h i j l m o=x:=λ_ _ _ _ _ _ _ _ _ _=>Lib.c5
end qI

namespace tn
def r4(N:aE)(g k0:gY R)(a d e:ax)(f h i j:aQ)(l:ax)(m o:aQ)(p q r s t u w:ax)(y z α xa xb xc:aQ):aA R:=bif decide (d<(o.length:ax))then bif decide (0<=d)&&decide (d<(o.length:ax))then bif bE (ar o d.toNat 0) !=a then bif decide (0<=d)&&decide (d<(o.length:ax))then bif cw (xc.length+(aD (aP [Ck.i ao,Ck.s,Ck.i ao,Ck.i ao,Ck.i ao,Ck.s,Ck.i ao] 1) 0 [.i .i64 (bE (ar o d.toNat 0)), .s (bz (ar o d.toNat 1)), .i .i64 (bE (ar o d.toNat (1+1))), .i .i64 (bE (ar o d.toNat (1+1+1))), .i .i64 (bE (ar o d.toNat (1+1+1+1))), .s (bz (ar o d.toNat (1+1+1+1+1))), .i .i64 (bE (ar o d.toNat (1+1+1+1+1+1)))]).length) 72 then g a (bG (d+1)) e f h i j l m o p q r s t u w y z α xa xb (xc++aD (aP [Ck.i ao,Ck.s,Ck.i ao,Ck.i ao,Ck.i ao,Ck.s,Ck.i ao] 1) 0 [.i .i64 (bE (ar o d.toNat 0)), .s (bz (ar o d.toNat 1)), .i .i64 (bE (ar o d.toNat (1+1))), .i .i64 (bE (ar o d.toNat (1+1+1))), .i .i64 (bE (ar o d.toNat (1+1+1+1))), .s (bz (ar o d.toNat (1+1+1+1+1))), .i .i64 (bE (ar o d.toNat (1+1+1+1+1+1)))])else aj else aj else g a (bG (d+1)) e f h i j l m o p q r s t u w y z α xa xb xc else aj else k0 a d e f h i j l m o p q r s t u w y z α xa xb xc
def l4(N:aE)(k0:gY R):aE->gY R
 |0=>λ_ _ _ _ _ _ _ _ _ _ _ _ _ _ _ _ _ _ _ _ _ _ _=>aj
 |n+1=>r4 N (l4 N k0 n) k0
def b(N:aE)(kr:dY R)(a:ax)(d e f h:aQ)(i:ax)(j l:aQ)(m o:ax):aA R:=bif fI.c a d e f h i j l m then l4 N (λ_ _ _ _ _ _ _ _ _ _ _ _ _ _ p q r s t u w y z=>kr p s t u w q y z r) N o 0 a d e f h i j l m 0 0 0 (fI.v a d e f h i j l m).1 (fI.v a d e f h i j l m).2.2.2.2.2.1 (fI.v a d e f h i j l m).2.2.2.2.2.2.2.2 (fI.v a d e f h i j l m).2.1 (fI.v a d e f h i j l m).2.2.1 (fI.v a d e f h i j l m).2.2.2.1 (fI.v a d e f h i j l m).2.2.2.2.1 (fI.v a d e f h i j l m).2.2.2.2.2.2.1 (aP [Ck.i ao,Ck.s,Ck.i ao,Ck.i ao,Ck.i ao,Ck.s,Ck.i ao] 0)else aj
def vo:=b Lib.cJ λr0 r1 r2 r3 r4 r5 r6 r7 r8=>ah (r0,r1,r2,r3,r4,r5,r6,r7,r8)
def c:=λa d e f h i j l m o=>(vo a d e f h i j l m o).isSome
def v:=λa d e f h i j l m o=>(vo a d e f h i j l m o).getD (0,[],[],[],[],0,[],[],0)
theorem out{x}:∀a d e f h i j l m o,vo a d e f h i j l m o=ah x->c a d e f h i j l m o=ai/\v a d e f h i j l m o=x:=λ_ _ _ _ _ _ _ _ _ _=>Lib.c5
end tn

namespace w8
def r5(N:aE)(g:wM R)(g1:vK R)(k0:wM R)(k1:vK R)(a:aQ)(d:ax)(e:aQ):aA R:=bif decide (d<(e.length:ax))then bif decide (0<=d)&&decide (d<(e.length:ax))then bif decide (d<(a.length:ax))then bif decide (0<=d)&&decide (d<(a.length:ax))then bif decide (bE (ar a d.toNat 0)>((bz (ar e d.toNat 1)).size:ax))then bif decide (((bz (ar e d.toNat 1)).size:ax)<bE (ar e d.toNat (1+1)))then bif ic 0 (bE (ar e d.toNat (1+1))) ((bz (ar e d.toNat 1)).size:ax)then g1 a (bG (d+1)) e ([]++aD (aP [Ck.s,Ck.s,Ck.i ao] 1) 0 [.s (bz (ar e d.toNat 0)), .s (bK (bz (ar e d.toNat 1)) (aZ 0) (bE (ar e d.toNat (1+1))).toNat), .i .i64 (bE (ar e d.toNat (1+1)))])else aj else bif ic 0 ((bz (ar e d.toNat 1)).size:ax) ((bz (ar e d.toNat 1)).size:ax)then g1 a (bG (d+1)) e ([]++aD (aP [Ck.s,Ck.s,Ck.i ao] 1) 0 [.s (bz (ar e d.toNat 0)), .s (bK (bz (ar e d.toNat 1)) (aZ 0) ((bz (ar e d.toNat 1)).size:ax).toNat), .i .i64 ((bz (ar e d.toNat 1)).size:ax)])else aj else bif decide (bE (ar a d.toNat 0)<bE (ar e d.toNat (1+1)))then bif ic 0 (bE (ar e d.toNat (1+1))) ((bz (ar e d.toNat 1)).size:ax)then g1 a (bG (d+1)) e ([]++aD (aP [Ck.s,Ck.s,Ck.i ao] 1) 0 [.s (bz (ar e d.toNat 0)), .s (bK (bz (ar e d.toNat 1)) (aZ 0) (bE (ar e d.toNat (1+1))).toNat), .i .i64 (bE (ar e d.toNat (1+1)))])else aj else bif ic 0 (bE (ar a d.toNat 0)) ((bz (ar e d.toNat 1)).size:ax)then g1 a (bG (d+1)) e ([]++aD (aP [Ck.s,Ck.s,Ck.i ao] 1) 0 [.s (bz (ar e d.toNat 0)), .s (bK (bz (ar e d.toNat 1)) (aZ 0) (bE (ar a d.toNat 0)).toNat), .i .i64 (bE (ar a d.toNat 0))])else aj else aj else bif decide (0<bE (ar e d.toNat (1+1)))then bif ic 0 (bE (ar e d.toNat (1+1))) ((bz (ar e d.toNat 1)).size:ax)then g1 a (bG (d+1)) e ([]++aD (aP [Ck.s,Ck.s,Ck.i ao] 1) 0 [.s (bz (ar e d.toNat 0)), .s (bK (bz (ar e d.toNat 1)) (aZ 0) (bE (ar e d.toNat (1+1))).toNat), .i .i64 (bE (ar e d.toNat (1+1)))])else aj else g1 a (bG (d+1)) e ([]++aD (aP [Ck.s,Ck.s,Ck.i ao] 1) 0 [.s (bz (ar e d.toNat 0)), .s (bK (bz (ar e d.toNat 1)) (aZ 0) (aZ 0)), .i .i64 0])else aj else k0 a d e
def r5a(N:aE)(g:wM R)(g1:vK R)(k0:wM R)(k1:vK R)(a:aQ)(d:ax)(e f:aQ):aA R:=bif decide (d<(e.length:ax))then bif decide (0<=d)&&decide (d<(e.length:ax))then bif decide (d<(a.length:ax))then bif decide (0<=d)&&decide (d<(a.length:ax))then bif decide (bE (ar a d.toNat 0)>((bz (ar e d.toNat 1)).size:ax))then bif decide (((bz (ar e d.toNat 1)).size:ax)<bE (ar e d.toNat (1+1)))then bif ic 0 (bE (ar e d.toNat (1+1))) ((bz (ar e d.toNat 1)).size:ax)then bif cw (f.length+(aD (aP [Ck.s,Ck.s,Ck.i ao] 1) 0 [.s (bz (ar e d.toNat 0)), .s (bK (bz (ar e d.toNat 1)) (aZ 0) (bE (ar e d.toNat (1+1))).toNat), .i .i64 (bE (ar e d.toNat (1+1)))]).length) 40 then g1 a (bG (d+1)) e (f++aD (aP [Ck.s,Ck.s,Ck.i ao] 1) 0 [.s (bz (ar e d.toNat 0)), .s (bK (bz (ar e d.toNat 1)) (aZ 0) (bE (ar e d.toNat (1+1))).toNat), .i .i64 (bE (ar e d.toNat (1+1)))])else aj else aj else bif ic 0 ((bz (ar e d.toNat 1)).size:ax) ((bz (ar e d.toNat 1)).size:ax)then bif cw (f.length+(aD (aP [Ck.s,Ck.s,Ck.i ao] 1) 0 [.s (bz (ar e d.toNat 0)), .s (bK (bz (ar e d.toNat 1)) (aZ 0) ((bz (ar e d.toNat 1)).size:ax).toNat), .i .i64 ((bz (ar e d.toNat 1)).size:ax)]).length) 40 then g1 a (bG (d+1)) e (f++aD (aP [Ck.s,Ck.s,Ck.i ao] 1) 0 [.s (bz (ar e d.toNat 0)), .s (bK (bz (ar e d.toNat 1)) (aZ 0) ((bz (ar e d.toNat 1)).size:ax).toNat), .i .i64 ((bz (ar e d.toNat 1)).size:ax)])else aj else aj else bif decide (bE (ar a d.toNat 0)<bE (ar e d.toNat (1+1)))then bif ic 0 (bE (ar e d.toNat (1+1))) ((bz (ar e d.toNat 1)).size:ax)then bif cw (f.length+(aD (aP [Ck.s,Ck.s,Ck.i ao] 1) 0 [.s (bz (ar e d.toNat 0)), .s (bK (bz (ar e d.toNat 1)) (aZ 0) (bE (ar e d.toNat (1+1))).toNat), .i .i64 (bE (ar e d.toNat (1+1)))]).length) 40 then g1 a (bG (d+1)) e (f++aD (aP [Ck.s,Ck.s,Ck.i ao] 1) 0 [.s (bz (ar e d.toNat 0)), .s (bK (bz (ar e d.toNat 1)) (aZ 0) (bE (ar e d.toNat (1+1))).toNat), .i .i64 (bE (ar e d.toNat (1+1)))])else aj else aj else bif ic 0 (bE (ar a d.toNat 0)) ((bz (ar e d.toNat 1)).size:ax)then bif cw (f.length+(aD (aP [Ck.s,Ck.s,Ck.i ao] 1) 0 [.s (bz (ar e d.toNat 0)), .s (bK (bz (ar e d.toNat 1)) (aZ 0) (bE (ar a d.toNat 0)).toNat), .i .i64 (bE (ar a d.toNat 0))]).length) 40 then g1 a (bG (d+1)) e (f++aD (aP [Ck.s,Ck.s,Ck.i ao] 1) 0 [.s (bz (ar e d.toNat 0)), .s (bK (bz (ar e d.toNat 1)) (aZ 0) (bE (ar a d.toNat 0)).toNat), .i .i64 (bE (ar a d.toNat 0))])else aj else aj else aj else bif decide (0<bE (ar e d.toNat (1+1)))then bif ic 0 (bE (ar e d.toNat (1+1))) ((bz (ar e d.toNat 1)).size:ax)then bif cw (f.length+(aD (aP [Ck.s,Ck.s,Ck.i ao] 1) 0 [.s (bz (ar e d.toNat 0)), .s (bK (bz (ar e d.toNat 1)) (aZ 0) (bE (ar e d.toNat (1+1))).toNat), .i .i64 (bE (ar e d.toNat (1+1)))]).length) 40 then g1 a (bG (d+1)) e (f++aD (aP [Ck.s,Ck.s,Ck.i ao] 1) 0 [.s (bz (ar e d.toNat 0)), .s (bK (bz (ar e d.toNat 1)) (aZ 0) (bE (ar e d.toNat (1+1))).toNat), .i .i64 (bE (ar e d.toNat (1+1)))])else aj else aj else bif cw (f.length+(aD (aP [Ck.s,Ck.s,Ck.i ao] 1) 0 [.s (bz (ar e d.toNat 0)), .s (bK (bz (ar e d.toNat 1)) (aZ 0) (aZ 0)), .i .i64 0]).length) 40 then g1 a (bG (d+1)) e (f++aD (aP [Ck.s,Ck.s,Ck.i ao] 1) 0 [.s (bz (ar e d.toNat 0)), .s (bK (bz (ar e d.toNat 1)) (aZ 0) (aZ 0)), .i .i64 0])else aj else aj else k1 a d e f
def l5a(N:aE)(k0:wM R)(k1:vK R):aE->vK R
 |0=>λ_ _ _ _=>aj
 |n+1=>r5a N (λx0 x1 x2=>aj) (l5a N k0 k1 n) k0 k1
def l5(N:aE)(k0:wM R)(k1:vK R):aE->wM R
 |0=>λ_ _ _=>aj
 |n+1=>r5 N (l5 N k0 k1 n) (l5a N k0 k1 n) k0 k1
def b(N:aE)(kr:AU R)(a d:aQ):aA R:=bif lG.c a then bif !lG.v a then kr [] ak else l5 N (λ_ _ _=>kr [] ai) (λ_ _ _ e=>kr e ai) N d 0 a else aj
def vo:=b Lib.cJ λr0 r1=>ah (r0,r1)
def c:=λa d=>(vo a d).isSome
def v:=λa d=>(vo a d).getD ([],ak)
theorem out{x}:∀a d,vo a d=ah x->c a d=ai/\v a d=x:=λ_ _=>Lib.c5
end w8

namespace wb
def b(kr:wN R)(a:aQ)(d:aq):aA R:=bif kE.c a d then bif decide (kE.v a d<0)then kr ⟨#[]⟩ ak else bif decide (0<=kE.v a d)&&decide (kE.v a d<(a.length:ax))then kr (bz (ar a (kE.v a d).toNat 1)) ai else aj else aj
def vo:=b λr0 r1=>ah (r0,r1)
def c:=λa d=>(vo a d).isSome
def v:=λa d=>(vo a d).getD (⟨#[]⟩,ak)
theorem out{x}:∀a d,vo a d=ah x->c a d=ai/\v a d=x:=λ_ _=>Lib.c5
end wb

namespace fS
def r6(N:aE)(g k0 k1:vL R)(a:aq)(d e f:ax)(h:aU)(i j l:ax):aA R:=bif decide (l<(a.size:ax))then bif decide (l<bG (d+5))then bif decide (0<=l)&&decide (l<(a.size:ax))then bif decide (0<=l)&&decide (l<(a.size:ax))then bif decide ((↑(gU a l.toNat):ax)<128)then bif decide (bG (i+bG (cF (bG (↑(gU a l.toNat):ax)) 128*j))>1000000000)then k0 a d 0 0 ak (bG (i+bG (cF (bG (↑(gU a l.toNat):ax)) 128*j))) (bG (j*128)) l else bif kF.c (bG (i+bG (cF (bG (↑(gU a l.toNat):ax)) 128*j)))then bif ic d (bG (l+1)) (a.size:ax)then bif !List.beq (kF.v (bG (i+bG (cF (bG (↑(gU a l.toNat):ax)) 128*j)))).toList (bK a d.toNat (bG (l+1)).toNat).toList then k0 a d 0 0 ak (bG (i+bG (cF (bG (↑(gU a l.toNat):ax)) 128*j))) (bG (j*128)) l else k0 a d (bG (i+bG (cF (bG (↑(gU a l.toNat):ax)) 128*j))) (bG (l+1)) ai (bG (i+bG (cF (bG (↑(gU a l.toNat):ax)) 128*j))) (bG (j*128)) l else aj else aj else g a d e f h (bG (i+bG (cF (bG (↑(gU a l.toNat):ax)) 128*j))) (bG (j*128)) (bG (l+1))else aj else aj else k1 a d e f h i j l else k1 a d e f h i j l
def l6(N:aE)(k0 k1:vL R):aE->vL R
 |0=>λ_ _ _ _ _ _ _ _=>aj
 |n+1=>r6 N (l6 N k0 k1 n) k0 k1
def b(N:aE)(kr:MK R)(a:aq)(d:ax):aA R:=bif !ki.v d 0 (a.size:ax)then kr 0 0 ak else l6 N (λ_ _ e f h _ _ _=>kr e f h) (λ_ _ _ _ _ _ _ _=>kr 0 0 ak) N a d 0 0 ak 0 1 d
def v(cW:aq)(gT:ax):ax×ax×aU:=if 0<=gT/\gT<=cW.size then Lib.rv cW gT.toNat 5 0 0 else(0,0,ak)
theorem eh(kr:MK R)(cW:aq)(gT:ax)(f0:Ez cW):∃N,b N kr cW gT=kr (v cW gT).1 (v cW gT).2.1 (v cW gT).2.2:=by
 refine⟨6, ?_⟩
 unfold b v;by_cases hn:0<=gT/\gT<=cW.size
 ·have e:ki.v gT 0 (cW.size:ax)=true:=by simp[ki.v,hn]
  obtain⟨a,rfl⟩:∃a:aE,gT=(a:ax):=⟨gT.toNat,by omega⟩
  have ha:a<=cW.size:=by omega
  rw[e,bA hn,Lib.dN];have hs:cW.size<=4611686018427387904:=f0;simp only[aY,aw]
  have:=Lib.fE (λm (s:aE×ax)=>l6 6 (λy8 y9 KK wC MH Ir DR Xd=>kr KK wC MH) (λRj DS Gc EI wD KL KM Wz=>kr 0 0 ak) m cW a 0 0 ak s.2 (128^s.1) ((a+s.1:aE):ax)) (λs=>5-s.1) (λs=>s.1<=5/\s.2=Lib.num cW a s.1/\∀i,i<s.1->128<=gU cW (a+i))
   (λs=>kr (Lib.rv cW a (5-s.1) s.1 s.2).1 (Lib.rv cW a (5-s.1) s.1 s.2).2.1 (Lib.rv cW a (5-s.1) s.1 s.2).2.2) (λm s hs5=>by
   obtain⟨j,n⟩:=s
   obtain⟨hj,afW,hge⟩:=hs5
   dsimp only at hj afW hge⊢
   have hb:=Lib.Hj cW (a+j)
   have e5:bG ((a:ax)+5)=((a+5:aE):ax):=by rw[iG (by omega) (by omega)];omega
   by_cases gC:a+j<cW.size
   ·by_cases hj5:j<5
    ·have eb:bG (gU cW (a+j):ax)=(gU cW (a+j):ax):=iG (by omega) (by omega);have em:cF (gU cW (a+j):ax) 128=(gU cW (a+j):ax)%128:=im (by omega);have hp:(128:ax)^j<=268435456/\(1:ax)<=128^j/\(128:ax)^(j+1)=128^j*128:=by
      obtain rfl|rfl|rfl|rfl|rfl:j=0\/j=1\/j=2\/j=3\/j=4:=by omega
      all_goals decide
     have hrg:=Lib.BO cW j a;rw[<-afW]at hrg;have hm0:0<=(gU cW (a+j):ax)%128/\(gU cW (a+j):ax)%128<=127:=by omega
     have hq:0<=(gU cW (a+j):ax)%128*128^j/\(gU cW (a+j):ax)%128*128^j<=127*128^j:=
      ⟨Int.mul_nonneg hm0.1 (by omega),DW hm0.2 (by omega)⟩
     have eq1:bG ((gU cW (a+j):ax)%128*128^j)=(gU cW (a+j):ax)%128*128^j:=iG (by omega) (by omega);have eq2:bG (n+(gU cW (a+j):ax)%128*128^j)=n+(gU cW (a+j):ax)%128*128^j:=iG (by omega) (by omega);have eq3:bG ((128:ax)^j*128)=128^(j+1):=by rw[hp.2.2];exact iG (by omega) (by omega)
     have ef:5-j=(5-(j+1))+1:=by omega
     have Yn:n+(gU cW (a+j):ax)%128*128^j=Lib.num cW a (j+1):=by rw[Lib.x_,<-afW]
     have en:bG (((a+j:aE):ax)+1)=((a+(j+1):aE):ax):=Lib.cS gC (by omega);have c2:decide (((a+j:aE):ax)<((a+5:aE):ax))=true:=Lib.NI (by omega)
     have Ym:Lib.rv cW a (5-j) j n=(if(gU cW (a+j):ax)>127 then Lib.rv cW a (5-(j+1)) (j+1) (n+(gU cW (a+j):ax)%128*128^j)
       else if(j>0/\gU cW (a+j)=0)\/n+(gU cW (a+j):ax)%128*128^j>1000000000 then(0,0,ak)
       else(n+(gU cW (a+j):ax)%128*128^j,((a+j+1:aE):ax),ai)):=by
      rw[ef];simp only[Lib.rv];rw[bA gC]
     simp only[l6,r6,Lib.NI gC,e5,c2,Lib.cm,Lib.dN,eb,em,eq1,eq2,eq3,en,au,aL];by_cases hc:(gU cW (a+j):ax)<128
     ·left;rw[aG hc,au,Ym,bJ (by omega)];by_cases tK:n+(gU cW (a+j):ax)%128*128^j>1000000000
      ·rw[aG tK,bA (.inr tK)];rfl
      ·have ec:kF.c (n+(gU cW (a+j):ax)%128*128^j)=true:=aG (by omega);have ein:ic (a:ax) ((a+(j+1):aE):ax) (cW.size:ax)=true:=by simp[ic];omega
       rw[aK tK,aw,ec,au,ein,au,Yn];have ath:=Lib.canon cW j a (by omega) hge (by omega) (by rw[<-Yn];omega);unfold kF.v;rw[ath];by_cases hz:j>0/\gU cW (a+j)=0
       ·rw[aG hz,bA (.inl hz)];rfl
       ·rw[aK hz,bJ (by rw[Yn]at tK;omega)];rfl
     ·right;rw[aK hc];refine⟨(j+1,n+(gU cW (a+j):ax)%128*128^j),⟨by dsimp only;omega,Yn,λi hi=> ?_⟩,by dsimp only;omega,by dsimp only;rw[Ym,bA (by omega)],rfl⟩
      by_cases PS:i<j
      ·exact hge i PS
      ·have:i=j:=by dsimp only at hi;omega
       subst this;omega
    ·left;have KG:j=5:=by omega
     subst KG;simp only[l6,r6,Lib.NI gC,e5,Lib.Tc (bk (a+5)),au,aw];rfl
   ·left;have Ym:Lib.rv cW a (5-j) j n=(0,0,ak):=by
     by_cases hj5:j<5
     ·have ef:5-j=(5-(j+1))+1:=by omega
      rw[ef];simp only[Lib.rv];rw[bJ gC]
     ·rw[show 5-j=0 by omega];rfl
    simp only[l6,r6,Lib.Tc gC,aw,Ym]) 6 (0,0) ⟨by dsimp only;omega,rfl,λi hi=>by dsimp only at hi;omega⟩ (by dsimp only;omega)
  exact this
 ·have e:ki.v gT 0 (cW.size:ax)=false:=by simp[ki.v];omega
  rw[e,bJ hn];rfl
end fS

namespace Iy
def r5(N:aE)(g k0 k1:my R)(a:aq)(d e:ax)(f:aQ):aA R:=bif decide (e<(a.size:ax))then bif !(fS.v a e).2.2 then k0 a e e f else bif decide ((fS.v a e).1>bG (bG ((a.size:ax)-(fS.v a e).2.1)-4))then k0 a e e f else bif ic (bG ((fS.v a e).2.1+4)) (bG (bG ((fS.v a e).2.1+4)+(fS.v a e).1)) (a.size:ax)then bif fH.c (bK a (bG ((fS.v a e).2.1+4)).toNat (bG (bG ((fS.v a e).2.1+4)+(fS.v a e).1)).toNat)then bif !(fH.v (bK a (bG ((fS.v a e).2.1+4)).toNat (bG (bG ((fS.v a e).2.1+4)+(fS.v a e).1)).toNat)).2 then k0 a e e f else bif ic e (bG (bG ((fS.v a e).2.1+4)+(fS.v a e).1)) (a.size:ax)then bif !List.beq (fH.v (bK a (bG ((fS.v a e).2.1+4)).toNat (bG (bG ((fS.v a e).2.1+4)+(fS.v a e).1)).toNat)).1.toList (bK a e.toNat (bG (bG ((fS.v a e).2.1+4)+(fS.v a e).1)).toNat).toList then k0 a e e f else bif cw (f.length+(aD (aP [.s] 1) 0 [.s (bK a (bG ((fS.v a e).2.1+4)).toNat (bG (bG ((fS.v a e).2.1+4)+(fS.v a e).1)).toNat)]).length) 16 then g a d (bG (bG ((fS.v a e).2.1+4)+(fS.v a e).1)) (f++aD (aP [.s] 1) 0 [.s (bK a (bG ((fS.v a e).2.1+4)).toNat (bG (bG ((fS.v a e).2.1+4)+(fS.v a e).1)).toNat)])else aj else aj else aj else aj else k1 a d e f
def l5(N:aE)(k0 k1:my R):aE->my R
 |0=>λ_ _ _ _=>aj
 |n+1=>r5 N (l5 N k0 k1 n) k0 k1
def b(N:aE)(kr:sK R)(a:aq):aA R:=bif decide ((a.size:ax)>20000)then kr (aP [.s] 0) 0 else l5 N (λ_ d _ e=>kr e d) (λ_ _ d e=>kr e d) N a 0 0 (aP [.s] 0)
def vo:=b Lib.cJ λr0 r1=>ah (r0,r1)
def c:=λa=>(vo a).isSome
def v:=λa=>(vo a).getD ([],0)
theorem out{x}:∀a,vo a=ah x->c a=ai/\v a=x:=λ_=>Lib.c5
end Iy

namespace ql
def b(kr:MN R)(a:aq)(d:ax):aA R:=bif !(fS.v a d).2.2 then kr ⟨#[]⟩ 0 ak else bif decide ((fS.v a d).1>20000)then kr ⟨#[]⟩ 0 ak else bif decide ((fS.v a d).1>bG ((a.size:ax)-(fS.v a d).2.1))then kr ⟨#[]⟩ 0 ak else bif ic (fS.v a d).2.1 (bG ((fS.v a d).2.1+(fS.v a d).1)) (a.size:ax)then kr (bK a (fS.v a d).2.1.toNat (bG ((fS.v a d).2.1+(fS.v a d).1)).toNat) (bG ((fS.v a d).2.1+(fS.v a d).1)) ai else aj
def v(cW:aq)(gT:ax):aq×ax×aU:=Lib.hZ cW gT
theorem eh(kr:MN R)(cW:aq)(gT:ax)(f0:Ez cW):b kr cW gT=kr (v cW gT).1 (v cW gT).2.1 (v cW gT).2.2:=Lib.vD f0 gT kr
end ql

namespace rM
def b(kr:wO R)(a:aq):aA R:=bif !(ql.v a 0).2.2 then kr ⟨#[]⟩ 0 0 ⟨#[]⟩ ak else bif !(fS.v a (ql.v a 0).2.1).2.2 then kr ⟨#[]⟩ 0 0 ⟨#[]⟩ ak else bif !(fS.v a (fS.v a (ql.v a 0).2.1).2.1).2.2 then kr ⟨#[]⟩ 0 0 ⟨#[]⟩ ak else bif ic (fS.v a (fS.v a (ql.v a 0).2.1).2.1).2.1 (a.size:ax) (a.size:ax)then bif !(jK.v (ql.v a 0).1 (fS.v a (ql.v a 0).2.1).1 (fS.v a (fS.v a (ql.v a 0).2.1).2.1).1 (bK a (fS.v a (fS.v a (ql.v a 0).2.1).2.1).2.1.toNat (a.size:ax).toNat)).2 then kr ⟨#[]⟩ 0 0 ⟨#[]⟩ ak else bif !List.beq (jK.v (ql.v a 0).1 (fS.v a (ql.v a 0).2.1).1 (fS.v a (fS.v a (ql.v a 0).2.1).2.1).1 (bK a (fS.v a (fS.v a (ql.v a 0).2.1).2.1).2.1.toNat (a.size:ax).toNat)).1.toList (aC a)then kr ⟨#[]⟩ 0 0 ⟨#[]⟩ ak else kr (ql.v a 0).1 (fS.v a (ql.v a 0).2.1).1 (fS.v a (fS.v a (ql.v a 0).2.1).2.1).1 (bK a (fS.v a (fS.v a (ql.v a 0).2.1).2.1).2.1.toNat (a.size:ax).toNat) ai else aj
def no:aq×ax×ax×aq×aU:=(⟨#[]⟩,0,0,⟨#[]⟩,ak)
def v(t0:aq):aq×ax×ax×aq×aU:=
 match Lib.hZ t0 0 with
 |(k,a,ai)=>(match Lib.er t0 a with
  |(s,x,ai)=>(match Lib.er t0 x with
   |(l,y,ai)=>if m8.v k s l (t0.extract y.toNat t0.size)=ai then(k,s,l,t0.extract y.toNat t0.size,ai)else no
   |_=>no)
  |_=>no)
 |_=>no
theorem eh(kr:wO R)(t0:aq)(f0:Ez t0):b kr t0=kr (v t0).1 (v t0).2.1 (v t0).2.2.1 (v t0).2.2.2.1 (v t0).2.2.2.2:=by
 have e1:ql.v=Lib.hZ:=rfl;have e2:fS.v=Lib.er:=rfl;unfold b v;simp only[e1,e2,Lib.dN];cases h1:Lib.hZ t0 0 with
 |mk k r1=>
  obtain⟨a,ok1⟩:=r1;cases ok1 with
  |false=>rfl
  |true=>
   dsimp only;cases h2:Lib.er t0 a with
   |mk s r2=>
    obtain⟨x,ok2⟩:=r2;cases ok2 with
    |false=>rfl
    |true=>
     dsimp only;cases h3:Lib.er t0 x with
     |mk l r3=>
      obtain⟨y,ok3⟩:=r3;cases ok3 with
      |false=>rfl
      |true=>
       obtain⟨p1,p2,p3,p4,p5⟩:=Lib.H8 h1;obtain⟨q1,q2,q3,q4,q5,q6⟩:=Lib.j7 h2;obtain⟨r1,r2,r3,r4,r5,r6⟩:=Lib.j7 h3;dsimp only;simp only[aY,aw];rw[Lib.tz (show ic y (t0.size:ax) (t0.size:ax)=ai by simp[ic];omega)];unfold jK.v;cases hE:m8.v k s l (t0.extract y.toNat t0.size)with
       |false=>rfl
       |true=>
        have ht:jK.s5 k s l (t0.extract y.toNat t0.size)=t0:=by unfold jK.s5;rw[p5,q6,Lib.xL t0 (by omega) (by omega),r6,Lib.xL t0 (by omega) (by omega),Lib.xL t0 (by omega) (by omega)];exact Lib.Hr t0
        simp only[if_true,aY,aw,ht,Lib.qK]
end rM

namespace Bv
def r7(N:aE)(g k0:B5 R)(a:ax)(d e:aQ):aA R:=bif decide (a<(e.length:ax))then bif decide (0<=a)&&decide (a<(e.length:ax))then bif(rM.v (bz (ar e a.toNat 0))).2.2.2.2 then bif lU.c d (rM.v (bz (ar e a.toNat 0))).1 (rM.v (bz (ar e a.toNat 0))).2.1 (rM.v (bz (ar e a.toNat 0))).2.2.1 (rM.v (bz (ar e a.toNat 0))).2.2.2.1 then g (bG (a+1)) (lU.v d (rM.v (bz (ar e a.toNat 0))).1 (rM.v (bz (ar e a.toNat 0))).2.1 (rM.v (bz (ar e a.toNat 0))).2.2.1 (rM.v (bz (ar e a.toNat 0))).2.2.2.1) e else aj else g (bG (a+1)) d e else aj else k0 a d e
def l7(N:aE)(k0:B5 R):aE->B5 R
 |0=>λ_ _ _=>aj
 |n+1=>r7 N (l7 N k0 n) k0
def b(N:aE)(kr:aQ->aA R)(a:aQ):aA R:=bif lG.c a then bif !lG.v a then kr (aP [Ck.s,Ck.i ao,Ck.i ao,Ck.s] 0)else bif wb.c a {data:= #[ay 107,ay 101,ay 112,ay 116]}then bif Iy.c (wb.v a {data:= #[ay 107,ay 101,ay 112,ay 116]}).1 then l7 N (λ_ d _=>kr d) N 0 (aP [Ck.s,Ck.i ao,Ck.i ao,Ck.s] 0) (Iy.v (wb.v a {data:= #[ay 107,ay 101,ay 112,ay 116]}).1).1 else aj else aj else aj
def vo:=b Lib.cJ λr0=>ah r0
def c:=λa=>(vo a).isSome
def v:=λa=>(vo a).getD ([])
theorem out{x}:∀a,vo a=ah x->c a=ai/\v a=x:=λ_=>Lib.c5
end Bv

namespace jL
def r9(N:aE)(g:Bn R)(k0:IL R)(k1:Bn R)(a:aQ)(d:aU)(e:aq)(f:ax)(h:aQ):aA R:=bif decide (f<(a.length:ax))then bif decide (0<=f)&&decide (f<(a.length:ax))then bif fH.c (jK.v (bz (ar a f.toNat 0)) (bE (ar a f.toNat 1)) (bE (ar a f.toNat (1+1))) (bz (ar a f.toNat (1+1+1)))).1 then bif !(jK.v (bz (ar a f.toNat 0)) (bE (ar a f.toNat 1)) (bE (ar a f.toNat (1+1))) (bz (ar a f.toNat (1+1+1)))).2 then k0 a ak e f (aP [Ck.i ao,Ck.s,Ck.s,Ck.s] 0) h else bif !(fH.v (jK.v (bz (ar a f.toNat 0)) (bE (ar a f.toNat 1)) (bE (ar a f.toNat (1+1))) (bz (ar a f.toNat (1+1+1)))).1).2 then k0 a ak e f (aP [Ck.i ao,Ck.s,Ck.s,Ck.s] 0) h else bif decide (e.size+(fH.v (jK.v (bz (ar a f.toNat 0)) (bE (ar a f.toNat 1)) (bE (ar a f.toNat (1+1))) (bz (ar a f.toNat (1+1+1)))).1).1.size<=4611686018427387904)then g a d (e++(fH.v (jK.v (bz (ar a f.toNat 0)) (bE (ar a f.toNat 1)) (bE (ar a f.toNat (1+1))) (bz (ar a f.toNat (1+1+1)))).1).1) (bG (f+1)) h else aj else aj else aj else k1 a d e f h
def l9(N:aE)(k0:IL R)(k1:Bn R):aE->Bn R
 |0=>λ_ _ _ _ _=>aj
 |n+1=>r9 N (l9 N k0 k1 n) k0 k1
def b(N:aE)(kr:AU R)(a d:aQ):aA R:=bif lG.c a then bif !lG.v a then kr (aP [Ck.i ao,Ck.s,Ck.s,Ck.s] 0) ak else bif wb.c a {data:= #[ay 110,ay 101,ay 119]}then bif(wb.v a {data:= #[ay 110,ay 101,ay 119]}).2 then l9 N (λ_ e _ _ f _=>kr f e) (λ_ _ e _ f=>bif cw (f.length+(aD (aD (aD (aP [Ck.i ao,Ck.s,Ck.s,Ck.s] 3) 0 [.i .i64 1, .s {data:= #[ay 110,ay 101,ay 119]}, .s e, .s ⟨#[]⟩]) 1 [.i .i64 2, .s {data:= #[ay 110,ay 101,ay 119]}, .s ⟨#[]⟩, .s ⟨#[]⟩]) 2 [.i .i64 3, .s {data:= #[ay 110,ay 101,ay 119]}, .s ⟨#[]⟩, .s {data:= #[ay 107,ay 101,ay 112,ay 116]}]).length) 56 then kr (f++aD (aD (aD (aP [Ck.i ao,Ck.s,Ck.s,Ck.s] 3) 0 [.i .i64 1, .s {data:= #[ay 110,ay 101,ay 119]}, .s e, .s ⟨#[]⟩]) 1 [.i .i64 2, .s {data:= #[ay 110,ay 101,ay 119]}, .s ⟨#[]⟩, .s ⟨#[]⟩]) 2 [.i .i64 3, .s {data:= #[ay 110,ay 101,ay 119]}, .s ⟨#[]⟩, .s {data:= #[ay 107,ay 101,ay 112,ay 116]}]) ai else aj) N d ak ⟨#[]⟩ 0 (aP [Ck.i ao,Ck.s,Ck.s,Ck.s] 0++aD (aP [Ck.i ao,Ck.s,Ck.s,Ck.s] 1) 0 [.i .i64 4, .s {data:= #[ay 110,ay 101,ay 119]}, .s ⟨#[]⟩, .s ⟨#[]⟩])else l9 N (λ_ e _ _ f _=>kr f e) (λ_ _ e _ f=>bif cw (f.length+(aD (aD (aD (aP [Ck.i ao,Ck.s,Ck.s,Ck.s] 3) 0 [.i .i64 1, .s {data:= #[ay 110,ay 101,ay 119]}, .s e, .s ⟨#[]⟩]) 1 [.i .i64 2, .s {data:= #[ay 110,ay 101,ay 119]}, .s ⟨#[]⟩, .s ⟨#[]⟩]) 2 [.i .i64 3, .s {data:= #[ay 110,ay 101,ay 119]}, .s ⟨#[]⟩, .s {data:= #[ay 107,ay 101,ay 112,ay 116]}]).length) 56 then kr (f++aD (aD (aD (aP [Ck.i ao,Ck.s,Ck.s,Ck.s] 3) 0 [.i .i64 1, .s {data:= #[ay 110,ay 101,ay 119]}, .s e, .s ⟨#[]⟩]) 1 [.i .i64 2, .s {data:= #[ay 110,ay 101,ay 119]}, .s ⟨#[]⟩, .s ⟨#[]⟩]) 2 [.i .i64 3, .s {data:= #[ay 110,ay 101,ay 119]}, .s ⟨#[]⟩, .s {data:= #[ay 107,ay 101,ay 112,ay 116]}]) ai else aj) N d ak ⟨#[]⟩ 0 (aP [Ck.i ao,Ck.s,Ck.s,Ck.s] 0)else aj else aj
def vo:=b Lib.cJ λr0 r1=>ah (r0,r1)
def c:=λa d=>(vo a d).isSome
def v:=λa d=>(vo a d).getD ([],ak)
theorem out{x}:∀a d,vo a d=ah x->c a d=ai/\v a d=x:=λ_ _=>Lib.c5
end jL

namespace Ao
def r4(N:aE)(g k0:mV R)(a:ax)(d:aQ)(e f h i j l m:ax)(o p q r s t:aQ):aA R:=bif decide (e<(d.length:ax))then bif decide (0<=e)&&decide (e<(d.length:ax))then bif m8.v (bz (ar d e.toNat 0)) (bE (ar d e.toNat 1)) (bE (ar d e.toNat (1+1))) (bz (ar d e.toNat (1+1+1)))then bif decide (0<=e)&&decide (e<(d.length:ax))then bif zC.v (bz (ar d e.toNat 0)) (bE (ar d e.toNat 1)) (bE (ar d e.toNat (1+1))) (bz (ar d e.toNat (1+1+1))) a then bif decide (0<=e)&&decide (e<(d.length:ax))then bif Pn.c j o p q r l s t m (bz (ar d e.toNat 0)) (bE (ar d e.toNat 1)) (bE (ar d e.toNat (1+1))) (bz (ar d e.toNat (1+1+1)))then Lib.lt (Pn.v j o p q r l s t m (bz (ar d e.toNat 0)) (bE (ar d e.toNat 1)) (bE (ar d e.toNat (1+1))) (bz (ar d e.toNat (1+1+1)))) λu=>g a d (bG (e+1)) f h i u.1 u.2.2.2.2.2.1 u.2.2.2.2.2.2.2.2 u.2.1 u.2.2.1 u.2.2.2.1 u.2.2.2.2.1 u.2.2.2.2.2.2.1 u.2.2.2.2.2.2.2.1 else aj else aj else g a d (bG (e+1)) f h i j l m o p q r s t else aj else g a d (bG (e+1)) f h i j l m o p q r s t else aj else k0 a d e f h i j l m o p q r s t
def l4(N:aE)(k0:mV R):aE->mV R
 |0=>λ_ _ _ _ _ _ _ _ _ _ _ _ _ _ _=>aj
 |n+1=>r4 N (l4 N k0 n) k0
def b(N:aE)(kr:dY R)(a:ax)(d:aQ):aA R:=l4 N (λ_ _ _ _ _ _ e f h i j l m o p=>kr e i j l m f o p h) N a d 0 0 0 0 a 0 0 [] [] [] ([]++aD (aP [Ck.l 3] 1) 0 [CV.l 3 (aP [Ck.i ao] (aZ 16))]++aD (aP [Ck.l 3] 1) 0 [CV.l 3 (aP [Ck.i ao] (aZ 16))]++aD (aP [Ck.l 3] 1) 0 [CV.l 3 (aP [Ck.i ao] (aZ 16))]) [] []
def vo:=b Lib.cJ λr0 r1 r2 r3 r4 r5 r6 r7 r8=>ah (r0,r1,r2,r3,r4,r5,r6,r7,r8)
def c:=λa d=>(vo a d).isSome
def v:=λa d=>(vo a d).getD (0,[],[],[],[],0,[],[],0)
theorem out{x}:∀a d,vo a d=ah x->c a d=ai/\v a d=x:=λ_ _=>Lib.c5
end Ao

namespace wX
def r7(N:aE)(g g1 k0 k1:gH R)(a d e f:ax)(h i j l m o p q r s t:aQ):aA R:=bif decide (a<(h.length:ax))then bif decide (0<=a)&&decide (a<(h.length:ax))then bif zC.v (bz (ar h a.toNat 0)) (bE (ar h a.toNat 1)) (bE (ar h a.toNat (1+1))) (bz (ar h a.toNat (1+1+1))) d then bif decide (0<=a)&&decide (a<(h.length:ax))then bif cw (i.length+(aD (aP [Ck.s,Ck.i ao,Ck.i ao,Ck.s] 1) 0 [.s (bz (ar h a.toNat 0)), .i .i64 (bE (ar h a.toNat 1)), .i .i64 (bE (ar h a.toNat (1+1))), .s (bz (ar h a.toNat (1+1+1)))]).length) 48 then g (bG (a+1)) d e f h (i++aD (aP [Ck.s,Ck.i ao,Ck.i ao,Ck.s] 1) 0 [.s (bz (ar h a.toNat 0)), .i .i64 (bE (ar h a.toNat 1)), .i .i64 (bE (ar h a.toNat (1+1))), .s (bz (ar h a.toNat (1+1+1)))]) j l m o p q r s t else aj else aj else g (bG (a+1)) d e f h i j l m o p q r s t else aj else k0 a d e f h i j l m o p q r s t
def r7a(N:aE)(g g1 k0 k1:gH R)(a d e f:ax)(h i j l m o p q r s t:aQ):aA R:=bif decide (a<(h.length:ax))then bif decide (0<=a)&&decide (a<(h.length:ax))then bif zC.v (bz (ar h a.toNat 0)) (bE (ar h a.toNat 1)) (bE (ar h a.toNat (1+1))) (bz (ar h a.toNat (1+1+1))) d then bif decide (0<=a)&&decide (a<(h.length:ax))then bif cw (i.length+(aD (aP [Ck.s,Ck.i ao,Ck.i ao,Ck.s] 1) 0 [.s (bz (ar h a.toNat 0)), .i .i64 (bE (ar h a.toNat 1)), .i .i64 (bE (ar h a.toNat (1+1))), .s (bz (ar h a.toNat (1+1+1)))]).length) 48 then g1 (bG (a+1)) d e f h (i++aD (aP [Ck.s,Ck.i ao,Ck.i ao,Ck.s] 1) 0 [.s (bz (ar h a.toNat 0)), .i .i64 (bE (ar h a.toNat 1)), .i .i64 (bE (ar h a.toNat (1+1))), .s (bz (ar h a.toNat (1+1+1)))]) j l m o p q r s t else aj else aj else g1 (bG (a+1)) d e f h i j l m o p q r s t else aj else k1 a d e f h i j l m o p q r s t
def l7a(N:aE)(k0 k1:gH R):aE->gH R
 |0=>λ_ _ _ _ _ _ _ _ _ _ _ _ _ _ _=>aj
 |n+1=>r7a N (λx2 x3 x4 x5 x6 x7 x8 x9 x10 x11 MF x13 x14 x15 x16=>aj) (l7a N k0 k1 n) k0 k1
def l7(N:aE)(k0 k1:gH R):aE->gH R
 |0=>λ_ _ _ _ _ _ _ _ _ _ _ _ _ _ _=>aj
 |n+1=>r7 N (l7 N k0 k1 n) (l7a N k0 k1 n) k0 k1
def b(N:aE)(kr:jH R)(a:ax)(d e f h:aQ)(i:ax)(j l:aQ)(m:ax)(o p q:aQ)(r s:ax)(t:aq)(u:ax)(w:aQ):aA R:=bif w8.c o w then Lib.lt (w8.v o w) λy=>bif y.2 then bif Bv.c y.1 then Lib.lt (Bv.v y.1) λz=>l7 N (λ_ α _ _ _ xa _ _ _ _ _ _ xb xc xd=>bif jL.c xb xa then Lib.lt (jL.v xb xa) λxe=>bif xe.2 then bif qn.c xb xe.1 then Lib.lt (qn.v xb xe.1) λxf=>bif Ao.c α xa then Lib.lt (Ao.v α xa) λxg=>kr xg.1 xg.2.1 xg.2.2.1 xg.2.2.2.1 xg.2.2.2.2.1 xg.2.2.2.2.2.1 xg.2.2.2.2.2.2.1 xg.2.2.2.2.2.2.2.1 xg.2.2.2.2.2.2.2.2 xf.1 xc xd else aj else aj else bif Ao.c α xa then Lib.lt (Ao.v α xa) λxf=>kr xf.1 xf.2.1 xf.2.2.1 xf.2.2.2.1 xf.2.2.2.2.1 xf.2.2.2.2.2.1 xf.2.2.2.2.2.2.1 xf.2.2.2.2.2.2.2.1 xf.2.2.2.2.2.2.2.2 xb xc xd else aj else aj) (λ_ α _ _ _ xa _ _ _ _ _ _ xb xc xd=>bif jL.c xb xa then Lib.lt (jL.v xb xa) λxe=>bif xe.2 then bif qn.c xb xe.1 then Lib.lt (qn.v xb xe.1) λxf=>bif Ao.c α xa then Lib.lt (Ao.v α xa) λxg=>kr xg.1 xg.2.1 xg.2.2.1 xg.2.2.2.1 xg.2.2.2.2.1 xg.2.2.2.2.2.1 xg.2.2.2.2.2.2.1 xg.2.2.2.2.2.2.2.1 xg.2.2.2.2.2.2.2.2 xf.1 xc xd else aj else aj else bif Ao.c α xa then Lib.lt (Ao.v α xa) λxf=>kr xf.1 xf.2.1 xf.2.2.1 xf.2.2.2.1 xf.2.2.2.2.1 xf.2.2.2.2.2.1 xf.2.2.2.2.2.2.1 xf.2.2.2.2.2.2.2.1 xf.2.2.2.2.2.2.2.2 xb xc xd else aj else aj) N 0 a i m z (aP [Ck.s,Ck.i ao,Ck.i ao,Ck.s] 0) d e f h j l y.1 p q else aj else bif Bv.c o then Lib.lt (Bv.v o) λz=>l7a N (λ_ α _ _ _ xa _ _ _ _ _ _ xb xc xd=>bif jL.c xb xa then Lib.lt (jL.v xb xa) λxe=>bif xe.2 then bif qn.c xb xe.1 then Lib.lt (qn.v xb xe.1) λxf=>bif Ao.c α xa then Lib.lt (Ao.v α xa) λxg=>kr xg.1 xg.2.1 xg.2.2.1 xg.2.2.2.1 xg.2.2.2.2.1 xg.2.2.2.2.2.1 xg.2.2.2.2.2.2.1 xg.2.2.2.2.2.2.2.1 xg.2.2.2.2.2.2.2.2 xf.1 xc xd else aj else aj else bif Ao.c α xa then Lib.lt (Ao.v α xa) λxf=>kr xf.1 xf.2.1 xf.2.2.1 xf.2.2.2.1 xf.2.2.2.2.1 xf.2.2.2.2.2.1 xf.2.2.2.2.2.2.1 xf.2.2.2.2.2.2.2.1 xf.2.2.2.2.2.2.2.2 xb xc xd else aj else aj) (λ_ α _ _ _ xa _ _ _ _ _ _ xb xc xd=>bif jL.c xb xa then Lib.lt (jL.v xb xa) λxe=>bif xe.2 then bif qn.c xb xe.1 then Lib.lt (qn.v xb xe.1) λxf=>bif Ao.c α xa then Lib.lt (Ao.v α xa) λxg=>kr xg.1 xg.2.1 xg.2.2.1 xg.2.2.2.1 xg.2.2.2.2.1 xg.2.2.2.2.2.1 xg.2.2.2.2.2.2.1 xg.2.2.2.2.2.2.2.1 xg.2.2.2.2.2.2.2.2 xf.1 xc xd else aj else aj else bif Ao.c α xa then Lib.lt (Ao.v α xa) λxf=>kr xf.1 xf.2.1 xf.2.2.1 xf.2.2.2.1 xf.2.2.2.2.1 xf.2.2.2.2.2.1 xf.2.2.2.2.2.2.1 xf.2.2.2.2.2.2.2.1 xf.2.2.2.2.2.2.2.2 xb xc xd else aj else aj) N 0 a i m z (aP [Ck.s,Ck.i ao,Ck.i ao,Ck.s] 0) d e f h j l o p q else aj else aj
def vo:=b Lib.cJ λr0 r1 r2 r3 r4 r5 r6 r7 r8 r9 AG wG=>ah (r0,r1,r2,r3,r4,r5,r6,r7,r8,r9,AG,wG)
def c:=λa d e f h i j l m o p q r s t u w=>(vo a d e f h i j l m o p q r s t u w).isSome
def v:=λa d e f h i j l m o p q r s t u w=>(vo a d e f h i j l m o p q r s t u w).getD (0,[],[],[],[],0,[],[],0,[],[],[])
theorem out{x}:∀a d e f h i j l m o p q r s t u w,vo a d e f h i j l m o p q r s t u w=ah x->c a d e f h i j l m o p q r s t u w=ai/\v a d e f h i j l m o p q r s t u w=x:=λ_ _ _ _ _ _ _ _ _ _ _ _ _ _ _ _ _=>Lib.c5
end wX

namespace D1
def b(kr:j_ R)(a:ax)(d e f h:aQ)(i:ax)(j l:aQ)(m:ax)(o p q:aQ)(r s:ax)(t:aq)(u:ax)(w:aQ):aA R:=bif decide (r=1)then bif wW.c a d e f h i j l m s t then Lib.lt (wW.v a d e f h i j l m s t) λy=>kr y.2.2.2.2.2.2.2.2.2 y.1 y.2.1 y.2.2.1 y.2.2.2.1 y.2.2.2.2.1 y.2.2.2.2.2.1 y.2.2.2.2.2.2.1 y.2.2.2.2.2.2.2.1 y.2.2.2.2.2.2.2.2.1 o p q else aj else bif decide (r=2)then bif D7.c a d e f h i j l m s t then Lib.lt (D7.v a d e f h i j l m s t) λy=>kr (A_.v y.2.2.2.2.2.2.2.2.2) y.1 y.2.1 y.2.2.1 y.2.2.2.1 y.2.2.2.2.1 y.2.2.2.2.2.1 y.2.2.2.2.2.2.1 y.2.2.2.2.2.2.2.1 y.2.2.2.2.2.2.2.2.1 o p q else aj else bif decide (r=3)then bif D8.c a d e f h i j l m o p q r s t u w then Lib.lt (D8.v a d e f h i j l m o p q r s t u w) λy=>kr y.1 y.2.1 y.2.2.1 y.2.2.2.1 y.2.2.2.2.1 y.2.2.2.2.2.1 y.2.2.2.2.2.2.1 y.2.2.2.2.2.2.2.1 y.2.2.2.2.2.2.2.2.1 y.2.2.2.2.2.2.2.2.2.1 y.2.2.2.2.2.2.2.2.2.2.1 y.2.2.2.2.2.2.2.2.2.2.2.1 y.2.2.2.2.2.2.2.2.2.2.2.2 else aj else bif decide (r=4)then bif D9.c a d e f h i j l m s then Lib.lt (D9.v a d e f h i j l m s) λy=>kr (A_.v y.2.2.2.2.2.2.2.2.2) y.1 y.2.1 y.2.2.1 y.2.2.2.1 y.2.2.2.2.1 y.2.2.2.2.2.1 y.2.2.2.2.2.2.1 y.2.2.2.2.2.2.2.1 y.2.2.2.2.2.2.2.2.1 o p q else aj else bif decide (r=5)then bif qI.c a d e f h i j l m u then Lib.lt (qI.v a d e f h i j l m u) λy=>kr 0 y.1 y.2.1 y.2.2.1 y.2.2.2.1 y.2.2.2.2.1 y.2.2.2.2.2.1 y.2.2.2.2.2.2.1 y.2.2.2.2.2.2.2.1 y.2.2.2.2.2.2.2.2 o p q else aj else bif decide (r=6)then bif tn.c a d e f h i j l m s then Lib.lt (tn.v a d e f h i j l m s) λy=>kr (A_.v (decide ((y.2.2.2.2.2.2.2.1.length:ax)<(l.length:ax)))) y.1 y.2.1 y.2.2.1 y.2.2.2.1 y.2.2.2.2.1 y.2.2.2.2.2.1 y.2.2.2.2.2.2.1 y.2.2.2.2.2.2.2.1 y.2.2.2.2.2.2.2.2 o p q else aj else bif decide (r=7)then bif wX.c a d e f h i j l m o p q r s t u w then Lib.lt (wX.v a d e f h i j l m o p q r s t u w) λy=>kr 0 y.1 y.2.1 y.2.2.1 y.2.2.2.1 y.2.2.2.2.1 y.2.2.2.2.2.1 y.2.2.2.2.2.2.1 y.2.2.2.2.2.2.2.1 y.2.2.2.2.2.2.2.2.1 y.2.2.2.2.2.2.2.2.2.1 y.2.2.2.2.2.2.2.2.2.2.1 y.2.2.2.2.2.2.2.2.2.2.2 else aj else kr 0 a d e f h i j l m o p q
def vo:=b λr0 r1 r2 r3 r4 r5 r6 r7 r8 r9 AG wG Qq=>ah (r0,r1,r2,r3,r4,r5,r6,r7,r8,r9,AG,wG,Qq)
def c:=λa d e f h i j l m o p q r s t u w=>(vo a d e f h i j l m o p q r s t u w).isSome
def v:=λa d e f h i j l m o p q r s t u w=>(vo a d e f h i j l m o p q r s t u w).getD (0,0,[],[],[],[],0,[],[],0,[],[],[])
theorem out{x}:∀a d e f h i j l m o p q r s t u w,vo a d e f h i j l m o p q r s t u w=ah x->c a d e f h i j l m o p q r s t u w=ai/\v a d e f h i j l m o p q r s t u w=x:=λ_ _ _ _ _ _ _ _ _ _ _ _ _ _ _ _ _=>Lib.c5
end D1

namespace Hb
def b(kr:jH R)(a:ax)(d e f h:aQ)(i:ax)(j l:aQ)(m:ax)(o p q:aQ)(r s:ax)(t:aq)(u:ax)(w:aQ):aA R:=bif D1.c a d e f h i j l m o p q r s t u w then Lib.lt (D1.v a d e f h i j l m o p q r s t u w) λy=>bif cw ((aP [Ck.i ao] 0).length+y.2.2.2.2.2.2.2.2.2.2.2.1.length) 8 then bif cw ((aP [Ck.i ao] 0++y.2.2.2.2.2.2.2.2.2.2.2.1).length+(aD (aP [Ck.i ao] 1) 0 [.i .i64 y.1]).length) 8 then kr y.2.1 y.2.2.1 y.2.2.2.1 y.2.2.2.2.1 y.2.2.2.2.2.1 y.2.2.2.2.2.2.1 y.2.2.2.2.2.2.2.1 y.2.2.2.2.2.2.2.2.1 y.2.2.2.2.2.2.2.2.2.1 y.2.2.2.2.2.2.2.2.2.2.1 (aP [Ck.i ao] 0++y.2.2.2.2.2.2.2.2.2.2.2.1++aD (aP [Ck.i ao] 1) 0 [.i .i64 y.1]) y.2.2.2.2.2.2.2.2.2.2.2.2 else aj else aj else aj
def vo:=b λr0 r1 r2 r3 r4 r5 r6 r7 r8 r9 AG wG=>ah (r0,r1,r2,r3,r4,r5,r6,r7,r8,r9,AG,wG)
def c:=λa d e f h i j l m o p q r s t u w=>(vo a d e f h i j l m o p q r s t u w).isSome
def v:=λa d e f h i j l m o p q r s t u w=>(vo a d e f h i j l m o p q r s t u w).getD (0,[],[],[],[],0,[],[],0,[],[],[])
theorem out{x}:∀a d e f h i j l m o p q r s t u w,vo a d e f h i j l m o p q r s t u w=ah x->c a d e f h i j l m o p q r s t u w=ai/\v a d e f h i j l m o p q r s t u w=x:=λ_ _ _ _ _ _ _ _ _ _ _ _ _ _ _ _ _=>Lib.c5
end Hb

namespace Q2
def r7(N:aE)(g k0:kJ R)(a d:ax)(e:aQ)(f h i j l:ax)(m o p q r s t u w y:aQ):aA R:=bif decide (d<a)then bif K8.c e f h i o p q r j s t l u w y then Lib.lt (K8.v e f h i o p q r j s t l u w y) λz=>bif Iz.c z.2.2.2.2.2.1 z.2.2.2.2.2.2.1 z.2.2.2.2.2.2.2.1 24 then Lib.lt (Iz.v z.2.2.2.2.2.1 z.2.2.2.2.2.2.1 z.2.2.2.2.2.2.2.1 24) λα=>bif α.1 then bif n9.c α.2.1 α.2.2.1 α.2.2.2 60 then Lib.lt (n9.v α.2.1 α.2.2.1 α.2.2.2 60) λxa=>bif Hb.c i z.2.2.2.2.2.2.2.2.1 z.2.2.2.2.2.2.2.2.2.1 z.2.2.2.2.2.2.2.2.2.2.1 z.2.2.2.2.2.2.2.2.2.2.2.1 j z.2.2.2.2.2.2.2.2.2.2.2.2.1 z.2.2.2.2.2.2.2.2.2.2.2.2.2.1 l z.2.2.2.2.2.2.2.2.2.2.2.2.2.2.1 z.2.2.2.2.2.2.2.2.2.2.2.2.2.2.2.1 z.2.2.2.2.2.2.2.2.2.2.2.2.2.2.2.2 7 0 ⟨#[]⟩ 0 (aD (aP [Ck.i ao] 1) 0 [.i .i64 xa.1])then Lib.lt (Hb.v i z.2.2.2.2.2.2.2.2.1 z.2.2.2.2.2.2.2.2.2.1 z.2.2.2.2.2.2.2.2.2.2.1 z.2.2.2.2.2.2.2.2.2.2.2.1 j z.2.2.2.2.2.2.2.2.2.2.2.2.1 z.2.2.2.2.2.2.2.2.2.2.2.2.2.1 l z.2.2.2.2.2.2.2.2.2.2.2.2.2.2.1 z.2.2.2.2.2.2.2.2.2.2.2.2.2.2.2.1 z.2.2.2.2.2.2.2.2.2.2.2.2.2.2.2.2 7 0 ⟨#[]⟩ 0 (aD (aP [Ck.i ao] 1) 0 [.i .i64 xa.1])) λxb=>bif cw (m.length+(aD (aP [Ck.i ao,Ck.i ao,Ck.s,Ck.i ao,Ck.l 3] 1) 0 [.i .i64 7, .i .i64 0, .s ⟨#[]⟩, .i .i64 0,CV.l 3 (aD (aP [Ck.i ao] 1) 0 [.i .i64 xa.1])]).length) 64 then g a (bG (d+1)) xa.2.1 xa.2.2.1 xa.2.2.2 xb.1 xb.2.2.2.2.2.1 xb.2.2.2.2.2.2.2.2.1 (m++aD (aP [Ck.i ao,Ck.i ao,Ck.s,Ck.i ao,Ck.l 3] 1) 0 [.i .i64 7, .i .i64 0, .s ⟨#[]⟩, .i .i64 0,CV.l 3 (aD (aP [Ck.i ao] 1) 0 [.i .i64 xa.1])]) xb.2.1 xb.2.2.1 xb.2.2.2.1 xb.2.2.2.2.1 xb.2.2.2.2.2.2.1 xb.2.2.2.2.2.2.2.1 xb.2.2.2.2.2.2.2.2.2.1 xb.2.2.2.2.2.2.2.2.2.2.1 xb.2.2.2.2.2.2.2.2.2.2.2 else aj else aj else aj else bif Hb.c i z.2.2.2.2.2.2.2.2.1 z.2.2.2.2.2.2.2.2.2.1 z.2.2.2.2.2.2.2.2.2.2.1 z.2.2.2.2.2.2.2.2.2.2.2.1 j z.2.2.2.2.2.2.2.2.2.2.2.2.1 z.2.2.2.2.2.2.2.2.2.2.2.2.2.1 l z.2.2.2.2.2.2.2.2.2.2.2.2.2.2.1 z.2.2.2.2.2.2.2.2.2.2.2.2.2.2.2.1 z.2.2.2.2.2.2.2.2.2.2.2.2.2.2.2.2 z.1 z.2.1 z.2.2.1 z.2.2.2.1 z.2.2.2.2.1 then Lib.lt (Hb.v i z.2.2.2.2.2.2.2.2.1 z.2.2.2.2.2.2.2.2.2.1 z.2.2.2.2.2.2.2.2.2.2.1 z.2.2.2.2.2.2.2.2.2.2.2.1 j z.2.2.2.2.2.2.2.2.2.2.2.2.1 z.2.2.2.2.2.2.2.2.2.2.2.2.2.1 l z.2.2.2.2.2.2.2.2.2.2.2.2.2.2.1 z.2.2.2.2.2.2.2.2.2.2.2.2.2.2.2.1 z.2.2.2.2.2.2.2.2.2.2.2.2.2.2.2.2 z.1 z.2.1 z.2.2.1 z.2.2.2.1 z.2.2.2.2.1) λxa=>bif cw (m.length+(aD (aP [Ck.i ao,Ck.i ao,Ck.s,Ck.i ao,Ck.l 3] 1) 0 [.i .i64 z.1, .i .i64 z.2.1, .s z.2.2.1, .i .i64 z.2.2.2.1,CV.l 3 z.2.2.2.2.1]).length) 64 then g a (bG (d+1)) α.2.1 α.2.2.1 α.2.2.2 xa.1 xa.2.2.2.2.2.1 xa.2.2.2.2.2.2.2.2.1 (m++aD (aP [Ck.i ao,Ck.i ao,Ck.s,Ck.i ao,Ck.l 3] 1) 0 [.i .i64 z.1, .i .i64 z.2.1, .s z.2.2.1, .i .i64 z.2.2.2.1,CV.l 3 z.2.2.2.2.1]) xa.2.1 xa.2.2.1 xa.2.2.2.1 xa.2.2.2.2.1 xa.2.2.2.2.2.2.1 xa.2.2.2.2.2.2.2.1 xa.2.2.2.2.2.2.2.2.2.1 xa.2.2.2.2.2.2.2.2.2.2.1 xa.2.2.2.2.2.2.2.2.2.2.2 else aj else aj else aj else aj else k0 a d e f h i j l m o p q r s t u w y
def l7(N:aE)(k0:kJ R):aE->kJ R
 |0=>λ_ _ _ _ _ _ _ _ _ _ _ _ _ _ _ _ _ _=>aj
 |n+1=>r7 N (l7 N k0 n) k0
def b(N:aE)(kr:Ru R)(a:aQ)(d e:ax)(f:aQ):aA R:=bif decide (bG (20+bG (cQ (f.length:ax) 6))>65)then l7 N (λ_ _ h i j _ _ _ l _ _ _ _ _ _ _ _ _=>kr l h i j) N 65 0 a d e 1 0 0 (aP [Ck.i ao,Ck.i ao,Ck.s,Ck.i ao,Ck.l 3] 0) [] [] [] ([]++aD (aP [Ck.l 3] 1) 0 [CV.l 3 (aP [Ck.i ao] (aZ 16))]++aD (aP [Ck.l 3] 1) 0 [CV.l 3 (aP [Ck.i ao] (aZ 16))]++aD (aP [Ck.l 3] 1) 0 [CV.l 3 (aP [Ck.i ao] (aZ 16))]) [] [] [] [] []else l7 N (λ_ _ h i j _ _ _ l _ _ _ _ _ _ _ _ _=>kr l h i j) N (bG (20+bG (cQ (f.length:ax) 6))) 0 a d e 1 0 0 (aP [Ck.i ao,Ck.i ao,Ck.s,Ck.i ao,Ck.l 3] 0) [] [] [] ([]++aD (aP [Ck.l 3] 1) 0 [CV.l 3 (aP [Ck.i ao] (aZ 16))]++aD (aP [Ck.l 3] 1) 0 [CV.l 3 (aP [Ck.i ao] (aZ 16))]++aD (aP [Ck.l 3] 1) 0 [CV.l 3 (aP [Ck.i ao] (aZ 16))]) [] [] [] [] []
def vo:=b Lib.cJ λr0 r1 r2 r3=>ah (r0,r1,r2,r3)
def c:=λa d e f=>(vo a d e f).isSome
def v:=λa d e f=>(vo a d e f).getD ([],[],0,0)
theorem out{x}:∀a d e f,vo a d e f=ah x->c a d e f=ai/\v a d e f=x:=λ_ _ _ _=>Lib.c5
end Q2

namespace U9
def b(kr:aQ->aA R)(a:aQ):aA R:=bif Q3.c a then Lib.lt (Q3.v a) λd=>bif Q2.c d.1 d.2.1 d.2.2 a then Lib.lt (Q2.v d.1 d.2.1 d.2.2 a) λe=>kr e.1 else aj else aj
def vo:=b λr0=>ah r0
def c:=λa=>(vo a).isSome
def v:=λa=>(vo a).getD ([])
theorem out{x}:∀a,vo a=ah x->c a=ai/\v a=x:=λ_=>Lib.c5
end U9

namespace lH
def b(kr:aU->aA R)(a d e:ax):aA R:=bif decide (a≥d)then kr (decide (a<=e))else kr ak
def v(a0 a1 a2:ax):aU:=bif decide (a0≥a1)then decide (a0<=a2)else ak
theorem eh(kr:aU->aA R)(a0 a1 a2:ax):b kr a0 a1 a2=kr (v a0 a1 a2):=by first|rfl|(unfold b v;simp only[cz];(repeat' split)<;>rfl)
end lH

namespace U31
def b(kr:aU->aA R)(a d:ax)(e:aq)(f:ax)(h:aQ):aA R:=bif lH.v a 1 7 then bif lH.v d 0 30 then bif decide ((e.size:ax)<=60)then bif decide (f≥0)then kr (decide ((h.length:ax)<=4))else kr ak else kr ak else kr ak else kr ak
def v(a0 a1:ax)(a2:aq)(a3:ax)(a4:aQ):aU:=bif lH.v a0 1 7 then bif lH.v a1 0 30 then bif decide ((a2.size:ax)<=60)then bif decide (a3≥0)then decide ((a4.length:ax)<=4)else ak else ak else ak else ak
theorem eh(kr:aU->aA R)(a0 a1:ax)(a2:aq)(a3:ax)(a4:aQ):b kr a0 a1 a2 a3 a4=kr (v a0 a1 a2 a3 a4):=by first|rfl|(unfold b v;simp only[cz];(repeat' split)<;>rfl)
end U31

namespace G9
def r3(N:aE)(g:lE R)(g1:iZ R)(k0:lE R)(k1:iZ R)(a d e:ax):aA R:=bif decide (a<3)then g1 (bG (a+1)) d e ([]++aD (aP [Ck.l 3] 1) 0 [CV.l 3 (aP [Ck.i ao] (aZ 16))])else k0 a d e
def zZ(N:aE)(g:lE R)(g1:iZ R)(k0:lE R)(k1:iZ R)(a d e:ax)(f:aQ):aA R:=bif decide (a<3)then bif cw (f.length+(aD (aP [Ck.l 3] 1) 0 [CV.l 3 (aP [Ck.i ao] (aZ 16))]).length) 24 then g1 (bG (a+1)) d e (f++aD (aP [Ck.l 3] 1) 0 [CV.l 3 (aP [Ck.i ao] (aZ 16))])else aj else k1 a d e f
def sR(N:aE)(k0:lE R)(k1:iZ R):aE->iZ R
 |0=>λ_ _ _ _=>aj
 |n+1=>zZ N (λx0 x1 x2=>aj) (sR N k0 k1 n) k0 k1
def l3(N:aE)(k0:lE R)(k1:iZ R):aE->lE R
 |0=>λ_ _ _=>aj
 |n+1=>r3 N (l3 N k0 k1 n) (sR N k0 k1 n) k0 k1
def b(N:aE)(kr:sK R):aA R:=l3 N (λ_ _ a=>kr [] a) (λ_ _ a d=>kr d a) N 0 0 0
def vo:=b Lib.cJ λr0 r1=>ah (r0,r1)
def c:=vo.isSome
def v:=vo.getD ([],0)
end G9

namespace U95
def b(kr:td R):aA R:=kr [] [] ([]++aD (aP [Ck.l 3] 1) 0 [CV.l 3 (aP [Ck.i ao] (aZ 16))]++aD (aP [Ck.l 3] 1) 0 [CV.l 3 (aP [Ck.i ao] (aZ 16))]++aD (aP [Ck.l 3] 1) 0 [CV.l 3 (aP [Ck.i ao] (aZ 16))]) 0
def v:aQ×aQ×aQ×ax:=([],[],[]++aD (aP [Ck.l 3] 1) 0 [CV.l 3 (aP [Ck.i ao] (aZ 16))]++aD (aP [Ck.l 3] 1) 0 [CV.l 3 (aP [Ck.i ao] (aZ 16))]++aD (aP [Ck.l 3] 1) 0 [CV.l 3 (aP [Ck.i ao] (aZ 16))],0)
theorem eh(kr:td R):b kr=kr v.1 v.2.1 v.2.2.1 v.2.2.2:=by first|rfl|(unfold b v;simp only[cz];(repeat' split)<;>rfl)
end U95

namespace U42
def b(kr:dY R):aA R:=kr 1 [] [] [] ([]++aD (aP [Ck.l 3] 1) 0 [CV.l 3 (aP [Ck.i ao] (aZ 16))]++aD (aP [Ck.l 3] 1) 0 [CV.l 3 (aP [Ck.i ao] (aZ 16))]++aD (aP [Ck.l 3] 1) 0 [CV.l 3 (aP [Ck.i ao] (aZ 16))]) 0 [] [] 0
def v:ax×aQ×aQ×aQ×aQ×ax×aQ×aQ×ax:=(1,[],[],[],[]++aD (aP [Ck.l 3] 1) 0 [CV.l 3 (aP [Ck.i ao] (aZ 16))]++aD (aP [Ck.l 3] 1) 0 [CV.l 3 (aP [Ck.i ao] (aZ 16))]++aD (aP [Ck.l 3] 1) 0 [CV.l 3 (aP [Ck.i ao] (aZ 16))],0,[],[],0)
theorem eh(kr:dY R):b kr=kr v.1 v.2.1 v.2.2.1 v.2.2.2.1 v.2.2.2.2.1 v.2.2.2.2.2.1 v.2.2.2.2.2.2.1 v.2.2.2.2.2.2.2.1 v.2.2.2.2.2.2.2.2:=by first|rfl|(unfold b v;simp only[cz];(repeat' split)<;>rfl)
end U42

namespace wZ
def b(kr:aQ->aA R)(a:aQ):aA R:=bif cw ((aP [Ck.s,Ck.i ao,Ck.i ao,Ck.s] 0).length+a.length) 48 then kr (aP [Ck.s,Ck.i ao,Ck.i ao,Ck.s] 0++a)else aj
def vo:=b λr0=>ah r0
def c:=λa=>(vo a).isSome
def v:=λa=>(vo a).getD ([])
theorem out{x}:∀a,vo a=ah x->c a=ai/\v a=x:=λ_=>Lib.c5
end wZ

namespace tu
def b(kr:aQ->aA R)(a:aQ):aA R:=bif cw ((aP [.s] 0).length+a.length) 16 then kr (aP [.s] 0++a)else aj
def vo:=b λr0=>ah r0
def c:=λa=>(vo a).isSome
def v:=λa=>(vo a).getD ([])
theorem out{x}:∀a,vo a=ah x->c a=ai/\v a=x:=λ_=>Lib.c5
end tu

namespace v_
def b(kr:aQ->aA R)(a:aQ):aA R:=bif cw ((aP [Ck.i ao] 0).length+a.length) 8 then kr (aP [Ck.i ao] 0++a)else aj
def vo:=b λr0=>ah r0
def c:=λa=>(vo a).isSome
def v:=λa=>(vo a).getD ([])
theorem out{x}:∀a,vo a=ah x->c a=ai/\v a=x:=λ_=>Lib.c5
end v_

namespace jq
def r3(N:aE)(g:la R)(g1:o9 R)(k0:la R)(k1:o9 R)(a:aQ)(d e f h:ax):aA R:=bif decide (e<d)then bif decide (0<=e)&&decide (e<(a.length:ax))then bif v_.c (iX (ar a e.toNat 0))then g1 a d (bG (e+1)) f h ([]++aD (aP [Ck.l 3] 1) 0 [CV.l 3 (v_.v (iX (ar a e.toNat 0)))])else aj else aj else k0 a d e f h
def zZ(N:aE)(g:la R)(g1:o9 R)(k0:la R)(k1:o9 R)(a:aQ)(d e f h:ax)(i:aQ):aA R:=bif decide (e<d)then bif decide (0<=e)&&decide (e<(a.length:ax))then bif v_.c (iX (ar a e.toNat 0))then bif cw (i.length+(aD (aP [Ck.l 3] 1) 0 [CV.l 3 (v_.v (iX (ar a e.toNat 0)))]).length) 24 then g1 a d (bG (e+1)) f h (i++aD (aP [Ck.l 3] 1) 0 [CV.l 3 (v_.v (iX (ar a e.toNat 0)))])else aj else aj else aj else k1 a d e f h i
def sR(N:aE)(k0:la R)(k1:o9 R):aE->o9 R
 |0=>λ_ _ _ _ _ _=>aj
 |n+1=>zZ N (λx0 x1 x2 x3 x4=>aj) (sR N k0 k1 n) k0 k1
def l3(N:aE)(k0:la R)(k1:o9 R):aE->la R
 |0=>λ_ _ _ _ _=>aj
 |n+1=>r3 N (l3 N k0 k1 n) (sR N k0 k1 n) k0 k1
def b(N:aE)(kr:sK R)(a:aQ)(d:ax):aA R:=l3 N (λ_ _ _ _ e=>kr [] e) (λ_ _ _ _ e f=>kr f e) N a (a.length:ax) 0 0 d
def vo:=b Lib.cJ λr0 r1=>ah (r0,r1)
def c:=λa d=>(vo a d).isSome
def v:=λa d=>(vo a d).getD ([],0)
theorem out{x}:∀a d,vo a d=ah x->c a d=ai/\v a d=x:=λ_ _=>Lib.c5
end jq

namespace jw
def b(kr:td R)(a d e:aQ)(f:ax):aA R:=bif tu.c a then bif tu.c d then bif jq.c e f then kr (tu.v a) (tu.v d) (jq.v e f).1 (jq.v e f).2 else aj else aj else aj
def vo:=b λr0 r1 r2 r3=>ah (r0,r1,r2,r3)
def c:=λa d e f=>(vo a d e f).isSome
def v:=λa d e f=>(vo a d e f).getD ([],[],[],0)
theorem out{x}:∀a d e f,vo a d e f=ah x->c a d e f=ai/\v a d e f=x:=λ_ _ _ _=>Lib.c5
end jw

namespace iN
def b(kr:dY R)(a:ax)(d e f h:aQ)(i:ax)(j l:aQ)(m:ax):aA R:=bif wZ.c d then bif jw.c e f h i then bif cw ((aP [Ck.s,Ck.s,Ck.i ao,Ck.i ao,Ck.i ao] 0).length+j.length) 56 then bif cw ((aP [Ck.i ao,Ck.s,Ck.i ao,Ck.i ao,Ck.i ao,Ck.s,Ck.i ao] 0).length+l.length) 72 then kr a (wZ.v d) (jw.v e f h i).1 (jw.v e f h i).2.1 (jw.v e f h i).2.2.1 (jw.v e f h i).2.2.2 (aP [Ck.s,Ck.s,Ck.i ao,Ck.i ao,Ck.i ao] 0++j) (aP [Ck.i ao,Ck.s,Ck.i ao,Ck.i ao,Ck.i ao,Ck.s,Ck.i ao] 0++l) m else aj else aj else aj else aj
def vo:=b λr0 r1 r2 r3 r4 r5 r6 r7 r8=>ah (r0,r1,r2,r3,r4,r5,r6,r7,r8)
def c:=λa d e f h i j l m=>(vo a d e f h i j l m).isSome
def v:=λa d e f h i j l m=>(vo a d e f h i j l m).getD (0,[],[],[],[],0,[],[],0)
theorem out{x}:∀a d e f h i j l m,vo a d e f h i j l m=ah x->c a d e f h i j l m=ai/\v a d e f h i j l m=x:=λ_ _ _ _ _ _ _ _ _=>Lib.c5
end iN

namespace zD
def b(kr:aU->aA R)(a:aq):aA R:=kr (lH.v (a.size:ax) 1 30)
def v(a0:aq):aU:=(lH.v (a0.size:ax) 1 30)
theorem eh(kr:aU->aA R)(a0:aq):b kr a0=kr (v a0):=by first|rfl|(unfold b v;simp only[cz];(repeat' split)<;>rfl)
end zD

namespace SM
def b(kr:aU->aA R)(a:ax):aA R:=kr (lH.v a 0 1000000000)
def v(a0:ax):aU:=(lH.v a0 0 1000000000)
theorem eh(kr:aU->aA R)(a0:ax):b kr a0=kr (v a0):=by first|rfl|(unfold b v;simp only[cz];(repeat' split)<;>rfl)
end SM

namespace wT
def b(kr:aU->aA R)(a:aq)(d e:ax)(f:aq):aA R:=bif zD.v a then bif SM.v d then bif lH.v e 1 999999 then kr (decide ((f.size:ax)<=400))else kr ak else kr ak else kr ak
def v(a0:aq)(a1 a2:ax)(a3:aq):aU:=bif zD.v a0 then bif SM.v a1 then bif lH.v a2 1 999999 then decide ((a3.size:ax)<=400)else ak else ak else ak
theorem eh(kr:aU->aA R)(a0:aq)(a1 a2:ax)(a3:aq):b kr a0 a1 a2 a3=kr (v a0 a1 a2 a3):=by first|rfl|(unfold b v;simp only[cz];(repeat' split)<;>rfl)
end wT

namespace Ec
def b(kr:aQ->aA R)(a:ax):aA R:=bif decide (a<0)then aj else bif decide (bG (a-bG (0-0))>0)then bif decide (0<=bG (a-bG (0-0)))&&cw (([]:aQ).length+(bG (a-bG (0-0))).toNat) 16&&decide (bG (a-bG (0-0))<=9223372036854775807)then kr (eW ([]++aP [.s] (bG (a-bG (0-0))).toNat) (aZ 0) (aZ 0))else aj else kr []
def vo:=b λr0=>ah r0
def c:=λa=>(vo a).isSome
def v:=λa=>(vo a).getD ([])
theorem out{x}:∀a,vo a=ah x->c a=ai/\v a=x:=λ_=>Lib.c5
end Ec

namespace wY
def wG(N:aE)(g k0:qf R)(a:aQ)(d e:ax)(f:aQ):aA R:=bif decide (e<d)then bif decide (0<=e)&&decide (e<(a.length:ax))then bif cw (f.length+(iX (ar a e.toNat 0)).length) 16 then g a d (bG (e+1)) (f++iX (ar a e.toNat 0))else aj else aj else k0 a d e f
def P7(N:aE)(k0:qf R):aE->qf R
 |0=>λ_ _ _ _=>aj
 |n+1=>wG N (P7 N k0 n) k0
def r3(N:aE)(g k0:Gm R)(a:aQ)(d:ax)(e:aQ)(f h:ax):aA R:=bif decide (h<f)then bif decide (0<=h)&&decide (h<(e.length:ax))then bif decide (bG (d+((iX (ar e h.toNat 0)).length:ax))<0)then aj else g a (bG (d+((iX (ar e h.toNat 0)).length:ax))) e f (bG (h+1))else aj else k0 a d e f h
def l3(N:aE)(k0:Gm R):aE->Gm R
 |0=>λ_ _ _ _ _=>aj
 |n+1=>r3 N (l3 N k0 n) k0
def b(N:aE)(kr:aQ->aA R)(a:aQ):aA R:=l3 N (λd e _ _ _=>bif Ec.c e then P7 N (λ_ _ _ f=>kr f) N d (d.length:ax) 0 (Ec.v e)else aj) N a 0 a (a.length:ax) 0
def vo:=b Lib.cJ λr0=>ah r0
def c:=λa=>(vo a).isSome
def v:=λa=>(vo a).getD ([])
theorem out{x}:∀a,vo a=ah x->c a=ai/\v a=x:=λ_=>Lib.c5
end wY

namespace qF
def b(kr:aQ->aA R)(a d e:aQ)(f:ax):aA R:=bif wY.c (aD (aD (aP [Ck.l 9] 2) 0 [CV.l 9 a]) 1 [CV.l 9 d])then kr (wY.v (aD (aD (aP [Ck.l 9] 2) 0 [CV.l 9 a]) 1 [CV.l 9 d]))else aj
def vo:=b λr0=>ah r0
def c:=λa d e f=>(vo a d e f).isSome
def v:=λa d e f=>(vo a d e f).getD ([])
theorem out{x}:∀a d e f,vo a d e f=ah x->c a d e f=ai/\v a d e f=x:=λ_ _ _ _=>Lib.c5
end qF

namespace Bb
def r2(N:aE)(g k0 k1:ie R)(a:aQ)(d:aq)(e f h:ax):aA R:=bif decide (h<f)then bif decide (0<=h)&&decide (h<(a.length:ax))then bif bW (aC d) (bz (ar a h.toNat 0)).toList then k0 a d h f h else g a d e f (bG (h+1))else aj else k1 a d e f h
def l2(N:aE)(k0 k1:ie R):aE->ie R
 |0=>λ_ _ _ _ _=>aj
 |n+1=>r2 N (l2 N k0 k1 n) k0 k1
def b(N:aE)(kr:ax->aA R)(a:aQ)(d:aq):aA R:=l2 N (λ_ _ e _ _=>kr e) (λ_ _ _ _ _=>kr (-1)) N a d 0 (a.length:ax) 0
def vo:=b Lib.cJ λr0=>ah r0
def c:=λa d=>(vo a d).isSome
def v:=λa d=>(vo a d).getD (0)
theorem out{x}:∀a d,vo a d=ah x->c a d=ai/\v a d=x:=λ_ _=>Lib.c5
end Bb

namespace sN
def b(kr:aU->aA R)(a:aQ)(d:aq):aA R:=bif Bb.c a d then kr (decide (Bb.v a d≥0))else aj
def vo:=b λr0=>ah r0
def c:=λa d=>(vo a d).isSome
def v:=λa d=>(vo a d).getD ak
theorem out{x}:∀a d,vo a d=ah x->c a d=ai/\v a d=x:=λ_ _=>Lib.c5
end sN

namespace sM
def b(kr:aU->aA R)(a d e:aQ)(f:ax)(h:aq):aA R:=bif qF.c a d e f then bif sN.c (qF.v a d e f) h then kr (sN.v (qF.v a d e f) h)else aj else aj
def vo:=b λr0=>ah r0
def c:=λa d e f h=>(vo a d e f h).isSome
def v:=λa d e f h=>(vo a d e f h).getD ak
theorem out{x}:∀a d e f h,vo a d e f h=ah x->c a d e f h=ai/\v a d e f h=x:=λ_ _ _ _ _=>Lib.c5
end sM

namespace pQ
def r5(N:aE)(g k0 k1:rq R)(a:aU)(d e:aQ)(f h:ax)(i:aQ)(j l:ax)(m:aQ)(o:ax):aA R:=bif decide (l<j)then bif decide (0<=l)&&decide (l<(i.length:ax))then bif !lH.v (bE (ar i l.toNat 0)) 0 15 then k0 ak d e f h i j l m o else g a d e f h i j (bG (l+1)) m o else aj else k1 a d e f h i j l m o
def l5(N:aE)(k0 k1:rq R):aE->rq R
 |0=>λ_ _ _ _ _ _ _ _ _ _=>aj
 |n+1=>r5 N (l5 N k0 k1 n) k0 k1
def r2(N:aE)(g k0 k1:B3 R)(a:aU)(d:aQ)(e f:ax)(h:aQ)(i:ax):aA R:=bif decide (f<e)then bif decide (0<=f)&&decide (f<(d.length:ax))then l5 N (λj _ l m o _ _ _ p q=>k0 j l m o p q) (λj l m o p _ _ _ q r=>bif(l.length:ax) !=16 then k0 ak m o p q r else g j m o (bG (p+1)) q r) N a (iX (ar d f.toNat 0)) d e f (iX (ar d f.toNat 0)) ((iX (ar d f.toNat 0)).length:ax) 0 h i else aj else k1 a d e f h i
def l2(N:aE)(k0 k1:B3 R):aE->B3 R
 |0=>λ_ _ _ _ _ _=>aj
 |n+1=>r2 N (l2 N k0 k1 n) k0 k1
def b(N:aE)(kr:aU->aA R)(a:aQ)(d:ax):aA R:=l2 N (λe _ _ _ _ _=>kr e) (λ_ _ _ _ e f=>bif decide ((e.length:ax)=3)then kr (lH.v f 0 63)else kr ak) N ak a (a.length:ax) 0 a d
def vo:=b Lib.cJ λr0=>ah r0
def c:=λa d=>(vo a d).isSome
def v:=λa d=>(vo a d).getD ak
theorem out{x}:∀a d,vo a d=ah x->c a d=ai/\v a d=x:=λ_ _=>Lib.c5
end pQ

namespace pd
def r3(N:aE)(g k0 k1:vG R)(a:aU)(d e:ax)(f h i:aQ)(j:ax)(l:aQ):aA R:=bif decide (e<d)then bif decide (0<=e)&&decide (e<(l.length:ax))then bif !zD.v (bz (ar l e.toNat 0))then k0 ak d e f h i j l else bif ic 0 e (l.length:ax)then bif sN.c (eW l (aZ 0) e.toNat) (bz (ar l e.toNat 0))then bif sN.v (eW l (aZ 0) e.toNat) (bz (ar l e.toNat 0))then k0 ak d e f h i j l else g a d (bG (e+1)) f h i j l else aj else aj else aj else k1 a d e f h i j l
def l3(N:aE)(k0 k1:vG R):aE->vG R
 |0=>λ_ _ _ _ _ _ _ _=>aj
 |n+1=>r3 N (l3 N k0 k1 n) k0 k1
def b(N:aE)(kr:aU->aA R)(a d e:aQ)(f:ax):aA R:=bif qF.c a d e f then l3 N (λh _ _ _ _ _ _ _=>kr h) (λ_ _ _ h i j l _=>bif decide ((h.length:ax)<=2)then bif decide ((i.length:ax)<=4)then bif pQ.c j l then kr (pQ.v j l)else aj else kr ak else kr ak) N ak ((qF.v a d e f).length:ax) 0 a d e f (qF.v a d e f)else aj
def vo:=b Lib.cJ λr0=>ah r0
def c:=λa d e f=>(vo a d e f).isSome
def v:=λa d e f=>(vo a d e f).getD ak
theorem out{x}:∀a d e f,vo a d e f=ah x->c a d e f=ai/\v a d e f=x:=λ_ _ _ _=>Lib.c5
end pd

namespace Q5
def r2(N:aE)(g k0 k1:eQ R)(a:aU)(d:aQ)(e f h:ax)(i j l m:aQ)(o:ax)(p q:aQ)(r:ax):aA R:=bif decide (f<e)then bif decide (0<=f)&&decide (f<(d.length:ax))then bif !wT.v (bz (ar d f.toNat 0)) (bE (ar d f.toNat 1)) (bE (ar d f.toNat (1+1))) (bz (ar d f.toNat (1+1+1)))then k0 ak d e f h i j l m o p q r else bif decide (f>0)then bif decide (0<=bG (f-1))&&decide (bG (f-1)<(i.length:ax))then bif !Op.bytesLess (bz (ar i (bG (f-1)).toNat 0)).toList (bz (ar d f.toNat 0)).toList then k0 ak d e f h i j l m o p q r else bif sM.c j l m o (bz (ar d f.toNat 0))then bif !sM.v j l m o (bz (ar d f.toNat 0))then k0 ak d e f h i j l m o p q r else g a d e (bG (f+1)) h i j l m o p q r else aj else aj else bif sM.c j l m o (bz (ar d f.toNat 0))then bif !sM.v j l m o (bz (ar d f.toNat 0))then k0 ak d e f h i j l m o p q r else g a d e (bG (f+1)) h i j l m o p q r else aj else aj else k1 a d e f h i j l m o p q r
def l2(N:aE)(k0 k1:eQ R):aE->eQ R
 |0=>λ_ _ _ _ _ _ _ _ _ _ _ _ _=>aj
 |n+1=>r2 N (l2 N k0 k1 n) k0 k1
def b(N:aE)(kr:aU->aA R)(a:ax)(d e f h:aQ)(i:ax)(j l:aQ)(m:ax):aA R:=l2 N (λo _ _ _ _ _ _ _ _ _ _ _ _=>kr o) (λ_ _ _ _ _ o p q r s _ _ _=>bif pd.c p q r s then bif pd.v p q r s then bif qF.c p q r s then kr (decide (((qF.v p q r s).length:ax)=(o.length:ax)))else aj else kr ak else aj) N ak d (d.length:ax) 0 a d e f h i j l m
def vo:=b Lib.cJ λr0=>ah r0
def c:=λa d e f h i j l m=>(vo a d e f h i j l m).isSome
def v:=λa d e f h i j l m=>(vo a d e f h i j l m).getD ak
theorem out{x}:∀a d e f h i j l m,vo a d e f h i j l m=ah x->c a d e f h i j l m=ai/\v a d e f h i j l m=x:=λ_ _ _ _ _ _ _ _ _=>Lib.c5
end Q5

namespace IX
def b(kr:aU->aA R)(a d:aq)(e f h:ax)(gQ:aq):aA R:=bif bW (aC a) (aC gQ)then kr (decide (e=1))else kr ak
def v(a0 a1:aq)(a2 a3 a4:ax)(gQ:aq):aU:=bif bW (aC a0) (aC gQ)then decide (a2=1)else ak
theorem eh(kr:aU->aA R)(a0 a1:aq)(a2 a3 a4:ax)(gQ:aq):b kr a0 a1 a2 a3 a4 gQ=kr (v a0 a1 a2 a3 a4 gQ):=by first|rfl|(unfold b v;simp only[cz];(repeat' split)<;>rfl)
end IX

namespace qG
def r2(N:aE)(g k0 k1:ie R)(a:aQ)(d:aq)(e f h:ax):aA R:=bif decide (h<f)then bif decide (0<=h)&&decide (h<(a.length:ax))then bif IX.v (bz (ar a h.toNat 0)) (bz (ar a h.toNat 1)) (bE (ar a h.toNat (1+1))) (bE (ar a h.toNat (1+1+1))) (bE (ar a h.toNat (1+1+1+1))) d then k0 a d h f h else g a d e f (bG (h+1))else aj else k1 a d e f h
def l2(N:aE)(k0 k1:ie R):aE->ie R
 |0=>λ_ _ _ _ _=>aj
 |n+1=>r2 N (l2 N k0 k1 n) k0 k1
def b(N:aE)(kr:ax->aA R)(a:aQ)(gQ:aq):aA R:=l2 N (λ_ _ d _ _=>kr d) (λ_ _ _ _ _=>kr (-1)) N a gQ 0 (a.length:ax) 0
def vo:=b Lib.cJ λr0=>ah r0
def c:=λa d=>(vo a d).isSome
def v:=λa d=>(vo a d).getD (0)
theorem out{x}:∀a d,vo a d=ah x->c a d=ai/\v a d=x:=λ_ _=>Lib.c5
end qG

namespace K7
def b(kr:ax->aA R)(a:ax)(d e f h:aQ)(i:ax)(j l:aQ)(m:ax)(o:aq):aA R:=bif qG.c j o then kr (qG.v j o)else aj
def vo:=b λr0=>ah r0
def c:=λa d e f h i j l m o=>(vo a d e f h i j l m o).isSome
def v:=λa d e f h i j l m o=>(vo a d e f h i j l m o).getD (0)
theorem out{x}:∀a d e f h i j l m o,vo a d e f h i j l m o=ah x->c a d e f h i j l m o=ai/\v a d e f h i j l m o=x:=λ_ _ _ _ _ _ _ _ _ _=>Lib.c5
end K7

namespace IZ
def r2(N:aE)(g k0 k1:eQ R)(a:aU)(d:aQ)(e f h:ax)(i j l m:aQ)(o:ax)(p q:aQ)(r:ax):aA R:=bif decide (f<e)then bif decide (0<=f)&&decide (f<(d.length:ax))then bif decide (bE (ar d f.toNat (1+1))=1)then bif K7.c h i j l m o p q r (bz (ar d f.toNat 0))then bif K7.v h i j l m o p q r (bz (ar d f.toNat 0)) !=f then k0 ak d e f h i j l m o p q r else g a d e (bG (f+1)) h i j l m o p q r else aj else g a d e (bG (f+1)) h i j l m o p q r else aj else k1 a d e f h i j l m o p q r
def l2(N:aE)(k0 k1:eQ R):aE->eQ R
 |0=>λ_ _ _ _ _ _ _ _ _ _ _ _ _=>aj
 |n+1=>r2 N (l2 N k0 k1 n) k0 k1
def b(N:aE)(kr:aU->aA R)(a:ax)(d e f h:aQ)(i:ax)(j l:aQ)(m:ax):aA R:=l2 N (λo _ _ _ _ _ _ _ _ _ _ _ _=>kr o) (λ_ _ _ _ _ _ _ _ _ _ _ _ _=>kr ai) N ak j (j.length:ax) 0 a d e f h i j l m
def vo:=b Lib.cJ λr0=>ah r0
def c:=λa d e f h i j l m=>(vo a d e f h i j l m).isSome
def v:=λa d e f h i j l m=>(vo a d e f h i j l m).getD ak
theorem out{x}:∀a d e f h i j l m,vo a d e f h i j l m=ah x->c a d e f h i j l m=ai/\v a d e f h i j l m=x:=λ_ _ _ _ _ _ _ _ _=>Lib.c5
end IZ

namespace Pj
def r2(N:aE)(g k0 k1:eQ R)(a:aU)(d:aQ)(e f h:ax)(i j l m:aQ)(o:ax)(p q:aQ)(r:ax):aA R:=bif decide (f<e)then bif decide (0<=f)&&decide (f<(d.length:ax))then bif !zD.v (bz (ar d f.toNat 0))then k0 ak d e f h i j l m o p q r else bif decide (((bz (ar d f.toNat 1)).size:ax)>400)then k0 ak d e f h i j l m o p q r else bif !lH.v (bE (ar d f.toNat (1+1))) 1 3 then k0 ak d e f h i j l m o p q r else bif !lH.v (bE (ar d f.toNat (1+1+1))) 0 999999 then k0 ak d e f h i j l m o p q r else bif !lH.v (bE (ar d f.toNat (1+1+1+1))) 0 h then k0 ak d e f h i j l m o p q r else g a d e (bG (f+1)) h i j l m o p q r else aj else k1 a d e f h i j l m o p q r
def l2(N:aE)(k0 k1:eQ R):aE->eQ R
 |0=>λ_ _ _ _ _ _ _ _ _ _ _ _ _=>aj
 |n+1=>r2 N (l2 N k0 k1 n) k0 k1
def b(N:aE)(kr:aU->aA R)(a:ax)(d e f h:aQ)(i:ax)(j l:aQ)(m:ax):aA R:=l2 N (λo _ _ _ _ _ _ _ _ _ _ _ _=>kr o) (λ_ _ _ _ o p q r s t u w y=>bif decide ((u.length:ax)<=20)then bif IZ.c o p q r s t u w y then kr (IZ.v o p q r s t u w y)else aj else kr ak) N ak j (j.length:ax) 0 a d e f h i j l m
def vo:=b Lib.cJ λr0=>ah r0
def c:=λa d e f h i j l m=>(vo a d e f h i j l m).isSome
def v:=λa d e f h i j l m=>(vo a d e f h i j l m).getD ak
theorem out{x}:∀a d e f h i j l m,vo a d e f h i j l m=ah x->c a d e f h i j l m=ai/\v a d e f h i j l m=x:=λ_ _ _ _ _ _ _ _ _=>Lib.c5
end Pj

namespace Q6
def r2(N:aE)(g k0 k1:eQ R)(a:aU)(d:aQ)(e f h:ax)(i j l m:aQ)(o:ax)(p q:aQ)(r:ax):aA R:=bif decide (f<e)then bif decide (0<=f)&&decide (f<(d.length:ax))then bif !lH.v (bE (ar d f.toNat 0)) 1 9 then k0 ak d e f h i j l m o p q r else bif decide (f>0)then bif decide (0<=bG (f-1))&&decide (bG (f-1)<(q.length:ax))then bif decide (bE (ar q (bG (f-1)).toNat 0)≥bE (ar d f.toNat 0))then k0 ak d e f h i j l m o p q r else bif !zD.v (bz (ar d f.toNat 1))then k0 ak d e f h i j l m o p q r else bif !lH.v (bE (ar d f.toNat (1+1+1+1))) 1 3 then k0 ak d e f h i j l m o p q r else bif !lH.v (bE (ar d f.toNat (1+1))) 0 (p.length:ax)then k0 ak d e f h i j l m o p q r else bif decide (((bz (ar d f.toNat (1+1+1+1+1))).size:ax)>400)then k0 ak d e f h i j l m o p q r else bif !lH.v (bE (ar d f.toNat (1+1+1))) 0 h then k0 ak d e f h i j l m o p q r else bif decide (bE (ar d f.toNat (1+1+1+1+1+1))<0)then k0 ak d e f h i j l m o p q r else g a d e (bG (f+1)) h i j l m o p q r else aj else bif !zD.v (bz (ar d f.toNat 1))then k0 ak d e f h i j l m o p q r else bif !lH.v (bE (ar d f.toNat (1+1+1+1))) 1 3 then k0 ak d e f h i j l m o p q r else bif !lH.v (bE (ar d f.toNat (1+1))) 0 (p.length:ax)then k0 ak d e f h i j l m o p q r else bif decide (((bz (ar d f.toNat (1+1+1+1+1))).size:ax)>400)then k0 ak d e f h i j l m o p q r else bif !lH.v (bE (ar d f.toNat (1+1+1))) 0 h then k0 ak d e f h i j l m o p q r else bif decide (bE (ar d f.toNat (1+1+1+1+1+1))<0)then k0 ak d e f h i j l m o p q r else g a d e (bG (f+1)) h i j l m o p q r else aj else k1 a d e f h i j l m o p q r
def l2(N:aE)(k0 k1:eQ R):aE->eQ R
 |0=>λ_ _ _ _ _ _ _ _ _ _ _ _ _=>aj
 |n+1=>r2 N (l2 N k0 k1 n) k0 k1
def b(N:aE)(kr:aU->aA R)(a:ax)(d e f h:aQ)(i:ax)(j l:aQ)(m:ax):aA R:=l2 N (λo _ _ _ _ _ _ _ _ _ _ _ _=>kr o) (λ_ _ _ _ _ _ _ _ _ _ _ o _=>kr (decide ((o.length:ax)<=6))) N ak l (l.length:ax) 0 a d e f h i j l m
def vo:=b Lib.cJ λr0=>ah r0
def c:=λa d e f h i j l m=>(vo a d e f h i j l m).isSome
def v:=λa d e f h i j l m=>(vo a d e f h i j l m).getD ak
theorem out{x}:∀a d e f h i j l m,vo a d e f h i j l m=ah x->c a d e f h i j l m=ai/\v a d e f h i j l m=x:=λ_ _ _ _ _ _ _ _ _=>Lib.c5
end Q6

namespace KE
def b(kr:aU->aA R)(a:ax)(d e f h:aQ)(i:ax)(j l:aQ)(m:ax):aA R:=bif lH.v a 1 1000000000 then bif Q5.c a d e f h i j l m then bif Q5.v a d e f h i j l m then bif Pj.c a d e f h i j l m then bif Pj.v a d e f h i j l m then bif Q6.c a d e f h i j l m then bif Q6.v a d e f h i j l m then kr (SM.v m)else kr ak else aj else kr ak else aj else kr ak else aj else kr ak
def vo:=b λr0=>ah r0
def c:=λa d e f h i j l m=>(vo a d e f h i j l m).isSome
def v:=λa d e f h i j l m=>(vo a d e f h i j l m).getD ak
theorem out{x}:∀a d e f h i j l m,vo a d e f h i j l m=ah x->c a d e f h i j l m=ai/\v a d e f h i j l m=x:=λ_ _ _ _ _ _ _ _ _=>Lib.c5
end KE

namespace K2
def b(kr:aU->aA R)(a:ax)(d:aq)(e f h:ax)(i:aq)(j CT:ax):aA R:=kr (decide (a=CT))
def v(a0:ax)(a1:aq)(a2 a3 a4:ax)(a5:aq)(a6 CT:ax):aU:=(decide (a0=CT))
theorem eh(kr:aU->aA R)(a0:ax)(a1:aq)(a2 a3 a4:ax)(a5:aq)(a6 CT:ax):b kr a0 a1 a2 a3 a4 a5 a6 CT=kr (v a0 a1 a2 a3 a4 a5 a6 CT):=by first|rfl|(unfold b v;simp only[cz];(repeat' split)<;>rfl)
end K2

namespace qH
def r2(N:aE)(g k0 k1:la R)(a:aQ)(d e f h:ax):aA R:=bif decide (h<f)then bif decide (0<=h)&&decide (h<(a.length:ax))then bif K2.v (bE (ar a h.toNat 0)) (bz (ar a h.toNat 1)) (bE (ar a h.toNat (1+1))) (bE (ar a h.toNat (1+1+1))) (bE (ar a h.toNat (1+1+1+1))) (bz (ar a h.toNat (1+1+1+1+1))) (bE (ar a h.toNat (1+1+1+1+1+1))) d then k0 a d h f h else g a d e f (bG (h+1))else aj else k1 a d e f h
def l2(N:aE)(k0 k1:la R):aE->la R
 |0=>λ_ _ _ _ _=>aj
 |n+1=>r2 N (l2 N k0 k1 n) k0 k1
def b(N:aE)(kr:ax->aA R)(a:aQ)(CT:ax):aA R:=l2 N (λ_ _ d _ _=>kr d) (λ_ _ _ _ _=>kr (-1)) N a CT 0 (a.length:ax) 0
def vo:=b Lib.cJ λr0=>ah r0
def c:=λa d=>(vo a d).isSome
def v:=λa d=>(vo a d).getD (0)
theorem out{x}:∀a d,vo a d=ah x->c a d=ai/\v a d=x:=λ_ _=>Lib.c5
end qH

namespace A6
def b(kr:aU->aA R)(a:ax)(d:aq)(e f h:ax)(i:aq)(j CT:ax):aA R:=kr (decide (a=CT))
def v(a0:ax)(a1:aq)(a2 a3 a4:ax)(a5:aq)(a6 CT:ax):aU:=(decide (a0=CT))
theorem eh(kr:aU->aA R)(a0:ax)(a1:aq)(a2 a3 a4:ax)(a5:aq)(a6 CT:ax):b kr a0 a1 a2 a3 a4 a5 a6 CT=kr (v a0 a1 a2 a3 a4 a5 a6 CT):=by first|rfl|(unfold b v;simp only[cz];(repeat' split)<;>rfl)
end A6

namespace ny
def r2(N:aE)(g k0 k1:la R)(a:aQ)(d e f h:ax):aA R:=bif decide (h<f)then bif decide (0<=h)&&decide (h<(a.length:ax))then bif A6.v (bE (ar a h.toNat 0)) (bz (ar a h.toNat 1)) (bE (ar a h.toNat (1+1))) (bE (ar a h.toNat (1+1+1))) (bE (ar a h.toNat (1+1+1+1))) (bz (ar a h.toNat (1+1+1+1+1))) (bE (ar a h.toNat (1+1+1+1+1+1))) d then k0 a d h f h else g a d e f (bG (h+1))else aj else k1 a d e f h
def l2(N:aE)(k0 k1:la R):aE->la R
 |0=>λ_ _ _ _ _=>aj
 |n+1=>r2 N (l2 N k0 k1 n) k0 k1
def b(N:aE)(kr:ax->aA R)(a:aQ)(CT:ax):aA R:=l2 N (λ_ _ d _ _=>kr d) (λ_ _ _ _ _=>kr (-1)) N a CT 0 (a.length:ax) 0
def vo:=b Lib.cJ λr0=>ah r0
def c:=λa d=>(vo a d).isSome
def v:=λa d=>(vo a d).getD (0)
theorem out{x}:∀a d,vo a d=ah x->c a d=ai/\v a d=x:=λ_ _=>Lib.c5
end ny

namespace zA
def b(kr:ax->aA R)(a:ax)(d e f h:aQ)(i:ax)(j l:aQ)(m o:ax):aA R:=bif qH.c l o then kr (qH.v l o)else aj
def vo:=b λr0=>ah r0
def c:=λa d e f h i j l m o=>(vo a d e f h i j l m o).isSome
def v:=λa d e f h i j l m o=>(vo a d e f h i j l m o).getD (0)
theorem out{x}:∀a d e f h i j l m o,vo a d e f h i j l m o=ah x->c a d e f h i j l m o=ai/\v a d e f h i j l m o=x:=λ_ _ _ _ _ _ _ _ _ _=>Lib.c5
end zA

namespace KY
def b(kr:aU->aA R)(a:aq)(d e:ax)(f gQ:aq):aA R:=kr (bW (aC a) (aC gQ))
def v(a0:aq)(a1 a2:ax)(a3 gQ:aq):aU:=(bW (aC a0) (aC gQ))
theorem eh(kr:aU->aA R)(a0:aq)(a1 a2:ax)(a3 gQ:aq):b kr a0 a1 a2 a3 gQ=kr (v a0 a1 a2 a3 gQ):=by first|rfl|(unfold b v;simp only[cz];(repeat' split)<;>rfl)
end KY

namespace pW
def r2(N:aE)(g k0 k1:ie R)(a:aQ)(d:aq)(e f h:ax):aA R:=bif decide (h<f)then bif decide (0<=h)&&decide (h<(a.length:ax))then bif KY.v (bz (ar a h.toNat 0)) (bE (ar a h.toNat 1)) (bE (ar a h.toNat (1+1))) (bz (ar a h.toNat (1+1+1))) d then k0 a d h f h else g a d e f (bG (h+1))else aj else k1 a d e f h
def l2(N:aE)(k0 k1:ie R):aE->ie R
 |0=>λ_ _ _ _ _=>aj
 |n+1=>r2 N (l2 N k0 k1 n) k0 k1
def b(N:aE)(kr:ax->aA R)(a:aQ)(gQ:aq):aA R:=l2 N (λ_ _ d _ _=>kr d) (λ_ _ _ _ _=>kr (-1)) N a gQ 0 (a.length:ax) 0
def vo:=b Lib.cJ λr0=>ah r0
def c:=λa d=>(vo a d).isSome
def v:=λa d=>(vo a d).getD (0)
theorem out{x}:∀a d,vo a d=ah x->c a d=ai/\v a d=x:=λ_ _=>Lib.c5
end pW

namespace Ba
def b(kr:aU->aA R)(a:aq)(d e:ax)(f gQ:aq):aA R:=kr (bW (aC a) (aC gQ))
def v(a0:aq)(a1 a2:ax)(a3 gQ:aq):aU:=(bW (aC a0) (aC gQ))
theorem eh(kr:aU->aA R)(a0:aq)(a1 a2:ax)(a3 gQ:aq):b kr a0 a1 a2 a3 gQ=kr (v a0 a1 a2 a3 gQ):=by first|rfl|(unfold b v;simp only[cz];(repeat' split)<;>rfl)
end Ba

namespace nv
def r2(N:aE)(g k0 k1:ie R)(a:aQ)(d:aq)(e f h:ax):aA R:=bif decide (h<f)then bif decide (0<=h)&&decide (h<(a.length:ax))then bif Ba.v (bz (ar a h.toNat 0)) (bE (ar a h.toNat 1)) (bE (ar a h.toNat (1+1))) (bz (ar a h.toNat (1+1+1))) d then k0 a d h f h else g a d e f (bG (h+1))else aj else k1 a d e f h
def l2(N:aE)(k0 k1:ie R):aE->ie R
 |0=>λ_ _ _ _ _=>aj
 |n+1=>r2 N (l2 N k0 k1 n) k0 k1
def b(N:aE)(kr:ax->aA R)(a:aQ)(gQ:aq):aA R:=l2 N (λ_ _ d _ _=>kr d) (λ_ _ _ _ _=>kr (-1)) N a gQ 0 (a.length:ax) 0
def vo:=b Lib.cJ λr0=>ah r0
def c:=λa d=>(vo a d).isSome
def v:=λa d=>(vo a d).getD (0)
theorem out{x}:∀a d,vo a d=ah x->c a d=ai/\v a d=x:=λ_ _=>Lib.c5
end nv

namespace XF
def b(kr:aU->aA R)(a:aq)(d e:ax)(f:aq)(Hk:ax)(Cw:aq)(Hl Cx Hm:ax)(Cy:aq)(Cz:ax):aA R:=bif bW (aC a) (aC Cw)then bif decide (d=Cx)then bif bW (aC f) (aC Cy)then kr (decide (e>Cz))else kr ak else kr ak else kr ak
def v(a0:aq)(a1 a2:ax)(a3:aq)(Hk:ax)(Cw:aq)(Hl Cx Hm:ax)(Cy:aq)(Cz:ax):aU:=bif bW (aC a0) (aC Cw)then bif decide (a1=Cx)then bif bW (aC a3) (aC Cy)then decide (a2>Cz)else ak else ak else ak
theorem eh(kr:aU->aA R)(a0:aq)(a1 a2:ax)(a3:aq)(Hk:ax)(Cw:aq)(Hl Cx Hm:ax)(Cy:aq)(Cz:ax):b kr a0 a1 a2 a3 Hk Cw Hl Cx Hm Cy Cz=kr (v a0 a1 a2 a3 Hk Cw Hl Cx Hm Cy Cz):=by first|rfl|(unfold b v;simp only[cz];(repeat' split)<;>rfl)
end XF

namespace sB
def r2(N:aE)(g k0 k1:qg R)(a:aQ)(d:ax)(e:aq)(f h i:ax)(j:aq)(l m o p:ax):aA R:=bif decide (p<o)then bif decide (0<=p)&&decide (p<(a.length:ax))then bif XF.v (bz (ar a p.toNat 0)) (bE (ar a p.toNat 1)) (bE (ar a p.toNat (1+1))) (bz (ar a p.toNat (1+1+1))) d e f h i j l then k0 a d e f h i j l p o p else g a d e f h i j l m o (bG (p+1))else aj else k1 a d e f h i j l m o p
def l2(N:aE)(k0 k1:qg R):aE->qg R
 |0=>λ_ _ _ _ _ _ _ _ _ _ _=>aj
 |n+1=>r2 N (l2 N k0 k1 n) k0 k1
def b(N:aE)(kr:ax->aA R)(a:aQ)(Hk:ax)(Cw:aq)(Hl Cx Hm:ax)(Cy:aq)(Cz:ax):aA R:=l2 N (λ_ _ _ _ _ _ _ _ d _ _=>kr d) (λ_ _ _ _ _ _ _ _ _ _ _=>kr (-1)) N a Hk Cw Hl Cx Hm Cy Cz 0 (a.length:ax) 0
def vo:=b Lib.cJ λr0=>ah r0
def c:=λa d e f h i j l=>(vo a d e f h i j l).isSome
def v:=λa d e f h i j l=>(vo a d e f h i j l).getD (0)
theorem out{x}:∀a d e f h i j l,vo a d e f h i j l=ah x->c a d e f h i j l=ai/\v a d e f h i j l=x:=λ_ _ _ _ _ _ _ _=>Lib.c5
end sB

namespace Ef
def b(kr:aU->aA R)(a:aq)(d e:ax)(f:aq)(h:ax):aA R:=bif wT.v a d e f then bif SM.v h then kr (lH.v h d (bG (bG (d+e)-1)))else kr ak else kr ak
def v(a0:aq)(a1 a2:ax)(a3:aq)(a4:ax):aU:=bif wT.v a0 a1 a2 a3 then bif SM.v a4 then lH.v a4 a1 (bG (bG (a1+a2)-1))else ak else ak
theorem eh(kr:aU->aA R)(a0:aq)(a1 a2:ax)(a3:aq)(a4:ax):b kr a0 a1 a2 a3 a4=kr (v a0 a1 a2 a3 a4):=by first|rfl|(unfold b v;simp only[cz];(repeat' split)<;>rfl)
end Ef

namespace xA
def r6(N:aE)(g k0:yS R)(a:ax)(d:aq)(e f:ax):aA R:=bif decide (f<8)then bif decide (cF a 2=1)then g (bH eB (↑(dW (mq (cf 32 (bH eB (cQ a 2))) (cf 32 3558460437))):ax)) d e (bG (f+1))else g (bH eB (cQ a 2)) d e (bG (f+1))else k0 a d e f
def l6(N:aE)(k0:yS R):aE->yS R
 |0=>λ_ _ _ _=>aj
 |n+1=>r6 N (l6 N k0 n) k0
def r2(N:aE)(g k0:B6 R)(a:ax)(d:aq)(e:ax):aA R:=bif decide (e<(d.size:ax))then bif decide (0<=e)&&decide (e<(d.size:ax))then l6 N (λf h i _=>g f h (bG (i+1))) N (bH eB (↑(dW (mq (cf 32 a) (cf 32 (bH eB (↑(gU d e.toNat):ax))))):ax)) d e 0 else aj else k0 a d e
def l2(N:aE)(k0:B6 R):aE->B6 R
 |0=>λ_ _ _=>aj
 |n+1=>r2 N (l2 N k0 n) k0
def b(N:aE)(kr:ax->aA R)(a:ax)(d:aq):aA R:=l2 N (λe _ _=>kr e) N a d 0
def vo:=b Lib.cJ λr0=>ah r0
def c:=λa d=>(vo a d).isSome
def v:=λa d=>(vo a d).getD (0)
theorem out{x}:∀a d,vo a d=ah x->c a d=ai/\v a d=x:=λ_ _=>Lib.c5
end xA

namespace vi
def b(kr:ax->aA R)(a:aq):aA R:=bif xA.c 4294967295 a then kr (xA.v 4294967295 a)else aj
def vo:=b λr0=>ah r0
def c:=λa=>(vo a).isSome
def v:=λa=>(vo a).getD (0)
theorem out{x}:∀a,vo a=ah x->c a=ai/\v a=x:=λ_=>Lib.c5
end vi

namespace qJ
def b(kr:ax->aA R)(a:ax)(d:aq):aA R:=bif decide (d.size+(bytesOf (aD (aP [Ck.i bj] 1) 0 [CV.i bj (bH bj (bG (↑(dW (ju (cf 64 a) (cf 64 255))):ax)))])).size<=4611686018427387904)then bif vi.c (d++bytesOf (aD (aP [Ck.i bj] 1) 0 [CV.i bj (bH bj (bG (↑(dW (ju (cf 64 a) (cf 64 255))):ax)))]))then kr (cF (bG (vi.v (d++bytesOf (aD (aP [Ck.i bj] 1) 0 [CV.i bj (bH bj (bG (↑(dW (ju (cf 64 a) (cf 64 255))):ax)))])))) 16)else aj else aj
def vo:=b λr0=>ah r0
def c:=λa d=>(vo a d).isSome
def v:=λa d=>(vo a d).getD (0)
theorem out{x}:∀a d,vo a d=ah x->c a d=ai/\v a d=x:=λ_ _=>Lib.c5
end qJ

namespace iJ
def r18(N:aE)(g k0:vH R)(a:aE)(d e f h i j:ax)(l:aQ):aA R:=bif decide (h<f)then bif decide (0<=h)&&decide (h<((iX (ar l a 0)).length:ax))then bif decide (0<=h)&&decide (h<((iX (ar l a 0)).length:ax))then g a d e f (bG (h+1)) i j (eC l a 0 [CV.l 3 (eC (iX (ar l a 0)) h.toNat 0 [.i .i64 (bG (cQ (bE (ar (iX (ar l a 0)) h.toNat 0)) 2))])])else aj else aj else k0 a d e f h i j l
def l18(N:aE)(k0:vH R):aE->vH R
 |0=>λ_ _ _ _ _ _ _ _=>aj
 |n+1=>r18 N (l18 N k0 n) k0
def r15(N:aE)(g k0:oF R)(a d e f:ax)(h:aQ):aA R:=bif decide (d<a)then bif decide (0<=d)&&decide (d<(h.length:ax))then l18 N (λ_ i j _ _ l m o=>g i (bG (j+1)) l m o) N d.toNat a d ((iX (ar h d.toNat 0)).length:ax) 0 e f h else aj else k0 a d e f h
def l15(N:aE)(k0:oF R):aE->oF R
 |0=>λ_ _ _ _ _=>aj
 |n+1=>r15 N (l15 N k0 n) k0
def r5(N:aE)(g k0:B_ R)(a:aq)(d e f h:ax)(i:aQ):aA R:=bif decide (e<d)then bif decide (0<=e)&&decide (e<(i.length:ax))then bif qJ.c e a then bif decide (0<=qJ.v e a)&&decide (qJ.v e a<((iX (ar i e.toNat 0)).length:ax))then bif decide (0<=qJ.v e a)&&decide (qJ.v e a<((iX (ar i e.toNat 0)).length:ax))then g a d (bG (e+1)) f h (eC i e.toNat 0 [CV.l 3 (eC (iX (ar i e.toNat 0)) (qJ.v e a).toNat 0 [.i .i64 (iu ak (bG (bE (ar (iX (ar i e.toNat 0)) (qJ.v e a).toNat 0)+1)) 15)])])else aj else aj else aj else aj else k0 a d e f h i
def l5(N:aE)(k0:B_ R):aE->B_ R
 |0=>λ_ _ _ _ _ _=>aj
 |n+1=>r5 N (l5 N k0 n) k0
def b(N:aE)(kr:sK R)(a:aQ)(d:ax)(e:aq):aA R:=bif jq.c a d then bif pQ.c a d then bif !pQ.v a d then kr (jq.v a d).1 (jq.v a d).2 else l5 N (λ_ _ _ f h i=>bif decide (bG (h+1)<64)then kr i (bG (h+1))else l15 N (λ_ _ _ j l=>kr l j) N (i.length:ax) 0 f 0 i) N e ((jq.v a d).1.length:ax) 0 0 (jq.v a d).2 (jq.v a d).1 else aj else aj
def vo:=b Lib.cJ λr0 r1=>ah (r0,r1)
def c:=λa d e=>(vo a d e).isSome
def v:=λa d e=>(vo a d e).getD ([],0)
theorem out{x}:∀a d e,vo a d e=ah x->c a d e=ai/\v a d e=x:=λ_ _ _=>Lib.c5
end iJ

namespace Bc
def b(kr:aU->aA R)(a gQ:aq):aA R:=kr (bW (aC a) (aC gQ))
def v(a0 gQ:aq):aU:=(bW (aC a0) (aC gQ))
theorem eh(kr:aU->aA R)(a0 gQ:aq):b kr a0 gQ=kr (v a0 gQ):=by first|rfl|(unfold b v;simp only[cz];(repeat' split)<;>rfl)
end Bc

namespace sP
def r2(N:aE)(g k0 k1:ie R)(a:aQ)(d:aq)(e f h:ax):aA R:=bif decide (h<f)then bif decide (0<=h)&&decide (h<(a.length:ax))then bif Bc.v (bz (ar a h.toNat 0)) d then k0 a d h f h else g a d e f (bG (h+1))else aj else k1 a d e f h
def l2(N:aE)(k0 k1:ie R):aE->ie R
 |0=>λ_ _ _ _ _=>aj
 |n+1=>r2 N (l2 N k0 k1 n) k0 k1
def b(N:aE)(kr:ax->aA R)(a:aQ)(gQ:aq):aA R:=l2 N (λ_ _ d _ _=>kr d) (λ_ _ _ _ _=>kr (-1)) N a gQ 0 (a.length:ax) 0
def vo:=b Lib.cJ λr0=>ah r0
def c:=λa d=>(vo a d).isSome
def v:=λa d=>(vo a d).getD (0)
theorem out{x}:∀a d,vo a d=ah x->c a d=ai/\v a d=x:=λ_ _=>Lib.c5
end sP

namespace w_
def r5(N:aE)(g k0:my R)(a:aq)(d e:ax)(f:aQ):aA R:=bif decide (e<(f.length:ax))then bif decide (0<=e)&&decide (e<(f.length:ax))then bif !Bc.v (bz (ar f e.toNat 0)) a then bif decide (0<=d)&&decide (d<(f.length:ax))then g a (bG (d+1)) (bG (e+1)) (eC f d.toNat 0 [.s (bz (ar f e.toNat 0))])else aj else g a d (bG (e+1)) f else aj else k0 a d e f
def l5(N:aE)(k0:my R):aE->my R
 |0=>λ_ _ _ _=>aj
 |n+1=>r5 N (l5 N k0 n) k0
def b(N:aE)(kr:aQ->aA R)(a:aQ)(gQ:aq):aA R:=bif sP.c a gQ then bif decide (sP.v a gQ=KV 1)then kr a else l5 N (λ_ d _ e=>bif ic d (e.length:ax) (e.length:ax)then bif ic 0 d ((g7 d.toNat e++aP [.s] ((e.length:ax).toNat-d.toNat)++nt (e.length:ax).toNat e).length:ax)then kr (eW (g7 d.toNat e++aP [.s] ((e.length:ax).toNat-d.toNat)++nt (e.length:ax).toNat e) (aZ 0) d.toNat)else aj else aj) N gQ (sP.v a gQ) (bG (sP.v a gQ+1)) a else aj
def vo:=b Lib.cJ λr0=>ah r0
def c:=λa d=>(vo a d).isSome
def v:=λa d=>(vo a d).getD ([])
theorem out{x}:∀a d,vo a d=ah x->c a d=ai/\v a d=x:=λ_ _=>Lib.c5
end w_

namespace kh
def b(kr:aQ->aA R)(a:aQ)(d:aq):aA R:=bif tu.c a then bif w_.c (tu.v a) d then kr (w_.v (tu.v a) d)else aj else aj
def vo:=b λr0=>ah r0
def c:=λa d=>(vo a d).isSome
def v:=λa d=>(vo a d).getD ([])
theorem out{x}:∀a d,vo a d=ah x->c a d=ai/\v a d=x:=λ_ _=>Lib.c5
end kh

namespace v9
def r5(N:aE)(g k0:Gs R)(a:aq)(d:ax)(e:aQ)(f h:ax):aA R:=bif decide (h<f)then bif decide (0<=h)&&decide (h<(e.length:ax))then bif qJ.c h a then bif decide (0<=qJ.v h a)&&decide (qJ.v h a<((iX (ar e h.toNat 0)).length:ax))then g a (iu ak d (bE (ar (iX (ar e h.toNat 0)) (qJ.v h a).toNat 0))) e f (bG (h+1))else aj else aj else aj else k0 a d e f h
def l5(N:aE)(k0:Gs R):aE->Gs R
 |0=>λ_ _ _ _ _=>aj
 |n+1=>r5 N (l5 N k0 n) k0
def b(N:aE)(kr:ax->aA R)(a:aQ)(d:ax)(e:aq):aA R:=bif pQ.c a d then bif !pQ.v a d then kr 0 else l5 N (λ_ f _ _ _=>kr f) N e 15 a (a.length:ax) 0 else aj
def vo:=b Lib.cJ λr0=>ah r0
def c:=λa d e=>(vo a d e).isSome
def v:=λa d e=>(vo a d e).getD (0)
theorem out{x}:∀a d e,vo a d e=ah x->c a d e=ai/\v a d e=x:=λ_ _ _=>Lib.c5
end v9

namespace zE
def b(kr:MM R)(a d e:aQ)(f:ax)(h:aq):aA R:=bif jw.c a d e f then bif pd.c a d e f then bif !pd.v a d e f then kr (jw.v a d e f).1 (jw.v a d e f).2.1 (jw.v a d e f).2.2.1 (jw.v a d e f).2.2.2 ⟨#[]⟩else bif !zD.v h then kr (jw.v a d e f).1 (jw.v a d e f).2.1 (jw.v a d e f).2.2.1 (jw.v a d e f).2.2.2 ⟨#[]⟩else bif iJ.c e f h then bif sN.c d h then bif sN.v d h then bif kh.c d h then bif cw ((kh.v d h).length+(aD (aP [.s] 1) 0 [.s h]).length) 16 then kr (jw.v a d e f).1 (kh.v d h++aD (aP [.s] 1) 0 [.s h]) (iJ.v e f h).1 (iJ.v e f h).2 ⟨#[]⟩else aj else aj else bif kh.c a h then bif cw ((kh.v a h).length+(aD (aP [.s] 1) 0 [.s h]).length) 16 then bif decide (((kh.v a h++aD (aP [.s] 1) 0 [.s h]).length:ax)<=2)then kr (kh.v a h++aD (aP [.s] 1) 0 [.s h]) (jw.v a d e f).2.1 (iJ.v e f h).1 (iJ.v e f h).2 ⟨#[]⟩else bif decide (0<((kh.v a h++aD (aP [.s] 1) 0 [.s h]).length:ax))then bif ic 1 ((kh.v a h++aD (aP [.s] 1) 0 [.s h]).length:ax) ((kh.v a h++aD (aP [.s] 1) 0 [.s h]).length:ax)then bif decide (((jw.v a d e f).2.1.length:ax)<4)then bif cw ((jw.v a d e f).2.1.length+(aD (aP [.s] 1) 0 [.s (bz (ar (kh.v a h++aD (aP [.s] 1) 0 [.s h]) (aZ 0) 0))]).length) 16 then kr (eW (kh.v a h++aD (aP [.s] 1) 0 [.s h]) (aZ 1) ((kh.v a h++aD (aP [.s] 1) 0 [.s h]).length:ax).toNat) ((jw.v a d e f).2.1++aD (aP [.s] 1) 0 [.s (bz (ar (kh.v a h++aD (aP [.s] 1) 0 [.s h]) (aZ 0) 0))]) (iJ.v e f h).1 (iJ.v e f h).2 ⟨#[]⟩else aj else bif decide (0<((jw.v a d e f).2.1.length:ax))then bif v9.c (iJ.v e f h).1 (iJ.v e f h).2 (bz (ar (kh.v a h++aD (aP [.s] 1) 0 [.s h]) (aZ 0) 0))then bif v9.c (iJ.v e f h).1 (iJ.v e f h).2 (bz (ar (jw.v a d e f).2.1 (aZ 0) 0))then bif decide (v9.v (iJ.v e f h).1 (iJ.v e f h).2 (bz (ar (kh.v a h++aD (aP [.s] 1) 0 [.s h]) (aZ 0) 0))>v9.v (iJ.v e f h).1 (iJ.v e f h).2 (bz (ar (jw.v a d e f).2.1 (aZ 0) 0)))then bif ic 1 ((jw.v a d e f).2.1.length:ax) ((jw.v a d e f).2.1.length:ax)then bif cw ((eW (jw.v a d e f).2.1 (aZ 1) ((jw.v a d e f).2.1.length:ax).toNat).length+(aD (aP [.s] 1) 0 [.s (bz (ar (kh.v a h++aD (aP [.s] 1) 0 [.s h]) (aZ 0) 0))]).length) 16 then kr (eW (kh.v a h++aD (aP [.s] 1) 0 [.s h]) (aZ 1) ((kh.v a h++aD (aP [.s] 1) 0 [.s h]).length:ax).toNat) (eW (jw.v a d e f).2.1 (aZ 1) ((jw.v a d e f).2.1.length:ax).toNat++aD (aP [.s] 1) 0 [.s (bz (ar (kh.v a h++aD (aP [.s] 1) 0 [.s h]) (aZ 0) 0))]) (iJ.v e f h).1 (iJ.v e f h).2 (bz (ar (jw.v a d e f).2.1 (aZ 0) 0))else aj else aj else kr (eW (kh.v a h++aD (aP [.s] 1) 0 [.s h]) (aZ 1) ((kh.v a h++aD (aP [.s] 1) 0 [.s h]).length:ax).toNat) (jw.v a d e f).2.1 (iJ.v e f h).1 (iJ.v e f h).2 (bz (ar (kh.v a h++aD (aP [.s] 1) 0 [.s h]) (aZ 0) 0))else aj else aj else aj else aj else aj else aj else aj else aj else aj else aj else aj
def vo:=b λr0 r1 r2 r3 r4=>ah (r0,r1,r2,r3,r4)
def c:=λa d e f h=>(vo a d e f h).isSome
def v:=λa d e f h=>(vo a d e f h).getD ([],[],[],0,⟨#[]⟩)
theorem out{x}:∀a d e f h,vo a d e f h=ah x->c a d e f h=ai/\v a d e f h=x:=λ_ _ _ _ _=>Lib.c5
end zE


namespace jo
def r2(N:aE)(g k0:jB R)(a d e f h:ax)(i:aq)(j l m:ax)(o:aq)(p:ax)(q r s t u w:aQ):aA R:=bif decide (a<(w.length:ax))then bif decide (0<=a)&&decide (a<(w.length:ax))then bif decide (bE (ar w a.toNat 0)<h)then g (bG (a+1)) d e f h i j l m o p q r s t u w else k0 a d e f h i j l m o p q r s t u w else aj else k0 a d e f h i j l m o p q r s t u w
def l2(N:aE)(k0:jB R):aE->jB R
 |0=>λ_ _ _ _ _ _ _ _ _ _ _ _ _ _ _ _ _=>aj
 |n+1=>r2 N (l2 N k0 n) k0
def b(N:aE)(kr:dY R)(a:ax)(d e f h:aQ)(i:ax)(j l:aQ)(m o:ax)(p:aq)(q r s:ax)(t:aq)(u:ax):aA R:=l2 N (λw y z α xa xb xc xd xe xf xg xh xi xj xk xl xm=>bif decide (0<=w)&&decide (w<=(xm.length:ax))&&cw (xm.length+(aD (aP [Ck.i ao,Ck.s,Ck.i ao,Ck.i ao,Ck.i ao,Ck.s,Ck.i ao] 1) 0 [.i .i64 xa, .s xb, .i .i64 xc, .i .i64 xd, .i .i64 xe, .s xf, .i .i64 xg]).length) 72 then kr y xh xi xj xk z xl (Pu.tN xm w.toNat (aD (aP [Ck.i ao,Ck.s,Ck.i ao,Ck.i ao,Ck.i ao,Ck.s,Ck.i ao] 1) 0 [.i .i64 xa, .s xb, .i .i64 xc, .i .i64 xd, .i .i64 xe, .s xf, .i .i64 xg])) α else aj) N 0 a i m o p q r s t u d e f h j l
def vo:=b Lib.cJ λr0 r1 r2 r3 r4 r5 r6 r7 r8=>ah (r0,r1,r2,r3,r4,r5,r6,r7,r8)
def c:=λa d e f h i j l m o p q r s t u=>(vo a d e f h i j l m o p q r s t u).isSome
def v:=λa d e f h i j l m o p q r s t u=>(vo a d e f h i j l m o p q r s t u).getD (0,[],[],[],[],0,[],[],0)
theorem out{x}:∀a d e f h i j l m o p q r s t u,vo a d e f h i j l m o p q r s t u=ah x->c a d e f h i j l m o p q r s t u=ai/\v a d e f h i j l m o p q r s t u=x:=λ_ _ _ _ _ _ _ _ _ _ _ _ _ _ _ _=>Lib.c5
end jo

namespace pf
def r5(N:aE)(g k0:my R)(a:aq)(d e:ax)(f:aQ):aA R:=bif decide (e<(f.length:ax))then bif decide (0<=e)&&decide (e<(f.length:ax))then bif !Ba.v (bz (ar f e.toNat 0)) (bE (ar f e.toNat 1)) (bE (ar f e.toNat (1+1))) (bz (ar f e.toNat (1+1+1))) a then bif decide (0<=d)&&decide (d<(f.length:ax))then g a (bG (d+1)) (bG (e+1)) (eC f d.toNat 0 [.s (bz (ar f e.toNat 0)), .i .i64 (bE (ar f e.toNat 1)), .i .i64 (bE (ar f e.toNat (1+1))), .s (bz (ar f e.toNat (1+1+1)))])else aj else g a d (bG (e+1)) f else aj else k0 a d e f
def l5(N:aE)(k0:my R):aE->my R
 |0=>λ_ _ _ _=>aj
 |n+1=>r5 N (l5 N k0 n) k0
def b(N:aE)(kr:aQ->aA R)(a:aQ)(gQ:aq):aA R:=bif nv.c a gQ then bif decide (nv.v a gQ=KV 1)then kr a else l5 N (λ_ d _ e=>bif ic d (e.length:ax) (e.length:ax)then bif ic 0 d ((g7 d.toNat e++aP [Ck.s,Ck.i ao,Ck.i ao,Ck.s] ((e.length:ax).toNat-d.toNat)++nt (e.length:ax).toNat e).length:ax)then kr (eW (g7 d.toNat e++aP [Ck.s,Ck.i ao,Ck.i ao,Ck.s] ((e.length:ax).toNat-d.toNat)++nt (e.length:ax).toNat e) (aZ 0) d.toNat)else aj else aj) N gQ (nv.v a gQ) (bG (nv.v a gQ+1)) a else aj
def vo:=b Lib.cJ λr0=>ah r0
def c:=λa d=>(vo a d).isSome
def v:=λa d=>(vo a d).getD ([])
theorem out{x}:∀a d,vo a d=ah x->c a d=ai/\v a d=x:=λ_ _=>Lib.c5
end pf

namespace pP
def b(kr:aQ->aA R)(a:aQ)(d:aq):aA R:=bif wZ.c a then bif pf.c (wZ.v a) d then kr (pf.v (wZ.v a) d)else aj else aj
def vo:=b λr0=>ah r0
def c:=λa d=>(vo a d).isSome
def v:=λa d=>(vo a d).getD ([])
theorem out{x}:∀a d,vo a d=ah x->c a d=ai/\v a d=x:=λ_ _=>Lib.c5
end pP

namespace va
def b(kr:td R)(a d e:aQ)(f:ax)(h:aq):aA R:=bif jw.c a d e f then bif kh.c a h then bif kh.c d h then kr (kh.v a h) (kh.v d h) (jw.v a d e f).2.2.1 (jw.v a d e f).2.2.2 else aj else aj else aj
def vo:=b λr0 r1 r2 r3=>ah (r0,r1,r2,r3)
def c:=λa d e f h=>(vo a d e f h).isSome
def v:=λa d e f h=>(vo a d e f h).getD ([],[],[],0)
theorem out{x}:∀a d e f h,vo a d e f h=ah x->c a d e f h=ai/\v a d e f h=x:=λ_ _ _ _ _=>Lib.c5
end va

namespace SN
def b(kr:wK R)(a:ax)(d e f h:aQ)(i:ax)(j l:aQ)(m o:ax)(p:aq):aA R:=bif iN.c a d e f h i j l m then Lib.lt (iN.v a d e f h i j l m) λq=>bif KE.c a d e f h i j l m then Lib.lt (KE.v a d e f h i j l m) λr=>bif !r then kr q.1 q.2.1 q.2.2.1 q.2.2.2.1 q.2.2.2.2.1 q.2.2.2.2.2.1 q.2.2.2.2.2.2.1 q.2.2.2.2.2.2.2.1 q.2.2.2.2.2.2.2.2 1 else bif !lH.v o 1 9 then kr q.1 q.2.1 q.2.2.1 q.2.2.2.1 q.2.2.2.2.1 q.2.2.2.2.2.1 q.2.2.2.2.2.2.1 q.2.2.2.2.2.2.2.1 q.2.2.2.2.2.2.2.2 1 else bif !zD.v p then kr q.1 q.2.1 q.2.2.1 q.2.2.2.1 q.2.2.2.2.1 q.2.2.2.2.2.1 q.2.2.2.2.2.2.1 q.2.2.2.2.2.2.2.1 q.2.2.2.2.2.2.2.2 1 else bif zA.c a d e f h i j l m o then Lib.lt (zA.v a d e f h i j l m o) λs=>bif decide (s≥0)then kr q.1 q.2.1 q.2.2.1 q.2.2.2.1 q.2.2.2.2.1 q.2.2.2.2.2.1 q.2.2.2.2.2.2.1 q.2.2.2.2.2.2.2.1 q.2.2.2.2.2.2.2.2 1 else bif decide ((l.length:ax)=6)then kr q.1 q.2.1 q.2.2.1 q.2.2.2.1 q.2.2.2.2.1 q.2.2.2.2.2.1 q.2.2.2.2.2.2.1 q.2.2.2.2.2.2.2.1 q.2.2.2.2.2.2.2.2 1 else bif pW.c d p then Lib.lt (pW.v d p) λt=>bif decide (t≥0)then bif decide (0<=t)&&decide (t<(d.length:ax))then bif Ef.v (bz (ar d t.toNat 0)) (bE (ar d t.toNat 1)) (bE (ar d t.toNat (1+1))) (bz (ar d t.toNat (1+1+1))) a then bif decide (0<=t)&&decide (t<(d.length:ax))then bif zE.c e f h i p then Lib.lt (zE.v e f h i p) λu=>bif jo.c q.1 q.2.1 u.1 u.2.1 u.2.2.1 u.2.2.2.1 q.2.2.2.2.2.2.1 q.2.2.2.2.2.2.2.1 q.2.2.2.2.2.2.2.2 o p 0 (bE (ar d t.toNat 1)) 2 (bz (ar d t.toNat (1+1+1))) (bG (a-bE (ar d t.toNat 1)))then Lib.lt (jo.v q.1 q.2.1 u.1 u.2.1 u.2.2.1 u.2.2.2.1 q.2.2.2.2.2.2.1 q.2.2.2.2.2.2.2.1 q.2.2.2.2.2.2.2.2 o p 0 (bE (ar d t.toNat 1)) 2 (bz (ar d t.toNat (1+1+1))) (bG (a-bE (ar d t.toNat 1)))) λw=>kr w.1 w.2.1 w.2.2.1 w.2.2.2.1 w.2.2.2.2.1 w.2.2.2.2.2.1 w.2.2.2.2.2.2.1 w.2.2.2.2.2.2.2.1 (iu ak (bG (m+1)) 1000000000) 0 else aj else aj else aj else bif K7.c a d e f h i j l m p then Lib.lt (K7.v a d e f h i j l m p) λu=>bif decide (u<0)then bif decide ((j.length:ax)=20)then kr q.1 q.2.1 q.2.2.1 q.2.2.2.1 q.2.2.2.2.1 q.2.2.2.2.2.1 q.2.2.2.2.2.2.1 q.2.2.2.2.2.2.2.1 q.2.2.2.2.2.2.2.2 2 else bif decide (t≥0)then bif pP.c d p then Lib.lt (pP.v d p) λw=>bif va.c e f h i p then Lib.lt (va.v e f h i p) λy=>bif iJ.c h i p then Lib.lt (iJ.v h i p) λz=>bif decide (u<0)then bif cw (q.2.2.2.2.2.2.1.length+(aD (aP [Ck.s,Ck.s,Ck.i ao,Ck.i ao,Ck.i ao] 1) 0 [.s p, .s ⟨#[]⟩, .i .i64 1, .i .i64 0, .i .i64 0]).length) 56 then bif decide ((j.length:ax)<((q.2.2.2.2.2.2.1++aD (aP [Ck.s,Ck.s,Ck.i ao,Ck.i ao,Ck.i ao] 1) 0 [.s p, .s ⟨#[]⟩, .i .i64 1, .i .i64 0, .i .i64 0]).length:ax))then bif jo.c q.1 w y.1 y.2.1 z.1 z.2 (q.2.2.2.2.2.2.1++aD (aP [Ck.s,Ck.s,Ck.i ao,Ck.i ao,Ck.i ao] 1) 0 [.s p, .s ⟨#[]⟩, .i .i64 1, .i .i64 0, .i .i64 0]) q.2.2.2.2.2.2.2.1 q.2.2.2.2.2.2.2.2 o p (bG ((j.length:ax)+1)) 0 1 (bz (ar (q.2.2.2.2.2.2.1++aD (aP [Ck.s,Ck.s,Ck.i ao,Ck.i ao,Ck.i ao] 1) 0 [.s p, .s ⟨#[]⟩, .i .i64 1, .i .i64 0, .i .i64 0]) (j.length:ax).toNat 1)) 0 then Lib.lt (jo.v q.1 w y.1 y.2.1 z.1 z.2 (q.2.2.2.2.2.2.1++aD (aP [Ck.s,Ck.s,Ck.i ao,Ck.i ao,Ck.i ao] 1) 0 [.s p, .s ⟨#[]⟩, .i .i64 1, .i .i64 0, .i .i64 0]) q.2.2.2.2.2.2.2.1 q.2.2.2.2.2.2.2.2 o p (bG ((j.length:ax)+1)) 0 1 (bz (ar (q.2.2.2.2.2.2.1++aD (aP [Ck.s,Ck.s,Ck.i ao,Ck.i ao,Ck.i ao] 1) 0 [.s p, .s ⟨#[]⟩, .i .i64 1, .i .i64 0, .i .i64 0]) (j.length:ax).toNat 1)) 0) λα=>kr α.1 α.2.1 α.2.2.1 α.2.2.2.1 α.2.2.2.2.1 α.2.2.2.2.2.1 α.2.2.2.2.2.2.1 α.2.2.2.2.2.2.2.1 α.2.2.2.2.2.2.2.2 0 else aj else aj else aj else bif decide (0<=u)&&decide (u<(q.2.2.2.2.2.2.1.length:ax))then bif jo.c q.1 w y.1 y.2.1 z.1 z.2 q.2.2.2.2.2.2.1 q.2.2.2.2.2.2.2.1 q.2.2.2.2.2.2.2.2 o p (bG (u+1)) 0 1 (bz (ar q.2.2.2.2.2.2.1 u.toNat 1)) 0 then Lib.lt (jo.v q.1 w y.1 y.2.1 z.1 z.2 q.2.2.2.2.2.2.1 q.2.2.2.2.2.2.2.1 q.2.2.2.2.2.2.2.2 o p (bG (u+1)) 0 1 (bz (ar q.2.2.2.2.2.2.1 u.toNat 1)) 0) λα=>kr α.1 α.2.1 α.2.2.1 α.2.2.2.1 α.2.2.2.2.1 α.2.2.2.2.2.1 α.2.2.2.2.2.2.1 α.2.2.2.2.2.2.2.1 α.2.2.2.2.2.2.2.2 0 else aj else aj else aj else aj else aj else bif iJ.c h i p then Lib.lt (iJ.v h i p) λw=>bif decide (u<0)then bif cw (q.2.2.2.2.2.2.1.length+(aD (aP [Ck.s,Ck.s,Ck.i ao,Ck.i ao,Ck.i ao] 1) 0 [.s p, .s ⟨#[]⟩, .i .i64 1, .i .i64 0, .i .i64 0]).length) 56 then bif decide ((j.length:ax)<((q.2.2.2.2.2.2.1++aD (aP [Ck.s,Ck.s,Ck.i ao,Ck.i ao,Ck.i ao] 1) 0 [.s p, .s ⟨#[]⟩, .i .i64 1, .i .i64 0, .i .i64 0]).length:ax))then bif jo.c q.1 q.2.1 q.2.2.1 q.2.2.2.1 w.1 w.2 (q.2.2.2.2.2.2.1++aD (aP [Ck.s,Ck.s,Ck.i ao,Ck.i ao,Ck.i ao] 1) 0 [.s p, .s ⟨#[]⟩, .i .i64 1, .i .i64 0, .i .i64 0]) q.2.2.2.2.2.2.2.1 q.2.2.2.2.2.2.2.2 o p (bG ((j.length:ax)+1)) 0 1 (bz (ar (q.2.2.2.2.2.2.1++aD (aP [Ck.s,Ck.s,Ck.i ao,Ck.i ao,Ck.i ao] 1) 0 [.s p, .s ⟨#[]⟩, .i .i64 1, .i .i64 0, .i .i64 0]) (j.length:ax).toNat 1)) 0 then Lib.lt (jo.v q.1 q.2.1 q.2.2.1 q.2.2.2.1 w.1 w.2 (q.2.2.2.2.2.2.1++aD (aP [Ck.s,Ck.s,Ck.i ao,Ck.i ao,Ck.i ao] 1) 0 [.s p, .s ⟨#[]⟩, .i .i64 1, .i .i64 0, .i .i64 0]) q.2.2.2.2.2.2.2.1 q.2.2.2.2.2.2.2.2 o p (bG ((j.length:ax)+1)) 0 1 (bz (ar (q.2.2.2.2.2.2.1++aD (aP [Ck.s,Ck.s,Ck.i ao,Ck.i ao,Ck.i ao] 1) 0 [.s p, .s ⟨#[]⟩, .i .i64 1, .i .i64 0, .i .i64 0]) (j.length:ax).toNat 1)) 0) λy=>kr y.1 y.2.1 y.2.2.1 y.2.2.2.1 y.2.2.2.2.1 y.2.2.2.2.2.1 y.2.2.2.2.2.2.1 y.2.2.2.2.2.2.2.1 y.2.2.2.2.2.2.2.2 0 else aj else aj else aj else bif decide (0<=u)&&decide (u<(q.2.2.2.2.2.2.1.length:ax))then bif jo.c q.1 q.2.1 q.2.2.1 q.2.2.2.1 w.1 w.2 q.2.2.2.2.2.2.1 q.2.2.2.2.2.2.2.1 q.2.2.2.2.2.2.2.2 o p (bG (u+1)) 0 1 (bz (ar q.2.2.2.2.2.2.1 u.toNat 1)) 0 then Lib.lt (jo.v q.1 q.2.1 q.2.2.1 q.2.2.2.1 w.1 w.2 q.2.2.2.2.2.2.1 q.2.2.2.2.2.2.2.1 q.2.2.2.2.2.2.2.2 o p (bG (u+1)) 0 1 (bz (ar q.2.2.2.2.2.2.1 u.toNat 1)) 0) λy=>kr y.1 y.2.1 y.2.2.1 y.2.2.2.1 y.2.2.2.2.1 y.2.2.2.2.2.1 y.2.2.2.2.2.2.1 y.2.2.2.2.2.2.2.1 y.2.2.2.2.2.2.2.2 0 else aj else aj else aj else bif decide (t≥0)then bif pP.c d p then Lib.lt (pP.v d p) λw=>bif va.c e f h i p then Lib.lt (va.v e f h i p) λy=>bif iJ.c h i p then Lib.lt (iJ.v h i p) λz=>bif decide (u<0)then bif cw (q.2.2.2.2.2.2.1.length+(aD (aP [Ck.s,Ck.s,Ck.i ao,Ck.i ao,Ck.i ao] 1) 0 [.s p, .s ⟨#[]⟩, .i .i64 1, .i .i64 0, .i .i64 0]).length) 56 then bif decide ((j.length:ax)<((q.2.2.2.2.2.2.1++aD (aP [Ck.s,Ck.s,Ck.i ao,Ck.i ao,Ck.i ao] 1) 0 [.s p, .s ⟨#[]⟩, .i .i64 1, .i .i64 0, .i .i64 0]).length:ax))then bif jo.c q.1 w y.1 y.2.1 z.1 z.2 (q.2.2.2.2.2.2.1++aD (aP [Ck.s,Ck.s,Ck.i ao,Ck.i ao,Ck.i ao] 1) 0 [.s p, .s ⟨#[]⟩, .i .i64 1, .i .i64 0, .i .i64 0]) q.2.2.2.2.2.2.2.1 q.2.2.2.2.2.2.2.2 o p (bG ((j.length:ax)+1)) 0 1 (bz (ar (q.2.2.2.2.2.2.1++aD (aP [Ck.s,Ck.s,Ck.i ao,Ck.i ao,Ck.i ao] 1) 0 [.s p, .s ⟨#[]⟩, .i .i64 1, .i .i64 0, .i .i64 0]) (j.length:ax).toNat 1)) 0 then Lib.lt (jo.v q.1 w y.1 y.2.1 z.1 z.2 (q.2.2.2.2.2.2.1++aD (aP [Ck.s,Ck.s,Ck.i ao,Ck.i ao,Ck.i ao] 1) 0 [.s p, .s ⟨#[]⟩, .i .i64 1, .i .i64 0, .i .i64 0]) q.2.2.2.2.2.2.2.1 q.2.2.2.2.2.2.2.2 o p (bG ((j.length:ax)+1)) 0 1 (bz (ar (q.2.2.2.2.2.2.1++aD (aP [Ck.s,Ck.s,Ck.i ao,Ck.i ao,Ck.i ao] 1) 0 [.s p, .s ⟨#[]⟩, .i .i64 1, .i .i64 0, .i .i64 0]) (j.length:ax).toNat 1)) 0) λα=>kr α.1 α.2.1 α.2.2.1 α.2.2.2.1 α.2.2.2.2.1 α.2.2.2.2.2.1 α.2.2.2.2.2.2.1 α.2.2.2.2.2.2.2.1 α.2.2.2.2.2.2.2.2 0 else aj else aj else aj else bif decide (0<=u)&&decide (u<(q.2.2.2.2.2.2.1.length:ax))then bif jo.c q.1 w y.1 y.2.1 z.1 z.2 q.2.2.2.2.2.2.1 q.2.2.2.2.2.2.2.1 q.2.2.2.2.2.2.2.2 o p (bG (u+1)) 0 1 (bz (ar q.2.2.2.2.2.2.1 u.toNat 1)) 0 then Lib.lt (jo.v q.1 w y.1 y.2.1 z.1 z.2 q.2.2.2.2.2.2.1 q.2.2.2.2.2.2.2.1 q.2.2.2.2.2.2.2.2 o p (bG (u+1)) 0 1 (bz (ar q.2.2.2.2.2.2.1 u.toNat 1)) 0) λα=>kr α.1 α.2.1 α.2.2.1 α.2.2.2.1 α.2.2.2.2.1 α.2.2.2.2.2.1 α.2.2.2.2.2.2.1 α.2.2.2.2.2.2.2.1 α.2.2.2.2.2.2.2.2 0 else aj else aj else aj else aj else aj else bif iJ.c h i p then Lib.lt (iJ.v h i p) λw=>bif decide (u<0)then bif cw (q.2.2.2.2.2.2.1.length+(aD (aP [Ck.s,Ck.s,Ck.i ao,Ck.i ao,Ck.i ao] 1) 0 [.s p, .s ⟨#[]⟩, .i .i64 1, .i .i64 0, .i .i64 0]).length) 56 then bif decide ((j.length:ax)<((q.2.2.2.2.2.2.1++aD (aP [Ck.s,Ck.s,Ck.i ao,Ck.i ao,Ck.i ao] 1) 0 [.s p, .s ⟨#[]⟩, .i .i64 1, .i .i64 0, .i .i64 0]).length:ax))then bif jo.c q.1 q.2.1 q.2.2.1 q.2.2.2.1 w.1 w.2 (q.2.2.2.2.2.2.1++aD (aP [Ck.s,Ck.s,Ck.i ao,Ck.i ao,Ck.i ao] 1) 0 [.s p, .s ⟨#[]⟩, .i .i64 1, .i .i64 0, .i .i64 0]) q.2.2.2.2.2.2.2.1 q.2.2.2.2.2.2.2.2 o p (bG ((j.length:ax)+1)) 0 1 (bz (ar (q.2.2.2.2.2.2.1++aD (aP [Ck.s,Ck.s,Ck.i ao,Ck.i ao,Ck.i ao] 1) 0 [.s p, .s ⟨#[]⟩, .i .i64 1, .i .i64 0, .i .i64 0]) (j.length:ax).toNat 1)) 0 then Lib.lt (jo.v q.1 q.2.1 q.2.2.1 q.2.2.2.1 w.1 w.2 (q.2.2.2.2.2.2.1++aD (aP [Ck.s,Ck.s,Ck.i ao,Ck.i ao,Ck.i ao] 1) 0 [.s p, .s ⟨#[]⟩, .i .i64 1, .i .i64 0, .i .i64 0]) q.2.2.2.2.2.2.2.1 q.2.2.2.2.2.2.2.2 o p (bG ((j.length:ax)+1)) 0 1 (bz (ar (q.2.2.2.2.2.2.1++aD (aP [Ck.s,Ck.s,Ck.i ao,Ck.i ao,Ck.i ao] 1) 0 [.s p, .s ⟨#[]⟩, .i .i64 1, .i .i64 0, .i .i64 0]) (j.length:ax).toNat 1)) 0) λy=>kr y.1 y.2.1 y.2.2.1 y.2.2.2.1 y.2.2.2.2.1 y.2.2.2.2.2.1 y.2.2.2.2.2.2.1 y.2.2.2.2.2.2.2.1 y.2.2.2.2.2.2.2.2 0 else aj else aj else aj else bif decide (0<=u)&&decide (u<(q.2.2.2.2.2.2.1.length:ax))then bif jo.c q.1 q.2.1 q.2.2.1 q.2.2.2.1 w.1 w.2 q.2.2.2.2.2.2.1 q.2.2.2.2.2.2.2.1 q.2.2.2.2.2.2.2.2 o p (bG (u+1)) 0 1 (bz (ar q.2.2.2.2.2.2.1 u.toNat 1)) 0 then Lib.lt (jo.v q.1 q.2.1 q.2.2.1 q.2.2.2.1 w.1 w.2 q.2.2.2.2.2.2.1 q.2.2.2.2.2.2.2.1 q.2.2.2.2.2.2.2.2 o p (bG (u+1)) 0 1 (bz (ar q.2.2.2.2.2.2.1 u.toNat 1)) 0) λy=>kr y.1 y.2.1 y.2.2.1 y.2.2.2.1 y.2.2.2.2.1 y.2.2.2.2.2.1 y.2.2.2.2.2.2.1 y.2.2.2.2.2.2.2.1 y.2.2.2.2.2.2.2.2 0 else aj else aj else aj else aj else aj else bif K7.c a d e f h i j l m p then Lib.lt (K7.v a d e f h i j l m p) λu=>bif decide (u<0)then bif decide ((j.length:ax)=20)then kr q.1 q.2.1 q.2.2.1 q.2.2.2.1 q.2.2.2.2.1 q.2.2.2.2.2.1 q.2.2.2.2.2.2.1 q.2.2.2.2.2.2.2.1 q.2.2.2.2.2.2.2.2 2 else bif decide (t≥0)then bif pP.c d p then Lib.lt (pP.v d p) λw=>bif va.c e f h i p then Lib.lt (va.v e f h i p) λy=>bif iJ.c h i p then Lib.lt (iJ.v h i p) λz=>bif decide (u<0)then bif cw (q.2.2.2.2.2.2.1.length+(aD (aP [Ck.s,Ck.s,Ck.i ao,Ck.i ao,Ck.i ao] 1) 0 [.s p, .s ⟨#[]⟩, .i .i64 1, .i .i64 0, .i .i64 0]).length) 56 then bif decide ((j.length:ax)<((q.2.2.2.2.2.2.1++aD (aP [Ck.s,Ck.s,Ck.i ao,Ck.i ao,Ck.i ao] 1) 0 [.s p, .s ⟨#[]⟩, .i .i64 1, .i .i64 0, .i .i64 0]).length:ax))then bif jo.c q.1 w y.1 y.2.1 z.1 z.2 (q.2.2.2.2.2.2.1++aD (aP [Ck.s,Ck.s,Ck.i ao,Ck.i ao,Ck.i ao] 1) 0 [.s p, .s ⟨#[]⟩, .i .i64 1, .i .i64 0, .i .i64 0]) q.2.2.2.2.2.2.2.1 q.2.2.2.2.2.2.2.2 o p (bG ((j.length:ax)+1)) 0 1 (bz (ar (q.2.2.2.2.2.2.1++aD (aP [Ck.s,Ck.s,Ck.i ao,Ck.i ao,Ck.i ao] 1) 0 [.s p, .s ⟨#[]⟩, .i .i64 1, .i .i64 0, .i .i64 0]) (j.length:ax).toNat 1)) 0 then Lib.lt (jo.v q.1 w y.1 y.2.1 z.1 z.2 (q.2.2.2.2.2.2.1++aD (aP [Ck.s,Ck.s,Ck.i ao,Ck.i ao,Ck.i ao] 1) 0 [.s p, .s ⟨#[]⟩, .i .i64 1, .i .i64 0, .i .i64 0]) q.2.2.2.2.2.2.2.1 q.2.2.2.2.2.2.2.2 o p (bG ((j.length:ax)+1)) 0 1 (bz (ar (q.2.2.2.2.2.2.1++aD (aP [Ck.s,Ck.s,Ck.i ao,Ck.i ao,Ck.i ao] 1) 0 [.s p, .s ⟨#[]⟩, .i .i64 1, .i .i64 0, .i .i64 0]) (j.length:ax).toNat 1)) 0) λα=>kr α.1 α.2.1 α.2.2.1 α.2.2.2.1 α.2.2.2.2.1 α.2.2.2.2.2.1 α.2.2.2.2.2.2.1 α.2.2.2.2.2.2.2.1 α.2.2.2.2.2.2.2.2 0 else aj else aj else aj else bif decide (0<=u)&&decide (u<(q.2.2.2.2.2.2.1.length:ax))then bif jo.c q.1 w y.1 y.2.1 z.1 z.2 q.2.2.2.2.2.2.1 q.2.2.2.2.2.2.2.1 q.2.2.2.2.2.2.2.2 o p (bG (u+1)) 0 1 (bz (ar q.2.2.2.2.2.2.1 u.toNat 1)) 0 then Lib.lt (jo.v q.1 w y.1 y.2.1 z.1 z.2 q.2.2.2.2.2.2.1 q.2.2.2.2.2.2.2.1 q.2.2.2.2.2.2.2.2 o p (bG (u+1)) 0 1 (bz (ar q.2.2.2.2.2.2.1 u.toNat 1)) 0) λα=>kr α.1 α.2.1 α.2.2.1 α.2.2.2.1 α.2.2.2.2.1 α.2.2.2.2.2.1 α.2.2.2.2.2.2.1 α.2.2.2.2.2.2.2.1 α.2.2.2.2.2.2.2.2 0 else aj else aj else aj else aj else aj else bif iJ.c h i p then Lib.lt (iJ.v h i p) λw=>bif decide (u<0)then bif cw (q.2.2.2.2.2.2.1.length+(aD (aP [Ck.s,Ck.s,Ck.i ao,Ck.i ao,Ck.i ao] 1) 0 [.s p, .s ⟨#[]⟩, .i .i64 1, .i .i64 0, .i .i64 0]).length) 56 then bif decide ((j.length:ax)<((q.2.2.2.2.2.2.1++aD (aP [Ck.s,Ck.s,Ck.i ao,Ck.i ao,Ck.i ao] 1) 0 [.s p, .s ⟨#[]⟩, .i .i64 1, .i .i64 0, .i .i64 0]).length:ax))then bif jo.c q.1 q.2.1 q.2.2.1 q.2.2.2.1 w.1 w.2 (q.2.2.2.2.2.2.1++aD (aP [Ck.s,Ck.s,Ck.i ao,Ck.i ao,Ck.i ao] 1) 0 [.s p, .s ⟨#[]⟩, .i .i64 1, .i .i64 0, .i .i64 0]) q.2.2.2.2.2.2.2.1 q.2.2.2.2.2.2.2.2 o p (bG ((j.length:ax)+1)) 0 1 (bz (ar (q.2.2.2.2.2.2.1++aD (aP [Ck.s,Ck.s,Ck.i ao,Ck.i ao,Ck.i ao] 1) 0 [.s p, .s ⟨#[]⟩, .i .i64 1, .i .i64 0, .i .i64 0]) (j.length:ax).toNat 1)) 0 then Lib.lt (jo.v q.1 q.2.1 q.2.2.1 q.2.2.2.1 w.1 w.2 (q.2.2.2.2.2.2.1++aD (aP [Ck.s,Ck.s,Ck.i ao,Ck.i ao,Ck.i ao] 1) 0 [.s p, .s ⟨#[]⟩, .i .i64 1, .i .i64 0, .i .i64 0]) q.2.2.2.2.2.2.2.1 q.2.2.2.2.2.2.2.2 o p (bG ((j.length:ax)+1)) 0 1 (bz (ar (q.2.2.2.2.2.2.1++aD (aP [Ck.s,Ck.s,Ck.i ao,Ck.i ao,Ck.i ao] 1) 0 [.s p, .s ⟨#[]⟩, .i .i64 1, .i .i64 0, .i .i64 0]) (j.length:ax).toNat 1)) 0) λy=>kr y.1 y.2.1 y.2.2.1 y.2.2.2.1 y.2.2.2.2.1 y.2.2.2.2.2.1 y.2.2.2.2.2.2.1 y.2.2.2.2.2.2.2.1 y.2.2.2.2.2.2.2.2 0 else aj else aj else aj else bif decide (0<=u)&&decide (u<(q.2.2.2.2.2.2.1.length:ax))then bif jo.c q.1 q.2.1 q.2.2.1 q.2.2.2.1 w.1 w.2 q.2.2.2.2.2.2.1 q.2.2.2.2.2.2.2.1 q.2.2.2.2.2.2.2.2 o p (bG (u+1)) 0 1 (bz (ar q.2.2.2.2.2.2.1 u.toNat 1)) 0 then Lib.lt (jo.v q.1 q.2.1 q.2.2.1 q.2.2.2.1 w.1 w.2 q.2.2.2.2.2.2.1 q.2.2.2.2.2.2.2.1 q.2.2.2.2.2.2.2.2 o p (bG (u+1)) 0 1 (bz (ar q.2.2.2.2.2.2.1 u.toNat 1)) 0) λy=>kr y.1 y.2.1 y.2.2.1 y.2.2.2.1 y.2.2.2.2.1 y.2.2.2.2.2.1 y.2.2.2.2.2.2.1 y.2.2.2.2.2.2.2.1 y.2.2.2.2.2.2.2.2 0 else aj else aj else aj else bif decide (t≥0)then bif pP.c d p then Lib.lt (pP.v d p) λw=>bif va.c e f h i p then Lib.lt (va.v e f h i p) λy=>bif iJ.c h i p then Lib.lt (iJ.v h i p) λz=>bif decide (u<0)then bif cw (q.2.2.2.2.2.2.1.length+(aD (aP [Ck.s,Ck.s,Ck.i ao,Ck.i ao,Ck.i ao] 1) 0 [.s p, .s ⟨#[]⟩, .i .i64 1, .i .i64 0, .i .i64 0]).length) 56 then bif decide ((j.length:ax)<((q.2.2.2.2.2.2.1++aD (aP [Ck.s,Ck.s,Ck.i ao,Ck.i ao,Ck.i ao] 1) 0 [.s p, .s ⟨#[]⟩, .i .i64 1, .i .i64 0, .i .i64 0]).length:ax))then bif jo.c q.1 w y.1 y.2.1 z.1 z.2 (q.2.2.2.2.2.2.1++aD (aP [Ck.s,Ck.s,Ck.i ao,Ck.i ao,Ck.i ao] 1) 0 [.s p, .s ⟨#[]⟩, .i .i64 1, .i .i64 0, .i .i64 0]) q.2.2.2.2.2.2.2.1 q.2.2.2.2.2.2.2.2 o p (bG ((j.length:ax)+1)) 0 1 (bz (ar (q.2.2.2.2.2.2.1++aD (aP [Ck.s,Ck.s,Ck.i ao,Ck.i ao,Ck.i ao] 1) 0 [.s p, .s ⟨#[]⟩, .i .i64 1, .i .i64 0, .i .i64 0]) (j.length:ax).toNat 1)) 0 then Lib.lt (jo.v q.1 w y.1 y.2.1 z.1 z.2 (q.2.2.2.2.2.2.1++aD (aP [Ck.s,Ck.s,Ck.i ao,Ck.i ao,Ck.i ao] 1) 0 [.s p, .s ⟨#[]⟩, .i .i64 1, .i .i64 0, .i .i64 0]) q.2.2.2.2.2.2.2.1 q.2.2.2.2.2.2.2.2 o p (bG ((j.length:ax)+1)) 0 1 (bz (ar (q.2.2.2.2.2.2.1++aD (aP [Ck.s,Ck.s,Ck.i ao,Ck.i ao,Ck.i ao] 1) 0 [.s p, .s ⟨#[]⟩, .i .i64 1, .i .i64 0, .i .i64 0]) (j.length:ax).toNat 1)) 0) λα=>kr α.1 α.2.1 α.2.2.1 α.2.2.2.1 α.2.2.2.2.1 α.2.2.2.2.2.1 α.2.2.2.2.2.2.1 α.2.2.2.2.2.2.2.1 α.2.2.2.2.2.2.2.2 0 else aj else aj else aj else bif decide (0<=u)&&decide (u<(q.2.2.2.2.2.2.1.length:ax))then bif jo.c q.1 w y.1 y.2.1 z.1 z.2 q.2.2.2.2.2.2.1 q.2.2.2.2.2.2.2.1 q.2.2.2.2.2.2.2.2 o p (bG (u+1)) 0 1 (bz (ar q.2.2.2.2.2.2.1 u.toNat 1)) 0 then Lib.lt (jo.v q.1 w y.1 y.2.1 z.1 z.2 q.2.2.2.2.2.2.1 q.2.2.2.2.2.2.2.1 q.2.2.2.2.2.2.2.2 o p (bG (u+1)) 0 1 (bz (ar q.2.2.2.2.2.2.1 u.toNat 1)) 0) λα=>kr α.1 α.2.1 α.2.2.1 α.2.2.2.1 α.2.2.2.2.1 α.2.2.2.2.2.1 α.2.2.2.2.2.2.1 α.2.2.2.2.2.2.2.1 α.2.2.2.2.2.2.2.2 0 else aj else aj else aj else aj else aj else bif iJ.c h i p then Lib.lt (iJ.v h i p) λw=>bif decide (u<0)then bif cw (q.2.2.2.2.2.2.1.length+(aD (aP [Ck.s,Ck.s,Ck.i ao,Ck.i ao,Ck.i ao] 1) 0 [.s p, .s ⟨#[]⟩, .i .i64 1, .i .i64 0, .i .i64 0]).length) 56 then bif decide ((j.length:ax)<((q.2.2.2.2.2.2.1++aD (aP [Ck.s,Ck.s,Ck.i ao,Ck.i ao,Ck.i ao] 1) 0 [.s p, .s ⟨#[]⟩, .i .i64 1, .i .i64 0, .i .i64 0]).length:ax))then bif jo.c q.1 q.2.1 q.2.2.1 q.2.2.2.1 w.1 w.2 (q.2.2.2.2.2.2.1++aD (aP [Ck.s,Ck.s,Ck.i ao,Ck.i ao,Ck.i ao] 1) 0 [.s p, .s ⟨#[]⟩, .i .i64 1, .i .i64 0, .i .i64 0]) q.2.2.2.2.2.2.2.1 q.2.2.2.2.2.2.2.2 o p (bG ((j.length:ax)+1)) 0 1 (bz (ar (q.2.2.2.2.2.2.1++aD (aP [Ck.s,Ck.s,Ck.i ao,Ck.i ao,Ck.i ao] 1) 0 [.s p, .s ⟨#[]⟩, .i .i64 1, .i .i64 0, .i .i64 0]) (j.length:ax).toNat 1)) 0 then Lib.lt (jo.v q.1 q.2.1 q.2.2.1 q.2.2.2.1 w.1 w.2 (q.2.2.2.2.2.2.1++aD (aP [Ck.s,Ck.s,Ck.i ao,Ck.i ao,Ck.i ao] 1) 0 [.s p, .s ⟨#[]⟩, .i .i64 1, .i .i64 0, .i .i64 0]) q.2.2.2.2.2.2.2.1 q.2.2.2.2.2.2.2.2 o p (bG ((j.length:ax)+1)) 0 1 (bz (ar (q.2.2.2.2.2.2.1++aD (aP [Ck.s,Ck.s,Ck.i ao,Ck.i ao,Ck.i ao] 1) 0 [.s p, .s ⟨#[]⟩, .i .i64 1, .i .i64 0, .i .i64 0]) (j.length:ax).toNat 1)) 0) λy=>kr y.1 y.2.1 y.2.2.1 y.2.2.2.1 y.2.2.2.2.1 y.2.2.2.2.2.1 y.2.2.2.2.2.2.1 y.2.2.2.2.2.2.2.1 y.2.2.2.2.2.2.2.2 0 else aj else aj else aj else bif decide (0<=u)&&decide (u<(q.2.2.2.2.2.2.1.length:ax))then bif jo.c q.1 q.2.1 q.2.2.1 q.2.2.2.1 w.1 w.2 q.2.2.2.2.2.2.1 q.2.2.2.2.2.2.2.1 q.2.2.2.2.2.2.2.2 o p (bG (u+1)) 0 1 (bz (ar q.2.2.2.2.2.2.1 u.toNat 1)) 0 then Lib.lt (jo.v q.1 q.2.1 q.2.2.1 q.2.2.2.1 w.1 w.2 q.2.2.2.2.2.2.1 q.2.2.2.2.2.2.2.1 q.2.2.2.2.2.2.2.2 o p (bG (u+1)) 0 1 (bz (ar q.2.2.2.2.2.2.1 u.toNat 1)) 0) λy=>kr y.1 y.2.1 y.2.2.1 y.2.2.2.1 y.2.2.2.2.1 y.2.2.2.2.2.1 y.2.2.2.2.2.2.1 y.2.2.2.2.2.2.2.1 y.2.2.2.2.2.2.2.2 0 else aj else aj else aj else aj else aj else aj else aj else aj
def vo:=b λr0 r1 r2 r3 r4 r5 r6 r7 r8 r9=>ah (r0,r1,r2,r3,r4,r5,r6,r7,r8,r9)
def c:=λa d e f h i j l m o p=>(vo a d e f h i j l m o p).isSome
def v:=λa d e f h i j l m o p=>(vo a d e f h i j l m o p).getD (0,[],[],[],[],0,[],[],0,0)
theorem out{x}:∀a d e f h i j l m o p,vo a d e f h i j l m o p=ah x->c a d e f h i j l m o p=ai/\v a d e f h i j l m o p=x:=λ_ _ _ _ _ _ _ _ _ _ _=>Lib.c5
end SN

namespace vd
def b(kr:aU->aA R)(a:ax)(d e f h:aQ)(i:ax)(j l:aQ)(m o:ax):aA R:=bif KE.c a d e f h i j l m then bif KE.v a d e f h i j l m then kr (lH.v o 0 (bG ((j.length:ax)-1)))else kr ak else aj
def vo:=b λr0=>ah r0
def c:=λa d e f h i j l m o=>(vo a d e f h i j l m o).isSome
def v:=λa d e f h i j l m o=>(vo a d e f h i j l m o).getD ak
theorem out{x}:∀a d e f h i j l m o,vo a d e f h i j l m o=ah x->c a d e f h i j l m o=ai/\v a d e f h i j l m o=x:=λ_ _ _ _ _ _ _ _ _ _=>Lib.c5
end vd

namespace K3
def b(kr:B7 R)(a:ax)(d:aq)(e:aQ):aA R:=bif cw ((aP [Ck.i ao,Ck.i ao] 0).length+e.length) 16 then kr a d (aP [Ck.i ao,Ck.i ao] 0++e)else aj
def v(fY:ax)(eV:aq)(dE:aQ):ax×aq×aQ:=(fY,eV,dE)
def c(fY:ax)(eV:aq)(dE:aQ):aU:=decide (dE.length<=4294967296)
theorem eh(kr:B7 R)(fY:ax)(eV:aq)(dE:aQ)(hc:c fY eV dE=ai):b kr fY eV dE=kr (v fY eV dE).1 (v fY eV dE).2.1 (v fY eV dE).2.2:=by have h:dE.length<=4294967296:=cq hc;unfold b;rw[show bS (aP [Ck.i ao,Ck.i ao] 0)+dE.length=dE.length by simp[aP],Lib.ch (by omega) (by omega)];rfl
end K3

namespace IY
def r2(N:aE)(g k0 k1:yR R)(a:aU)(d:aQ)(e f h:ax)(i:aq)(j:aQ):aA R:=bif decide (f<e)then bif decide (0<=f)&&decide (f<(d.length:ax))then bif !lH.v (bE (ar d f.toNat 0)) 1 9 then k0 ak d e f h i j else bif !lH.v (bE (ar d f.toNat 1)) 0 (i.size:ax)then k0 ak d e f h i j else bif decide (f>0)then bif decide (0<=bG (f-1))&&decide (bG (f-1)<(j.length:ax))then bif decide (bE (ar j (bG (f-1)).toNat 0)≥bE (ar d f.toNat 0))then k0 ak d e f h i j else g a d e (bG (f+1)) h i j else aj else g a d e (bG (f+1)) h i j else aj else k1 a d e f h i j
def l2(N:aE)(k0 k1:yR R):aE->yR R
 |0=>λ_ _ _ _ _ _ _=>aj
 |n+1=>r2 N (l2 N k0 k1 n) k0 k1
def b(N:aE)(kr:aU->aA R)(a:ax)(d:aq)(e:aQ):aA R:=l2 N (λf _ _ _ _ _ _=>kr f) (λ_ _ _ _ f h i=>bif lH.v f 1 3 then bif decide ((h.size:ax)<=400)then kr (decide ((i.length:ax)<=6))else kr ak else kr ak) N ak e (e.length:ax) 0 a d e
def v(fY:ax)(eV:aq)(dE:aQ):aU:=(b8 dE.length).all (lR.el eV dE)&&lR.rest fY eV dE
theorem eh(kr:aU->aA R)(fY:ax)(eV:aq)(dE:aQ)(f0:Ez eV)(f1:vM dE):∃N,b N kr fY eV dE=kr (v fY eV dE):=by
 refine⟨dE.length+1, ?_⟩
 unfold b;have ew:lH.v=ki.v:=rfl;simp only[ew,lR.Ov]
 have:=Lib.fE (λn (i:aE)=>l2 (dE.length+1) (λy7 y8 y9 KK wC MH Ir=>kr y7) (λDR Xd Rj DS Gc EI wD=>kr (lR.rest Gc EI wD)) n ak dE dE.length i fY eV dE) (λi=>dE.length-i) (λi=>i<=dE.length)
  (λi=>kr ((iV i (dE.length-i)).all (lR.el eV dE)&&lR.rest fY eV dE)) (λn i hi=>by
  simp only[l2,r2,ew,Lib.c6,Lib.cm,Lib.dN,ba,lR.nb]
  by_cases h:i<dE.length
  ·rw[lR.I9 _ h];simp only[h,aN,au,Lib.cS h f1.1];cases h1:decide (1<=bE (ar dE i 0)/\bE (ar dE i 0)<=9)with
   |false=>left;simp[lR.el,h1]
   |true=>
    simp only[aY,aw];cases h3:decide (0<=bE (ar dE i 1)/\bE (ar dE i 1)<=eV.size)with
    |false=>left;simp[lR.el,h3]
    |true=>
     simp only[aY,aw];by_cases hz:0<i
     ·have e0:decide ((i:ax)>0)=true:=by simp;omega
      have hp:i-1<dE.length:=by omega
      have hi0:(i==0)=false:=by simp;omega
      simp only[e0,au,lR.DF hz (by have:=f1.1;omega),Lib.cm,Lib.c6,Lib.dN,hp,aN,aL];cases h2:decide (bE (ar dE (i-1) 0)≥bE (ar dE i 0))with
      |true=>
       left;have e3:decide (bE (ar dE (i-1) 0)<bE (ar dE i 0))=false:=by simp at h2⊢;omega
       simp[lR.el,e3,hi0]
      |false=>
       have e3:decide (bE (ar dE (i-1) 0)<bE (ar dE i 0))=true:=by simp at h2⊢;omega
       right;exact⟨i+1,h,by omega,by simp only[lR.el,h1,h3,e3,KO,ba],rfl⟩
     ·have hz:i=0:=by omega
      subst hz;simp only[show decide (((0:aE):ax)>0)=ak from rfl,aw];right;exact⟨1,h,by omega,by simp only[lR.el,h1,h3,ba];rfl,rfl⟩
  ·left;have h0:dE.length-i=0:=by omega
   simp only[h,bc,aw,h0,XB,List.all_nil,ba]) (dE.length+1) 0 (by omega) (by omega)
 refine this.trans ?_;unfold v;rw[sA,<-XD]
end IY

namespace D4
def b(kr:Gk R)(a:ax)(d:aq)(e:aQ)(f:aq):aA R:=bif K3.c a d e then bif !IY.v a d e then kr a d e ak else bif a !=1 then kr a d e ak else bif !lH.v (f.size:ax) 1 40 then kr a d e ak else bif decide (bG ((d.size:ax)+(f.size:ax))>400)then kr a d e ak else bif decide (d.size+f.size<=4611686018427387904)then kr a (d++f) e ai else aj else aj
def v(fY:ax)(eV:aq)(dE:aQ)(gq:aq):ax×aq×aQ×aU:=
 if lR.v fY eV dE=ai/\fY=1/\1<=gq.size/\gq.size<=40/\eV.size+gq.size<=400 then(fY,eV++gq,dE,ai)else(fY,eV,dE,ak)
def c(fY:ax)(eV:aq)(dE:aQ)(gq:aq):aU:=decide (dE.length<=4294967296)
theorem eh(kr:Gk R)(fY:ax)(eV:aq)(dE:aQ)(gq:aq)(hc:c fY eV dE gq=ai)(f0:Ez eV)(f1:vM dE)(f2:Ez gq):b kr fY eV dE gq=kr (v fY eV dE gq).1 (v fY eV dE gq).2.1 (v fY eV dE gq).2.2.1 (v fY eV dE gq).2.2.2:=by
 have hs1:eV.size<=4611686018427387904:=f0;have N0:gq.size<=4611686018427387904:=f2;have e1:K3.c fY eV dE=true:=hc;have e2:∀a b c,IY.v a b c=lR.v a b c:=λ_ _ _=>rfl;have e3:∀n a b,lH.v n a b=decide (a<=n/\n<=b):=lR.nb;unfold b v;rw[e1,e2,e3,au];cases h1:lR.v fY eV dE with
 |false=>simp
 |true=>
  by_cases h2:fY=1
  ·by_cases h3:1<=(gq.size:ax)/\(gq.size:ax)<=40
   ·have e4:bG ((eV.size:ax)+(gq.size:ax))=eV.size+gq.size:=iG (by omega) (by omega);rw[e4,aG h3];by_cases h4:(eV.size:ax)+(gq.size:ax)>400
    ·rw[Lib.Ar h4,bJ (by omega)];simp[h2]
    ·rw[Lib.Jo h4,bA (by refine⟨rfl,h2, ?_, ?_, ?_⟩<;>omega),Lib.Ar (show eV.size+gq.size<=4611686018427387904 by omega)];simp[h2]
   ·rw[aK h3,bJ (by omega)];simp
  ·have iz:(fY !=1)=true:=bne_iff_ne.mpr h2;rw[bJ (by simp[h2]),iz];rfl
end D4

namespace A3
def r1(N:aE)(g k0:iY R)(a d e f h i:ax)(j l m o p q:aQ):aA R:=bif decide (e<d)then bif decide (0<=e)&&decide (e<(j.length:ax))then bif decide (bE (ar j e.toNat (1+1))=bG (a+1))then bif decide (bE (ar j e.toNat (1+1+1+1))=1)then bif decide (0<=a)&&decide (a<(q.length:ax))then bif decide (0<=e)&&decide (e<(j.length:ax))then g a d (bG (e+1)) f h i (eC j e.toNat 5 [.s (bz (ar q a.toNat 1))]) l m o p q else aj else aj else g a d (bG (e+1)) f h i j l m o p q else g a d (bG (e+1)) f h i j l m o p q else aj else k0 a d e f h i j l m o p q
def l1(N:aE)(k0:iY R):aE->iY R
 |0=>λ_ _ _ _ _ _ _ _ _ _ _ _=>aj
 |n+1=>r1 N (l1 N k0 n) k0
def b(N:aE)(kr:dY R)(a:ax)(d e f h:aQ)(i:ax)(j l:aQ)(m o:ax):aA R:=l1 N (λ_ _ _ p q r s t u w y z=>kr p t u w y q z s r) N o (l.length:ax) 0 a i m l d e f h j
def vo:=b Lib.cJ λr0 r1 r2 r3 r4 r5 r6 r7 r8=>ah (r0,r1,r2,r3,r4,r5,r6,r7,r8)
def c:=λa d e f h i j l m o=>(vo a d e f h i j l m o).isSome
def v:=λa d e f h i j l m o=>(vo a d e f h i j l m o).getD (0,[],[],[],[],0,[],[],0)
theorem out{x}:∀a d e f h i j l m o,vo a d e f h i j l m o=ah x->c a d e f h i j l m o=ai/\v a d e f h i j l m o=x:=λ_ _ _ _ _ _ _ _ _ _=>Lib.c5
end A3

namespace WX
def b(kr:k_ R)(a:ax)(d e f h:aQ)(i:ax)(j l:aQ)(m o:ax)(p:aq):aA R:=bif iN.c a d e f h i j l m then Lib.lt (iN.v a d e f h i j l m) λq=>bif vd.c a d e f h i j l m o then Lib.lt (vd.v a d e f h i j l m o) λr=>bif !r then kr q.1 q.2.1 q.2.2.1 q.2.2.2.1 q.2.2.2.2.1 q.2.2.2.2.2.1 q.2.2.2.2.2.2.1 q.2.2.2.2.2.2.2.1 q.2.2.2.2.2.2.2.2 ak else bif decide (0<=o)&&decide (o<(j.length:ax))then bif decide (0<=o)&&decide (o<(j.length:ax))then bif !(D4.v (bE (ar j o.toNat 2)) (bz (ar j o.toNat 1)) [] p).2.2.2 then kr q.1 q.2.1 q.2.2.1 q.2.2.2.1 q.2.2.2.2.1 q.2.2.2.2.2.1 q.2.2.2.2.2.2.1 q.2.2.2.2.2.2.2.1 q.2.2.2.2.2.2.2.2 ak else bif decide (0<=o)&&decide (o<(q.2.2.2.2.2.2.1.length:ax))then bif A3.c q.1 q.2.1 q.2.2.1 q.2.2.2.1 q.2.2.2.2.1 q.2.2.2.2.2.1 (eC q.2.2.2.2.2.2.1 o.toNat 1 [.s (D4.v (bE (ar j o.toNat 2)) (bz (ar j o.toNat 1)) [] p).2.1]) q.2.2.2.2.2.2.2.1 q.2.2.2.2.2.2.2.2 o then Lib.lt (A3.v q.1 q.2.1 q.2.2.1 q.2.2.2.1 q.2.2.2.2.1 q.2.2.2.2.2.1 (eC q.2.2.2.2.2.2.1 o.toNat 1 [.s (D4.v (bE (ar j o.toNat 2)) (bz (ar j o.toNat 1)) [] p).2.1]) q.2.2.2.2.2.2.2.1 q.2.2.2.2.2.2.2.2 o) λs=>kr s.1 s.2.1 s.2.2.1 s.2.2.2.1 s.2.2.2.2.1 s.2.2.2.2.2.1 s.2.2.2.2.2.2.1 s.2.2.2.2.2.2.2.1 s.2.2.2.2.2.2.2.2 ai else aj else aj else aj else aj else aj else aj
def vo:=b λr0 r1 r2 r3 r4 r5 r6 r7 r8 r9=>ah (r0,r1,r2,r3,r4,r5,r6,r7,r8,r9)
def c:=λa d e f h i j l m o p=>(vo a d e f h i j l m o p).isSome
def v:=λa d e f h i j l m o p=>(vo a d e f h i j l m o p).getD (0,[],[],[],[],0,[],[],0,ak)
theorem out{x}:∀a d e f h i j l m o p,vo a d e f h i j l m o p=ah x->c a d e f h i j l m o p=ai/\v a d e f h i j l m o p=x:=λ_ _ _ _ _ _ _ _ _ _ _=>Lib.c5
end WX

namespace v7
def r1(N:aE)(g k0:jh R)(a d e f h i j:ax)(l m o p q r:aQ):aA R:=bif decide (f<e)then bif decide (0<=f)&&decide (f<(l.length:ax))then bif decide (bE (ar l f.toNat (1+1))=bG (a+1))then bif decide (bE (ar l f.toNat (1+1+1+1))=1)then bif decide (0<=a)&&decide (a<(r.length:ax))then bif decide (0<=f)&&decide (f<(l.length:ax))then bif decide (0<=f)&&decide (f<((eC l f.toNat 4 [.i .i64 d]).length:ax))then g a d e (bG (f+1)) h i j (eC (eC l f.toNat 4 [.i .i64 d]) f.toNat 5 [.s (bz (ar r a.toNat 1))]) m o p q r else aj else aj else aj else g a d e (bG (f+1)) h i j l m o p q r else g a d e (bG (f+1)) h i j l m o p q r else aj else k0 a d e f h i j l m o p q r
def l1(N:aE)(k0:jh R):aE->jh R
 |0=>λ_ _ _ _ _ _ _ _ _ _ _ _ _=>aj
 |n+1=>r1 N (l1 N k0 n) k0
def b(N:aE)(kr:dY R)(a:ax)(d e f h:aQ)(i:ax)(j l:aQ)(m o p:ax):aA R:=l1 N (λ_ _ _ _ q r s t u w y z α=>kr q u w y z r α t s) N o p (l.length:ax) 0 a i m l d e f h j
def vo:=b Lib.cJ λr0 r1 r2 r3 r4 r5 r6 r7 r8=>ah (r0,r1,r2,r3,r4,r5,r6,r7,r8)
def c:=λa d e f h i j l m o p=>(vo a d e f h i j l m o p).isSome
def v:=λa d e f h i j l m o p=>(vo a d e f h i j l m o p).getD (0,[],[],[],[],0,[],[],0)
theorem out{x}:∀a d e f h i j l m o p,vo a d e f h i j l m o p=ah x->c a d e f h i j l m o p=ai/\v a d e f h i j l m o p=x:=λ_ _ _ _ _ _ _ _ _ _ _=>Lib.c5
end v7


namespace u9
def r3(N:aE)(g k0:wL R)(a:ax)(d:aq)(e f:ax)(h:aq)(i:aQ):aA R:=bif decide (a<(i.length:ax))then bif decide (0<=a)&&decide (a<(i.length:ax))then bif b9 (bz (ar i a.toNat 0)).toList (aC d)then g (bG (a+1)) d e f h i else k0 a d e f h i else aj else k0 a d e f h i
def l3(N:aE)(k0:wL R):aE->wL R
 |0=>λ_ _ _ _ _ _=>aj
 |n+1=>r3 N (l3 N k0 n) k0
def b(N:aE)(kr:aQ->aA R)(a:aQ)(d:aq)(e f:ax)(h:aq):aA R:=bif pP.c a d then l3 N (λi j l m o p=>bif decide (0<=i)&&decide (i<=(p.length:ax))&&cw (p.length+(aD (aP [Ck.s,Ck.i ao,Ck.i ao,Ck.s] 1) 0 [.s j, .i .i64 l, .i .i64 m, .s o]).length) 48 then kr (Pu.tN p i.toNat (aD (aP [Ck.s,Ck.i ao,Ck.i ao,Ck.s] 1) 0 [.s j, .i .i64 l, .i .i64 m, .s o]))else aj) N 0 d e f h (pP.v a d)else aj
def vo:=b Lib.cJ λr0=>ah r0
def c:=λa d e f h=>(vo a d e f h).isSome
def v:=λa d e f h=>(vo a d e f h).getD ([])
theorem out{x}:∀a d e f h,vo a d e f h=ah x->c a d e f h=ai/\v a d e f h=x:=λ_ _ _ _ _=>Lib.c5
end u9

namespace Pm
def b(kr:dY R)(a:ax)(d e f h:aQ)(i:ax)(j l:aQ)(m:ax)(o:aq)(p q:ax)(r:aq):aA R:=bif zE.c e f h i o then Lib.lt (zE.v e f h i o) λs=>bif pP.c d s.2.2.2.2 then Lib.lt (pP.v d s.2.2.2.2) λt=>bif sM.c s.1 s.2.1 s.2.2.1 s.2.2.2.1 o then Lib.lt (sM.v s.1 s.2.1 s.2.2.1 s.2.2.2.1 o) λu=>bif u then bif u9.c t o p q r then Lib.lt (u9.v t o p q r) λw=>kr a w s.1 s.2.1 s.2.2.1 s.2.2.2.1 j l m else aj else kr a t s.1 s.2.1 s.2.2.1 s.2.2.2.1 j l m else aj else aj else aj
def vo:=b λr0 r1 r2 r3 r4 r5 r6 r7 r8=>ah (r0,r1,r2,r3,r4,r5,r6,r7,r8)
def c:=λa d e f h i j l m o p q r=>(vo a d e f h i j l m o p q r).isSome
def v:=λa d e f h i j l m o p q r=>(vo a d e f h i j l m o p q r).getD (0,[],[],[],[],0,[],[],0)
theorem out{x}:∀a d e f h i j l m o p q r,vo a d e f h i j l m o p q r=ah x->c a d e f h i j l m o p q r=ai/\v a d e f h i j l m o p q r=x:=λ_ _ _ _ _ _ _ _ _ _ _ _ _=>Lib.c5
end Pm

namespace D5
def b(kr:k_ R)(a:ax)(d e f h:aQ)(i:ax)(j l:aQ)(m o p:ax):aA R:=bif iN.c a d e f h i j l m then Lib.lt (iN.v a d e f h i j l m) λq=>bif vd.c a d e f h i j l m o then Lib.lt (vd.v a d e f h i j l m o) λr=>bif !r then kr q.1 q.2.1 q.2.2.1 q.2.2.2.1 q.2.2.2.2.1 q.2.2.2.2.2.1 q.2.2.2.2.2.2.1 q.2.2.2.2.2.2.2.1 q.2.2.2.2.2.2.2.2 ak else bif decide (0<=o)&&decide (o<(j.length:ax))then bif bE (ar j o.toNat 2) !=1 then kr q.1 q.2.1 q.2.2.1 q.2.2.2.1 q.2.2.2.2.1 q.2.2.2.2.2.1 q.2.2.2.2.2.2.1 q.2.2.2.2.2.2.2.1 q.2.2.2.2.2.2.2.2 ak else bif !lH.v p 0 999999 then kr q.1 q.2.1 q.2.2.1 q.2.2.2.1 q.2.2.2.2.1 q.2.2.2.2.2.1 q.2.2.2.2.2.2.1 q.2.2.2.2.2.2.2.1 q.2.2.2.2.2.2.2.2 ak else bif decide (0<=o)&&decide (o<(q.2.2.2.2.2.2.1.length:ax))then bif v7.c q.1 q.2.1 q.2.2.1 q.2.2.2.1 q.2.2.2.2.1 q.2.2.2.2.2.1 (eC (eC (eC q.2.2.2.2.2.2.1 o.toNat 2 [.i .i64 2]) o.toNat 3 [.i .i64 p]) o.toNat 4 [.i .i64 a]) q.2.2.2.2.2.2.2.1 q.2.2.2.2.2.2.2.2 o 2 then Lib.lt (v7.v q.1 q.2.1 q.2.2.1 q.2.2.2.1 q.2.2.2.2.1 q.2.2.2.2.2.1 (eC (eC (eC q.2.2.2.2.2.2.1 o.toNat 2 [.i .i64 2]) o.toNat 3 [.i .i64 p]) o.toNat 4 [.i .i64 a]) q.2.2.2.2.2.2.2.1 q.2.2.2.2.2.2.2.2 o 2) λs=>bif decide (p>0)then bif Pm.c s.1 s.2.1 s.2.2.1 s.2.2.2.1 s.2.2.2.2.1 s.2.2.2.2.2.1 s.2.2.2.2.2.2.1 s.2.2.2.2.2.2.2.1 s.2.2.2.2.2.2.2.2 (bz (ar s.2.2.2.2.2.2.1 o.toNat 0)) a p (bz (ar s.2.2.2.2.2.2.1 o.toNat 1))then Lib.lt (Pm.v s.1 s.2.1 s.2.2.1 s.2.2.2.1 s.2.2.2.2.1 s.2.2.2.2.2.1 s.2.2.2.2.2.2.1 s.2.2.2.2.2.2.2.1 s.2.2.2.2.2.2.2.2 (bz (ar s.2.2.2.2.2.2.1 o.toNat 0)) a p (bz (ar s.2.2.2.2.2.2.1 o.toNat 1))) λt=>kr t.1 t.2.1 t.2.2.1 t.2.2.2.1 t.2.2.2.2.1 t.2.2.2.2.2.1 t.2.2.2.2.2.2.1 t.2.2.2.2.2.2.2.1 t.2.2.2.2.2.2.2.2 ai else aj else kr s.1 s.2.1 s.2.2.1 s.2.2.2.1 s.2.2.2.2.1 s.2.2.2.2.2.1 s.2.2.2.2.2.2.1 s.2.2.2.2.2.2.2.1 s.2.2.2.2.2.2.2.2 ai else aj else aj else aj else aj else aj
def vo:=b λr0 r1 r2 r3 r4 r5 r6 r7 r8 r9=>ah (r0,r1,r2,r3,r4,r5,r6,r7,r8,r9)
def c:=λa d e f h i j l m o p=>(vo a d e f h i j l m o p).isSome
def v:=λa d e f h i j l m o p=>(vo a d e f h i j l m o p).getD (0,[],[],[],[],0,[],[],0,ak)
theorem out{x}:∀a d e f h i j l m o p,vo a d e f h i j l m o p=ah x->c a d e f h i j l m o p=ai/\v a d e f h i j l m o p=x:=λ_ _ _ _ _ _ _ _ _ _ _=>Lib.c5
end D5

namespace nV
def r4(N:aE)(g k0:AR R)(a:ax)(d:aQ):aA R:=bif decide (a>127)then bif cw (d.length+(aD (aP [Ck.i bj] 1) 0 [CV.i bj (bH bj (bG (cF a 128+128)))]).length) 1 then g (bG (cQ a 128)) (d++aD (aP [Ck.i bj] 1) 0 [CV.i bj (bH bj (bG (cF a 128+128)))])else aj else k0 a d
def l4(N:aE)(k0:AR R):aE->AR R
 |0=>λ_ _=>aj
 |n+1=>r4 N (l4 N k0 n) k0
def b(N:aE)(kr:wN R)(a:ax):aA R:=bif !lH.v a 0 1000000000 then kr ⟨#[]⟩ ak else l4 N (λd e=>bif cw (e.length+(aD (aP [Ck.i bj] 1) 0 [CV.i bj (bH bj d)]).length) 1 then bif decide ((e++aD (aP [Ck.i bj] 1) 0 [CV.i bj (bH bj d)]).length<=4611686018427387904)then kr (bytesOf (e++aD (aP [Ck.i bj] 1) 0 [CV.i bj (bH bj d)])) ai else aj else aj) N a (aP [Ck.i bj] 0)
def v(n0:ax):aq×aU:=if 0<=n0/\n0<=1000000000 then(bytesOf (Lib.vb n0),ai)else(⟨#[]⟩,ak)
theorem eh(kr:wN R)(n0:ax):∃N,b N kr n0=kr (v n0).1 (v n0).2:=by
 refine⟨n0.toNat+1, ?_⟩
 unfold b v;by_cases hn:0<=n0/\n0<=1000000000
 ·have e:lH.v n0 0 1000000000=true:=by simp[lH.v,hn]
  rw[e,bA hn];refine Lib.OS (λn x acc=>l4 (n0.toNat+1) _ n x acc) (λy=>kr y ai) (λn x acc h hl=> ?_) (λn x acc h hl=> ?_) n0 (by omega)
  ·simp only[l4,r4,h,aN,au,Lib.ja,show acc.length+bS [[CV.i bj (bH bj (bG (cF x 128+128)))]]=acc.length+1 from rfl,Lib.H9 (show acc.length+1<=140737488355328 by omega),show decide ((128:ax)=0)=ak from rfl,wH,bP]
  ·simp only[l4,r4,h,bc,aw,Lib.ja,show acc.length+bS [[CV.i bj (bH bj x)]]=acc.length+1 from rfl,Lib.H9 (show acc.length+1<=140737488355328 by omega),au];exact Lib.tz (Lib.Ar (by rw[bU,bC];omega))
 ·have e:lH.v n0 0 1000000000=false:=by simp[lH.v];omega
  rw[e,bJ hn];rfl
end nV

namespace Ee
def b(kr:wN R)(a:aq):aA R:=bif decide ((a.size:ax)>20000)then kr ⟨#[]⟩ ak else bif decide ((nV.v (a.size:ax)).1.size+a.size<=4611686018427387904)then kr ((nV.v (a.size:ax)).1++a) ai else aj
def v(s0:aq):aq×aU:=if s0.size>20000 then(⟨#[]⟩,ak)else(bytesOf (Lib.vb s0.size)++s0,ai)
theorem eh(kr:wN R)(s0:aq):b kr s0=kr (v s0).1 (v s0).2:=by
 unfold b v;by_cases h:s0.size>20000
 ·rw[bA h,show decide ((s0.size:ax)>20000)=ai by simp;omega];rfl
 ·rw[bJ h,show decide ((s0.size:ax)>20000)=ak by simp;omega];have e:nV.v (s0.size:ax)=(bytesOf (Lib.vb s0.size),ai):=by unfold nV.v;rw[bA (by omega)]
  have:=Lib.jP (x:=(s0.size:ax)) (by omega);rw[e,aw];simp(disch:=omega) only[Lib.Td,au]
end Ee

namespace Ed
def b(kr:wN R)(a:aq)(d e:ax)(f:aq):aA R:=bif !wT.v a d e f then kr ⟨#[]⟩ ak else bif decide ((Ee.v a).1.size+(nV.v d).1.size<=4611686018427387904)then bif decide (((Ee.v a).1++(nV.v d).1).size+(nV.v e).1.size<=4611686018427387904)then bif decide (((Ee.v a).1++(nV.v d).1++(nV.v e).1).size+f.size<=4611686018427387904)then kr ((Ee.v a).1++(nV.v d).1++(nV.v e).1++f) ai else aj else aj else aj
def v(oP:aq)(pr:ax)(pw:ax)(vk:aq):aq×aU:=jK.v oP pr pw vk
theorem eh(kr:wN R)(oP:aq)(pr:ax)(pw:ax)(vk:aq):b kr oP pr pw vk=kr (v oP pr pw vk).1 (v oP pr pw vk).2:=by
 have ee:wT.v oP pr pw vk=m8.v oP pr pw vk:=rfl;unfold b v jK.v;rw[ee];cases h:m8.v oP pr pw vk with
 |false=>rfl
 |true=>
  have hr:=m8.EC h;have z1:(bytesOf (Lib.vb (oP.size:ax))).size<=64:=Lib.jP (x:=(oP.size:ax)) (by omega);have z2:(bytesOf (Lib.vb pr)).size<=64:=Lib.jP (x:=pr) (by omega);have z3:(bytesOf (Lib.vb pw)).size<=64:=Lib.jP (x:=pw) (by omega);have e1:Ee.v oP=(bytesOf (Lib.vb oP.size)++oP,ai):=by unfold Ee.v;rw[bJ (by omega)]
  have e2:nV.v pr=(bytesOf (Lib.vb pr),ai):=by unfold nV.v;rw[bA (by omega)]
  have e3:nV.v pw=(bytesOf (Lib.vb pw),ai):=by unfold nV.v;rw[bA (by omega)]
  rw[e1,e2,e3];simp(disch:=omega) only[aY,aw,au,if_true,Lib.km,Lib.Td];rfl
end Ed

namespace vf
def b(kr:aq->aA R)(a:aq):aA R:=bif vi.c a then kr (bytesOf (aD (aD (aD (aD (aP [Ck.i bj] 4) 0 [CV.i bj (bH bj (lF (vi.v a) (g_ 2 (if aZ 24<=32 then aZ 24 else 32))))]) 1 [CV.i bj (bH bj (lF (vi.v a) (g_ 2 (if aZ 16<=32 then aZ 16 else 32))))]) 2 [CV.i bj (bH bj (lF (vi.v a) (g_ 2 (if aZ 8<=32 then aZ 8 else 32))))]) 3 [CV.i bj (bH bj (vi.v a))]))else aj
def vo:=b λr0=>ah r0
def c:=λa=>(vo a).isSome
def v:=λa=>(vo a).getD (⟨#[]⟩)
theorem out{x}:∀a,vo a=ah x->c a=ai/\v a=x:=λ_=>Lib.c5
end vf

namespace Cg
def b(kr:wN R)(a:aq):aA R:=bif !lH.v (a.size:ax) 1 9000 then kr ⟨#[]⟩ ak else bif vf.c a then bif decide ((nV.v (a.size:ax)).1.size+(vf.v a).size<=4611686018427387904)then bif decide (((nV.v (a.size:ax)).1++vf.v a).size+a.size<=4611686018427387904)then kr ((nV.v (a.size:ax)).1++vf.v a++a) ai else aj else aj else aj
def vo:=b λr0 r1=>ah (r0,r1)
def c:=λa=>(vo a).isSome
def v:=λa=>(vo a).getD (⟨#[]⟩,ak)
theorem out{x}:∀a,vo a=ah x->c a=ai/\v a=x:=λ_=>Lib.c5
end Cg

namespace mZ
def b(kr:wN R)(a:aq)(d e:ax)(f:aq):aA R:=bif !(Ed.v a d e f).2 then kr ⟨#[]⟩ ak else bif Cg.c (Ed.v a d e f).1 then kr (Cg.v (Ed.v a d e f).1).1 (Cg.v (Ed.v a d e f).1).2 else aj
def vo:=b λr0 r1=>ah (r0,r1)
def c:=λa d e f=>(vo a d e f).isSome
def v:=λa d e f=>(vo a d e f).getD (⟨#[]⟩,ak)
theorem out{x}:∀a d e f,vo a d e f=ah x->c a d e f=ai/\v a d e f=x:=λ_ _ _ _=>Lib.c5
end mZ

namespace ve
def b(kr:AU R)(a:aq)(d e:ax)(f:aq):aA R:=bif mZ.c a d e f then bif !(mZ.v a d e f).2 then kr [] ak else kr (aD (aD (aP [Ck.i ao,Ck.s,Ck.s,Ck.s] 2) 0 [.i .i64 1, .s {data:= #[ay 107,ay 101,ay 112,ay 116]}, .s (mZ.v a d e f).1, .s ⟨#[]⟩]) 1 [.i .i64 2, .s {data:= #[ay 107,ay 101,ay 112,ay 116]}, .s ⟨#[]⟩, .s ⟨#[]⟩]) ai else aj
def vo:=b λr0 r1=>ah (r0,r1)
def c:=λa d e f=>(vo a d e f).isSome
def v:=λa d e f=>(vo a d e f).getD ([],ak)
theorem out{x}:∀a d e f,vo a d e f=ah x->c a d e f=ai/\v a d e f=x:=λ_ _ _ _=>Lib.c5
end ve

namespace tq
def b(kr:aQ->aA R)(a:aQ):aA R:=bif cw ((aP [Ck.s,Ck.s,Ck.i ao] 0).length+a.length) 40 then kr (aP [Ck.s,Ck.s,Ck.i ao] 0++a)else aj
def vo:=b λr0=>ah r0
def c:=λa=>(vo a).isSome
def v:=λa=>(vo a).getD ([])
theorem out{x}:∀a,vo a=ah x->c a=ai/\v a=x:=λ_=>Lib.c5
end tq

namespace K4
def b(kr:aU->aA R)(a d:aq)(e:ax)(kT:aq):aA R:=kr (bW (aC a) (aC kT))
def v(a0 a1:aq)(a2:ax)(kT:aq):aU:=(bW (aC a0) (aC kT))
theorem eh(kr:aU->aA R)(a0 a1:aq)(a2:ax)(kT:aq):b kr a0 a1 a2 kT=kr (v a0 a1 a2 kT):=by first|rfl|(unfold b v;simp only[cz];(repeat' split)<;>rfl)
end K4

namespace sC
def r2(N:aE)(g k0 k1:ie R)(a:aQ)(d:aq)(e f h:ax):aA R:=bif decide (h<f)then bif decide (0<=h)&&decide (h<(a.length:ax))then bif K4.v (bz (ar a h.toNat 0)) (bz (ar a h.toNat 1)) (bE (ar a h.toNat (1+1))) d then k0 a d h f h else g a d e f (bG (h+1))else aj else k1 a d e f h
def l2(N:aE)(k0 k1:ie R):aE->ie R
 |0=>λ_ _ _ _ _=>aj
 |n+1=>r2 N (l2 N k0 k1 n) k0 k1
def b(N:aE)(kr:ax->aA R)(a:aQ)(kT:aq):aA R:=l2 N (λ_ _ d _ _=>kr d) (λ_ _ _ _ _=>kr (-1)) N a kT 0 (a.length:ax) 0
def vo:=b Lib.cJ λr0=>ah r0
def c:=λa d=>(vo a d).isSome
def v:=λa d=>(vo a d).getD (0)
theorem out{x}:∀a d,vo a d=ah x->c a d=ai/\v a d=x:=λ_ _=>Lib.c5
end sC

namespace Bd
def b(kr:aU->aA R)(a d:aq)(e:ax)(kT:aq):aA R:=kr (bW (aC a) (aC kT))
def v(a0 a1:aq)(a2:ax)(kT:aq):aU:=(bW (aC a0) (aC kT))
theorem eh(kr:aU->aA R)(a0 a1:aq)(a2:ax)(kT:aq):b kr a0 a1 a2 kT=kr (v a0 a1 a2 kT):=by first|rfl|(unfold b v;simp only[cz];(repeat' split)<;>rfl)
end Bd

namespace nz
def r2(N:aE)(g k0 k1:ie R)(a:aQ)(d:aq)(e f h:ax):aA R:=bif decide (h<f)then bif decide (0<=h)&&decide (h<(a.length:ax))then bif Bd.v (bz (ar a h.toNat 0)) (bz (ar a h.toNat 1)) (bE (ar a h.toNat (1+1))) d then k0 a d h f h else g a d e f (bG (h+1))else aj else k1 a d e f h
def l2(N:aE)(k0 k1:ie R):aE->ie R
 |0=>λ_ _ _ _ _=>aj
 |n+1=>r2 N (l2 N k0 k1 n) k0 k1
def b(N:aE)(kr:ax->aA R)(a:aQ)(kT:aq):aA R:=l2 N (λ_ _ d _ _=>kr d) (λ_ _ _ _ _=>kr (-1)) N a kT 0 (a.length:ax) 0
def vo:=b Lib.cJ λr0=>ah r0
def c:=λa d=>(vo a d).isSome
def v:=λa d=>(vo a d).getD (0)
theorem out{x}:∀a d,vo a d=ah x->c a d=ai/\v a d=x:=λ_ _=>Lib.c5
end nz

namespace ik
def b(kr:ax->aA R)(a:aQ)(d:aq):aA R:=bif sC.c a d then kr (sC.v a d)else aj
def vo:=b λr0=>ah r0
def c:=λa d=>(vo a d).isSome
def v:=λa d=>(vo a d).getD (0)
theorem out{x}:∀a d,vo a d=ah x->c a d=ai/\v a d=x:=λ_ _=>Lib.c5
end ik

namespace kg
def r2(N:aE)(g k0 k1:Gi R)(a:aU)(d:aQ)(e f:ax)(h:aQ):aA R:=bif decide (f<e)then bif decide (0<=f)&&decide (f<(d.length:ax))then bif !lH.v ((bz (ar d f.toNat 0)).size:ax) 1 8 then k0 ak d e f h else bif decide (((bz (ar d f.toNat 1)).size:ax)>20000)then k0 ak d e f h else bif !lH.v (bE (ar d f.toNat (1+1))) 0 ((bz (ar d f.toNat 1)).size:ax)then k0 ak d e f h else bif decide (f>0)then bif decide (0<=bG (f-1))&&decide (bG (f-1)<(h.length:ax))then bif !Op.bytesLess (bz (ar h (bG (f-1)).toNat 0)).toList (bz (ar d f.toNat 0)).toList then k0 ak d e f h else g a d e (bG (f+1)) h else aj else g a d e (bG (f+1)) h else aj else k1 a d e f h
def l2(N:aE)(k0 k1:Gi R):aE->Gi R
 |0=>λ_ _ _ _ _=>aj
 |n+1=>r2 N (l2 N k0 k1 n) k0 k1
def b(N:aE)(kr:aU->aA R)(a:aQ):aA R:=l2 N (λd _ _ _ _=>kr d) (λ_ _ _ _ d=>kr (decide ((d.length:ax)<=30))) N ak a (a.length:ax) 0 a
def vo:=b Lib.cJ λr0=>ah r0
def c:=λa=>(vo a).isSome
def v:=λa=>(vo a).getD ak
theorem out{x}:∀a,vo a=ah x->c a=ai/\v a=x:=λ_=>Lib.c5
end kg

namespace K5
def b(kr:aU->aA R)(a:ax)(d e f:aq):aA R:=bif lH.v a 1 4 then bif bW (aC e) (aC ⟨#[]⟩)then bif bW (aC f) (aC ⟨#[]⟩)then kr ai else kr (decide (a=3))else bif decide (a=1)then bif bW (aC f) (aC ⟨#[]⟩)then kr ai else kr (decide (a=3))else kr ak else kr ak
def v(a0:ax)(a1 a2 a3:aq):aU:=bif lH.v a0 1 4 then bif bW (aC a2) (aC {data:= #[]})then bif bW (aC a3) (aC {data:= #[]})then ai else decide (a0=3)else bif decide (a0=1)then bif bW (aC a3) (aC {data:= #[]})then ai else decide (a0=3)else ak else ak
theorem eh(kr:aU->aA R)(a0:ax)(a1 a2 a3:aq):b kr a0 a1 a2 a3=kr (v a0 a1 a2 a3):=by first|rfl|(unfold b v;simp only[cz];(repeat' split)<;>rfl)
end K5

namespace xB
def r5(N:aE)(g k0:my R)(a:aq)(d e:ax)(f:aQ):aA R:=bif decide (e<(f.length:ax))then bif decide (0<=e)&&decide (e<(f.length:ax))then bif !Bd.v (bz (ar f e.toNat 0)) (bz (ar f e.toNat 1)) (bE (ar f e.toNat (1+1))) a then bif decide (0<=d)&&decide (d<(f.length:ax))then g a (bG (d+1)) (bG (e+1)) (eC f d.toNat 0 [.s (bz (ar f e.toNat 0)), .s (bz (ar f e.toNat 1)), .i .i64 (bE (ar f e.toNat (1+1)))])else aj else g a d (bG (e+1)) f else aj else k0 a d e f
def l5(N:aE)(k0:my R):aE->my R
 |0=>λ_ _ _ _=>aj
 |n+1=>r5 N (l5 N k0 n) k0
def b(N:aE)(kr:aQ->aA R)(a:aQ)(kT:aq):aA R:=bif nz.c a kT then bif decide (nz.v a kT=KV 1)then kr a else l5 N (λ_ d _ e=>bif ic d (e.length:ax) (e.length:ax)then bif ic 0 d ((g7 d.toNat e++aP [Ck.s,Ck.s,Ck.i ao] ((e.length:ax).toNat-d.toNat)++nt (e.length:ax).toNat e).length:ax)then kr (eW (g7 d.toNat e++aP [Ck.s,Ck.s,Ck.i ao] ((e.length:ax).toNat-d.toNat)++nt (e.length:ax).toNat e) (aZ 0) d.toNat)else aj else aj) N kT (nz.v a kT) (bG (nz.v a kT+1)) a else aj
def vo:=b Lib.cJ λr0=>ah r0
def c:=λa d=>(vo a d).isSome
def v:=λa d=>(vo a d).getD ([])
theorem out{x}:∀a d,vo a d=ah x->c a d=ai/\v a d=x:=λ_ _=>Lib.c5
end xB

namespace m7
def b(kr:aQ->aA R)(a:aQ)(d:aq):aA R:=bif tq.c a then bif xB.c (tq.v a) d then kr (xB.v (tq.v a) d)else aj else aj
def vo:=b λr0=>ah r0
def c:=λa d=>(vo a d).isSome
def v:=λa d=>(vo a d).getD ([])
theorem out{x}:∀a d,vo a d=ah x->c a d=ai/\v a d=x:=λ_ _=>Lib.c5
end m7


namespace lr
def r3(N:aE)(g k0:Gl R)(a:ax)(d e:aq)(f:ax)(h:aQ):aA R:=bif decide (a<(h.length:ax))then bif decide (0<=a)&&decide (a<(h.length:ax))then bif b9 (bz (ar h a.toNat 0)).toList (aC d)then g (bG (a+1)) d e f h else k0 a d e f h else aj else k0 a d e f h
def l3(N:aE)(k0:Gl R):aE->Gl R
 |0=>λ_ _ _ _ _=>aj
 |n+1=>r3 N (l3 N k0 n) k0
def b(N:aE)(kr:aQ->aA R)(a:aQ)(d e:aq)(f:ax):aA R:=bif m7.c a d then l3 N (λh i j l m=>bif decide (0<=h)&&decide (h<=(m.length:ax))&&cw (m.length+(aD (aP [Ck.s,Ck.s,Ck.i ao] 1) 0 [.s i, .s j, .i .i64 l]).length) 40 then kr (Pu.tN m h.toNat (aD (aP [Ck.s,Ck.s,Ck.i ao] 1) 0 [.s i, .s j, .i .i64 l]))else aj) N 0 d e f (m7.v a d)else aj
def vo:=b Lib.cJ λr0=>ah r0
def c:=λa d e f=>(vo a d e f).isSome
def v:=λa d e f=>(vo a d e f).getD ([])
theorem out{x}:∀a d e f,vo a d e f=ah x->c a d e f=ai/\v a d e f=x:=λ_ _ _ _=>Lib.c5
end lr

namespace rL
abbrev h0{R:Type}(kr:AU R)(a:aQ)(d:ax)(e f h:aq):aA R:=bif decide (ik.v a e≥0)then bif decide (0<=ik.v a e)&&decide (ik.v a e<(a.length:ax))then bif decide (d=1)then bif decide ((bz (ar a (ik.v a e).toNat 1)).size+f.size<=4611686018427387904)then bif lr.c a (bz (ar a (ik.v a e).toNat 0)) (bz (ar a (ik.v a e).toNat 1)++f) (bE (ar a (ik.v a e).toNat (1+1)))then bif kg.c (lr.v a (bz (ar a (ik.v a e).toNat 0)) (bz (ar a (ik.v a e).toNat 1)++f) (bE (ar a (ik.v a e).toNat (1+1))))then bif !kg.v (lr.v a (bz (ar a (ik.v a e).toNat 0)) (bz (ar a (ik.v a e).toNat 1)++f) (bE (ar a (ik.v a e).toNat (1+1))))then kr [] ak else kr (lr.v a (bz (ar a (ik.v a e).toNat 0)) (bz (ar a (ik.v a e).toNat 1)++f) (bE (ar a (ik.v a e).toNat (1+1)))) ai else aj else aj else aj else bif decide (d=2)then bif lr.c a (bz (ar a (ik.v a e).toNat 0)) (bz (ar a (ik.v a e).toNat 1)) ((bz (ar a (ik.v a e).toNat 1)).size:ax)then bif kg.c (lr.v a (bz (ar a (ik.v a e).toNat 0)) (bz (ar a (ik.v a e).toNat 1)) ((bz (ar a (ik.v a e).toNat 1)).size:ax))then bif !kg.v (lr.v a (bz (ar a (ik.v a e).toNat 0)) (bz (ar a (ik.v a e).toNat 1)) ((bz (ar a (ik.v a e).toNat 1)).size:ax))then kr [] ak else kr (lr.v a (bz (ar a (ik.v a e).toNat 0)) (bz (ar a (ik.v a e).toNat 1)) ((bz (ar a (ik.v a e).toNat 1)).size:ax)) ai else aj else aj else bif decide (d=3)then bif bE (ar a (ik.v a e).toNat (1+1)) !=((bz (ar a (ik.v a e).toNat 1)).size:ax)then kr [] ak else bif bW (aC h) (aC e)then kr [] ak else bif m7.c a e then bif lr.c (m7.v a e) h (bz (ar a (ik.v a e).toNat 1)) (bE (ar a (ik.v a e).toNat (1+1)))then bif kg.c (lr.v (m7.v a e) h (bz (ar a (ik.v a e).toNat 1)) (bE (ar a (ik.v a e).toNat (1+1))))then bif !kg.v (lr.v (m7.v a e) h (bz (ar a (ik.v a e).toNat 1)) (bE (ar a (ik.v a e).toNat (1+1))))then kr [] ak else kr (lr.v (m7.v a e) h (bz (ar a (ik.v a e).toNat 1)) (bE (ar a (ik.v a e).toNat (1+1)))) ai else aj else aj else aj else bif m7.c a e then bif kg.c (m7.v a e)then bif !kg.v (m7.v a e)then kr [] ak else kr (m7.v a e) ai else aj else aj else aj else bif decide (d=1)then bif decide (eu ⟨#[]⟩+f.size<=4611686018427387904)then bif lr.c a e ({data:= #[]}++f) 0 then bif kg.c (lr.v a e ({data:= #[]}++f) 0)then bif !kg.v (lr.v a e ({data:= #[]}++f) 0)then kr [] ak else kr (lr.v a e ({data:= #[]}++f) 0) ai else aj else aj else aj else bif decide (d=2)then bif lr.c a e ⟨#[]⟩ (eu ⟨#[]⟩:ax)then bif kg.c (lr.v a e ⟨#[]⟩ (eu ⟨#[]⟩:ax))then bif !kg.v (lr.v a e ⟨#[]⟩ (eu ⟨#[]⟩:ax))then kr [] ak else kr (lr.v a e ⟨#[]⟩ (eu ⟨#[]⟩:ax)) ai else aj else aj else bif decide (d=3)then bif bW (aC h) (aC e)then kr [] ak else bif m7.c a e then bif lr.c (m7.v a e) h ⟨#[]⟩ 0 then bif kg.c (lr.v (m7.v a e) h ⟨#[]⟩ 0)then bif !kg.v (lr.v (m7.v a e) h ⟨#[]⟩ 0)then kr [] ak else kr (lr.v (m7.v a e) h ⟨#[]⟩ 0) ai else aj else aj else aj else bif m7.c a e then bif kg.c (m7.v a e)then bif !kg.v (m7.v a e)then kr [] ak else kr (m7.v a e) ai else aj else aj
def b(kr:AU R)(a:aQ)(d:ax)(e f h:aq):aA R:=bif ik.c a e then bif kg.c a then bif !kg.v a then kr [] ak else bif !K5.v d e f h then kr [] ak else bif decide (ik.v a e<0)then bif d !=1 then kr [] ak else h0 kr a d e f h else h0 kr a d e f h else aj else aj
def vo:=b λr0 r1=>ah (r0,r1)
def c:=λa d e f h=>(vo a d e f h).isSome
def v:=λa d e f h=>(vo a d e f h).getD ([],ak)
theorem out{x}:∀a d e f h,vo a d e f h=ah x->c a d e f h=ai/\v a d e f h=x:=λ_ _ _ _ _=>Lib.c5
end rL

namespace v5
def r3(N:aE)(g k0 k1:B9 R)(a:aQ)(d:ax)(e:aQ)(f h:ax)(i:aQ):aA R:=bif decide (h<f)then bif decide (0<=h)&&decide (h<(e.length:ax))then bif rL.c i (bE (ar e h.toNat 0)) (bz (ar e h.toNat 1)) (bz (ar e h.toNat (1+1))) (bz (ar e h.toNat (1+1+1)))then bif !(rL.v i (bE (ar e h.toNat 0)) (bz (ar e h.toNat 1)) (bz (ar e h.toNat (1+1))) (bz (ar e h.toNat (1+1+1)))).2 then k0 a h e f h i else g a d e f (bG (h+1)) (rL.v i (bE (ar e h.toNat 0)) (bz (ar e h.toNat 1)) (bz (ar e h.toNat (1+1))) (bz (ar e h.toNat (1+1+1)))).1 else aj else aj else k1 a d e f h i
def l3(N:aE)(k0 k1:B9 R):aE->B9 R
 |0=>λ_ _ _ _ _ _=>aj
 |n+1=>r3 N (l3 N k0 k1 n) k0 k1
def b(N:aE)(kr:sK R)(a d:aQ):aA R:=bif tq.c a then l3 N (λ_ e _ _ _ f=>kr f e) (λe _ _ _ _ f=>kr f (e.length:ax)) N d 0 d (d.length:ax) 0 (tq.v a)else aj
def vo:=b Lib.cJ λr0 r1=>ah (r0,r1)
def c:=λa d=>(vo a d).isSome
def v:=λa d=>(vo a d).getD ([],0)
theorem out{x}:∀a d,vo a d=ah x->c a d=ai/\v a d=x:=λ_ _=>Lib.c5
end v5

namespace WY
def b(kr:AQ R)(a:ax)(d e f h:aQ)(i:ax)(j l:aQ)(m:ax)(o p q:aQ)(r s:ax):aA R:=bif D5.c a d e f h i j l m r s then Lib.lt (D5.v a d e f h i j l m r s) λt=>bif !t.2.2.2.2.2.2.2.2.2 then kr t.2.2.2.2.2.2.2.2.2 t.1 t.2.1 t.2.2.1 t.2.2.2.1 t.2.2.2.2.1 t.2.2.2.2.2.1 t.2.2.2.2.2.2.1 t.2.2.2.2.2.2.2.1 t.2.2.2.2.2.2.2.2.1 o p q else bif decide (s=0)then kr t.2.2.2.2.2.2.2.2.2 t.1 t.2.1 t.2.2.1 t.2.2.2.1 t.2.2.2.2.1 t.2.2.2.2.2.1 t.2.2.2.2.2.2.1 t.2.2.2.2.2.2.2.1 t.2.2.2.2.2.2.2.2.1 o p q else bif decide (0<=r)&&decide (r<(t.2.2.2.2.2.2.1.length:ax))then bif sM.c t.2.2.1 t.2.2.2.1 t.2.2.2.2.1 t.2.2.2.2.2.1 (bz (ar t.2.2.2.2.2.2.1 r.toNat 0))then Lib.lt (sM.v t.2.2.1 t.2.2.2.1 t.2.2.2.2.1 t.2.2.2.2.2.1 (bz (ar t.2.2.2.2.2.2.1 r.toNat 0))) λu=>bif u then bif cw (q.length+(aD (aP [Ck.s,Ck.i ao,Ck.i ao,Ck.s] 1) 0 [.s (bz (ar t.2.2.2.2.2.2.1 r.toNat 0)), .i .i64 (bE (ar t.2.2.2.2.2.2.1 r.toNat (1+1+1+1))), .i .i64 (bE (ar t.2.2.2.2.2.2.1 r.toNat (1+1+1))), .s (bz (ar t.2.2.2.2.2.2.1 r.toNat 1))]).length) 48 then bif ve.c (bz (ar t.2.2.2.2.2.2.1 r.toNat 0)) (bE (ar t.2.2.2.2.2.2.1 r.toNat (1+1+1+1))) (bE (ar t.2.2.2.2.2.2.1 r.toNat (1+1+1))) (bz (ar t.2.2.2.2.2.2.1 r.toNat 1))then Lib.lt (ve.v (bz (ar t.2.2.2.2.2.2.1 r.toNat 0)) (bE (ar t.2.2.2.2.2.2.1 r.toNat (1+1+1+1))) (bE (ar t.2.2.2.2.2.2.1 r.toNat (1+1+1))) (bz (ar t.2.2.2.2.2.2.1 r.toNat 1))) λw=>bif v5.c o w.1 then Lib.lt (v5.v o w.1) λy=>kr ai t.1 t.2.1 t.2.2.1 t.2.2.2.1 t.2.2.2.2.1 t.2.2.2.2.2.1 t.2.2.2.2.2.2.1 t.2.2.2.2.2.2.2.1 t.2.2.2.2.2.2.2.2.1 y.1 p (q++aD (aP [Ck.s,Ck.i ao,Ck.i ao,Ck.s] 1) 0 [.s (bz (ar t.2.2.2.2.2.2.1 r.toNat 0)), .i .i64 (bE (ar t.2.2.2.2.2.2.1 r.toNat (1+1+1+1))), .i .i64 (bE (ar t.2.2.2.2.2.2.1 r.toNat (1+1+1))), .s (bz (ar t.2.2.2.2.2.2.1 r.toNat 1))])else aj else aj else aj else kr ai t.1 t.2.1 t.2.2.1 t.2.2.2.1 t.2.2.2.2.1 t.2.2.2.2.2.1 t.2.2.2.2.2.2.1 t.2.2.2.2.2.2.2.1 t.2.2.2.2.2.2.2.2.1 o p q else aj else aj else aj
def vo:=b λr0 r1 r2 r3 r4 r5 r6 r7 r8 r9 AG wG Qq=>ah (r0,r1,r2,r3,r4,r5,r6,r7,r8,r9,AG,wG,Qq)
def c:=λa d e f h i j l m o p q r s=>(vo a d e f h i j l m o p q r s).isSome
def v:=λa d e f h i j l m o p q r s=>(vo a d e f h i j l m o p q r s).getD (ak,0,[],[],[],[],0,[],[],0,[],[],[])
theorem out{x}:∀a d e f h i j l m o p q r s,vo a d e f h i j l m o p q r s=ah x->c a d e f h i j l m o p q r s=ai/\v a d e f h i j l m o p q r s=x:=λ_ _ _ _ _ _ _ _ _ _ _ _ _ _=>Lib.c5
end WY

namespace WZ
def b(kr:k_ R)(a:ax)(d e f h:aQ)(i:ax)(j l:aQ)(m o:ax):aA R:=bif iN.c a d e f h i j l m then Lib.lt (iN.v a d e f h i j l m) λp=>bif vd.c a d e f h i j l m o then Lib.lt (vd.v a d e f h i j l m o) λq=>bif !q then kr p.1 p.2.1 p.2.2.1 p.2.2.2.1 p.2.2.2.2.1 p.2.2.2.2.2.1 p.2.2.2.2.2.2.1 p.2.2.2.2.2.2.2.1 p.2.2.2.2.2.2.2.2 ak else bif decide (0<=o)&&decide (o<(j.length:ax))then bif bE (ar j o.toNat 2) !=1 then kr p.1 p.2.1 p.2.2.1 p.2.2.2.1 p.2.2.2.2.1 p.2.2.2.2.2.1 p.2.2.2.2.2.2.1 p.2.2.2.2.2.2.2.1 p.2.2.2.2.2.2.2.2 ak else bif decide (0<=o)&&decide (o<(p.2.2.2.2.2.2.1.length:ax))then bif v7.c p.1 p.2.1 p.2.2.1 p.2.2.2.1 p.2.2.2.2.1 p.2.2.2.2.2.1 (eC p.2.2.2.2.2.2.1 o.toNat 2 [.i .i64 3]) p.2.2.2.2.2.2.2.1 p.2.2.2.2.2.2.2.2 o 3 then Lib.lt (v7.v p.1 p.2.1 p.2.2.1 p.2.2.2.1 p.2.2.2.2.1 p.2.2.2.2.2.1 (eC p.2.2.2.2.2.2.1 o.toNat 2 [.i .i64 3]) p.2.2.2.2.2.2.2.1 p.2.2.2.2.2.2.2.2 o 3) λr=>kr r.1 r.2.1 r.2.2.1 r.2.2.2.1 r.2.2.2.2.1 r.2.2.2.2.2.1 r.2.2.2.2.2.2.1 r.2.2.2.2.2.2.2.1 r.2.2.2.2.2.2.2.2 ai else aj else aj else aj else aj else aj
def vo:=b λr0 r1 r2 r3 r4 r5 r6 r7 r8 r9=>ah (r0,r1,r2,r3,r4,r5,r6,r7,r8,r9)
def c:=λa d e f h i j l m o=>(vo a d e f h i j l m o).isSome
def v:=λa d e f h i j l m o=>(vo a d e f h i j l m o).getD (0,[],[],[],[],0,[],[],0,ak)
theorem out{x}:∀a d e f h i j l m o,vo a d e f h i j l m o=ah x->c a d e f h i j l m o=ai/\v a d e f h i j l m o=x:=λ_ _ _ _ _ _ _ _ _ _=>Lib.c5
end WZ

namespace A5
def b(kr:ax->aA R)(a d:ax):aA R:=bif !decide (d=0)then bif !decide (d=0)then kr (cF (bG (cF a d+d)) d)else aj else aj
def vo:=b λr0=>ah r0
def c:=λa d=>(vo a d).isSome
def v:=λa d=>(vo a d).getD (0)
theorem out{x}:∀a d,vo a d=ah x->c a d=ai/\v a d=x:=λ_ _=>Lib.c5
end A5

namespace DZ
def b(kr:dY R)(a:ax)(d e f h:aQ)(i:ax)(j l:aQ)(m o:ax):aA R:=bif iN.c a d e f h i j l m then bif decide (a>bG (1000000000-A5.v o 1000))then kr 1000000000 (iN.v a d e f h i j l m).2.1 (iN.v a d e f h i j l m).2.2.1 (iN.v a d e f h i j l m).2.2.2.1 (iN.v a d e f h i j l m).2.2.2.2.1 (iN.v a d e f h i j l m).2.2.2.2.2.1 (iN.v a d e f h i j l m).2.2.2.2.2.2.1 (iN.v a d e f h i j l m).2.2.2.2.2.2.2.1 (iN.v a d e f h i j l m).2.2.2.2.2.2.2.2 else kr (bG (a+A5.v o 1000)) (iN.v a d e f h i j l m).2.1 (iN.v a d e f h i j l m).2.2.1 (iN.v a d e f h i j l m).2.2.2.1 (iN.v a d e f h i j l m).2.2.2.2.1 (iN.v a d e f h i j l m).2.2.2.2.2.1 (iN.v a d e f h i j l m).2.2.2.2.2.2.1 (iN.v a d e f h i j l m).2.2.2.2.2.2.2.1 (iN.v a d e f h i j l m).2.2.2.2.2.2.2.2 else aj
def vo:=b λr0 r1 r2 r3 r4 r5 r6 r7 r8=>ah (r0,r1,r2,r3,r4,r5,r6,r7,r8)
def c:=λa d e f h i j l m o=>(vo a d e f h i j l m o).isSome
def v:=λa d e f h i j l m o=>(vo a d e f h i j l m o).getD (0,[],[],[],[],0,[],[],0)
theorem out{x}:∀a d e f h i j l m o,vo a d e f h i j l m o=ah x->c a d e f h i j l m o=ai/\v a d e f h i j l m o=x:=λ_ _ _ _ _ _ _ _ _ _=>Lib.c5
end DZ

namespace wU
def r5(N:aE)(g k0:iZ R)(a d e:ax)(f:aQ):aA R:=bif decide (e<(f.length:ax))then bif decide (0<=e)&&decide (e<(f.length:ax))then bif !A6.v (bE (ar f e.toNat 0)) (bz (ar f e.toNat 1)) (bE (ar f e.toNat (1+1))) (bE (ar f e.toNat (1+1+1))) (bE (ar f e.toNat (1+1+1+1))) (bz (ar f e.toNat (1+1+1+1+1))) (bE (ar f e.toNat (1+1+1+1+1+1))) a then bif decide (0<=d)&&decide (d<(f.length:ax))then g a (bG (d+1)) (bG (e+1)) (eC f d.toNat 0 [.i .i64 (bE (ar f e.toNat 0)), .s (bz (ar f e.toNat 1)), .i .i64 (bE (ar f e.toNat (1+1))), .i .i64 (bE (ar f e.toNat (1+1+1))), .i .i64 (bE (ar f e.toNat (1+1+1+1))), .s (bz (ar f e.toNat (1+1+1+1+1))), .i .i64 (bE (ar f e.toNat (1+1+1+1+1+1)))])else aj else g a d (bG (e+1)) f else aj else k0 a d e f
def l5(N:aE)(k0:iZ R):aE->iZ R
 |0=>λ_ _ _ _=>aj
 |n+1=>r5 N (l5 N k0 n) k0
def b(N:aE)(kr:aQ->aA R)(a:aQ)(CT:ax):aA R:=bif ny.c a CT then bif decide (ny.v a CT=KV 1)then kr a else l5 N (λ_ d _ e=>bif ic d (e.length:ax) (e.length:ax)then bif ic 0 d ((g7 d.toNat e++aP [Ck.i ao,Ck.s,Ck.i ao,Ck.i ao,Ck.i ao,Ck.s,Ck.i ao] ((e.length:ax).toNat-d.toNat)++nt (e.length:ax).toNat e).length:ax)then kr (eW (g7 d.toNat e++aP [Ck.i ao,Ck.s,Ck.i ao,Ck.i ao,Ck.i ao,Ck.s,Ck.i ao] ((e.length:ax).toNat-d.toNat)++nt (e.length:ax).toNat e) (aZ 0) d.toNat)else aj else aj) N CT (ny.v a CT) (bG (ny.v a CT+1)) a else aj
def vo:=b Lib.cJ λr0=>ah r0
def c:=λa d=>(vo a d).isSome
def v:=λa d=>(vo a d).getD ([])
theorem out{x}:∀a d,vo a d=ah x->c a d=ai/\v a d=x:=λ_ _=>Lib.c5
end wU

namespace D0
def b(kr:dY R)(a:ax)(d e f h:aQ)(i:ax)(j l:aQ)(m o:ax):aA R:=bif iN.c a d e f h i j l m then bif wU.c (iN.v a d e f h i j l m).2.2.2.2.2.2.2.1 o then kr (iN.v a d e f h i j l m).1 (iN.v a d e f h i j l m).2.1 (iN.v a d e f h i j l m).2.2.1 (iN.v a d e f h i j l m).2.2.2.1 (iN.v a d e f h i j l m).2.2.2.2.1 (iN.v a d e f h i j l m).2.2.2.2.2.1 (iN.v a d e f h i j l m).2.2.2.2.2.2.1 (wU.v (iN.v a d e f h i j l m).2.2.2.2.2.2.2.1 o) (iN.v a d e f h i j l m).2.2.2.2.2.2.2.2 else aj else aj
def vo:=b λr0 r1 r2 r3 r4 r5 r6 r7 r8=>ah (r0,r1,r2,r3,r4,r5,r6,r7,r8)
def c:=λa d e f h i j l m o=>(vo a d e f h i j l m o).isSome
def v:=λa d e f h i j l m o=>(vo a d e f h i j l m o).getD (0,[],[],[],[],0,[],[],0)
theorem out{x}:∀a d e f h i j l m o,vo a d e f h i j l m o=ah x->c a d e f h i j l m o=ai/\v a d e f h i j l m o=x:=λ_ _ _ _ _ _ _ _ _ _=>Lib.c5
end D0

namespace wV
def r5(N:aE)(g k0:Gn R)(a d:aQ)(e f:ax)(h:aQ):aA R:=bif decide (f<e)then bif decide (0<=f)&&decide (f<(d.length:ax))then bif decide (f<(a.length:ax))then bif decide (0<=f)&&decide (f<(a.length:ax))then bif ic 0 (iu ai (bE (ar d f.toNat (1+1))) (iu ak (bE (ar a f.toNat 0)) ((bz (ar d f.toNat 1)).size:ax))) ((bz (ar d f.toNat 1)).size:ax)then bif decide (0<=f)&&decide (f<(h.length:ax))then g a d e (bG (f+1)) (eC h f.toNat 0 [.s (bz (ar d f.toNat 0)), .s (bK (bz (ar d f.toNat 1)) (aZ 0) (iu ai (bE (ar d f.toNat (1+1))) (iu ak (bE (ar a f.toNat 0)) ((bz (ar d f.toNat 1)).size:ax))).toNat), .i .i64 (iu ai (bE (ar d f.toNat (1+1))) (iu ak (bE (ar a f.toNat 0)) ((bz (ar d f.toNat 1)).size:ax)))])else aj else aj else aj else bif ic 0 (bE (ar d f.toNat (1+1))) ((bz (ar d f.toNat 1)).size:ax)then bif decide (0<=f)&&decide (f<(h.length:ax))then g a d e (bG (f+1)) (eC h f.toNat 0 [.s (bz (ar d f.toNat 0)), .s (bK (bz (ar d f.toNat 1)) (aZ 0) (bE (ar d f.toNat (1+1))).toNat), .i .i64 (bE (ar d f.toNat (1+1)))])else aj else aj else aj else k0 a d e f h
def l5(N:aE)(k0:Gn R):aE->Gn R
 |0=>λ_ _ _ _ _=>aj
 |n+1=>r5 N (l5 N k0 n) k0
def b(N:aE)(kr:AU R)(a d:aQ):aA R:=bif kg.c a then bif !kg.v a then kr [] ak else bif tq.c a then l5 N (λ_ _ _ _ e=>kr e ai) N d a (a.length:ax) 0 (tq.v a)else aj else aj
def vo:=b Lib.cJ λr0 r1=>ah (r0,r1)
def c:=λa d=>(vo a d).isSome
def v:=λa d=>(vo a d).getD ([],ak)
theorem out{x}:∀a d,vo a d=ah x->c a d=ai/\v a d=x:=λ_ _=>Lib.c5
end wV

namespace u6
def b(kr:wN R)(a:aQ)(d:aq):aA R:=bif ik.c a d then bif decide (ik.v a d<0)then kr ⟨#[]⟩ ak else bif decide (0<=ik.v a d)&&decide (ik.v a d<(a.length:ax))then kr (bz (ar a (ik.v a d).toNat 1)) ai else aj else aj
def vo:=b λr0 r1=>ah (r0,r1)
def c:=λa d=>(vo a d).isSome
def v:=λa d=>(vo a d).getD (⟨#[]⟩,ak)
theorem out{x}:∀a d,vo a d=ah x->c a d=ai/\v a d=x:=λ_ _=>Lib.c5
end u6

namespace gn
def r5(N:aE)(g k0 k1:yV R)(a:aq)(d e f:ax)(h:aU)(i j:ax):aA R:=bif decide (j<5)then bif decide (bG (d+j)<(a.size:ax))then bif decide (0<=bG (d+j))&&decide (bG (d+j)<(a.size:ax))then bif decide (0<=bG (7*j))then bif decide (bG (↑(gU a (bG (d+j)).toNat):ax)>127)then g a d e f h (bG (i+bG (cF (bG (↑(gU a (bG (d+j)).toNat):ax)) 128*g_ 2 (if(bG (7*j)).toNat<=64 then(bG (7*j)).toNat else 64)))) (bG (j+1))else bif decide (j>0)then bif decide (bG (↑(gU a (bG (d+j)).toNat):ax)=0)then k0 a d 0 0 ak (bG (i+bG (cF (bG (↑(gU a (bG (d+j)).toNat):ax)) 128*g_ 2 (if(bG (7*j)).toNat<=64 then(bG (7*j)).toNat else 64)))) j else bif decide (bG (i+bG (cF (bG (↑(gU a (bG (d+j)).toNat):ax)) 128*g_ 2 (if(bG (7*j)).toNat<=64 then(bG (7*j)).toNat else 64)))>1000000000)then k0 a d 0 0 ak (bG (i+bG (cF (bG (↑(gU a (bG (d+j)).toNat):ax)) 128*g_ 2 (if(bG (7*j)).toNat<=64 then(bG (7*j)).toNat else 64)))) j else k0 a d (bG (i+bG (cF (bG (↑(gU a (bG (d+j)).toNat):ax)) 128*g_ 2 (if(bG (7*j)).toNat<=64 then(bG (7*j)).toNat else 64)))) (bG (bG (d+j)+1)) ai (bG (i+bG (cF (bG (↑(gU a (bG (d+j)).toNat):ax)) 128*g_ 2 (if(bG (7*j)).toNat<=64 then(bG (7*j)).toNat else 64)))) j else bif decide (bG (i+bG (cF (bG (↑(gU a (bG (d+j)).toNat):ax)) 128*g_ 2 (if(bG (7*j)).toNat<=64 then(bG (7*j)).toNat else 64)))>1000000000)then k0 a d 0 0 ak (bG (i+bG (cF (bG (↑(gU a (bG (d+j)).toNat):ax)) 128*g_ 2 (if(bG (7*j)).toNat<=64 then(bG (7*j)).toNat else 64)))) j else k0 a d (bG (i+bG (cF (bG (↑(gU a (bG (d+j)).toNat):ax)) 128*g_ 2 (if(bG (7*j)).toNat<=64 then(bG (7*j)).toNat else 64)))) (bG (bG (d+j)+1)) ai (bG (i+bG (cF (bG (↑(gU a (bG (d+j)).toNat):ax)) 128*g_ 2 (if(bG (7*j)).toNat<=64 then(bG (7*j)).toNat else 64)))) j else aj else aj else k1 a d e f h i j else k1 a d e f h i j
def l5(N:aE)(k0 k1:yV R):aE->yV R
 |0=>λ_ _ _ _ _ _ _=>aj
 |n+1=>r5 N (l5 N k0 k1 n) k0 k1
def b(N:aE)(kr:MK R)(a:aq)(d:ax):aA R:=bif !lH.v d 0 (a.size:ax)then kr 0 0 ak else l5 N (λ_ _ e f h _ _=>kr e f h) (λ_ _ _ _ _ _ _=>kr 0 0 ak) N a d 0 0 ak 0 0
def v(cW:aq)(gT:ax):ax×ax×aU:=if 0<=gT/\gT<=cW.size then Lib.rv cW gT.toNat 5 0 0 else(0,0,ak)
theorem eh(kr:MK R)(cW:aq)(gT:ax)(f0:Ez cW):∃N,b N kr cW gT=kr (v cW gT).1 (v cW gT).2.1 (v cW gT).2.2:=by
 refine⟨6, ?_⟩
 unfold b v;by_cases hn:0<=gT/\gT<=cW.size
 ·have e:lH.v gT 0 (cW.size:ax)=true:=by simp[lH.v,hn]
  obtain⟨a,rfl⟩:∃a:aE,gT=(a:ax):=⟨gT.toNat,by omega⟩
  have ha:a<=cW.size:=by omega
  rw[e,bA hn,Lib.dN];have hs:cW.size<=4611686018427387904:=f0;simp only[aY,aw]
  have:=Lib.fE (λm (s:aE×ax)=>l5 6 (λy7 y8 y9 KK wC MH Ir=>kr y9 KK wC) (λDR Xd Rj DS Gc EI wD=>kr 0 0 ak) m cW a 0 0 ak s.2 s.1) (λs=>5-s.1) (λs=>s.1<=5/\0<=s.2/\s.2<128^s.1)
   (λs=>kr (Lib.rv cW a (5-s.1) s.1 s.2).1 (Lib.rv cW a (5-s.1) s.1 s.2).2.1 (Lib.rv cW a (5-s.1) s.1 s.2).2.2) (λm s hs5=>by
   obtain⟨j,n⟩:=s
   obtain⟨hj,h0,jt⟩:=hs5
   dsimp only at hj h0 jt⊢
   have hb:=Lib.Hj cW (a+j)
   by_cases hj5:j<5
   ·by_cases gC:a+j<cW.size
    ·have ew:bG ((a:ax)+(j:ax))=((a+j:aE):ax):=by rw[iG (by omega) (by omega)];omega
     have ew2:bG ((a+j:aE):ax)=((a+j:aE):ax):=iG (by omega) (by omega);have eb:bG (gU cW (a+j):ax)=(gU cW (a+j):ax):=iG (by omega) (by omega);have em:cF (gU cW (a+j):ax) 128=(gU cW (a+j):ax)%128:=im (by omega);have e7:bG (7*(j:ax))=((7*j:aE):ax):=by rw[iG (by omega) (by omega)];omega
     have ep:g_ 2 (if 7*j<=64 then 7*j else 64)=128^j:=by rw[bA (by omega)];show(2:ax)^(7*j)=128^j;rw[Int.pow_mul];rfl
     have hp:(128:ax)^j<=268435456/\(1:ax)<=128^j/\(128:ax)^(j+1)=128*128^j:=by
      obtain rfl|rfl|rfl|rfl|rfl:j=0\/j=1\/j=2\/j=3\/j=4:=by omega
      all_goals decide
     have hm0:0<=(gU cW (a+j):ax)%128/\(gU cW (a+j):ax)%128<=127:=by omega
     have hq:0<=(gU cW (a+j):ax)%128*128^j/\(gU cW (a+j):ax)%128*128^j<=127*128^j:=
      ⟨Int.mul_nonneg hm0.1 (by omega),DW hm0.2 (by omega)⟩
     have eq1:bG ((gU cW (a+j):ax)%128*128^j)=(gU cW (a+j):ax)%128*128^j:=iG (by omega) (by omega);have eq2:bG (n+(gU cW (a+j):ax)%128*128^j)=n+(gU cW (a+j):ax)%128*128^j:=iG (by omega) (by omega);have ej:bG ((j:ax)+1)=((j+1:aE):ax):=Lib.cS hj5 (by omega);have ef:5-j=(5-(j+1))+1:=by omega
     have c1:decide ((j:ax)<5)=true:=by simp;omega
     have c2:decide (((a+j:aE):ax)<(cW.size:ax))=true:=Lib.NI gC
     have Ym:Lib.rv cW a (5-j) j n=(if(gU cW (a+j):ax)>127 then Lib.rv cW a (5-(j+1)) (j+1) (n+(gU cW (a+j):ax)%128*128^j)
       else if(j>0/\gU cW (a+j)=0)\/n+(gU cW (a+j):ax)%128*128^j>1000000000 then(0,0,ak)
       else(n+(gU cW (a+j):ax)%128*128^j,((a+j+1:aE):ax),ai)):=by
      rw[ef];simp only[Lib.rv];rw[bA gC]
     have en:bG (((a+j:aE):ax)+1)=((a+j+1:aE):ax):=Lib.cS gC (by omega);simp only[l5,r5,c1,ew,c2,Lib.cm,Lib.dN,eb,em,e7,ep,eq1,eq2,ej,en,au,aL];by_cases hc:(gU cW (a+j):ax)>127
     ·right;rw[aG hc];exact⟨(j+1,n+(gU cW (a+j):ax)%128*128^j),⟨by dsimp only;omega,by dsimp only;omega,by dsimp only;omega⟩,by dsimp only;omega,by dsimp only;rw[Ym,bA hc],rfl⟩
     ·left;rw[aK hc,aw,Ym,bJ hc];by_cases hj0:(j:ax)>0
      ·rw[aG hj0,au];by_cases hz:(gU cW (a+j):ax)=0
       ·rw[aG hz,bA (.inl ⟨by omega,by omega⟩)];rfl
       ·rw[aK hz,aw];by_cases tK:n+(gU cW (a+j):ax)%128*128^j>1000000000
        ·rw[aG tK,bA (.inr tK)];rfl
        ·rw[aK tK,bJ (by omega)];rfl
      ·rw[aK hj0,aw];by_cases tK:n+(gU cW (a+j):ax)%128*128^j>1000000000
       ·rw[aG tK,bA (.inr tK)];rfl
       ·rw[aK tK,bJ (by omega)];rfl
    ·left;have ew:bG ((a:ax)+(j:ax))=((a+j:aE):ax):=by rw[iG (by omega) (by omega)];omega
     have ef:5-j=(5-(j+1))+1:=by omega
     have Ym:Lib.rv cW a (5-j) j n=(0,0,ak):=by rw[ef];simp only[Lib.rv];rw[bJ gC]
     simp only[l5,r5,show decide ((j:ax)<5)=ai by simp;omega,ew,Lib.Tc gC,au,aw,Ym]
   ·left;have KG:j=5:=by omega
    subst KG;simp only[l5,r5,show decide (((5:aE):ax)<5)=ak from rfl,aw];rfl) 6 (0,0) ⟨by dsimp only;omega,by dsimp only;omega,by dsimp only;decide⟩ (by dsimp only;omega)
  exact this
 ·have e:lH.v gT 0 (cW.size:ax)=false:=by simp[lH.v];omega
  rw[e,bJ hn];rfl
end gn

namespace U122
def r3(N:aE)(g k0:ox R)(a:aq)(d:ax)(e:aQ):aA R:=bif decide ((a.size:ax)<=20000)then bif !(gn.v a d).2.2 then k0 a d e else bif !lH.v (gn.v a d).1 1 9000 then k0 a d e else bif decide (bG ((gn.v a d).1+4)>bG ((a.size:ax)-(gn.v a d).2.1))then k0 a d e else bif ic (bG ((gn.v a d).2.1+4)) (bG (bG ((gn.v a d).2.1+4)+(gn.v a d).1)) (a.size:ax)then bif vf.c (bK a (bG ((gn.v a d).2.1+4)).toNat (bG (bG ((gn.v a d).2.1+4)+(gn.v a d).1)).toNat)then bif ic (gn.v a d).2.1 (bG ((gn.v a d).2.1+4)) (a.size:ax)then bif !List.beq (vf.v (bK a (bG ((gn.v a d).2.1+4)).toNat (bG (bG ((gn.v a d).2.1+4)+(gn.v a d).1)).toNat)).toList (bK a (gn.v a d).2.1.toNat (bG ((gn.v a d).2.1+4)).toNat).toList then k0 a d e else bif cw (e.length+(aD (aP [.s] 1) 0 [.s (bK a (bG ((gn.v a d).2.1+4)).toNat (bG (bG ((gn.v a d).2.1+4)+(gn.v a d).1)).toNat)]).length) 16 then g a (bG (bG ((gn.v a d).2.1+4)+(gn.v a d).1)) (e++aD (aP [.s] 1) 0 [.s (bK a (bG ((gn.v a d).2.1+4)).toNat (bG (bG ((gn.v a d).2.1+4)+(gn.v a d).1)).toNat)])else aj else aj else aj else aj else k0 a d e
def l3(N:aE)(k0:ox R):aE->ox R
 |0=>λ_ _ _=>aj
 |n+1=>r3 N (l3 N k0 n) k0
def b(N:aE)(kr:sK R)(a:aq):aA R:=l3 N (λ_ d e=>kr e d) N a 0 (aP [.s] 0)
def vo:=b Lib.cJ λr0 r1=>ah (r0,r1)
def c:=λa=>(vo a).isSome
def v:=λa=>(vo a).getD ([],0)
theorem out{x}:∀a,vo a=ah x->c a=ai/\v a=x:=λ_=>Lib.c5
end U122

namespace tp
def b(kr:MN R)(a:aq)(d:ax):aA R:=bif !(gn.v a d).2.2 then kr ⟨#[]⟩ 0 ak else bif decide ((gn.v a d).1>20000)then kr ⟨#[]⟩ 0 ak else bif decide ((gn.v a d).1>bG ((a.size:ax)-(gn.v a d).2.1))then kr ⟨#[]⟩ 0 ak else bif ic (gn.v a d).2.1 (bG ((gn.v a d).2.1+(gn.v a d).1)) (a.size:ax)then kr (bK a (gn.v a d).2.1.toNat (bG ((gn.v a d).2.1+(gn.v a d).1)).toNat) (bG ((gn.v a d).2.1+(gn.v a d).1)) ai else aj
def v(cW:aq)(gT:ax):aq×ax×aU:=Lib.hZ cW gT
theorem eh(kr:MN R)(cW:aq)(gT:ax)(f0:Ez cW):b kr cW gT=kr (v cW gT).1 (v cW gT).2.1 (v cW gT).2.2:=Lib.vD f0 gT kr
end tp

namespace vZ
def b(kr:wO R)(a:aq):aA R:=bif !(tp.v a 0).2.2 then kr ⟨#[]⟩ 0 0 ⟨#[]⟩ ak else bif !(gn.v a (tp.v a 0).2.1).2.2 then kr ⟨#[]⟩ 0 0 ⟨#[]⟩ ak else bif !(gn.v a (gn.v a (tp.v a 0).2.1).2.1).2.2 then kr ⟨#[]⟩ 0 0 ⟨#[]⟩ ak else bif ic (gn.v a (gn.v a (tp.v a 0).2.1).2.1).2.1 (a.size:ax) (a.size:ax)then bif !wT.v (tp.v a 0).1 (gn.v a (tp.v a 0).2.1).1 (gn.v a (gn.v a (tp.v a 0).2.1).2.1).1 (bK a (gn.v a (gn.v a (tp.v a 0).2.1).2.1).2.1.toNat (a.size:ax).toNat)then kr ⟨#[]⟩ 0 0 ⟨#[]⟩ ak else kr (tp.v a 0).1 (gn.v a (tp.v a 0).2.1).1 (gn.v a (gn.v a (tp.v a 0).2.1).2.1).1 (bK a (gn.v a (gn.v a (tp.v a 0).2.1).2.1).2.1.toNat (a.size:ax).toNat) ai else aj
def v(t0:aq):aq×ax×ax×aq×aU:=rM.v t0
theorem eh(kr:wO R)(t0:aq)(f0:Ez t0):b kr t0=kr (v t0).1 (v t0).2.1 (v t0).2.2.1 (v t0).2.2.2.1 (v t0).2.2.2.2:=by
 have e1:tp.v=Lib.hZ:=rfl;have e2:gn.v=Lib.er:=rfl;have e3:∀a b c d,wT.v a b c d=m8.v a b c d:=λ_ _ _ _=>rfl;unfold b v rM.v;simp only[e1,e2,e3,Lib.dN];cases h1:Lib.hZ t0 0 with
 |mk k r1=>
  obtain⟨a,ok1⟩:=r1;cases ok1 with
  |false=>rfl
  |true=>
   dsimp only;cases h2:Lib.er t0 a with
   |mk s r2=>
    obtain⟨x,ok2⟩:=r2;cases ok2 with
    |false=>rfl
    |true=>
     dsimp only;cases h3:Lib.er t0 x with
     |mk l r3=>
      obtain⟨y,ok3⟩:=r3;cases ok3 with
      |false=>rfl
      |true=>
       obtain⟨r1,r2,r3,r4,r5,r6⟩:=Lib.j7 h3;dsimp only;simp only[aY,aw];rw[Lib.tz (show ic y (t0.size:ax) (t0.size:ax)=ai by simp[ic];omega)];cases hE:m8.v k s l (t0.extract y.toNat t0.size)with
       |false=>rfl
       |true=>rfl
end vZ

namespace U61
def r7(N:aE)(g k0:KS R)(a d:ax)(e f:aQ):aA R:=bif decide (d<a)then bif decide (0<=d)&&decide (d<(f.length:ax))then bif(vZ.v (bz (ar f d.toNat 0))).2.2.2.2 then bif u9.c e (vZ.v (bz (ar f d.toNat 0))).1 (vZ.v (bz (ar f d.toNat 0))).2.1 (vZ.v (bz (ar f d.toNat 0))).2.2.1 (vZ.v (bz (ar f d.toNat 0))).2.2.2.1 then g a (bG (d+1)) (u9.v e (vZ.v (bz (ar f d.toNat 0))).1 (vZ.v (bz (ar f d.toNat 0))).2.1 (vZ.v (bz (ar f d.toNat 0))).2.2.1 (vZ.v (bz (ar f d.toNat 0))).2.2.2.1) f else aj else g a (bG (d+1)) e f else aj else k0 a d e f
def l7(N:aE)(k0:KS R):aE->KS R
 |0=>λ_ _ _ _=>aj
 |n+1=>r7 N (l7 N k0 n) k0
def b(N:aE)(kr:aQ->aA R)(a:aQ):aA R:=bif kg.c a then bif !kg.v a then kr (aP [Ck.s,Ck.i ao,Ck.i ao,Ck.s] 0)else bif u6.c a {data:= #[ay 107,ay 101,ay 112,ay 116]}then bif U122.c (u6.v a {data:= #[ay 107,ay 101,ay 112,ay 116]}).1 then l7 N (λ_ _ d _=>kr d) N ((U122.v (u6.v a {data:= #[ay 107,ay 101,ay 112,ay 116]}).1).1.length:ax) 0 (aP [Ck.s,Ck.i ao,Ck.i ao,Ck.s] 0) (U122.v (u6.v a {data:= #[ay 107,ay 101,ay 112,ay 116]}).1).1 else aj else aj else aj
def vo:=b Lib.cJ λr0=>ah r0
def c:=λa=>(vo a).isSome
def v:=λa=>(vo a).getD ([])
theorem out{x}:∀a,vo a=ah x->c a=ai/\v a=x:=λ_=>Lib.c5
end U61

namespace A7
def r5(N:aE)(g k0 k1:B4 R)(a:aU)(d:aq)(e:aQ)(f h:ax)(i:aQ):aA R:=bif decide (h<f)then bif decide (0<=h)&&decide (h<(e.length:ax))then bif mZ.c (bz (ar e h.toNat 0)) (bE (ar e h.toNat 1)) (bE (ar e h.toNat (1+1))) (bz (ar e h.toNat (1+1+1)))then bif !(mZ.v (bz (ar e h.toNat 0)) (bE (ar e h.toNat 1)) (bE (ar e h.toNat (1+1))) (bz (ar e h.toNat (1+1+1)))).2 then k0 ak d e f h i else bif decide (d.size+(mZ.v (bz (ar e h.toNat 0)) (bE (ar e h.toNat 1)) (bE (ar e h.toNat (1+1))) (bz (ar e h.toNat (1+1+1)))).1.size<=4611686018427387904)then g a (d++(mZ.v (bz (ar e h.toNat 0)) (bE (ar e h.toNat 1)) (bE (ar e h.toNat (1+1))) (bz (ar e h.toNat (1+1+1)))).1) e f (bG (h+1)) i else aj else aj else aj else k1 a d e f h i
def l5(N:aE)(k0 k1:B4 R):aE->B4 R
 |0=>λ_ _ _ _ _ _=>aj
 |n+1=>r5 N (l5 N k0 k1 n) k0 k1
def b(N:aE)(kr:AU R)(a d:aQ):aA R:=bif kg.c a then bif !kg.v a then kr [] ak else l5 N (λe _ _ _ _ _=>kr [] e) (λ_ e _ _ _ f=>bif u6.c f {data:= #[ay 110,ay 101,ay 119]}then bif(u6.v f {data:= #[ay 110,ay 101,ay 119]}).2 then kr (aP [Ck.i ao,Ck.s,Ck.s,Ck.s] 0++aD (aP [Ck.i ao,Ck.s,Ck.s,Ck.s] 1) 0 [.i .i64 4, .s {data:= #[ay 110,ay 101,ay 119]}, .s ⟨#[]⟩, .s ⟨#[]⟩]++aD (aD (aD (aP [Ck.i ao,Ck.s,Ck.s,Ck.s] 3) 0 [.i .i64 1, .s {data:= #[ay 110,ay 101,ay 119]}, .s e, .s ⟨#[]⟩]) 1 [.i .i64 2, .s {data:= #[ay 110,ay 101,ay 119]}, .s ⟨#[]⟩, .s ⟨#[]⟩]) 2 [.i .i64 3, .s {data:= #[ay 110,ay 101,ay 119]}, .s ⟨#[]⟩, .s {data:= #[ay 107,ay 101,ay 112,ay 116]}]) ai else kr (aP [Ck.i ao,Ck.s,Ck.s,Ck.s] 0++aD (aD (aD (aP [Ck.i ao,Ck.s,Ck.s,Ck.s] 3) 0 [.i .i64 1, .s {data:= #[ay 110,ay 101,ay 119]}, .s e, .s ⟨#[]⟩]) 1 [.i .i64 2, .s {data:= #[ay 110,ay 101,ay 119]}, .s ⟨#[]⟩, .s ⟨#[]⟩]) 2 [.i .i64 3, .s {data:= #[ay 110,ay 101,ay 119]}, .s ⟨#[]⟩, .s {data:= #[ay 107,ay 101,ay 112,ay 116]}]) ai else aj) N ak ⟨#[]⟩ d (d.length:ax) 0 a else aj
def vo:=b Lib.cJ λr0 r1=>ah (r0,r1)
def c:=λa d=>(vo a d).isSome
def v:=λa d=>(vo a d).getD ([],ak)
theorem out{x}:∀a d,vo a d=ah x->c a d=ai/\v a d=x:=λ_ _=>Lib.c5
end A7

namespace QZ
def r4(N:aE)(g k0:mv R)(a:ax)(d:aQ)(e f h i j l m o:ax)(p q r s t u:aQ):aA R:=bif decide (f<e)then bif decide (0<=f)&&decide (f<(d.length:ax))then bif Ef.v (bz (ar d f.toNat 0)) (bE (ar d f.toNat 1)) (bE (ar d f.toNat (1+1))) (bz (ar d f.toNat (1+1+1))) a then bif Pm.c l p q r s m t u o (bz (ar d f.toNat 0)) (bE (ar d f.toNat 1)) (bE (ar d f.toNat (1+1))) (bz (ar d f.toNat (1+1+1)))then Lib.lt (Pm.v l p q r s m t u o (bz (ar d f.toNat 0)) (bE (ar d f.toNat 1)) (bE (ar d f.toNat (1+1))) (bz (ar d f.toNat (1+1+1)))) λw=>g a d e (bG (f+1)) h i j w.1 w.2.2.2.2.2.1 w.2.2.2.2.2.2.2.2 w.2.1 w.2.2.1 w.2.2.2.1 w.2.2.2.2.1 w.2.2.2.2.2.2.1 w.2.2.2.2.2.2.2.1 else aj else g a d e (bG (f+1)) h i j l m o p q r s t u else aj else k0 a d e f h i j l m o p q r s t u
def l4(N:aE)(k0:mv R):aE->mv R
 |0=>λ_ _ _ _ _ _ _ _ _ _ _ _ _ _ _ _=>aj
 |n+1=>r4 N (l4 N k0 n) k0
def b(N:aE)(kr:dY R)(a:ax)(d:aQ):aA R:=l4 N (λ_ _ _ _ _ _ _ e f h i j l m o p=>kr e i j l m f o p h) N a d (d.length:ax) 0 0 0 0 a 0 0 [] [] [] ([]++aD (aP [Ck.l 3] 1) 0 [CV.l 3 (aP [Ck.i ao] (aZ 16))]++aD (aP [Ck.l 3] 1) 0 [CV.l 3 (aP [Ck.i ao] (aZ 16))]++aD (aP [Ck.l 3] 1) 0 [CV.l 3 (aP [Ck.i ao] (aZ 16))]) [] []
def vo:=b Lib.cJ λr0 r1 r2 r3 r4 r5 r6 r7 r8=>ah (r0,r1,r2,r3,r4,r5,r6,r7,r8)
def c:=λa d=>(vo a d).isSome
def v:=λa d=>(vo a d).getD (0,[],[],[],[],0,[],[],0)
theorem out{x}:∀a d,vo a d=ah x->c a d=ai/\v a d=x:=λ_ _=>Lib.c5
end QZ

namespace AZ
def r3(N:aE)(g k0:mr R)(a d e f h:ax)(i j l m o p q r s t u:aQ):aA R:=bif decide (d<a)then bif decide (0<=d)&&decide (d<(j.length:ax))then bif Ef.v (bz (ar j d.toNat 0)) (bE (ar j d.toNat 1)) (bE (ar j d.toNat (1+1))) (bz (ar j d.toNat (1+1+1))) e then bif cw (i.length+(aD (aP [Ck.s,Ck.i ao,Ck.i ao,Ck.s] 1) 0 [.s (bz (ar j d.toNat 0)), .i .i64 (bE (ar j d.toNat 1)), .i .i64 (bE (ar j d.toNat (1+1))), .s (bz (ar j d.toNat (1+1+1)))]).length) 48 then g a (bG (d+1)) e f h (i++aD (aP [Ck.s,Ck.i ao,Ck.i ao,Ck.s] 1) 0 [.s (bz (ar j d.toNat 0)), .i .i64 (bE (ar j d.toNat 1)), .i .i64 (bE (ar j d.toNat (1+1))), .s (bz (ar j d.toNat (1+1+1)))]) j l m o p q r s t u else aj else g a (bG (d+1)) e f h i j l m o p q r s t u else aj else k0 a d e f h i j l m o p q r s t u
def l3(N:aE)(k0:mr R):aE->mr R
 |0=>λ_ _ _ _ _ _ _ _ _ _ _ _ _ _ _ _=>aj
 |n+1=>r3 N (l3 N k0 n) k0
def b(N:aE)(kr:jH R)(a:ax)(d e f h:aQ)(i:ax)(j l:aQ)(m:ax)(o p q r:aQ):aA R:=bif wV.c o r then Lib.lt (wV.v o r) λs=>bif U61.c s.1 then Lib.lt (U61.v s.1) λt=>l3 N (λ_ _ u _ _ w _ _ _ _ _ _ _ y z α=>bif A7.c y w then Lib.lt (A7.v y w) λxa=>bif v5.c y xa.1 then Lib.lt (v5.v y xa.1) λxb=>bif QZ.c u w then Lib.lt (QZ.v u w) λxc=>kr xc.1 xc.2.1 xc.2.2.1 xc.2.2.2.1 xc.2.2.2.2.1 xc.2.2.2.2.2.1 xc.2.2.2.2.2.2.1 xc.2.2.2.2.2.2.2.1 xc.2.2.2.2.2.2.2.2 xb.1 z α else aj else aj else aj) N (t.length:ax) 0 a i m (aP [Ck.s,Ck.i ao,Ck.i ao,Ck.s] 0) t d e f h j l s.1 p q else aj else aj
def vo:=b Lib.cJ λr0 r1 r2 r3 r4 r5 r6 r7 r8 r9 AG wG=>ah (r0,r1,r2,r3,r4,r5,r6,r7,r8,r9,AG,wG)
def c:=λa d e f h i j l m o p q r=>(vo a d e f h i j l m o p q r).isSome
def v:=λa d e f h i j l m o p q r=>(vo a d e f h i j l m o p q r).getD (0,[],[],[],[],0,[],[],0,[],[],[])
theorem out{x}:∀a d e f h i j l m o p q r,vo a d e f h i j l m o p q r=ah x->c a d e f h i j l m o p q r=ai/\v a d e f h i j l m o p q r=x:=λ_ _ _ _ _ _ _ _ _ _ _ _ _=>Lib.c5
end AZ

namespace G8
def b(kr:ax->aA R)(a:aU):aA R:=bif a then kr 0 else kr 1
def v(a0:aU):ax:=bif a0 then 0 else 1
theorem eh(kr:ax->aA R)(a0:aU):b kr a0=kr (v a0):=by first|rfl|(unfold b v;simp only[cz];(repeat' split)<;>rfl)
end G8

namespace WS
def b(kr:j_ R)(a:ax)(d e f h:aQ)(i:ax)(j l:aQ)(m:ax)(o p q:aQ)(r s:ax)(t:aq)(u:ax)(w:aQ):aA R:=bif decide (r=1)then bif SN.c a d e f h i j l m s t then Lib.lt (SN.v a d e f h i j l m s t) λy=>kr y.2.2.2.2.2.2.2.2.2 y.1 y.2.1 y.2.2.1 y.2.2.2.1 y.2.2.2.2.1 y.2.2.2.2.2.1 y.2.2.2.2.2.2.1 y.2.2.2.2.2.2.2.1 y.2.2.2.2.2.2.2.2.1 o p q else aj else bif decide (r=2)then bif WX.c a d e f h i j l m s t then Lib.lt (WX.v a d e f h i j l m s t) λy=>kr (G8.v y.2.2.2.2.2.2.2.2.2) y.1 y.2.1 y.2.2.1 y.2.2.2.1 y.2.2.2.2.1 y.2.2.2.2.2.1 y.2.2.2.2.2.2.1 y.2.2.2.2.2.2.2.1 y.2.2.2.2.2.2.2.2.1 o p q else aj else bif decide (r=3)then bif WY.c a d e f h i j l m o p q s (cF u 1000000)then Lib.lt (WY.v a d e f h i j l m o p q s (cF u 1000000)) λy=>kr (G8.v y.1) y.2.1 y.2.2.1 y.2.2.2.1 y.2.2.2.2.1 y.2.2.2.2.2.1 y.2.2.2.2.2.2.1 y.2.2.2.2.2.2.2.1 y.2.2.2.2.2.2.2.2.1 y.2.2.2.2.2.2.2.2.2.1 y.2.2.2.2.2.2.2.2.2.2.1 y.2.2.2.2.2.2.2.2.2.2.2.1 y.2.2.2.2.2.2.2.2.2.2.2.2 else aj else bif decide (r=4)then bif WZ.c a d e f h i j l m s then Lib.lt (WZ.v a d e f h i j l m s) λy=>kr (G8.v y.2.2.2.2.2.2.2.2.2) y.1 y.2.1 y.2.2.1 y.2.2.2.1 y.2.2.2.2.1 y.2.2.2.2.2.1 y.2.2.2.2.2.2.1 y.2.2.2.2.2.2.2.1 y.2.2.2.2.2.2.2.2.1 o p q else aj else bif decide (r=5)then bif DZ.c a d e f h i j l m u then Lib.lt (DZ.v a d e f h i j l m u) λy=>kr 0 y.1 y.2.1 y.2.2.1 y.2.2.2.1 y.2.2.2.2.1 y.2.2.2.2.2.1 y.2.2.2.2.2.2.1 y.2.2.2.2.2.2.2.1 y.2.2.2.2.2.2.2.2 o p q else aj else bif decide (r=6)then bif zA.c a d e f h i j l m s then Lib.lt (zA.v a d e f h i j l m s) λy=>bif D0.c a d e f h i j l m s then Lib.lt (D0.v a d e f h i j l m s) λz=>kr (G8.v (decide (y≥0))) z.1 z.2.1 z.2.2.1 z.2.2.2.1 z.2.2.2.2.1 z.2.2.2.2.2.1 z.2.2.2.2.2.2.1 z.2.2.2.2.2.2.2.1 z.2.2.2.2.2.2.2.2 o p q else aj else aj else bif AZ.c a d e f h i j l m o p q w then Lib.lt (AZ.v a d e f h i j l m o p q w) λy=>kr 0 y.1 y.2.1 y.2.2.1 y.2.2.2.1 y.2.2.2.2.1 y.2.2.2.2.2.1 y.2.2.2.2.2.2.1 y.2.2.2.2.2.2.2.1 y.2.2.2.2.2.2.2.2.1 y.2.2.2.2.2.2.2.2.2.1 y.2.2.2.2.2.2.2.2.2.2.1 y.2.2.2.2.2.2.2.2.2.2.2 else aj
def vo:=b λr0 r1 r2 r3 r4 r5 r6 r7 r8 r9 AG wG Qq=>ah (r0,r1,r2,r3,r4,r5,r6,r7,r8,r9,AG,wG,Qq)
def c:=λa d e f h i j l m o p q r s t u w=>(vo a d e f h i j l m o p q r s t u w).isSome
def v:=λa d e f h i j l m o p q r s t u w=>(vo a d e f h i j l m o p q r s t u w).getD (0,0,[],[],[],[],0,[],[],0,[],[],[])
theorem out{x}:∀a d e f h i j l m o p q r s t u w,vo a d e f h i j l m o p q r s t u w=ah x->c a d e f h i j l m o p q r s t u w=ai/\v a d e f h i j l m o p q r s t u w=x:=λ_ _ _ _ _ _ _ _ _ _ _ _ _ _ _ _ _=>Lib.c5
end WS

namespace Nr
def wG(N:aE)(g k0:kK R)(a:aQ)(d e f h i j l m:ax)(o p q r s t u w y:aQ):aA R:=bif decide (e<d)then bif decide (0<=e)&&decide (e<(a.length:ax))then bif WS.c j o p q r l s t m u w y (bE (ar a e.toNat 0)) (bE (ar a e.toNat 1)) (bz (ar a e.toNat (1+1))) (bE (ar a e.toNat (1+1+1))) (iX (ar a e.toNat (1+1+1+1)))then Lib.lt (WS.v j o p q r l s t m u w y (bE (ar a e.toNat 0)) (bE (ar a e.toNat 1)) (bz (ar a e.toNat (1+1))) (bE (ar a e.toNat (1+1+1))) (iX (ar a e.toNat (1+1+1+1)))) λz=>bif cw (z.2.2.2.2.2.2.2.2.2.2.2.1.length+(aD (aP [Ck.i ao] 1) 0 [.i .i64 z.1]).length) 8 then g a d (bG (e+1)) f h i z.2.1 z.2.2.2.2.2.2.1 z.2.2.2.2.2.2.2.2.2.1 z.2.2.1 z.2.2.2.1 z.2.2.2.2.1 z.2.2.2.2.2.1 z.2.2.2.2.2.2.2.1 z.2.2.2.2.2.2.2.2.1 z.2.2.2.2.2.2.2.2.2.2.1 (z.2.2.2.2.2.2.2.2.2.2.2.1++aD (aP [Ck.i ao] 1) 0 [.i .i64 z.1]) z.2.2.2.2.2.2.2.2.2.2.2.2 else aj else aj else aj else k0 a d e f h i j l m o p q r s t u w y
def P7(N:aE)(k0:kK R):aE->kK R
 |0=>λ_ _ _ _ _ _ _ _ _ _ _ _ _ _ _ _ _ _=>aj
 |n+1=>wG N (P7 N k0 n) k0
def r4(N:aE)(g k0 k1:vI R)(a:aQ)(d:aU)(e:aQ)(f h i j l:ax):aA R:=bif decide (h<f)then bif decide (0<=h)&&decide (h<(e.length:ax))then bif !U31.v (bE (ar e h.toNat 0)) (bE (ar e h.toNat 1)) (bz (ar e h.toNat (1+1))) (bE (ar e h.toNat (1+1+1))) (iX (ar e h.toNat (1+1+1+1)))then k0 a ak e f h 0 0 0 else g a d e f (bG (h+1)) i j l else aj else k1 a d e f h i j l
def l4(N:aE)(k0 k1:vI R):aE->vI R
 |0=>λ_ _ _ _ _ _ _ _=>aj
 |n+1=>r4 N (l4 N k0 k1 n) k0 k1
def b(N:aE)(kr:sq R)(a:aQ):aA R:=bif decide ((a.length:ax)>70)then kr 0 [] [] [] [] 0 [] [] 0 [] [] [] ak else l4 N (λ_ d _ _ _ e f h=>kr e [] [] [] [] f [] [] h [] [] [] d) (λd _ _ _ _ e f h=>P7 N (λ_ _ _ _ _ _ i j l m o p q r s t u w=>kr i m o p q j r s l t u w ai) N d (d.length:ax) 0 e f h 1 0 0 [] [] [] ([]++aD (aP [Ck.l 3] 1) 0 [CV.l 3 (aP [Ck.i ao] (aZ 16))]++aD (aP [Ck.l 3] 1) 0 [CV.l 3 (aP [Ck.i ao] (aZ 16))]++aD (aP [Ck.l 3] 1) 0 [CV.l 3 (aP [Ck.i ao] (aZ 16))]) [] [] [] [] []) N a ak a (a.length:ax) 0 0 0 0
def vo:=b Lib.cJ λr0 r1 r2 r3 r4 r5 r6 r7 r8 r9 AG wG Qq=>ah (r0,r1,r2,r3,r4,r5,r6,r7,r8,r9,AG,wG,Qq)
def c:=λa=>(vo a).isSome
def v:=λa=>(vo a).getD (0,[],[],[],[],0,[],[],0,[],[],[],ak)
theorem out{x}:∀a,vo a=ah x->c a=ai/\v a=x:=λ_=>Lib.c5
end Nr

namespace U56
def b(kr:aU->aA R)(a d:ax)(e:aq)(f:ax)(h:aQ):aA R:=bif ki.v a 1 7 then bif ki.v d 0 30 then bif decide ((e.size:ax)<=60)then bif decide (f≥0)then kr (decide ((h.length:ax)<=4))else kr ak else kr ak else kr ak else kr ak
def v(a0 a1:ax)(a2:aq)(a3:ax)(a4:aQ):aU:=bif ki.v a0 1 7 then bif ki.v a1 0 30 then bif decide ((a2.size:ax)<=60)then bif decide (a3≥0)then decide ((a4.length:ax)<=4)else ak else ak else ak else ak
theorem eh(kr:aU->aA R)(a0 a1:ax)(a2:aq)(a3:ax)(a4:aQ):b kr a0 a1 a2 a3 a4=kr (v a0 a1 a2 a3 a4):=by first|rfl|(unfold b v;simp only[cz];(repeat' split)<;>rfl)
end U56

end Go.FG
