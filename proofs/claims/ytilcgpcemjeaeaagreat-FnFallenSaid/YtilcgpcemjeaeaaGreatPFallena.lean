/- Functions of the program, told as functions of numbers, texts and lists, and what each comes to. No condition but those that each states. -/
import Derived.Test.YtilcgpcemjeaeaaGreatLib
set_option linter.unusedVariables false
set_option linter.unusedSimpArgs false
set_option maxRecDepth 100000
open BitVec renaming toNat->dW,and->jt,ofInt->cf,xor->mh
open Bool renaming cond_eq_ite->cM,true->ai,false->ak,false_eq_true->dy,true_and->bc,not_true->a_,and_self->aM,or_true->Kh,and_false->wA,not_false->bR
open ByteArray renaming toList->aC,size->cq,extract->bO
open Go.IntKind renaming i64->ao,wrap->bE,u32->eI,u8->bh
open Go.Op renaming bytesLess->b7
open Int renaming toNat->aW,fdiv->ly,pow->h_,tmod->cz,tdiv->cR,tmod_eq_emod_of_nonneg->iq,mul_le_mul_of_nonneg_right->DC,neg->Kn
open List renaming set->aD,beq->bZ,length->bT,range->b9,range'->mo,all_cons->s7,range'_zero->R0,range_eq_range'->R2,length_append->bP,length_singleton->bA,take->g9,drop->nk
open Nat renaming sub_zero->si,lt_irrefl->bm
open Option renaming none->aj,some->ah
open UInt8 renaming ofNat->ay
open _root_ renaming Int->aw,Option->az,ByteArray->aq,Bool->aX,Nat->aF,cond_true->au,cond_false->ax,of_decide_eq_true->cu,decide_eq_decide->ch,decide_true->aN,decide_false->bj,decide_eq_true->aE,if_neg->bH,if_pos->bz,decide_eq_false->aK
namespace Go.FG
variable {R:Type}
abbrev Mh(R:Type):=aQ->aw->aw->az R
abbrev pR(R:Type):=aw->aw->aw->az R
abbrev jJ(R:Type):=aw->aw->aw->aQ->az R
abbrev DB(R:Type):=aQ->aw->az R
abbrev s6(R:Type):=aQ->aQ->aQ->aw->az R
abbrev eR(R:Type):=aw->aQ->aQ->aQ->aQ->aw->aQ->aQ->aw->az R
abbrev QU(R:Type):=aw->aQ->aw->aw->az R
abbrev A5(R:Type):=aw->aQ->aw->aw->aQ->az R
abbrev WX(R:Type):=aq->aQ->aw->aw->aQ->az R
abbrev aem(R:Type):=aq->aQ->aw->aw->az R
abbrev aek(R:Type):=aX->aQ->aw->aw->az R
abbrev hZ(R:Type):=aw->aw->aw->aw->aQ->aw->aw->aQ->aQ->aQ->aQ->aQ->aQ->aQ->aQ->aQ->aw->aw->aw->aw->aw->aq->aw->aw->aw->aq->aw->aQ->az R
abbrev iK(R:Type):=aw->aw->aq->aw->aQ->aQ->aw->aw->aQ->aQ->aQ->aQ->aQ->aQ->aQ->aQ->aQ->az R
abbrev rk(R:Type):=aw->aQ->aw->aw->aw->az R
abbrev o0(R:Type):=aw->aQ->aw->aw->aw->aQ->az R
abbrev Kk(R:Type):=aQ->aq->aX->aw->az R
abbrev FF(R:Type):=aX->aw->aw->aQ->aw->az R
abbrev Ki(R:Type):=aX->aw->aQ->aw->az R
abbrev yI(R:Type):=aX->aw->aQ->aQ->aQ->aw->aQ->az R
abbrev fI(R:Type):=aX->aw->aw->aQ->aQ->aQ->aQ->aw->aQ->aQ->aw->az R
abbrev lF(R:Type):=aw->aX->aw->aw->aQ->aQ->aQ->aQ->aw->aQ->aQ->aw->aq->aq->aw->aw->aw->az R
abbrev ml(R:Type):=aq->aX->aw->aw->aQ->aQ->aQ->aQ->aw->aQ->aQ->aw->aq->aw->aw->aq->az R
abbrev wE(R:Type):=aq->aw->aw->aq->aX->az R
abbrev yK(R:Type):=aw->aq->aw->aw->az R
abbrev Em(R:Type):=aw->aq->aw->az R
abbrev ug(R:Type):=aw->aw->aw->aw->aQ->az R
abbrev FN(R:Type):=aq->aw->aw->aw->aQ->az R
abbrev yN(R:Type):=aQ->aq->aw->aQ->az R
abbrev FO(R:Type):=aq->aw->aw->aQ->aw->az R
abbrev Mi(R:Type):=aQ->aQ->aQ->aw->aq->az R
abbrev kX(R:Type):=aQ->aw->aw->aq->aw->aw->aw->aq->aw->aQ->az R
abbrev gv(R:Type):=aq->aX->aw->aw->aQ->aQ->aQ->aQ->aw->aQ->aQ->aw->aw->aw->aw->aw->aw->aw->aw->aq->aw->aw->aw->aq->aw->aQ->aQ->aQ->aQ->aQ->aQ->az R
abbrev iO(R:Type):=aw->aq->aw->aw->aw->aQ->aQ->aQ->aQ->aw->aQ->aQ->aw->aw->aw->aw->aw->aw->aw->aQ->aQ->aQ->aQ->aQ->aQ->az R
abbrev wD(R:Type):=aw->aQ->aQ->aQ->aQ->aw->aQ->aQ->aw->aw->az R
abbrev Mg(R:Type):=aw->aq->aQ->az R
abbrev FH(R:Type):=aX->aw->aw->aq->aQ->az R
abbrev FJ(R:Type):=aw->aq->aQ->aX->az R
abbrev jI(R:Type):=aw->aw->aw->aw->aw->aw->aQ->aQ->aQ->aQ->aQ->aQ->az R
abbrev kV(R:Type):=aw->aQ->aQ->aQ->aQ->aw->aQ->aQ->aw->aX->az R
abbrev oS(R:Type):=aQ->aw->aq->aw->aw->aq->aQ->az R
abbrev OH(R:Type):=aw->aQ->az R
abbrev yO(R:Type):=aq->aX->az R
abbrev H3(R:Type):=aQ->aX->az R
abbrev El(R:Type):=aX->aw->aQ->az R
abbrev mm(R:Type):=aq->aw->aw->aQ->az R
abbrev lP(R:Type):=aw->aQ->aq->aq->aw->aQ->az R
abbrev rq(R:Type):=aw->aQ->aq->aq->aw->az R
abbrev vj(R:Type):=aq->aw->aQ->az R
abbrev vI(R:Type):=aq->aw->aQ->aQ->az R
abbrev yM(R:Type):=aQ->aw->aw->aQ->az R
abbrev n6(R:Type):=aw->aw->aQ->aQ->aQ->aQ->aw->aQ->aQ->aw->aQ->aQ->aQ->az R
abbrev jd(R:Type):=aw->aw->aw->aQ->aQ->aQ->aQ->aw->aQ->aQ->aw->aw->aw->aw->aw->aw->aw->aQ->aQ->aQ->aQ->aQ->aQ->az R
abbrev BN(R:Type):=aQ->aw->aQ->az R
abbrev vG(R:Type):=aQ->aw->aQ->aQ->az R
abbrev vH(R:Type):=aq->aw->aw->aw->aX->aw->aw->aw->az R
abbrev Mf(R:Type):=aw->aw->aX->az R
abbrev Mj(R:Type):=aq->aw->aX->az R
abbrev QV(R:Type):=aw->aQ->aQ->az R
abbrev A6(R:Type):=aQ->aX->aq->aw->aQ->az R
abbrev H4(R:Type):=aQ->aX->aq->aw->aQ->aQ->az R
abbrev mP(R:Type):=aw->aQ->aw->aw->aw->aw->aw->aw->aw->aQ->aQ->aQ->aQ->aQ->aQ->az R
abbrev iB(R:Type):=aw->aw->aw->aw->aQ->aQ->aQ->aQ->aQ->aQ->aQ->aQ->aQ->aQ->aQ->az R
abbrev o4(R:Type):=aw->aQ->aQ->aQ->aQ->aw->aQ->aQ->aw->aQ->aQ->aQ->az R
abbrev kG(R:Type):=aw->aw->aQ->aw->aw->aw->aw->aw->aQ->aQ->aQ->aQ->aQ->aQ->aQ->aQ->aQ->aQ->az R
abbrev ael(R:Type):=aQ->aQ->aw->aw->az R
abbrev kW(R:Type):=aQ->aw->aw->aw->aw->az R
abbrev o6(R:Type):=aQ->aw->aw->aw->aw->aQ->az R
abbrev FL(R:Type):=aQ->aw->aQ->aw->aw->az R
abbrev ig(R:Type):=aQ->aq->aw->aw->aw->az R
abbrev rj(R:Type):=aX->aQ->aQ->aw->aw->aQ->aw->aw->aQ->aw->az R
abbrev BK(R:Type):=aX->aQ->aw->aw->aQ->aw->az R
abbrev vD(R:Type):=aX->aw->aw->aQ->aQ->aQ->aw->aQ->az R
abbrev eV(R:Type):=aX->aQ->aw->aw->aw->aQ->aQ->aQ->aQ->aw->aQ->aQ->aw->az R
abbrev qf(R:Type):=aQ->aw->aq->aw->aw->aw->aq->aw->aw->aw->aw->az R
abbrev vE(R:Type):=aF->aw->aw->aw->aw->aw->aw->aQ->az R
abbrev BP(R:Type):=aq->aw->aw->aw->aw->aQ->az R
abbrev FP(R:Type):=aq->aw->aQ->aw->aw->az R
abbrev lG(R:Type):=aw->aw->aw->aw->aw->aq->aw->aw->aw->aq->aw->aQ->aQ->aQ->aQ->aQ->aQ->az R
abbrev yJ(R:Type):=aX->aQ->aw->aw->aw->aq->aQ->az R
abbrev n5(R:Type):=aw->aw->aw->aw->aw->aw->aw->aQ->aQ->aQ->aQ->aQ->aQ->az R
abbrev BM(R:Type):=aw->aq->aw->aw->aq->aQ->az R
abbrev FI(R:Type):=aX->aQ->aw->aw->aQ->az R
abbrev FK(R:Type):=aw->aq->aq->aw->aQ->az R
abbrev BO(R:Type):=aQ->aw->aQ->aw->aw->aQ->az R
abbrev Az(R:Type):=aX->aw->aQ->aQ->aQ->aQ->aw->aQ->aQ->aw->aQ->aQ->aQ->az R
abbrev FM(R:Type):=aQ->aQ->aw->aw->aQ->az R
abbrev yP(R:Type):=aq->aw->aw->aw->aX->aw->aw->az R
abbrev Kj(R:Type):=aw->aw->aQ->aQ->az R
abbrev BL(R:Type):=aX->aq->aQ->aw->aw->aQ->az R
abbrev mj(R:Type):=aw->aQ->aw->aw->aw->aw->aw->aw->aw->aw->aQ->aQ->aQ->aQ->aQ->aQ->az R
abbrev mi(R:Type):=aw->aw->aw->aw->aw->aQ->aQ->aQ->aQ->aQ->aQ->aQ->aQ->aQ->aQ->aQ->az R
abbrev kH(R:Type):=aQ->aw->aw->aw->aw->aw->aw->aw->aw->aQ->aQ->aQ->aQ->aQ->aQ->aQ->aQ->aQ->az R
abbrev vF(R:Type):=aQ->aX->aQ->aw->aw->aw->aw->aw->az R
abbrev AB(R:Type):=aw->aQ->aQ->aQ->aQ->aw->aQ->aQ->aw->aQ->aQ->aQ->aX->az R
abbrev yL(R:Type):=aQ->aX->aw->aq->aw->aw->aq->az R
abbrev oZ(R:Type):=aX->aw->aw->aw->aQ->aQ->aQ->aQ->aw->aQ->aQ->aw->az R
abbrev jH(R:Type):=aX->aw->aw->aQ->aQ->aQ->aQ->aw->aQ->aQ->aw->aQ->aQ->aQ->aw->aq->aw->aw->aw->aq->aw->az R
abbrev iW(R:Type):=aX->aw->aw->aQ->aQ->aQ->aQ->aw->aQ->aQ->aw->aQ->aQ->aQ->az R
abbrev mO(R:Type):=aX->aw->aw->aQ->aQ->aQ->aQ->aw->aQ->aQ->aw->aQ->aQ->aQ->aQ->az R
abbrev im(R:Type):=aX->aw->aw->aw->aw->aw->aw->aw->aw->aQ->aQ->aQ->aQ->aQ->aQ->aQ->aQ->aQ->aQ->aQ->aQ->aQ->aQ->aQ->aQ->aQ->aQ->az R

namespace U8
def b(kr:aX->az R)(a:aQ):az R:=kr (decide ((a.length:aw)>1048576))
def v(a0:aQ):aX:=(decide ((a0.length:aw)>1048576))
theorem eG(kr:aX->az R)(a0:aQ):b kr a0=kr (v a0):=by first|rfl|(unfold b v;simp only[cM];(repeat' split)<;>rfl)
end U8

namespace Kx
def r3(N:aF)(g k0:Mh R)(a:aQ)(d e:aw):az R:=bif decide (e<(a.length:aw))then bif decide (e<4000)then bif decide (0<=e)&&decide (e<(a.length:aw))then g a (bJ (↑(dW (jt (cf 64 (bJ (bJ (bJ (d*131)+bJ (bF (ar a e.toNat 0)))+7))) (cf 64 1073741823))):aw)) (bJ (e+1))else aj else k0 a d e else k0 a d e
def l3(N:aF)(k0:Mh R):aF->Mh R
 |0=>λ_ _ _=>aj
 |n+1=>r3 N (l3 N k0 n) k0
def b(N:aF)(kr:Mh R)(a:aQ):az R:=l3 N (λd e _=>kr d 0 e) N a (bJ (34901+(a.length:aw))) 0
def vo:=b Lib.cW λr0 r1 r2=>ah (r0,r1,r2)
def c:=λa=>(vo a).isSome
def v:=λa=>(vo a).getD ([],0,0)
theorem out{x}:∀a,vo a=ah x->c a=ai/\v a=x:=λ_=>Lib.dh
end Kx

namespace GD
def r3(N:aF)(g:pR R)(g1:jJ R)(k0:pR R)(k1:jJ R)(a d e:aw):az R:=bif decide (a<3)then g1 (bJ (a+1)) d e ([]++aD (aP [Ck.l 3] 1) 0 [CV.l 3 (aP [Ck.i ao] (aW 16))])else k0 a d e
def zM(N:aF)(g:pR R)(g1:jJ R)(k0:pR R)(k1:jJ R)(a d e:aw)(f:aQ):az R:=bif decide (a<3)then bif cy (f.length+(aD (aP [Ck.l 3] 1) 0 [CV.l 3 (aP [Ck.i ao] (aW 16))]).length) 24 then g1 (bJ (a+1)) d e (f++aD (aP [Ck.l 3] 1) 0 [CV.l 3 (aP [Ck.i ao] (aW 16))])else aj else k1 a d e f
def sL(N:aF)(k0:pR R)(k1:jJ R):aF->jJ R
 |0=>λ_ _ _ _=>aj
 |n+1=>zM N (λx0 x1 x2=>aj) (sL N k0 k1 n) k0 k1
def l3(N:aF)(k0:pR R)(k1:jJ R):aF->pR R
 |0=>λ_ _ _=>aj
 |n+1=>r3 N (l3 N k0 k1 n) (sL N k0 k1 n) k0 k1
def b(N:aF)(kr:DB R):az R:=l3 N (λ_ _ a=>kr [] a) (λ_ _ a d=>kr d a) N 0 0 0
def vo:=b Lib.cW λr0 r1=>ah (r0,r1)
def c:=vo.isSome
def v:=vo.getD ([],0)
end GD

namespace W8
def b(kr:s6 R):az R:=kr [] [] ([]++aD (aP [Ck.l 3] 1) 0 [CV.l 3 (aP [Ck.i ao] (aW 16))]++aD (aP [Ck.l 3] 1) 0 [CV.l 3 (aP [Ck.i ao] (aW 16))]++aD (aP [Ck.l 3] 1) 0 [CV.l 3 (aP [Ck.i ao] (aW 16))]) 0
def v:aQ×aQ×aQ×aw:=([],[],[]++aD (aP [Ck.l 3] 1) 0 [CV.l 3 (aP [Ck.i ao] (aW 16))]++aD (aP [Ck.l 3] 1) 0 [CV.l 3 (aP [Ck.i ao] (aW 16))]++aD (aP [Ck.l 3] 1) 0 [CV.l 3 (aP [Ck.i ao] (aW 16))],0)
theorem eG(kr:s6 R):b kr=kr v.1 v.2.1 v.2.2.1 v.2.2.2:=by first|rfl|(unfold b v;simp only[cM];(repeat' split)<;>rfl)
end W8

namespace U57
def b(kr:eR R):az R:=kr 1 [] [] [] ([]++aD (aP [Ck.l 3] 1) 0 [CV.l 3 (aP [Ck.i ao] (aW 16))]++aD (aP [Ck.l 3] 1) 0 [CV.l 3 (aP [Ck.i ao] (aW 16))]++aD (aP [Ck.l 3] 1) 0 [CV.l 3 (aP [Ck.i ao] (aW 16))]) 0 [] [] 0
def v:aw×aQ×aQ×aQ×aQ×aw×aQ×aQ×aw:=(1,[],[],[],[]++aD (aP [Ck.l 3] 1) 0 [CV.l 3 (aP [Ck.i ao] (aW 16))]++aD (aP [Ck.l 3] 1) 0 [CV.l 3 (aP [Ck.i ao] (aW 16))]++aD (aP [Ck.l 3] 1) 0 [CV.l 3 (aP [Ck.i ao] (aW 16))],0,[],[],0)
theorem eG(kr:eR R):b kr=kr v.1 v.2.1 v.2.2.1 v.2.2.2.1 v.2.2.2.2.1 v.2.2.2.2.2.1 v.2.2.2.2.2.2.1 v.2.2.2.2.2.2.2.1 v.2.2.2.2.2.2.2.2:=by first|rfl|(unfold b v;simp only[cM];(repeat' split)<;>rfl)
end U57

namespace du
def b(kr:QU R)(a:aQ)(d e:aw):az R:=bif decide (d<(a.length:aw))then bif decide (0<=d)&&decide (d<(a.length:aw))then kr (bJ (↑(dW (jt (cf 64 (bJ (bJ (↑(dW (jt (cf 64 (bJ (↑(dW (mh (cf 64 (ly (bJ (bJ (e*6364136223846793005)+1442695040888963407)) (h_ 2 (if aW 33<=64 then aW 33 else 64)))) (cf 64 (ly (bJ (bJ (e*6364136223846793005)+1442695040888963407)) (h_ 2 (if aW 45<=64 then aW 45 else 64)))))):aw))) (cf 64 255))):aw)+bJ (bF (ar a d.toNat 0))))) (cf 64 255))):aw)) a (bJ (d+1)) (bJ (bJ (e*6364136223846793005)+1442695040888963407))else aj else kr (bJ (↑(dW (jt (cf 64 (bJ (↑(dW (mh (cf 64 (ly (bJ (bJ (e*6364136223846793005)+1442695040888963407)) (h_ 2 (if aW 33<=64 then aW 33 else 64)))) (cf 64 (ly (bJ (bJ (e*6364136223846793005)+1442695040888963407)) (h_ 2 (if aW 45<=64 then aW 45 else 64)))))):aw))) (cf 64 255))):aw)) a d (bJ (bJ (e*6364136223846793005)+1442695040888963407))
def vo:=b λr0 r1 r2 r3=>ah (r0,r1,r2,r3)
def c:=λa d e=>(vo a d e).isSome
def v:=λa d e=>(vo a d e).getD (0,[],0,0)
theorem out{x}:∀a d e,vo a d e=ah x->c a d e=ai/\v a d e=x:=λ_ _ _=>Lib.dh
end du

namespace nA
def b(kr:QU R)(a:aQ)(d e f:aw):az R:=bif decide (f<=0)then kr 0 a d e else bif decide (f<=256)then bif du.c a d e then bif !decide (f=0)then kr (cz (du.v a d e).1 f) (du.v a d e).2.1 (du.v a d e).2.2.1 (du.v a d e).2.2.2 else aj else aj else bif du.c a d e then bif du.c (du.v a d e).2.1 (du.v a d e).2.2.1 (du.v a d e).2.2.2 then bif du.c (du.v (du.v a d e).2.1 (du.v a d e).2.2.1 (du.v a d e).2.2.2).2.1 (du.v (du.v a d e).2.1 (du.v a d e).2.2.1 (du.v a d e).2.2.2).2.2.1 (du.v (du.v a d e).2.1 (du.v a d e).2.2.1 (du.v a d e).2.2.2).2.2.2 then bif du.c (du.v (du.v (du.v a d e).2.1 (du.v a d e).2.2.1 (du.v a d e).2.2.2).2.1 (du.v (du.v a d e).2.1 (du.v a d e).2.2.1 (du.v a d e).2.2.2).2.2.1 (du.v (du.v a d e).2.1 (du.v a d e).2.2.1 (du.v a d e).2.2.2).2.2.2).2.1 (du.v (du.v (du.v a d e).2.1 (du.v a d e).2.2.1 (du.v a d e).2.2.2).2.1 (du.v (du.v a d e).2.1 (du.v a d e).2.2.1 (du.v a d e).2.2.2).2.2.1 (du.v (du.v a d e).2.1 (du.v a d e).2.2.1 (du.v a d e).2.2.2).2.2.2).2.2.1 (du.v (du.v (du.v a d e).2.1 (du.v a d e).2.2.1 (du.v a d e).2.2.2).2.1 (du.v (du.v a d e).2.1 (du.v a d e).2.2.1 (du.v a d e).2.2.2).2.2.1 (du.v (du.v a d e).2.1 (du.v a d e).2.2.1 (du.v a d e).2.2.2).2.2.2).2.2.2 then bif !decide (f=0)then kr (cz (bJ (bJ (bJ (bJ ((du.v a d e).1*16777216)+bJ ((du.v (du.v a d e).2.1 (du.v a d e).2.2.1 (du.v a d e).2.2.2).1*65536))+bJ ((du.v (du.v (du.v a d e).2.1 (du.v a d e).2.2.1 (du.v a d e).2.2.2).2.1 (du.v (du.v a d e).2.1 (du.v a d e).2.2.1 (du.v a d e).2.2.2).2.2.1 (du.v (du.v a d e).2.1 (du.v a d e).2.2.1 (du.v a d e).2.2.2).2.2.2).1*256))+(du.v (du.v (du.v (du.v a d e).2.1 (du.v a d e).2.2.1 (du.v a d e).2.2.2).2.1 (du.v (du.v a d e).2.1 (du.v a d e).2.2.1 (du.v a d e).2.2.2).2.2.1 (du.v (du.v a d e).2.1 (du.v a d e).2.2.1 (du.v a d e).2.2.2).2.2.2).2.1 (du.v (du.v (du.v a d e).2.1 (du.v a d e).2.2.1 (du.v a d e).2.2.2).2.1 (du.v (du.v a d e).2.1 (du.v a d e).2.2.1 (du.v a d e).2.2.2).2.2.1 (du.v (du.v a d e).2.1 (du.v a d e).2.2.1 (du.v a d e).2.2.2).2.2.2).2.2.1 (du.v (du.v (du.v a d e).2.1 (du.v a d e).2.2.1 (du.v a d e).2.2.2).2.1 (du.v (du.v a d e).2.1 (du.v a d e).2.2.1 (du.v a d e).2.2.2).2.2.1 (du.v (du.v a d e).2.1 (du.v a d e).2.2.1 (du.v a d e).2.2.2).2.2.2).2.2.2).1)) f) (du.v (du.v (du.v (du.v a d e).2.1 (du.v a d e).2.2.1 (du.v a d e).2.2.2).2.1 (du.v (du.v a d e).2.1 (du.v a d e).2.2.1 (du.v a d e).2.2.2).2.2.1 (du.v (du.v a d e).2.1 (du.v a d e).2.2.1 (du.v a d e).2.2.2).2.2.2).2.1 (du.v (du.v (du.v a d e).2.1 (du.v a d e).2.2.1 (du.v a d e).2.2.2).2.1 (du.v (du.v a d e).2.1 (du.v a d e).2.2.1 (du.v a d e).2.2.2).2.2.1 (du.v (du.v a d e).2.1 (du.v a d e).2.2.1 (du.v a d e).2.2.2).2.2.2).2.2.1 (du.v (du.v (du.v a d e).2.1 (du.v a d e).2.2.1 (du.v a d e).2.2.2).2.1 (du.v (du.v a d e).2.1 (du.v a d e).2.2.1 (du.v a d e).2.2.2).2.2.1 (du.v (du.v a d e).2.1 (du.v a d e).2.2.1 (du.v a d e).2.2.2).2.2.2).2.2.2).2.1 (du.v (du.v (du.v (du.v a d e).2.1 (du.v a d e).2.2.1 (du.v a d e).2.2.2).2.1 (du.v (du.v a d e).2.1 (du.v a d e).2.2.1 (du.v a d e).2.2.2).2.2.1 (du.v (du.v a d e).2.1 (du.v a d e).2.2.1 (du.v a d e).2.2.2).2.2.2).2.1 (du.v (du.v (du.v a d e).2.1 (du.v a d e).2.2.1 (du.v a d e).2.2.2).2.1 (du.v (du.v a d e).2.1 (du.v a d e).2.2.1 (du.v a d e).2.2.2).2.2.1 (du.v (du.v a d e).2.1 (du.v a d e).2.2.1 (du.v a d e).2.2.2).2.2.2).2.2.1 (du.v (du.v (du.v a d e).2.1 (du.v a d e).2.2.1 (du.v a d e).2.2.2).2.1 (du.v (du.v a d e).2.1 (du.v a d e).2.2.1 (du.v a d e).2.2.2).2.2.1 (du.v (du.v a d e).2.1 (du.v a d e).2.2.1 (du.v a d e).2.2.2).2.2.2).2.2.2).2.2.1 (du.v (du.v (du.v (du.v a d e).2.1 (du.v a d e).2.2.1 (du.v a d e).2.2.2).2.1 (du.v (du.v a d e).2.1 (du.v a d e).2.2.1 (du.v a d e).2.2.2).2.2.1 (du.v (du.v a d e).2.1 (du.v a d e).2.2.1 (du.v a d e).2.2.2).2.2.2).2.1 (du.v (du.v (du.v a d e).2.1 (du.v a d e).2.2.1 (du.v a d e).2.2.2).2.1 (du.v (du.v a d e).2.1 (du.v a d e).2.2.1 (du.v a d e).2.2.2).2.2.1 (du.v (du.v a d e).2.1 (du.v a d e).2.2.1 (du.v a d e).2.2.2).2.2.2).2.2.1 (du.v (du.v (du.v a d e).2.1 (du.v a d e).2.2.1 (du.v a d e).2.2.2).2.1 (du.v (du.v a d e).2.1 (du.v a d e).2.2.1 (du.v a d e).2.2.2).2.2.1 (du.v (du.v a d e).2.1 (du.v a d e).2.2.1 (du.v a d e).2.2.2).2.2.2).2.2.2).2.2.2 else aj else aj else aj else aj else aj
def vo:=b λr0 r1 r2 r3=>ah (r0,r1,r2,r3)
def c:=λa d e f=>(vo a d e f).isSome
def v:=λa d e f=>(vo a d e f).getD (0,[],0,0)
theorem out{x}:∀a d e f,vo a d e f=ah x->c a d e f=ai/\v a d e f=x:=λ_ _ _ _=>Lib.dh
end nA

namespace z_
def b(kr:A5 R)(a:aQ)(d e:aw)(f:aQ):az R:=bif nA.c a d e (f.length:aw)then bif decide (0<=(nA.v a d e (f.length:aw)).1)&&decide ((nA.v a d e (f.length:aw)).1<(f.length:aw))then kr (bF (ar f (nA.v a d e (f.length:aw)).1.toNat 0)) (nA.v a d e (f.length:aw)).2.1 (nA.v a d e (f.length:aw)).2.2.1 (nA.v a d e (f.length:aw)).2.2.2 f else aj else aj
def vo:=b λr0 r1 r2 r3 r4=>ah (r0,r1,r2,r3,r4)
def c:=λa d e f=>(vo a d e f).isSome
def v:=λa d e f=>(vo a d e f).getD (0,[],0,0,[])
theorem out{x}:∀a d e f,vo a d e f=ah x->c a d e f=ai/\v a d e f=x:=λ_ _ _ _=>Lib.dh
end z_

namespace pL
def b(kr:WX R)(a:aQ)(d e:aw)(f:aQ):az R:=bif nA.c a d e (f.length:aw)then bif decide (0<=(nA.v a d e (f.length:aw)).1)&&decide ((nA.v a d e (f.length:aw)).1<(f.length:aw))then kr (bw (ar f (nA.v a d e (f.length:aw)).1.toNat 0)) (nA.v a d e (f.length:aw)).2.1 (nA.v a d e (f.length:aw)).2.2.1 (nA.v a d e (f.length:aw)).2.2.2 f else aj else aj
def vo:=b λr0 r1 r2 r3 r4=>ah (r0,r1,r2,r3,r4)
def c:=λa d e f=>(vo a d e f).isSome
def v:=λa d e f=>(vo a d e f).getD (⟨#[]⟩,[],0,0,[])
theorem out{x}:∀a d e f,vo a d e f=ah x->c a d e f=ai/\v a d e f=x:=λ_ _ _ _=>Lib.dh
end pL

namespace uZ
def b(kr:aem R)(a:aQ)(d e:aw):az R:=bif pL.c a d e (aD (aD (aD (aD (aD (aD (aD (aD (aP [.s] 8) 0 [.s {data:= #[ay 47,ay 97]}]) 1 [.s {data:= #[ay 47,ay 98]}]) 2 [.s {data:= #[ay 47,ay 99]}]) 3 [.s {data:= #[ay 47,ay 100]}]) 4 [.s {data:= #[ay 47,ay 101]}]) 5 [.s {data:= #[ay 47,ay 102]}]) 6 [.s {data:= #[ay 47,ay 103]}]) 7 [.s {data:= #[ay 47,ay 104]}])then kr (pL.v a d e (aD (aD (aD (aD (aD (aD (aD (aD (aP [.s] 8) 0 [.s {data:= #[ay 47,ay 97]}]) 1 [.s {data:= #[ay 47,ay 98]}]) 2 [.s {data:= #[ay 47,ay 99]}]) 3 [.s {data:= #[ay 47,ay 100]}]) 4 [.s {data:= #[ay 47,ay 101]}]) 5 [.s {data:= #[ay 47,ay 102]}]) 6 [.s {data:= #[ay 47,ay 103]}]) 7 [.s {data:= #[ay 47,ay 104]}])).1 (pL.v a d e (aD (aD (aD (aD (aD (aD (aD (aD (aP [.s] 8) 0 [.s {data:= #[ay 47,ay 97]}]) 1 [.s {data:= #[ay 47,ay 98]}]) 2 [.s {data:= #[ay 47,ay 99]}]) 3 [.s {data:= #[ay 47,ay 100]}]) 4 [.s {data:= #[ay 47,ay 101]}]) 5 [.s {data:= #[ay 47,ay 102]}]) 6 [.s {data:= #[ay 47,ay 103]}]) 7 [.s {data:= #[ay 47,ay 104]}])).2.1 (pL.v a d e (aD (aD (aD (aD (aD (aD (aD (aD (aP [.s] 8) 0 [.s {data:= #[ay 47,ay 97]}]) 1 [.s {data:= #[ay 47,ay 98]}]) 2 [.s {data:= #[ay 47,ay 99]}]) 3 [.s {data:= #[ay 47,ay 100]}]) 4 [.s {data:= #[ay 47,ay 101]}]) 5 [.s {data:= #[ay 47,ay 102]}]) 6 [.s {data:= #[ay 47,ay 103]}]) 7 [.s {data:= #[ay 47,ay 104]}])).2.2.1 (pL.v a d e (aD (aD (aD (aD (aD (aD (aD (aD (aP [.s] 8) 0 [.s {data:= #[ay 47,ay 97]}]) 1 [.s {data:= #[ay 47,ay 98]}]) 2 [.s {data:= #[ay 47,ay 99]}]) 3 [.s {data:= #[ay 47,ay 100]}]) 4 [.s {data:= #[ay 47,ay 101]}]) 5 [.s {data:= #[ay 47,ay 102]}]) 6 [.s {data:= #[ay 47,ay 103]}]) 7 [.s {data:= #[ay 47,ay 104]}])).2.2.2.1 else aj
def vo:=b λr0 r1 r2 r3=>ah (r0,r1,r2,r3)
def c:=λa d e=>(vo a d e).isSome
def v:=λa d e=>(vo a d e).getD (⟨#[]⟩,[],0,0)
theorem out{x}:∀a d e,vo a d e=ah x->c a d e=ai/\v a d e=x:=λ_ _ _=>Lib.dh
end uZ

namespace HR
def b(kr:aek R)(a:aQ)(d e f:aw):az R:=bif nA.c a d e f then kr (decide ((nA.v a d e f).1=0)) (nA.v a d e f).2.1 (nA.v a d e f).2.2.1 (nA.v a d e f).2.2.2 else aj
def vo:=b λr0 r1 r2 r3=>ah (r0,r1,r2,r3)
def c:=λa d e f=>(vo a d e f).isSome
def v:=λa d e f=>(vo a d e f).getD (ak,[],0,0)
theorem out{x}:∀a d e f,vo a d e f=ah x->c a d e f=ai/\v a d e f=x:=λ_ _ _ _=>Lib.dh
end HR

namespace Kz
def r4(N:aF)(g k0:hZ R)(a d e f:aw)(h:aQ)(i j:aw)(l m o p q r s t u:aQ)(w y z α xa:aw)(xb:aq)(xc xd xe:aw)(xf:aq)(xg:aw)(xh:aQ):az R:=bif decide (f<(q.length:aw))then bif decide (0<=f)&&decide (f<(q.length:aw))then bif decide (bF (ar q f.toNat 2)=1)then bif cy (xh.length+(aD (aP [Ck.i ao] 1) 0 [.i .i64 f]).length) 8 then g a d e (bJ (f+1)) h i j l m o p q r s t u w y z α xa xb xc xd xe xf xg (xh++aD (aP [Ck.i ao] 1) 0 [.i .i64 f])else aj else g a d e (bJ (f+1)) h i j l m o p q r s t u w y z α xa xb xc xd xe xf xg xh else aj else k0 a d e f h i j l m o p q r s t u w y z α xa xb xc xd xe xf xg xh
def l4(N:aF)(k0:hZ R):aF->hZ R
 |0=>λ_ _ _ _ _ _ _ _ _ _ _ _ _ _ _ _ _ _ _ _ _ _ _ _ _ _ _ _=>aj
 |n+1=>r4 N (l4 N k0 n) k0
abbrev h0{R:Type}(kr:iK R)(w:aQ)(y z:aw)(α xa xb xc xd xe xf xg xh:aQ)(xi:aw)(xk:aq)(xl:aw)(xm:aQ):az R:=bif nA.c w y z 3 then Lib.lt (nA.v w y z 3) λxn=>bif decide ((xm.length:aw)>0)then bif HR.c xn.2.1 xn.2.2.1 xn.2.2.2 6 then Lib.lt (HR.v xn.2.1 xn.2.2.1 xn.2.2.2 6) λxo=>bif !xo.1 then bif nA.c xo.2.1 xo.2.2.1 xo.2.2.2 (xm.length:aw)then Lib.lt (nA.v xo.2.1 xo.2.2.1 xo.2.2.2 (xm.length:aw)) λxp=>bif decide (0<=xp.1)&&decide (xp.1<(xm.length:aw))then bif decide (xi=2)then bif pL.c xp.2.1 xp.2.2.1 xp.2.2.2 (aD (aD (aD (aD (aP [.s] 4) 0 [.s {data:= #[ay 120]}]) 1 [.s {data:= #[ay 104,ay 101,ay 108,ay 108,ay 111]}]) 2 [.s {data:= #[ay 109,ay 111,ay 114,ay 101,ay 32]}]) 3 [.s {data:= #[ay 48,ay 49,ay 50,ay 51,ay 52,ay 53,ay 54,ay 55,ay 56,ay 57]}])then Lib.lt (pL.v xp.2.1 xp.2.2.1 xp.2.2.2 (aD (aD (aD (aD (aP [.s] 4) 0 [.s {data:= #[ay 120]}]) 1 [.s {data:= #[ay 104,ay 101,ay 108,ay 108,ay 111]}]) 2 [.s {data:= #[ay 109,ay 111,ay 114,ay 101,ay 32]}]) 3 [.s {data:= #[ay 48,ay 49,ay 50,ay 51,ay 52,ay 53,ay 54,ay 55,ay 56,ay 57]}])) λxq=>bif decide (xi=3)then bif z_.c xq.2.1 xq.2.2.1 xq.2.2.2.1 (aD (aD (aD (aD (aD (aP [Ck.i ao] 5) 0 [.i .i64 0]) 1 [.i .i64 3]) 2 [.i .i64 20]) 3 [.i .i64 60]) 4 [.i .i64 60])then Lib.lt (z_.v xq.2.1 xq.2.2.1 xq.2.2.2.1 (aD (aD (aD (aD (aD (aP [Ck.i ao] 5) 0 [.i .i64 0]) 1 [.i .i64 3]) 2 [.i .i64 20]) 3 [.i .i64 60]) 4 [.i .i64 60])) λxr=>kr xi (bF (ar xm xp.1.toNat 0)) xq.1 xr.1 [] xr.2.1 xr.2.2.1 xr.2.2.2.1 α xa xb xc xd xe xf xg xh else aj else kr xi (bF (ar xm xp.1.toNat 0)) xq.1 xl [] xq.2.1 xq.2.2.1 xq.2.2.2.1 α xa xb xc xd xe xf xg xh else aj else bif decide (xi=3)then bif z_.c xp.2.1 xp.2.2.1 xp.2.2.2 (aD (aD (aD (aD (aD (aP [Ck.i ao] 5) 0 [.i .i64 0]) 1 [.i .i64 3]) 2 [.i .i64 20]) 3 [.i .i64 60]) 4 [.i .i64 60])then Lib.lt (z_.v xp.2.1 xp.2.2.1 xp.2.2.2 (aD (aD (aD (aD (aD (aP [Ck.i ao] 5) 0 [.i .i64 0]) 1 [.i .i64 3]) 2 [.i .i64 20]) 3 [.i .i64 60]) 4 [.i .i64 60])) λxq=>kr xi (bF (ar xm xp.1.toNat 0)) xk xq.1 [] xq.2.1 xq.2.2.1 xq.2.2.2.1 α xa xb xc xd xe xf xg xh else aj else kr xi (bF (ar xm xp.1.toNat 0)) xk xl [] xp.2.1 xp.2.2.1 xp.2.2.2 α xa xb xc xd xe xf xg xh else aj else aj else bif decide (xi=2)then bif pL.c xo.2.1 xo.2.2.1 xo.2.2.2 (aD (aD (aD (aD (aP [.s] 4) 0 [.s {data:= #[ay 120]}]) 1 [.s {data:= #[ay 104,ay 101,ay 108,ay 108,ay 111]}]) 2 [.s {data:= #[ay 109,ay 111,ay 114,ay 101,ay 32]}]) 3 [.s {data:= #[ay 48,ay 49,ay 50,ay 51,ay 52,ay 53,ay 54,ay 55,ay 56,ay 57]}])then Lib.lt (pL.v xo.2.1 xo.2.2.1 xo.2.2.2 (aD (aD (aD (aD (aP [.s] 4) 0 [.s {data:= #[ay 120]}]) 1 [.s {data:= #[ay 104,ay 101,ay 108,ay 108,ay 111]}]) 2 [.s {data:= #[ay 109,ay 111,ay 114,ay 101,ay 32]}]) 3 [.s {data:= #[ay 48,ay 49,ay 50,ay 51,ay 52,ay 53,ay 54,ay 55,ay 56,ay 57]}])) λxp=>bif decide (xi=3)then bif z_.c xp.2.1 xp.2.2.1 xp.2.2.2.1 (aD (aD (aD (aD (aD (aP [Ck.i ao] 5) 0 [.i .i64 0]) 1 [.i .i64 3]) 2 [.i .i64 20]) 3 [.i .i64 60]) 4 [.i .i64 60])then Lib.lt (z_.v xp.2.1 xp.2.2.1 xp.2.2.2.1 (aD (aD (aD (aD (aD (aP [Ck.i ao] 5) 0 [.i .i64 0]) 1 [.i .i64 3]) 2 [.i .i64 20]) 3 [.i .i64 60]) 4 [.i .i64 60])) λxq=>kr xi xn.1 xp.1 xq.1 [] xq.2.1 xq.2.2.1 xq.2.2.2.1 α xa xb xc xd xe xf xg xh else aj else kr xi xn.1 xp.1 xl [] xp.2.1 xp.2.2.1 xp.2.2.2.1 α xa xb xc xd xe xf xg xh else aj else bif decide (xi=3)then bif z_.c xo.2.1 xo.2.2.1 xo.2.2.2 (aD (aD (aD (aD (aD (aP [Ck.i ao] 5) 0 [.i .i64 0]) 1 [.i .i64 3]) 2 [.i .i64 20]) 3 [.i .i64 60]) 4 [.i .i64 60])then Lib.lt (z_.v xo.2.1 xo.2.2.1 xo.2.2.2 (aD (aD (aD (aD (aD (aP [Ck.i ao] 5) 0 [.i .i64 0]) 1 [.i .i64 3]) 2 [.i .i64 20]) 3 [.i .i64 60]) 4 [.i .i64 60])) λxp=>kr xi xn.1 xk xp.1 [] xp.2.1 xp.2.2.1 xp.2.2.2.1 α xa xb xc xd xe xf xg xh else aj else kr xi xn.1 xk xl [] xo.2.1 xo.2.2.1 xo.2.2.2 α xa xb xc xd xe xf xg xh else aj else bif decide (xi=2)then bif pL.c xn.2.1 xn.2.2.1 xn.2.2.2 (aD (aD (aD (aD (aP [.s] 4) 0 [.s {data:= #[ay 120]}]) 1 [.s {data:= #[ay 104,ay 101,ay 108,ay 108,ay 111]}]) 2 [.s {data:= #[ay 109,ay 111,ay 114,ay 101,ay 32]}]) 3 [.s {data:= #[ay 48,ay 49,ay 50,ay 51,ay 52,ay 53,ay 54,ay 55,ay 56,ay 57]}])then Lib.lt (pL.v xn.2.1 xn.2.2.1 xn.2.2.2 (aD (aD (aD (aD (aP [.s] 4) 0 [.s {data:= #[ay 120]}]) 1 [.s {data:= #[ay 104,ay 101,ay 108,ay 108,ay 111]}]) 2 [.s {data:= #[ay 109,ay 111,ay 114,ay 101,ay 32]}]) 3 [.s {data:= #[ay 48,ay 49,ay 50,ay 51,ay 52,ay 53,ay 54,ay 55,ay 56,ay 57]}])) λxo=>bif decide (xi=3)then bif z_.c xo.2.1 xo.2.2.1 xo.2.2.2.1 (aD (aD (aD (aD (aD (aP [Ck.i ao] 5) 0 [.i .i64 0]) 1 [.i .i64 3]) 2 [.i .i64 20]) 3 [.i .i64 60]) 4 [.i .i64 60])then Lib.lt (z_.v xo.2.1 xo.2.2.1 xo.2.2.2.1 (aD (aD (aD (aD (aD (aP [Ck.i ao] 5) 0 [.i .i64 0]) 1 [.i .i64 3]) 2 [.i .i64 20]) 3 [.i .i64 60]) 4 [.i .i64 60])) λxp=>kr xi xn.1 xo.1 xp.1 [] xp.2.1 xp.2.2.1 xp.2.2.2.1 α xa xb xc xd xe xf xg xh else aj else kr xi xn.1 xo.1 xl [] xo.2.1 xo.2.2.1 xo.2.2.2.1 α xa xb xc xd xe xf xg xh else aj else bif decide (xi=3)then bif z_.c xn.2.1 xn.2.2.1 xn.2.2.2 (aD (aD (aD (aD (aD (aP [Ck.i ao] 5) 0 [.i .i64 0]) 1 [.i .i64 3]) 2 [.i .i64 20]) 3 [.i .i64 60]) 4 [.i .i64 60])then Lib.lt (z_.v xn.2.1 xn.2.2.1 xn.2.2.2 (aD (aD (aD (aD (aD (aP [Ck.i ao] 5) 0 [.i .i64 0]) 1 [.i .i64 3]) 2 [.i .i64 20]) 3 [.i .i64 60]) 4 [.i .i64 60])) λxo=>kr xi xn.1 xk xo.1 [] xo.2.1 xo.2.2.1 xo.2.2.2.1 α xa xb xc xd xe xf xg xh else aj else kr xi xn.1 xk xl [] xn.2.1 xn.2.2.1 xn.2.2.2 α xa xb xc xd xe xf xg xh else aj
abbrev h1{R:Type}(kr:iK R)(w:aQ)(y z:aw)(α xa xb xc xd xe xf xg xh:aQ)(xi xj:aw)(xk:aq)(xl:aw):az R:=bif decide (xi=5)then bif z_.c w y z (aD (aD (aD (aD (aP [Ck.i ao] 4) 0 [.i .i64 1]) 1 [.i .i64 2]) 2 [.i .i64 5]) 3 [.i .i64 30])then Lib.lt (z_.v w y z (aD (aD (aD (aD (aP [Ck.i ao] 4) 0 [.i .i64 1]) 1 [.i .i64 2]) 2 [.i .i64 5]) 3 [.i .i64 30])) λxn=>kr xi xj xk xn.1 [] xn.2.1 xn.2.2.1 xn.2.2.2.1 α xa xb xc xd xe xf xg xh else aj else bif decide (xi=6)then bif nA.c w y z 9 then Lib.lt (nA.v w y z 9) λxn=>bif decide ((xe.length:aw)>0)then bif HR.c xn.2.1 xn.2.2.1 xn.2.2.2 4 then Lib.lt (HR.v xn.2.1 xn.2.2.1 xn.2.2.2 4) λxo=>bif !xo.1 then bif nA.c xo.2.1 xo.2.2.1 xo.2.2.2 (xe.length:aw)then Lib.lt (nA.v xo.2.1 xo.2.2.1 xo.2.2.2 (xe.length:aw)) λxp=>bif decide (0<=xp.1)&&decide (xp.1<(xe.length:aw))then kr xi (bF (ar xe xp.1.toNat 0)) xk xl [] xp.2.1 xp.2.2.1 xp.2.2.2 α xa xb xc xd xe xf xg xh else aj else aj else kr xi (bJ (1+xn.1)) xk xl [] xo.2.1 xo.2.2.1 xo.2.2.2 α xa xb xc xd xe xf xg xh else aj else kr xi (bJ (1+xn.1)) xk xl [] xn.2.1 xn.2.2.1 xn.2.2.2 α xa xb xc xd xe xf xg xh else aj else kr xi xj xk xl [] w y z α xa xb xc xd xe xf xg xh
abbrev h2{R:Type}(kr:iK R)(w:aQ)(y z:aw)(α xa xb xc xd xe xf xg xh:aQ)(xk:aq)(xl:aw):az R:=bif nA.c w y z 9 then Lib.lt (nA.v w y z 9) λxn=>bif decide ((xe.length:aw)>0)then bif HR.c xn.2.1 xn.2.2.1 xn.2.2.2 4 then Lib.lt (HR.v xn.2.1 xn.2.2.1 xn.2.2.2 4) λxo=>bif !xo.1 then bif nA.c xo.2.1 xo.2.2.1 xo.2.2.2 (xe.length:aw)then Lib.lt (nA.v xo.2.1 xo.2.2.1 xo.2.2.2 (xe.length:aw)) λxp=>bif decide (0<=xp.1)&&decide (xp.1<(xe.length:aw))then kr 6 (bF (ar xe xp.1.toNat 0)) xk xl [] xp.2.1 xp.2.2.1 xp.2.2.2 α xa xb xc xd xe xf xg xh else aj else aj else kr 6 (bJ (1+xn.1)) xk xl [] xo.2.1 xo.2.2.1 xo.2.2.2 α xa xb xc xd xe xf xg xh else aj else kr 6 (bJ (1+xn.1)) xk xl [] xn.2.1 xn.2.2.1 xn.2.2.2 α xa xb xc xd xe xf xg xh else aj
abbrev h3{R:Type}(kr:iK R)(w:aQ)(y z:aw)(α xa xb xc xd xe xf xg xh:aQ)(xi xl:aw):az R:=bif nA.c w y z 9 then Lib.lt (nA.v w y z 9) λxn=>bif uZ.c xn.2.1 xn.2.2.1 xn.2.2.2 then Lib.lt (uZ.v xn.2.1 xn.2.2.1 xn.2.2.2) λxo=>kr xi (bJ (1+xn.1)) xo.1 xl [] xo.2.1 xo.2.2.1 xo.2.2.2 α xa xb xc xd xe xf xg xh else aj else aj
def b(N:aF)(kr:iK R)(a:aQ)(d e f:aw)(h i j l:aQ)(m:aw)(o p:aQ)(q:aw)(r s t:aQ):az R:=bif z_.c a d e (aD (aD (aD (aD (aD (aD (aD (aD (aD (aD (aD (aD (aD (aD (aP [Ck.i ao] 14) 0 [.i .i64 1]) 1 [.i .i64 1]) 2 [.i .i64 1]) 3 [.i .i64 1]) 4 [.i .i64 2]) 5 [.i .i64 2]) 6 [.i .i64 2]) 7 [.i .i64 3]) 8 [.i .i64 3]) 9 [.i .i64 3]) 10 [.i .i64 4]) 11 [.i .i64 5]) 12 [.i .i64 6]) 13 [.i .i64 6])then Lib.lt (z_.v a d e (aD (aD (aD (aD (aD (aD (aD (aD (aD (aD (aD (aD (aD (aD (aP [Ck.i ao] 14) 0 [.i .i64 1]) 1 [.i .i64 1]) 2 [.i .i64 1]) 3 [.i .i64 1]) 4 [.i .i64 2]) 5 [.i .i64 2]) 6 [.i .i64 2]) 7 [.i .i64 3]) 8 [.i .i64 3]) 9 [.i .i64 3]) 10 [.i .i64 4]) 11 [.i .i64 5]) 12 [.i .i64 6]) 13 [.i .i64 6])) λu=>l4 N (λ_ _ _ _ w y z α xa xb xc xd xe xf xg xh _ _ _ _ _ _ _ xi xj xk xl xm=>bif decide ((xm.length:aw)=0)then bif decide (xi=2)then bif decide ((xe.length:aw)≥6)then h2 kr w y z α xa xb xc xd xe xf xg xh xk xl else bif nA.c w y z 9 then Lib.lt (nA.v w y z 9) λxn=>bif uZ.c xn.2.1 xn.2.2.1 xn.2.2.2 then Lib.lt (uZ.v xn.2.1 xn.2.2.1 xn.2.2.2) λxo=>kr 1 (bJ (1+xn.1)) xo.1 xl [] xo.2.1 xo.2.2.1 xo.2.2.2 α xa xb xc xd xe xf xg xh else aj else aj else bif decide (xi=3)then bif decide ((xe.length:aw)≥6)then h2 kr w y z α xa xb xc xd xe xf xg xh xk xl else bif nA.c w y z 9 then Lib.lt (nA.v w y z 9) λxn=>bif uZ.c xn.2.1 xn.2.2.1 xn.2.2.2 then Lib.lt (uZ.v xn.2.1 xn.2.2.1 xn.2.2.2) λxo=>kr 1 (bJ (1+xn.1)) xo.1 xl [] xo.2.1 xo.2.2.1 xo.2.2.2 α xa xb xc xd xe xf xg xh else aj else aj else bif decide ((xe.length:aw)≥6)then bif decide (xi=1)then h2 kr w y z α xa xb xc xd xe xf xg xh xk xl else bif decide (xi=1)then h3 kr w y z α xa xb xc xd xe xf xg xh xi xl else bif decide (xi=2)then h0 kr w y z α xa xb xc xd xe xf xg xh xi xk xl xm else bif decide (xi=3)then h0 kr w y z α xa xb xc xd xe xf xg xh xi xk xl xm else bif decide (xi=4)then h0 kr w y z α xa xb xc xd xe xf xg xh xi xk xl xm else h1 kr w y z α xa xb xc xd xe xf xg xh xi xj xk xl else bif decide (xi=1)then h3 kr w y z α xa xb xc xd xe xf xg xh xi xl else bif decide (xi=2)then h0 kr w y z α xa xb xc xd xe xf xg xh xi xk xl xm else bif decide (xi=3)then h0 kr w y z α xa xb xc xd xe xf xg xh xi xk xl xm else bif decide (xi=4)then h0 kr w y z α xa xb xc xd xe xf xg xh xi xk xl xm else h1 kr w y z α xa xb xc xd xe xf xg xh xi xj xk xl else bif decide ((xe.length:aw)≥6)then bif decide (xi=1)then h2 kr w y z α xa xb xc xd xe xf xg xh xk xl else bif decide (xi=1)then h3 kr w y z α xa xb xc xd xe xf xg xh xi xl else bif decide (xi=2)then h0 kr w y z α xa xb xc xd xe xf xg xh xi xk xl xm else bif decide (xi=3)then h0 kr w y z α xa xb xc xd xe xf xg xh xi xk xl xm else bif decide (xi=4)then h0 kr w y z α xa xb xc xd xe xf xg xh xi xk xl xm else h1 kr w y z α xa xb xc xd xe xf xg xh xi xj xk xl else bif decide (xi=1)then h3 kr w y z α xa xb xc xd xe xf xg xh xi xl else bif decide (xi=2)then h0 kr w y z α xa xb xc xd xe xf xg xh xi xk xl xm else bif decide (xi=3)then h0 kr w y z α xa xb xc xd xe xf xg xh xi xk xl xm else bif decide (xi=4)then h0 kr w y z α xa xb xc xd xe xf xg xh xi xk xl xm else h1 kr w y z α xa xb xc xd xe xf xg xh xi xj xk xl) N f m q 0 u.2.1 u.2.2.1 u.2.2.2.1 h i j l o p r s t f m q 0 0 ⟨#[]⟩ 0 u.1 0 ⟨#[]⟩ 0 (aP [Ck.i ao] 0)else aj
def vo:=b Lib.cW λr0 r1 r2 r3 r4 r5 r6 r7 r8 r9 JH Ap US r13 r14 QF r16=>ah (r0,r1,r2,r3,r4,r5,r6,r7,r8,r9,JH,Ap,US,r13,r14,QF,r16)
def c:=λa d e f h i j l m o p q r s t=>(vo a d e f h i j l m o p q r s t).isSome
def v:=λa d e f h i j l m o p q r s t=>(vo a d e f h i j l m o p q r s t).getD (0,0,⟨#[]⟩,0,[],[],0,0,[],[],[],[],[],[],[],[],[])
theorem out{x}:∀a d e f h i j l m o p q r s t,vo a d e f h i j l m o p q r s t=ah x->c a d e f h i j l m o p q r s t=ai/\v a d e f h i j l m o p q r s t=x:=λ_ _ _ _ _ _ _ _ _ _ _ _ _ _ _=>Lib.dh
end Kz

namespace n8
def r3(N:aF)(g:rk R)(g1:o0 R)(k0:rk R)(k1:o0 R)(a:aw)(d:aQ)(e f h:aw):az R:=bif decide (a<(d.length:aw))then bif decide (0<=a)&&decide (a<(d.length:aw))then bif cy ((aP [Ck.i ao] 0).length+(jx (ar d a.toNat 0)).length) 8 then g1 (bJ (a+1)) d e f h ([]++aD (aP [Ck.l 3] 1) 0 [CV.l 3 (aP [Ck.i ao] 0++jx (ar d a.toNat 0))])else aj else aj else k0 a d e f h
def zM(N:aF)(g:rk R)(g1:o0 R)(k0:rk R)(k1:o0 R)(a:aw)(d:aQ)(e f h:aw)(i:aQ):az R:=bif decide (a<(d.length:aw))then bif decide (0<=a)&&decide (a<(d.length:aw))then bif cy ((aP [Ck.i ao] 0).length+(jx (ar d a.toNat 0)).length) 8 then bif cy (i.length+(aD (aP [Ck.l 3] 1) 0 [CV.l 3 (aP [Ck.i ao] 0++jx (ar d a.toNat 0))]).length) 24 then g1 (bJ (a+1)) d e f h (i++aD (aP [Ck.l 3] 1) 0 [CV.l 3 (aP [Ck.i ao] 0++jx (ar d a.toNat 0))])else aj else aj else aj else k1 a d e f h i
def sL(N:aF)(k0:rk R)(k1:o0 R):aF->o0 R
 |0=>λ_ _ _ _ _ _=>aj
 |n+1=>zM N (λx0 x1 x2 x3 x4=>aj) (sL N k0 k1 n) k0 k1
def l3(N:aF)(k0:rk R)(k1:o0 R):aF->rk R
 |0=>λ_ _ _ _ _=>aj
 |n+1=>r3 N (l3 N k0 k1 n) (sL N k0 k1 n) k0 k1
def b(N:aF)(kr:DB R)(a:aQ)(d:aw):az R:=l3 N (λ_ _ _ _ e=>kr [] e) (λ_ _ _ _ e f=>kr f e) N 0 a d 0 d
def vo:=b Lib.cW λr0 r1=>ah (r0,r1)
def c:=λa d=>(vo a d).isSome
def v:=λa d=>(vo a d).getD ([],0)
theorem out{x}:∀a d,vo a d=ah x->c a d=ai/\v a d=x:=λ_ _=>Lib.dh
end n8

namespace gb
def b(kr:s6 R)(a d e:aQ)(f:aw):az R:=bif cy ((aP [.s] 0).length+a.length) 16 then bif cy ((aP [.s] 0).length+d.length) 16 then bif n8.c e f then kr (aP [.s] 0++a) (aP [.s] 0++d) (n8.v e f).1 (n8.v e f).2 else aj else aj else aj
def vo:=b λr0 r1 r2 r3=>ah (r0,r1,r2,r3)
def c:=λa d e f=>(vo a d e f).isSome
def v:=λa d e f=>(vo a d e f).getD ([],[],[],0)
theorem out{x}:∀a d e f,vo a d e f=ah x->c a d e f=ai/\v a d e f=x:=λ_ _ _ _=>Lib.dh
end gb

namespace fQ
def b(kr:eR R)(a:aw)(d e f h:aQ)(i:aw)(j l:aQ)(m:aw):az R:=bif cy ((aP [Ck.s,Ck.i ao,Ck.i ao,Ck.s] 0).length+d.length) 48 then bif gb.c e f h i then bif cy ((aP [Ck.s,Ck.s,Ck.i ao,Ck.i ao,Ck.i ao] 0).length+j.length) 56 then bif cy ((aP [Ck.i ao,Ck.s,Ck.i ao,Ck.i ao,Ck.i ao,Ck.s,Ck.i ao] 0).length+l.length) 72 then kr a (aP [Ck.s,Ck.i ao,Ck.i ao,Ck.s] 0++d) (gb.v e f h i).1 (gb.v e f h i).2.1 (gb.v e f h i).2.2.1 (gb.v e f h i).2.2.2 (aP [Ck.s,Ck.s,Ck.i ao,Ck.i ao,Ck.i ao] 0++j) (aP [Ck.i ao,Ck.s,Ck.i ao,Ck.i ao,Ck.i ao,Ck.s,Ck.i ao] 0++l) m else aj else aj else aj else aj
def vo:=b λr0 r1 r2 r3 r4 r5 r6 r7 r8=>ah (r0,r1,r2,r3,r4,r5,r6,r7,r8)
def c:=λa d e f h i j l m=>(vo a d e f h i j l m).isSome
def v:=λa d e f h i j l m=>(vo a d e f h i j l m).getD (0,[],[],[],[],0,[],[],0)
theorem out{x}:∀a d e f h i j l m,vo a d e f h i j l m=ah x->c a d e f h i j l m=ai/\v a d e f h i j l m=x:=λ_ _ _ _ _ _ _ _ _=>Lib.dh
end fQ

namespace kl
def b(kr:aX->az R)(a d e:aw):az R:=bif decide (a≥d)then kr (decide (a<=e))else kr ak
def v(a0 a1 a2:aw):aX:=bif decide (a0≥a1)then decide (a0<=a2)else ak
theorem eG(kr:aX->az R)(a0 a1 a2:aw):b kr a0 a1 a2=kr (v a0 a1 a2):=by first|rfl|(unfold b v;simp only[cM];(repeat' split)<;>rfl)
end kl

namespace s8
def b(kr:aX->az R)(a:aq):az R:=kr (kl.v (a.size:aw) 1 30)
def v(a0:aq):aX:=(kl.v (a0.size:aw) 1 30)
theorem eG(kr:aX->az R)(a0:aq):b kr a0=kr (v a0):=by first|rfl|(unfold b v;simp only[cM];(repeat' split)<;>rfl)
end s8

namespace nb
def b(kr:aX->az R)(a:aq)(d e:aw)(f:aq):az R:=bif s8.v a then bif kl.v d 0 1000000000 then bif kl.v e 1 999999 then kr (decide ((f.size:aw)<=400))else kr ak else kr ak else kr ak
def v(a0:aq)(a1 a2:aw)(a3:aq):aX:=bif s8.v a0 then bif kl.v a1 0 1000000000 then bif kl.v a2 1 999999 then decide ((a3.size:aw)<=400)else ak else ak else ak
theorem eG(kr:aX->az R)(a0:aq)(a1 a2:aw)(a3:aq):b kr a0 a1 a2 a3=kr (v a0 a1 a2 a3):=by first|rfl|(unfold b v;simp only[cM];(repeat' split)<;>rfl)
theorem Ea{k:aq}{s l:aw}{b:aq}(h:v k s l b=ai):(1<=k.size/\k.size<=30)/\(0<=s/\s<=1000000000)/\(1<=l/\l<=999999)/\b.size<=400:=by unfold v at h;cases h1:s8.v k<;>rw[h1]at h<;>simp only[au,ax,dy]at h;cases h2:kl.v s 0 1000000000<;>rw[h2]at h<;>simp only[au,ax,dy]at h;cases h3:kl.v l 1 999999<;>rw[h3]at h<;>simp only[au,ax,dy]at h;simp[s8.v,kl.v]at h1 h2 h3;have:=cu h;omega
end nb

namespace fm
def r2(N:aF)(g k0 k1:Kk R)(a:aQ)(d:aq)(e:aX)(f:aw):az R:=bif decide (f<(a.length:aw))then bif decide (0<=f)&&decide (f<(a.length:aw))then bif bZ (bw (ar a f.toNat 0)).toList (aC d)then k0 a d ai f else g a d e (bJ (f+1))else aj else k1 a d e f
def l2(N:aF)(k0 k1:Kk R):aF->Kk R
 |0=>λ_ _ _ _=>aj
 |n+1=>r2 N (l2 N k0 k1 n) k0 k1
def b(N:aF)(kr:aX->az R)(a:aQ)(d:aq):az R:=l2 N (λ_ _ e _=>kr e) (λ_ _ _ _=>kr ak) N a d ak 0
def vo:=b Lib.cW λr0=>ah r0
def c:=λa d=>(vo a d).isSome
def v:=λa d=>(vo a d).getD ak
theorem out{x}:∀a d,vo a d=ah x->c a d=ai/\v a d=x:=λ_ _=>Lib.dh
end fm

namespace s9
def b(kr:aX->az R)(a d e:aQ)(f:aw)(h:aq):az R:=bif fm.c a h then bif fm.v a h then kr ai else bif fm.c d h then kr (fm.v d h)else aj else aj
def vo:=b λr0=>ah r0
def c:=λa d e f h=>(vo a d e f h).isSome
def v:=λa d e f h=>(vo a d e f h).getD ak
theorem out{x}:∀a d e f h,vo a d e f h=ah x->c a d e f h=ai/\v a d e f h=x:=λ_ _ _ _ _=>Lib.dh
end s9

namespace fG
def r9(N:aF)(g k0 k1:FF R)(a:aX)(d e:aw)(f:aQ)(h:aw):az R:=bif decide (0<=d)&&decide (d<(f.length:aw))then bif decide (e<((jx (ar f d.toNat 0)).length:aw))then bif decide (0<=d)&&decide (d<(f.length:aw))then bif decide (0<=e)&&decide (e<((jx (ar f d.toNat 0)).length:aw))then bif !kl.v (bF (ar (jx (ar f d.toNat 0)) e.toNat 0)) 0 15 then k0 ak d e f h else g a d (bJ (e+1)) f h else aj else aj else k1 a d e f h else aj
def l9(N:aF)(k0 k1:FF R):aF->FF R
 |0=>λ_ _ _ _ _=>aj
 |n+1=>r9 N (l9 N k0 k1 n) k0 k1
def r4(N:aF)(g k0 k1:Ki R)(a:aX)(d:aw)(e:aQ)(f:aw):az R:=bif decide (d<(e.length:aw))then bif decide (0<=d)&&decide (d<(e.length:aw))then bif((jx (ar e d.toNat 0)).length:aw) !=16 then k0 ak d e f else l9 N (λh i _ j l=>k0 h i j l) (λh i _ j l=>g h (bJ (i+1)) j l) N a d 0 e f else aj else k1 a d e f
def l4(N:aF)(k0 k1:Ki R):aF->Ki R
 |0=>λ_ _ _ _=>aj
 |n+1=>r4 N (l4 N k0 k1 n) k0 k1
def b(N:aF)(kr:aX->az R)(a:aQ)(d:aw):az R:=bif(a.length:aw) !=3 then kr ak else bif !kl.v d 0 63 then kr ak else l4 N (λe _ _ _=>kr e) (λ_ _ _ _=>kr ai) N ak 0 a d
def vo:=b Lib.cW λr0=>ah r0
def c:=λa d=>(vo a d).isSome
def v:=λa d=>(vo a d).getD ak
theorem out{x}:∀a d,vo a d=ah x->c a d=ai/\v a d=x:=λ_ _=>Lib.dh
end fG

namespace jA
def r3(N:aF)(g k0 k1:yI R)(a:aX)(d:aw)(e f h:aQ)(i:aw)(j:aQ):az R:=bif decide (d<(j.length:aw))then bif decide (0<=d)&&decide (d<(j.length:aw))then bif !s8.v (bw (ar j d.toNat 0))then k0 ak d e f h i j else bif g7 0 d (j.length:aw)then bif decide (0<=d)&&decide (d<(j.length:aw))then bif fm.c (eA j (aW 0) d.toNat) (bw (ar j d.toNat 0))then bif fm.v (eA j (aW 0) d.toNat) (bw (ar j d.toNat 0))then k0 ak d e f h i j else g a (bJ (d+1)) e f h i j else aj else aj else aj else aj else k1 a d e f h i j
def l3(N:aF)(k0 k1:yI R):aF->yI R
 |0=>λ_ _ _ _ _ _ _=>aj
 |n+1=>r3 N (l3 N k0 k1 n) k0 k1
def b(N:aF)(kr:aX->az R)(a d e:aQ)(f:aw):az R:=bif cy ((aP [.s] 0).length+a.length) 16 then bif cy ((aP [.s] 0++a).length+d.length) 16 then l3 N (λh _ _ _ _ _ _=>kr h) (λ_ _ h i j l _=>bif decide ((h.length:aw)<=2)then bif decide ((i.length:aw)<=4)then bif fG.c j l then kr (fG.v j l)else aj else kr ak else kr ak) N ak 0 a d e f (aP [.s] 0++a++d)else aj else aj
def vo:=b Lib.cW λr0=>ah r0
def c:=λa d e f=>(vo a d e f).isSome
def v:=λa d e f=>(vo a d e f).getD ak
theorem out{x}:∀a d e f,vo a d e f=ah x->c a d e f=ai/\v a d e f=x:=λ_ _ _ _=>Lib.dh
end jA

namespace nQ
def r2(N:aF)(g k0 k1:fI R)(a:aX)(d e:aw)(f h i j:aQ)(l:aw)(m o:aQ)(p:aw):az R:=bif decide (d<(f.length:aw))then bif decide (0<=d)&&decide (d<(f.length:aw))then bif !nb.v (bw (ar f d.toNat 0)) (bF (ar f d.toNat 1)) (bF (ar f d.toNat (1+1))) (bw (ar f d.toNat (1+1+1)))then k0 ak d e f h i j l m o p else bif decide (d>0)then bif decide (0<=bJ (d-1))&&decide (bJ (d-1)<(f.length:aw))then bif decide (0<=d)&&decide (d<(f.length:aw))then bif !Op.bytesLess (bw (ar f (bJ (d-1)).toNat 0)).toList (bw (ar f d.toNat 0)).toList then k0 ak d e f h i j l m o p else bif decide (0<=d)&&decide (d<(f.length:aw))then bif s9.c h i j l (bw (ar f d.toNat 0))then bif !s9.v h i j l (bw (ar f d.toNat 0))then k0 ak d e f h i j l m o p else g a (bJ (d+1)) e f h i j l m o p else aj else aj else aj else aj else bif decide (0<=d)&&decide (d<(f.length:aw))then bif s9.c h i j l (bw (ar f d.toNat 0))then bif !s9.v h i j l (bw (ar f d.toNat 0))then k0 ak d e f h i j l m o p else g a (bJ (d+1)) e f h i j l m o p else aj else aj else aj else k1 a d e f h i j l m o p
def l2(N:aF)(k0 k1:fI R):aF->fI R
 |0=>λ_ _ _ _ _ _ _ _ _ _ _=>aj
 |n+1=>r2 N (l2 N k0 k1 n) k0 k1
def b(N:aF)(kr:aX->az R)(a:aw)(d e f h:aQ)(i:aw)(j l:aQ)(m:aw):az R:=l2 N (λo _ _ _ _ _ _ _ _ _ _=>kr o) (λ_ _ _ o p q r s _ _ _=>bif jA.c p q r s then bif jA.v p q r s then kr (decide ((o.length:aw)=bJ ((p.length:aw)+(q.length:aw))))else kr ak else aj) N ak 0 a d e f h i j l m
def vo:=b Lib.cW λr0=>ah r0
def c:=λa d e f h i j l m=>(vo a d e f h i j l m).isSome
def v:=λa d e f h i j l m=>(vo a d e f h i j l m).getD ak
theorem out{x}:∀a d e f h i j l m,vo a d e f h i j l m=ah x->c a d e f h i j l m=ai/\v a d e f h i j l m=x:=λ_ _ _ _ _ _ _ _ _=>Lib.dh
end nQ

namespace ng
def r5(N:aF)(g k0 k1:lF R)(a:aw)(d:aX)(e f:aw)(h i j l:aQ)(m:aw)(o p:aQ)(q:aw)(r s:aq)(t u w:aw):az R:=bif decide (e<a)then bif decide (0<=e)&&decide (e<(o.length:aw))then bif bZ (bw (ar o e.toNat 0)).toList (aC r)then bif decide (0<=e)&&decide (e<(o.length:aw))then bif decide (bF (ar o e.toNat 2)=1)then bif decide (t=1)then k0 a ak e f h i j l m o p q r s t u w else g a d (bJ (e+1)) f h i j l m o p q r s t u w else g a d (bJ (e+1)) f h i j l m o p q r s t u w else aj else g a d (bJ (e+1)) f h i j l m o p q r s t u w else aj else k1 a d e f h i j l m o p q r s t u w
def l5(N:aF)(k0 k1:lF R):aF->lF R
 |0=>λ_ _ _ _ _ _ _ _ _ _ _ _ _ _ _ _ _=>aj
 |n+1=>r5 N (l5 N k0 k1 n) k0 k1
def b(N:aF)(kr:aX->az R)(a:aw)(d e f h:aQ)(i:aw)(j l:aQ)(m o:aw):az R:=bif decide (0<=o)&&decide (o<(j.length:aw))then bif !s8.v (bw (ar j o.toNat 0))then kr ak else bif decide (((bw (ar j o.toNat 1)).size:aw)>400)then kr ak else bif !kl.v (bF (ar j o.toNat (1+1))) 1 3 then kr ak else bif !kl.v (bF (ar j o.toNat (1+1+1))) 0 999999 then kr ak else bif !kl.v (bF (ar j o.toNat (1+1+1+1))) 0 a then kr ak else l5 N (λ_ p _ _ _ _ _ _ _ _ _ _ _ _ _ _ _=>kr p) (λ_ _ _ _ _ _ _ _ _ _ _ _ _ _ _ _ _=>kr ai) N o ak 0 a d e f h i j l m (bw (ar j o.toNat 0)) (bw (ar j o.toNat 1)) (bF (ar j o.toNat (1+1))) (bF (ar j o.toNat (1+1+1))) (bF (ar j o.toNat (1+1+1+1)))else aj
def vo:=b Lib.cW λr0=>ah r0
def c:=λa d e f h i j l m o=>(vo a d e f h i j l m o).isSome
def v:=λa d e f h i j l m o=>(vo a d e f h i j l m o).getD ak
theorem out{x}:∀a d e f h i j l m o,vo a d e f h i j l m o=ah x->c a d e f h i j l m o=ai/\v a d e f h i j l m o=x:=λ_ _ _ _ _ _ _ _ _ _=>Lib.dh
end ng

namespace pe
def r9(N:aF)(g k0 k1:fI R)(a:aX)(d e:aw)(f h i j:aQ)(l:aw)(m o:aQ)(p:aw):az R:=bif decide (d<(o.length:aw))then bif decide (0<=d)&&decide (d<(o.length:aw))then bif !kl.v (bF (ar o d.toNat 0)) 1 9 then k0 ak d e f h i j l m o p else bif decide (d>0)then bif decide (0<=bJ (d-1))&&decide (bJ (d-1)<(o.length:aw))then bif decide (bF (ar o (bJ (d-1)).toNat 0)≥bF (ar o d.toNat 0))then k0 ak d e f h i j l m o p else bif !s8.v (bw (ar o d.toNat 1))then k0 ak d e f h i j l m o p else bif !kl.v (bF (ar o d.toNat (1+1+1+1))) 1 3 then k0 ak d e f h i j l m o p else bif !kl.v (bF (ar o d.toNat (1+1))) 0 (m.length:aw)then k0 ak d e f h i j l m o p else bif decide (((bw (ar o d.toNat (1+1+1+1+1))).size:aw)>400)then k0 ak d e f h i j l m o p else bif !kl.v (bF (ar o d.toNat (1+1+1))) 0 e then k0 ak d e f h i j l m o p else bif decide (bF (ar o d.toNat (1+1+1+1+1+1))<0)then k0 ak d e f h i j l m o p else g a (bJ (d+1)) e f h i j l m o p else aj else bif !s8.v (bw (ar o d.toNat 1))then k0 ak d e f h i j l m o p else bif !kl.v (bF (ar o d.toNat (1+1+1+1))) 1 3 then k0 ak d e f h i j l m o p else bif !kl.v (bF (ar o d.toNat (1+1))) 0 (m.length:aw)then k0 ak d e f h i j l m o p else bif decide (((bw (ar o d.toNat (1+1+1+1+1))).size:aw)>400)then k0 ak d e f h i j l m o p else bif !kl.v (bF (ar o d.toNat (1+1+1))) 0 e then k0 ak d e f h i j l m o p else bif decide (bF (ar o d.toNat (1+1+1+1+1+1))<0)then k0 ak d e f h i j l m o p else g a (bJ (d+1)) e f h i j l m o p else aj else k1 a d e f h i j l m o p
def l9(N:aF)(k0 k1:fI R):aF->fI R
 |0=>λ_ _ _ _ _ _ _ _ _ _ _=>aj
 |n+1=>r9 N (l9 N k0 k1 n) k0 k1
def r4(N:aF)(g k0 k1:fI R)(a:aX)(d e:aw)(f h i j:aQ)(l:aw)(m o:aQ)(p:aw):az R:=bif decide (d<(m.length:aw))then bif ng.c e f h i j l m o p d then bif !ng.v e f h i j l m o p d then k0 ak d e f h i j l m o p else g a (bJ (d+1)) e f h i j l m o p else aj else k1 a d e f h i j l m o p
def l4(N:aF)(k0 k1:fI R):aF->fI R
 |0=>λ_ _ _ _ _ _ _ _ _ _ _=>aj
 |n+1=>r4 N (l4 N k0 k1 n) k0 k1
def b(N:aF)(kr:aX->az R)(a:aw)(d e f h:aQ)(i:aw)(j l:aQ)(m:aw):az R:=bif !kl.v a 1 1000000000 then kr ak else bif nQ.c a d e f h i j l m then bif !nQ.v a d e f h i j l m then kr ak else bif decide ((j.length:aw)>20)then kr ak else bif decide ((l.length:aw)>6)then kr ak else bif !kl.v m 0 1000000000 then kr ak else l4 N (λo _ _ _ _ _ _ _ _ _ _=>kr o) (λo _ p q r s t u w y z=>l9 N (λα _ _ _ _ _ _ _ _ _ _=>kr α) (λ_ _ _ _ _ _ _ _ _ _ _=>kr ai) N o 0 p q r s t u w y z) N ak 0 a d e f h i j l m else aj
def vo:=b Lib.cW λr0=>ah r0
def c:=λa d e f h i j l m=>(vo a d e f h i j l m).isSome
def v:=λa d e f h i j l m=>(vo a d e f h i j l m).getD ak
theorem out{x}:∀a d e f h i j l m,vo a d e f h i j l m=ah x->c a d e f h i j l m=ai/\v a d e f h i j l m=x:=λ_ _ _ _ _ _ _ _ _=>Lib.dh
end pe

namespace wQ
def r2(N:aF)(g k0 k1:ml R)(a:aq)(d:aX)(e f:aw)(h i j l:aQ)(m:aw)(o p:aQ)(q:aw)(r:aq)(s t:aw)(u:aq):az R:=bif decide (e<(h.length:aw))then bif decide (0<=e)&&decide (e<(h.length:aw))then bif bZ (bw (ar h e.toNat 0)).toList (aC a)then bif decide (0<=e)&&decide (e<(h.length:aw))then k0 a ai e f h i j l m o p q (bw (ar h e.toNat 0)) (bF (ar h e.toNat 1)) (bF (ar h e.toNat (1+1))) (bw (ar h e.toNat (1+1+1)))else aj else g a d (bJ (e+1)) f h i j l m o p q r s t u else aj else k1 a d e f h i j l m o p q r s t u
def l2(N:aF)(k0 k1:ml R):aF->ml R
 |0=>λ_ _ _ _ _ _ _ _ _ _ _ _ _ _ _ _=>aj
 |n+1=>r2 N (l2 N k0 k1 n) k0 k1
def b(N:aF)(kr:wE R)(a:aw)(d e f h:aQ)(i:aw)(j l:aQ)(m:aw)(o:aq):az R:=l2 N (λ_ p _ _ _ _ _ _ _ _ _ _ q r s t=>kr q r s t p) (λ_ _ _ _ _ _ _ _ _ _ _ _ _ _ _ _=>kr ⟨#[]⟩ 0 0 ⟨#[]⟩ ak) N o ak 0 a d e f h i j l m ⟨#[]⟩ 0 0 ⟨#[]⟩
def vo:=b Lib.cW λr0 r1 r2 r3 r4=>ah (r0,r1,r2,r3,r4)
def c:=λa d e f h i j l m o=>(vo a d e f h i j l m o).isSome
def v:=λa d e f h i j l m o=>(vo a d e f h i j l m o).getD (⟨#[]⟩,0,0,⟨#[]⟩,ak)
theorem out{x}:∀a d e f h i j l m o,vo a d e f h i j l m o=ah x->c a d e f h i j l m o=ai/\v a d e f h i j l m o=x:=λ_ _ _ _ _ _ _ _ _ _=>Lib.dh
end wQ

namespace vR
def b(kr:aX->az R)(a:aq)(d e:aw)(f:aq)(h:aw):az R:=bif nb.v a d e f then bif kl.v h d 1000000000 then kr (decide (bJ (h-d)<e))else kr ak else kr ak
def v(a0:aq)(a1 a2:aw)(a3:aq)(a4:aw):aX:=bif nb.v a0 a1 a2 a3 then bif kl.v a4 a1 1000000000 then decide (bJ (a4-a1)<a2)else ak else ak
theorem eG(kr:aX->az R)(a0:aq)(a1 a2:aw)(a3:aq)(a4:aw):b kr a0 a1 a2 a3 a4=kr (v a0 a1 a2 a3 a4):=by first|rfl|(unfold b v;simp only[cM];(repeat' split)<;>rfl)
end vR

namespace jU
def r6(N:aF)(g k0:yK R)(a:aw)(d:aq)(e f:aw):az R:=bif decide (f<8)then bif decide (cz a 2=1)then g (bE eI (↑(dW (mh (cf 32 (bE eI (cR a 2))) (cf 32 3558460437))):aw)) d e (bJ (f+1))else g (bE eI (cR a 2)) d e (bJ (f+1))else k0 a d e f
def l6(N:aF)(k0:yK R):aF->yK R
 |0=>λ_ _ _ _=>aj
 |n+1=>r6 N (l6 N k0 n) k0
def r2(N:aF)(g k0:Em R)(a:aw)(d:aq)(e:aw):az R:=bif decide (e<(d.size:aw))then bif decide (0<=e)&&decide (e<(d.size:aw))then l6 N (λf h i _=>g f h (bJ (i+1))) N (bE eI (↑(dW (mh (cf 32 a) (cf 32 (bE eI (↑(gQ d e.toNat):aw))))):aw)) d e 0 else aj else k0 a d e
def l2(N:aF)(k0:Em R):aF->Em R
 |0=>λ_ _ _=>aj
 |n+1=>r2 N (l2 N k0 n) k0
def b(N:aF)(kr:aw->az R)(a:aw)(d:aq):az R:=l2 N (λe _ _=>kr e) N a d 0
def vo:=b Lib.cW λr0=>ah r0
def c:=λa d=>(vo a d).isSome
def v:=λa d=>(vo a d).getD (0)
theorem out{x}:∀a d,vo a d=ah x->c a d=ai/\v a d=x:=λ_ _=>Lib.dh
end jU

namespace vU
def b(kr:aw->az R)(a:aq):az R:=bif jU.c 4294967295 a then kr (jU.v 4294967295 a)else aj
def vo:=b λr0=>ah r0
def c:=λa=>(vo a).isSome
def v:=λa=>(vo a).getD (0)
theorem out{x}:∀a,vo a=ah x->c a=ai/\v a=x:=λ_=>Lib.dh
end vU

namespace gn
def b(kr:aw->az R)(a:aw)(d:aq):az R:=bif decide (d.size+(bytesOf (aD (aP [Ck.i bh] 1) 0 [CV.i bh (bE bh a)])).size<=4611686018427387904)then bif vU.c (d++bytesOf (aD (aP [Ck.i bh] 1) 0 [CV.i bh (bE bh a)]))then kr (bJ (cz (vU.v (d++bytesOf (aD (aP [Ck.i bh] 1) 0 [CV.i bh (bE bh a)]))) 16))else aj else aj
def vo:=b λr0=>ah r0
def c:=λa d=>(vo a d).isSome
def v:=λa d=>(vo a d).getD (0)
theorem out{x}:∀a d,vo a d=ah x->c a d=ai/\v a d=x:=λ_ _=>Lib.dh
end gn

namespace dx
def r17(N:aF)(g k0:ug R)(a d e f:aw)(h:aQ):az R:=bif decide (0<=a)&&decide (a<(h.length:aw))then bif decide (d<((jx (ar h a.toNat 0)).length:aw))then bif decide (0<=a)&&decide (a<(h.length:aw))then bif decide (0<=a)&&decide (a<(h.length:aw))then bif decide (0<=d)&&decide (d<((jx (ar h a.toNat 0)).length:aw))then bif decide (0<=d)&&decide (d<((jx (ar h a.toNat 0)).length:aw))then g a (bJ (d+1)) e f (eJ h a.toNat 0 [CV.l 3 (eJ (jx (ar h a.toNat 0)) d.toNat 0 [.i .i64 (bJ (cR (bF (ar (jx (ar h a.toNat 0)) d.toNat 0)) 2))])])else aj else aj else aj else aj else k0 a d e f h else aj
def l17(N:aF)(k0:ug R):aF->ug R
 |0=>λ_ _ _ _ _=>aj
 |n+1=>r17 N (l17 N k0 n) k0
def r14(N:aF)(g k0:jJ R)(a d e:aw)(f:aQ):az R:=bif decide (a<(f.length:aw))then l17 N (λh _ i j l=>g (bJ (h+1)) i j l) N a 0 d e f else k0 a d e f
def l14(N:aF)(k0:jJ R):aF->jJ R
 |0=>λ_ _ _ _=>aj
 |n+1=>r14 N (l14 N k0 n) k0
def r5(N:aF)(g k0:FN R)(a:aq)(d e f:aw)(h:aQ):az R:=bif decide (d<(h.length:aw))then bif gn.c d a then bif decide (0<=d)&&decide (d<(h.length:aw))then bif decide (0<=gn.v d a)&&decide (gn.v d a<((jx (ar h d.toNat 0)).length:aw))then bif decide (bF (ar (jx (ar h d.toNat 0)) (gn.v d a).toNat 0)<15)then bif decide (0<=d)&&decide (d<(h.length:aw))then bif decide (0<=gn.v d a)&&decide (gn.v d a<((jx (ar h d.toNat 0)).length:aw))then bif decide (0<=gn.v d a)&&decide (gn.v d a<((jx (ar h d.toNat 0)).length:aw))then g a (bJ (d+1)) e f (eJ h d.toNat 0 [CV.l 3 (eJ (jx (ar h d.toNat 0)) (gn.v d a).toNat 0 [.i .i64 (bJ (bF (ar (jx (ar h d.toNat 0)) (gn.v d a).toNat 0)+1))])])else aj else aj else aj else g a (bJ (d+1)) e f h else aj else aj else aj else k0 a d e f h
def l5(N:aF)(k0:FN R):aF->FN R
 |0=>λ_ _ _ _ _=>aj
 |n+1=>r5 N (l5 N k0 n) k0
def b(N:aF)(kr:DB R)(a:aQ)(d:aw)(e:aq):az R:=bif n8.c a d then bif fG.c a d then bif !fG.v a d then kr (n8.v a d).1 (n8.v a d).2 else l5 N (λ_ _ f h i=>bif decide (bJ (h+1)=64)then l14 N (λ_ _ j l=>kr l j) N 0 f 0 i else kr i (bJ (h+1))) N e 0 0 (n8.v a d).2 (n8.v a d).1 else aj else aj
def vo:=b Lib.cW λr0 r1=>ah (r0,r1)
def c:=λa d e=>(vo a d e).isSome
def v:=λa d e=>(vo a d e).getD ([],0)
theorem out{x}:∀a d e,vo a d e=ah x->c a d e=ai/\v a d e=x:=λ_ _ _=>Lib.dh
end dx

namespace pd
def r3(N:aF)(g k0:yN R)(a:aQ)(d:aq)(e:aw)(f:aQ):az R:=bif decide (e<(a.length:aw))then bif decide (0<=e)&&decide (e<(a.length:aw))then bif !List.beq (bw (ar a e.toNat 0)).toList (aC d)then bif decide (0<=e)&&decide (e<(a.length:aw))then bif cy (f.length+(aD (aP [.s] 1) 0 [.s (bw (ar a e.toNat 0))]).length) 16 then g a d (bJ (e+1)) (f++aD (aP [.s] 1) 0 [.s (bw (ar a e.toNat 0))])else aj else aj else g a d (bJ (e+1)) f else aj else k0 a d e f
def l3(N:aF)(k0:yN R):aF->yN R
 |0=>λ_ _ _ _=>aj
 |n+1=>r3 N (l3 N k0 n) k0
def b(N:aF)(kr:aQ->az R)(a:aQ)(d:aq):az R:=l3 N (λ_ _ _ e=>kr e) N a d 0 (aP [.s] 0)
def vo:=b Lib.cW λr0=>ah r0
def c:=λa d=>(vo a d).isSome
def v:=λa d=>(vo a d).getD ([])
theorem out{x}:∀a d,vo a d=ah x->c a d=ai/\v a d=x:=λ_ _=>Lib.dh
end pd

namespace mH
def r5(N:aF)(g k0:FO R)(a:aq)(d e:aw)(f:aQ)(h:aw):az R:=bif decide (e<(f.length:aw))then bif decide (0<=e)&&decide (e<(f.length:aw))then bif gn.c e a then bif decide (0<=gn.v e a)&&decide (gn.v e a<((jx (ar f e.toNat 0)).length:aw))then bif decide (bF (ar (jx (ar f e.toNat 0)) (gn.v e a).toNat 0)<d)then g a (bF (ar (jx (ar f e.toNat 0)) (gn.v e a).toNat 0)) (bJ (e+1)) f h else g a d (bJ (e+1)) f h else aj else aj else aj else k0 a d e f h
def l5(N:aF)(k0:FO R):aF->FO R
 |0=>λ_ _ _ _ _=>aj
 |n+1=>r5 N (l5 N k0 n) k0
def b(N:aF)(kr:aw->az R)(a:aQ)(d:aw)(e:aq):az R:=bif fG.c a d then bif !fG.v a d then kr 0 else l5 N (λ_ f _ _ _=>kr f) N e 15 0 a d else aj
def vo:=b Lib.cW λr0=>ah r0
def c:=λa d e=>(vo a d e).isSome
def v:=λa d e=>(vo a d e).getD (0)
theorem out{x}:∀a d e,vo a d e=ah x->c a d e=ai/\v a d e=x:=λ_ _ _=>Lib.dh
end mH

namespace e8
def b(kr:Mi R)(a d e:aQ)(f:aw)(h:aq):az R:=bif gb.c a d e f then bif jA.c a d e f then bif !jA.v a d e f then kr (gb.v a d e f).1 (gb.v a d e f).2.1 (gb.v a d e f).2.2.1 (gb.v a d e f).2.2.2 ⟨#[]⟩else bif !s8.v h then kr (gb.v a d e f).1 (gb.v a d e f).2.1 (gb.v a d e f).2.2.1 (gb.v a d e f).2.2.2 ⟨#[]⟩else bif dx.c e f h then bif fm.c a h then bif fm.v a h then bif pd.c a h then bif cy ((pd.v a h).length+(aD (aP [.s] 1) 0 [.s h]).length) 16 then kr (pd.v a h++aD (aP [.s] 1) 0 [.s h]) (gb.v a d e f).2.1 (dx.v e f h).1 (dx.v e f h).2 ⟨#[]⟩else aj else aj else bif fm.c d h then bif fm.v d h then bif pd.c d h then bif cy ((pd.v d h).length+(aD (aP [.s] 1) 0 [.s h]).length) 16 then kr (gb.v a d e f).1 (pd.v d h++aD (aP [.s] 1) 0 [.s h]) (dx.v e f h).1 (dx.v e f h).2 ⟨#[]⟩else aj else aj else bif cy ((gb.v a d e f).1.length+(aD (aP [.s] 1) 0 [.s h]).length) 16 then bif decide ((((gb.v a d e f).1++aD (aP [.s] 1) 0 [.s h]).length:aw)<=2)then kr ((gb.v a d e f).1++aD (aP [.s] 1) 0 [.s h]) (gb.v a d e f).2.1 (dx.v e f h).1 (dx.v e f h).2 ⟨#[]⟩else bif decide (0<(((gb.v a d e f).1++aD (aP [.s] 1) 0 [.s h]).length:aw))then bif g7 1 (((gb.v a d e f).1++aD (aP [.s] 1) 0 [.s h]).length:aw) (((gb.v a d e f).1++aD (aP [.s] 1) 0 [.s h]).length:aw)then bif cy ((aP [.s] 0).length+(eA ((gb.v a d e f).1++aD (aP [.s] 1) 0 [.s h]) (aW 1) (((gb.v a d e f).1++aD (aP [.s] 1) 0 [.s h]).length:aw).toNat).length) 16 then bif decide (((gb.v a d e f).2.1.length:aw)<4)then bif cy ((gb.v a d e f).2.1.length+(aD (aP [.s] 1) 0 [.s (bw (ar ((gb.v a d e f).1++aD (aP [.s] 1) 0 [.s h]) (aW 0) 0))]).length) 16 then kr (aP [.s] 0++eA ((gb.v a d e f).1++aD (aP [.s] 1) 0 [.s h]) (aW 1) (((gb.v a d e f).1++aD (aP [.s] 1) 0 [.s h]).length:aw).toNat) ((gb.v a d e f).2.1++aD (aP [.s] 1) 0 [.s (bw (ar ((gb.v a d e f).1++aD (aP [.s] 1) 0 [.s h]) (aW 0) 0))]) (dx.v e f h).1 (dx.v e f h).2 ⟨#[]⟩else aj else bif mH.c (dx.v e f h).1 (dx.v e f h).2 (bw (ar ((gb.v a d e f).1++aD (aP [.s] 1) 0 [.s h]) (aW 0) 0))then bif decide (0<((gb.v a d e f).2.1.length:aw))then bif mH.c (dx.v e f h).1 (dx.v e f h).2 (bw (ar (gb.v a d e f).2.1 (aW 0) 0))then bif decide (mH.v (dx.v e f h).1 (dx.v e f h).2 (bw (ar ((gb.v a d e f).1++aD (aP [.s] 1) 0 [.s h]) (aW 0) 0))>mH.v (dx.v e f h).1 (dx.v e f h).2 (bw (ar (gb.v a d e f).2.1 (aW 0) 0)))then bif decide (0<((gb.v a d e f).2.1.length:aw))then bif g7 1 ((gb.v a d e f).2.1.length:aw) ((gb.v a d e f).2.1.length:aw)then bif cy ((aP [.s] 0).length+(eA (gb.v a d e f).2.1 (aW 1) ((gb.v a d e f).2.1.length:aw).toNat).length) 16 then bif cy ((aP [.s] 0++eA (gb.v a d e f).2.1 (aW 1) ((gb.v a d e f).2.1.length:aw).toNat).length+(aD (aP [.s] 1) 0 [.s (bw (ar ((gb.v a d e f).1++aD (aP [.s] 1) 0 [.s h]) (aW 0) 0))]).length) 16 then kr (aP [.s] 0++eA ((gb.v a d e f).1++aD (aP [.s] 1) 0 [.s h]) (aW 1) (((gb.v a d e f).1++aD (aP [.s] 1) 0 [.s h]).length:aw).toNat) (aP [.s] 0++eA (gb.v a d e f).2.1 (aW 1) ((gb.v a d e f).2.1.length:aw).toNat++aD (aP [.s] 1) 0 [.s (bw (ar ((gb.v a d e f).1++aD (aP [.s] 1) 0 [.s h]) (aW 0) 0))]) (dx.v e f h).1 (dx.v e f h).2 (bw (ar (gb.v a d e f).2.1 (aW 0) 0))else aj else aj else aj else aj else kr (aP [.s] 0++eA ((gb.v a d e f).1++aD (aP [.s] 1) 0 [.s h]) (aW 1) (((gb.v a d e f).1++aD (aP [.s] 1) 0 [.s h]).length:aw).toNat) (gb.v a d e f).2.1 (dx.v e f h).1 (dx.v e f h).2 (bw (ar ((gb.v a d e f).1++aD (aP [.s] 1) 0 [.s h]) (aW 0) 0))else aj else aj else aj else aj else aj else aj else aj else aj else aj else aj else aj else aj
def vo:=b λr0 r1 r2 r3 r4=>ah (r0,r1,r2,r3,r4)
def c:=λa d e f h=>(vo a d e f h).isSome
def v:=λa d e f h=>(vo a d e f h).getD ([],[],[],0,⟨#[]⟩)
theorem out{x}:∀a d e f h,vo a d e f h=ah x->c a d e f h=ai/\v a d e f h=x:=λ_ _ _ _ _=>Lib.dh
end e8

namespace lR
def r9(N:aF)(g k0:kX R)(a:aQ)(d e:aw)(f:aq)(h i j:aw)(l:aq)(m:aw)(o:aQ):az R:=bif decide (d<(a.length:aw))then bif decide (0<=d)&&decide (d<(a.length:aw))then bif decide (bF (ar a d.toNat 0)>e)then bif decide (0<=d)&&decide (d<(a.length:aw))then bif cy (o.length+(aD (aP [Ck.i ao,Ck.s,Ck.i ao,Ck.i ao,Ck.i ao,Ck.s,Ck.i ao] 1) 0 [.i .i64 (bF (ar a d.toNat 0)), .s (bw (ar a d.toNat 1)), .i .i64 (bF (ar a d.toNat (1+1))), .i .i64 (bF (ar a d.toNat (1+1+1))), .i .i64 (bF (ar a d.toNat (1+1+1+1))), .s (bw (ar a d.toNat (1+1+1+1+1))), .i .i64 (bF (ar a d.toNat (1+1+1+1+1+1)))]).length) 72 then g a (bJ (d+1)) e f h i j l m (o++aD (aP [Ck.i ao,Ck.s,Ck.i ao,Ck.i ao,Ck.i ao,Ck.s,Ck.i ao] 1) 0 [.i .i64 (bF (ar a d.toNat 0)), .s (bw (ar a d.toNat 1)), .i .i64 (bF (ar a d.toNat (1+1))), .i .i64 (bF (ar a d.toNat (1+1+1))), .i .i64 (bF (ar a d.toNat (1+1+1+1))), .s (bw (ar a d.toNat (1+1+1+1+1))), .i .i64 (bF (ar a d.toNat (1+1+1+1+1+1)))])else aj else aj else g a (bJ (d+1)) e f h i j l m o else aj else k0 a d e f h i j l m o
def l9(N:aF)(k0:kX R):aF->kX R
 |0=>λ_ _ _ _ _ _ _ _ _ _=>aj
 |n+1=>r9 N (l9 N k0 n) k0
def r3(N:aF)(g k0:kX R)(a:aQ)(d e:aw)(f:aq)(h i j:aw)(l:aq)(m:aw)(o:aQ):az R:=bif decide (d<(a.length:aw))then bif decide (0<=d)&&decide (d<(a.length:aw))then bif decide (bF (ar a d.toNat 0)<e)then bif decide (0<=d)&&decide (d<(a.length:aw))then bif cy (o.length+(aD (aP [Ck.i ao,Ck.s,Ck.i ao,Ck.i ao,Ck.i ao,Ck.s,Ck.i ao] 1) 0 [.i .i64 (bF (ar a d.toNat 0)), .s (bw (ar a d.toNat 1)), .i .i64 (bF (ar a d.toNat (1+1))), .i .i64 (bF (ar a d.toNat (1+1+1))), .i .i64 (bF (ar a d.toNat (1+1+1+1))), .s (bw (ar a d.toNat (1+1+1+1+1))), .i .i64 (bF (ar a d.toNat (1+1+1+1+1+1)))]).length) 72 then g a (bJ (d+1)) e f h i j l m (o++aD (aP [Ck.i ao,Ck.s,Ck.i ao,Ck.i ao,Ck.i ao,Ck.s,Ck.i ao] 1) 0 [.i .i64 (bF (ar a d.toNat 0)), .s (bw (ar a d.toNat 1)), .i .i64 (bF (ar a d.toNat (1+1))), .i .i64 (bF (ar a d.toNat (1+1+1))), .i .i64 (bF (ar a d.toNat (1+1+1+1))), .s (bw (ar a d.toNat (1+1+1+1+1))), .i .i64 (bF (ar a d.toNat (1+1+1+1+1+1)))])else aj else aj else g a (bJ (d+1)) e f h i j l m o else aj else k0 a d e f h i j l m o
def l3(N:aF)(k0:kX R):aF->kX R
 |0=>λ_ _ _ _ _ _ _ _ _ _=>aj
 |n+1=>r3 N (l3 N k0 n) k0
def b(N:aF)(kr:aQ->az R)(a:aQ)(d:aw)(e:aq)(f h i:aw)(j:aq)(l:aw):az R:=l3 N (λm _ o p q r s t u w=>bif cy (w.length+(aD (aP [Ck.i ao,Ck.s,Ck.i ao,Ck.i ao,Ck.i ao,Ck.s,Ck.i ao] 1) 0 [.i .i64 o, .s p, .i .i64 q, .i .i64 r, .i .i64 s, .s t, .i .i64 u]).length) 72 then l9 N (λ_ _ _ _ _ _ _ _ _ y=>kr y) N m 0 o p q r s t u (w++aD (aP [Ck.i ao,Ck.s,Ck.i ao,Ck.i ao,Ck.i ao,Ck.s,Ck.i ao] 1) 0 [.i .i64 o, .s p, .i .i64 q, .i .i64 r, .i .i64 s, .s t, .i .i64 u])else aj) N a 0 d e f h i j l (aP [Ck.i ao,Ck.s,Ck.i ao,Ck.i ao,Ck.i ao,Ck.s,Ck.i ao] 0)
def vo:=b Lib.cW λr0=>ah r0
def c:=λa d e f h i j l=>(vo a d e f h i j l).isSome
def v:=λa d e f h i j l=>(vo a d e f h i j l).getD ([])
theorem out{x}:∀a d e f h i j l,vo a d e f h i j l=ah x->c a d e f h i j l=ai/\v a d e f h i j l=x:=λ_ _ _ _ _ _ _ _=>Lib.dh
end lR

namespace ql
def r3(N:aF)(g k0:yN R)(a:aQ)(d:aq)(e:aw)(f:aQ):az R:=bif decide (e<(a.length:aw))then bif decide (0<=e)&&decide (e<(a.length:aw))then bif !List.beq (bw (ar a e.toNat 0)).toList (aC d)then bif decide (0<=e)&&decide (e<(a.length:aw))then bif cy (f.length+(aD (aP [Ck.s,Ck.i ao,Ck.i ao,Ck.s] 1) 0 [.s (bw (ar a e.toNat 0)), .i .i64 (bF (ar a e.toNat 1)), .i .i64 (bF (ar a e.toNat (1+1))), .s (bw (ar a e.toNat (1+1+1)))]).length) 48 then g a d (bJ (e+1)) (f++aD (aP [Ck.s,Ck.i ao,Ck.i ao,Ck.s] 1) 0 [.s (bw (ar a e.toNat 0)), .i .i64 (bF (ar a e.toNat 1)), .i .i64 (bF (ar a e.toNat (1+1))), .s (bw (ar a e.toNat (1+1+1)))])else aj else aj else g a d (bJ (e+1)) f else aj else k0 a d e f
def l3(N:aF)(k0:yN R):aF->yN R
 |0=>λ_ _ _ _=>aj
 |n+1=>r3 N (l3 N k0 n) k0
def b(N:aF)(kr:aQ->az R)(a:aQ)(d:aq):az R:=l3 N (λ_ _ _ e=>kr e) N a d 0 (aP [Ck.s,Ck.i ao,Ck.i ao,Ck.s] 0)
def vo:=b Lib.cW λr0=>ah r0
def c:=λa d=>(vo a d).isSome
def v:=λa d=>(vo a d).getD ([])
theorem out{x}:∀a d,vo a d=ah x->c a d=ai/\v a d=x:=λ_ _=>Lib.dh
end ql

namespace va
def b(kr:s6 R)(a d e:aQ)(f:aw)(h:aq):az R:=bif pd.c a h then bif pd.c d h then bif n8.c e f then kr (pd.v a h) (pd.v d h) (n8.v e f).1 (n8.v e f).2 else aj else aj else aj
def vo:=b λr0 r1 r2 r3=>ah (r0,r1,r2,r3)
def c:=λa d e f h=>(vo a d e f h).isSome
def v:=λa d e f h=>(vo a d e f h).getD ([],[],[],0)
theorem out{x}:∀a d e f h,vo a d e f h=ah x->c a d e f h=ai/\v a d e f h=x:=λ_ _ _ _ _=>Lib.dh
end va

namespace wM
def r22(N:aF)(g k0:gv R)(a:aq)(d:aX)(e f:aw)(h i j l:aQ)(m:aw)(o p:aQ)(q r s t u w y z:aw)(α:aq)(xa xb xc:aw)(xd:aq)(xe:aw)(xf xg xh xi xj xk:aQ):az R:=bif decide (e<(o.length:aw))then bif decide (0<=e)&&decide (e<(o.length:aw))then bif bZ (bw (ar o e.toNat 0)).toList (aC a)then bif decide (0<=e)&&decide (e<(o.length:aw))then bif decide (bF (ar o e.toNat 2)=1)then bif decide (0<=e)&&decide (e<(o.length:aw))then g a d (bJ (e+1)) f h i j l m o p q r s t u w y z α (bJ (e+1)) xb xc (bw (ar o e.toNat 1)) xe xf xg xh xi xj xk else aj else g a d (bJ (e+1)) f h i j l m o p q r s t u w y z α xa xb xc xd xe xf xg xh xi xj xk else aj else g a d (bJ (e+1)) f h i j l m o p q r s t u w y z α xa xb xc xd xe xf xg xh xi xj xk else aj else k0 a d e f h i j l m o p q r s t u w y z α xa xb xc xd xe xf xg xh xi xj xk
def Yd(N:aF)(k0:gv R):aF->gv R
 |0=>λ_ _ _ _ _ _ _ _ _ _ _ _ _ _ _ _ _ _ _ _ _ _ _ _ _ _ _ _ _ _ _=>aj
 |n+1=>r22 N (Yd N k0 n) k0
def r5(N:aF)(g k0 k1:iO R)(a:aw)(d:aq)(e f h:aw)(i j l m:aQ)(o:aw)(p q:aQ)(r s t u w y z:aw)(α xa xb xc xd xe:aQ):az R:=bif decide (f<(q.length:aw))then bif decide (0<=f)&&decide (f<(q.length:aw))then bif decide (bF (ar q f.toNat 0)=a)then k0 a d 1 f h i j l m o p q r w y z w y z α xa xb xc xd xe else g a d e (bJ (f+1)) h i j l m o p q r s t u w y z α xa xb xc xd xe else aj else k1 a d e f h i j l m o p q r s t u w y z α xa xb xc xd xe
def l5(N:aF)(k0 k1:iO R):aF->iO R
 |0=>λ_ _ _ _ _ _ _ _ _ _ _ _ _ _ _ _ _ _ _ _ _ _ _ _ _=>aj
 |n+1=>r5 N (l5 N k0 k1 n) k0 k1
def b(N:aF)(kr:wD R)(a:aw)(d e f h:aQ)(i:aw)(j l:aQ)(m o:aw)(p:aq):az R:=bif fQ.c a d e f h i j l m then Lib.lt (fQ.v a d e f h i j l m) λq=>bif pe.c a d e f h i j l m then Lib.lt (pe.v a d e f h i j l m) λr=>bif !r then kr q.1 q.2.1 q.2.2.1 q.2.2.2.1 q.2.2.2.2.1 q.2.2.2.2.2.1 q.2.2.2.2.2.2.1 q.2.2.2.2.2.2.2.1 q.2.2.2.2.2.2.2.2 1 else bif !kl.v o 1 9 then kr q.1 q.2.1 q.2.2.1 q.2.2.2.1 q.2.2.2.2.1 q.2.2.2.2.2.1 q.2.2.2.2.2.2.1 q.2.2.2.2.2.2.2.1 q.2.2.2.2.2.2.2.2 1 else bif !s8.v p then kr q.1 q.2.1 q.2.2.1 q.2.2.2.1 q.2.2.2.2.1 q.2.2.2.2.2.1 q.2.2.2.2.2.2.1 q.2.2.2.2.2.2.2.1 q.2.2.2.2.2.2.2.2 1 else bif decide ((l.length:aw)≥6)then kr q.1 q.2.1 q.2.2.1 q.2.2.2.1 q.2.2.2.2.1 q.2.2.2.2.2.1 q.2.2.2.2.2.2.1 q.2.2.2.2.2.2.2.1 q.2.2.2.2.2.2.2.2 1 else l5 N (λ_ _ s _ _ _ _ _ _ _ _ _ _ t u w _ _ _ y z α xa xb xc=>kr t y z α xa u xb xc w s) (λs t _ _ u w y z α xa xb xc xd xe xf xg xh xi xj xk xl xm xn xo xp=>bif wQ.c u w y z α xa xb xc xd t then Lib.lt (wQ.v u w y z α xa xb xc xd t) λxq=>bif xq.2.2.2.2 then bif vR.v xq.1 xq.2.1 xq.2.2.1 xq.2.2.2.1 u then bif e8.c y z α xa t then Lib.lt (e8.v y z α xa t) λxr=>bif decide (xj<1000000000)then bif lR.c xp s t 0 xq.2.1 2 xq.2.2.2.1 (bJ (u-xq.2.1))then Lib.lt (lR.v xp s t 0 xq.2.1 2 xq.2.2.2.1 (bJ (u-xq.2.1))) λxs=>kr xh xk xr.1 xr.2.1 xr.2.2.1 xr.2.2.2.1 xo xs (bJ (xj+1)) 0 else aj else bif lR.c xp s t 0 xq.2.1 2 xq.2.2.2.1 (bJ (u-xq.2.1))then Lib.lt (lR.v xp s t 0 xq.2.1 2 xq.2.2.2.1 (bJ (u-xq.2.1))) λxs=>kr xh xk xr.1 xr.2.1 xr.2.2.1 xr.2.2.2.1 xo xs xj 0 else aj else aj else Yd N (λxr xs _ _ _ _ _ _ _ xt _ _ _ _ _ xu xv xw xx xy xz ya yb yc yd ye yf yg yh yi yj=>bif decide (xz=0)then bif decide ((xt.length:aw)≥20)then kr xu ye yf yg yh xv yi yj xw 2 else bif cy (yi.length+(aD (aP [Ck.s,Ck.s,Ck.i ao,Ck.i ao,Ck.i ao] 1) 0 [.s xr, .s ⟨#[]⟩, .i .i64 1, .i .i64 0, .i .i64 0]).length) 56 then bif xs then bif ql.c ye xr then Lib.lt (ql.v ye xr) λyk=>bif va.c yf yg yh xv xr then Lib.lt (va.v yf yg yh xv xr) λyl=>bif dx.c yl.2.2.1 yl.2.2.2 xr then Lib.lt (dx.v yl.2.2.1 yl.2.2.2 xr) λym=>bif lR.c yj xx xy ((yi++aD (aP [Ck.s,Ck.s,Ck.i ao,Ck.i ao,Ck.i ao] 1) 0 [.s xr, .s ⟨#[]⟩, .i .i64 1, .i .i64 0, .i .i64 0]).length:aw) ya yb yc yd then Lib.lt (lR.v yj xx xy ((yi++aD (aP [Ck.s,Ck.s,Ck.i ao,Ck.i ao,Ck.i ao] 1) 0 [.s xr, .s ⟨#[]⟩, .i .i64 1, .i .i64 0, .i .i64 0]).length:aw) ya yb yc yd) λyn=>kr xu yk yl.1 yl.2.1 ym.1 ym.2 (yi++aD (aP [Ck.s,Ck.s,Ck.i ao,Ck.i ao,Ck.i ao] 1) 0 [.s xr, .s ⟨#[]⟩, .i .i64 1, .i .i64 0, .i .i64 0]) yn xw 0 else aj else aj else aj else aj else bif dx.c yh xv xr then Lib.lt (dx.v yh xv xr) λyk=>bif lR.c yj xx xy ((yi++aD (aP [Ck.s,Ck.s,Ck.i ao,Ck.i ao,Ck.i ao] 1) 0 [.s xr, .s ⟨#[]⟩, .i .i64 1, .i .i64 0, .i .i64 0]).length:aw) ya yb yc yd then Lib.lt (lR.v yj xx xy ((yi++aD (aP [Ck.s,Ck.s,Ck.i ao,Ck.i ao,Ck.i ao] 1) 0 [.s xr, .s ⟨#[]⟩, .i .i64 1, .i .i64 0, .i .i64 0]).length:aw) ya yb yc yd) λyl=>kr xu ye yf yg yk.1 yk.2 (yi++aD (aP [Ck.s,Ck.s,Ck.i ao,Ck.i ao,Ck.i ao] 1) 0 [.s xr, .s ⟨#[]⟩, .i .i64 1, .i .i64 0, .i .i64 0]) yl xw 0 else aj else aj else aj else bif xs then bif ql.c ye xr then Lib.lt (ql.v ye xr) λyk=>bif va.c yf yg yh xv xr then Lib.lt (va.v yf yg yh xv xr) λyl=>bif dx.c yl.2.2.1 yl.2.2.2 xr then Lib.lt (dx.v yl.2.2.1 yl.2.2.2 xr) λym=>bif lR.c yj xx xy xz ya yb yc yd then Lib.lt (lR.v yj xx xy xz ya yb yc yd) λyn=>kr xu yk yl.1 yl.2.1 ym.1 ym.2 yi yn xw 0 else aj else aj else aj else aj else bif dx.c yh xv xr then Lib.lt (dx.v yh xv xr) λyk=>bif lR.c yj xx xy xz ya yb yc yd then Lib.lt (lR.v yj xx xy xz ya yb yc yd) λyl=>kr xu ye yf yg yk.1 yk.2 yi yl xw 0 else aj else aj) N t xq.2.2.2.2 0 u w y z α xa xb xc xd xe xf xg xh xi xj s t 0 0 1 ⟨#[]⟩ 0 xk xl xm xn xo xp else Yd N (λxr xs _ _ _ _ _ _ _ xt _ _ _ _ _ xu xv xw xx xy xz ya yb yc yd ye yf yg yh yi yj=>bif decide (xz=0)then bif decide ((xt.length:aw)≥20)then kr xu ye yf yg yh xv yi yj xw 2 else bif cy (yi.length+(aD (aP [Ck.s,Ck.s,Ck.i ao,Ck.i ao,Ck.i ao] 1) 0 [.s xr, .s ⟨#[]⟩, .i .i64 1, .i .i64 0, .i .i64 0]).length) 56 then bif xs then bif ql.c ye xr then Lib.lt (ql.v ye xr) λyk=>bif va.c yf yg yh xv xr then Lib.lt (va.v yf yg yh xv xr) λyl=>bif dx.c yl.2.2.1 yl.2.2.2 xr then Lib.lt (dx.v yl.2.2.1 yl.2.2.2 xr) λym=>bif lR.c yj xx xy ((yi++aD (aP [Ck.s,Ck.s,Ck.i ao,Ck.i ao,Ck.i ao] 1) 0 [.s xr, .s ⟨#[]⟩, .i .i64 1, .i .i64 0, .i .i64 0]).length:aw) ya yb yc yd then Lib.lt (lR.v yj xx xy ((yi++aD (aP [Ck.s,Ck.s,Ck.i ao,Ck.i ao,Ck.i ao] 1) 0 [.s xr, .s ⟨#[]⟩, .i .i64 1, .i .i64 0, .i .i64 0]).length:aw) ya yb yc yd) λyn=>kr xu yk yl.1 yl.2.1 ym.1 ym.2 (yi++aD (aP [Ck.s,Ck.s,Ck.i ao,Ck.i ao,Ck.i ao] 1) 0 [.s xr, .s ⟨#[]⟩, .i .i64 1, .i .i64 0, .i .i64 0]) yn xw 0 else aj else aj else aj else aj else bif dx.c yh xv xr then Lib.lt (dx.v yh xv xr) λyk=>bif lR.c yj xx xy ((yi++aD (aP [Ck.s,Ck.s,Ck.i ao,Ck.i ao,Ck.i ao] 1) 0 [.s xr, .s ⟨#[]⟩, .i .i64 1, .i .i64 0, .i .i64 0]).length:aw) ya yb yc yd then Lib.lt (lR.v yj xx xy ((yi++aD (aP [Ck.s,Ck.s,Ck.i ao,Ck.i ao,Ck.i ao] 1) 0 [.s xr, .s ⟨#[]⟩, .i .i64 1, .i .i64 0, .i .i64 0]).length:aw) ya yb yc yd) λyl=>kr xu ye yf yg yk.1 yk.2 (yi++aD (aP [Ck.s,Ck.s,Ck.i ao,Ck.i ao,Ck.i ao] 1) 0 [.s xr, .s ⟨#[]⟩, .i .i64 1, .i .i64 0, .i .i64 0]) yl xw 0 else aj else aj else aj else bif xs then bif ql.c ye xr then Lib.lt (ql.v ye xr) λyk=>bif va.c yf yg yh xv xr then Lib.lt (va.v yf yg yh xv xr) λyl=>bif dx.c yl.2.2.1 yl.2.2.2 xr then Lib.lt (dx.v yl.2.2.1 yl.2.2.2 xr) λym=>bif lR.c yj xx xy xz ya yb yc yd then Lib.lt (lR.v yj xx xy xz ya yb yc yd) λyn=>kr xu yk yl.1 yl.2.1 ym.1 ym.2 yi yn xw 0 else aj else aj else aj else aj else bif dx.c yh xv xr then Lib.lt (dx.v yh xv xr) λyk=>bif lR.c yj xx xy xz ya yb yc yd then Lib.lt (lR.v yj xx xy xz ya yb yc yd) λyl=>kr xu ye yf yg yk.1 yk.2 yi yl xw 0 else aj else aj) N t xq.2.2.2.2 0 u w y z α xa xb xc xd xe xf xg xh xi xj s t 0 0 1 ⟨#[]⟩ 0 xk xl xm xn xo xp else aj) N o p 0 0 a d e f h i j l m 0 0 0 q.1 q.2.2.2.2.2.1 q.2.2.2.2.2.2.2.2 q.2.1 q.2.2.1 q.2.2.2.1 q.2.2.2.2.1 q.2.2.2.2.2.2.1 q.2.2.2.2.2.2.2.1 else aj else aj
def vo:=b Lib.cW λr0 r1 r2 r3 r4 r5 r6 r7 r8 r9=>ah (r0,r1,r2,r3,r4,r5,r6,r7,r8,r9)
def c:=λa d e f h i j l m o p=>(vo a d e f h i j l m o p).isSome
def v:=λa d e f h i j l m o p=>(vo a d e f h i j l m o p).getD (0,[],[],[],[],0,[],[],0,0)
theorem out{x}:∀a d e f h i j l m o p,vo a d e f h i j l m o p=ah x->c a d e f h i j l m o p=ai/\v a d e f h i j l m o p=x:=λ_ _ _ _ _ _ _ _ _ _ _=>Lib.dh
end wM

namespace vd
def b(kr:aX->az R)(a:aw)(d e f h:aQ)(i:aw)(j l:aQ)(m o:aw):az R:=bif pe.c a d e f h i j l m then bif pe.v a d e f h i j l m then bif kl.v o 0 (bJ ((j.length:aw)-1))then bif decide (0<=o)&&decide (o<(j.length:aw))then kr (decide (bF (ar j o.toNat 2)=1))else aj else kr ak else kr ak else aj
def vo:=b λr0=>ah r0
def c:=λa d e f h i j l m o=>(vo a d e f h i j l m o).isSome
def v:=λa d e f h i j l m o=>(vo a d e f h i j l m o).getD ak
theorem out{x}:∀a d e f h i j l m o,vo a d e f h i j l m o=ah x->c a d e f h i j l m o=ai/\v a d e f h i j l m o=x:=λ_ _ _ _ _ _ _ _ _ _=>Lib.dh
end vd

namespace Kw
def b(kr:Mg R)(a:aw)(d:aq)(e:aQ):az R:=bif cy ((aP [Ck.i ao,Ck.i ao] 0).length+e.length) 16 then kr a d (aP [Ck.i ao,Ck.i ao] 0++e)else aj
def v(fX:aw)(e9:aq)(dG:aQ):aw×aq×aQ:=(fX,e9,dG)
def c(fX:aw)(e9:aq)(dG:aQ):aX:=decide (dG.length<=4294967296)
theorem eG(kr:Mg R)(fX:aw)(e9:aq)(dG:aQ)(hc:c fX e9 dG=ai):b kr fX e9 dG=kr (v fX e9 dG).1 (v fX e9 dG).2.1 (v fX e9 dG).2.2:=by have h:dG.length<=4294967296:=cu hc;unfold b;rw[show bT (aP [Ck.i ao,Ck.i ao] 0)+dG.length=dG.length by simp[aP],Lib.cj (by omega) (by omega)];rfl
end Kw

namespace lK
def r2(N:aF)(g k0 k1:FH R)(a:aX)(d e:aw)(f:aq)(h:aQ):az R:=bif decide (d<(h.length:aw))then bif decide (0<=d)&&decide (d<(h.length:aw))then bif !kl.v (bF (ar h d.toNat 0)) 1 9 then k0 ak d e f h else bif decide (d>0)then bif decide (0<=bJ (d-1))&&decide (bJ (d-1)<(h.length:aw))then bif decide (bF (ar h (bJ (d-1)).toNat 0)≥bF (ar h d.toNat 0))then k0 ak d e f h else bif !kl.v (bF (ar h d.toNat 1)) 0 (f.size:aw)then k0 ak d e f h else g a (bJ (d+1)) e f h else aj else bif !kl.v (bF (ar h d.toNat 1)) 0 (f.size:aw)then k0 ak d e f h else g a (bJ (d+1)) e f h else aj else k1 a d e f h
def l2(N:aF)(k0 k1:FH R):aF->FH R
 |0=>λ_ _ _ _ _=>aj
 |n+1=>r2 N (l2 N k0 k1 n) k0 k1
def b(N:aF)(kr:aX->az R)(a:aw)(d:aq)(e:aQ):az R:=l2 N (λf _ _ _ _=>kr f) (λ_ _ f h i=>bif kl.v f 1 3 then bif decide ((h.size:aw)<=400)then kr (decide ((i.length:aw)<=6))else kr ak else kr ak) N ak 0 a d e
def el(t:aq)(rs:aQ)(i:aF):aX:=decide (1<=bF (ar rs i 0)/\bF (ar rs i 0)<=9)&&(decide (0<=bF (ar rs i 1)/\bF (ar rs i 1)<=t.size)&&(i==0||decide (bF (ar rs (i-1) 0)<bF (ar rs i 0))))
def rest(st:aw)(t:aq)(rs:aQ):aX:=decide (1<=st/\st<=3)&&(decide (t.size<=400)&&decide (rs.length<=6))
def v(fX:aw)(e9:aq)(dG:aQ):aX:=(b9 dG.length).all (el e9 dG)&&rest fX e9 dG
theorem mZ(n a b:aw):kl.v n a b=decide (a<=n/\n<=b):=by unfold kl.v;by_cases h:a<=n<;>by_cases h2:n<=b<;>simp[h,h2]
theorem N1(st:aw)(t:aq)(rs:aQ){R:Type}(kr:aX->az R):(bif kl.v st 1 3 then bif decide ((t.size:aw)<=400)then kr (decide ((rs.length:aw)<=6))else kr ak else kr ak)=kr (rest st t rs):=by
 unfold rest;rw[mZ];have e1:decide ((t.size:aw)<=400)=decide (t.size<=400):=by rw[ch];omega
 have e2:decide ((rs.length:aw)<=6)=decide (rs.length<=6):=by rw[ch];omega
 rw[e1,e2];cases decide (1<=st/\st<=3)<;>cases decide (t.size<=400)<;>rfl
theorem Di{i:aF}(h:0<i)(hn:i<=9223372036854775807):bJ ((i:aw)-1)=((i-1:aF):aw):=by rw[iI (by omega) (by omega)];omega
theorem Ik(p:aF->aX){i n:aF}(h:i<n):(mo i (n-i)).all p=(p i&&(mo (i+1) (n-(i+1))).all p):=by rw[show n-i=(n-(i+1))+1 by omega,List.range'_succ,s7]
theorem eG(kr:aX->az R)(fX:aw)(e9:aq)(dG:aQ)(f0:D8 e9)(f1:vJ dG):∃N,b N kr fX e9 dG=kr (v fX e9 dG):=by
 refine⟨dG.length+1, ?_⟩
 unfold b;simp only[N1]
 have:=Lib.g8 (λn (i:aF)=>l2 (dG.length+1) (λy5 y6 y7 y8 y9=>kr y5) (λKc wx Md HJ Oz=>kr (rest Md HJ Oz)) n ak i fX e9 dG) (λi=>dG.length-i) (λi=>i<=dG.length)
  (λi=>kr ((mo i (dG.length-i)).all (el e9 dG)&&rest fX e9 dG)) (λn i hi=>by
  simp only[l2,r2,Lib.dn,Lib.cF,Lib.dY,bc,mZ]
  by_cases h:i<dG.length
  ·rw[Ik _ h];simp only[h,aN,au,Lib.c5 h f1.1];cases h1:decide (1<=bF (ar dG i 0)/\bF (ar dG i 0)<=9)with
   |false=>left;simp[el,h1]
   |true=>
    simp only[a_,ax];by_cases hz:0<i
    ·have e0:decide ((i:aw)>0)=true:=by simp;omega
     have hp:i-1<dG.length:=by omega
     have hi0:(i==0)=false:=by simp;omega
     simp only[e0,au,Di hz (by have:=f1.1;omega),Lib.cF,Lib.dn,Lib.dY,hp,aN,aM];cases h2:decide (bF (ar dG (i-1) 0)≥bF (ar dG i 0))with
     |true=>
      left;have e3:decide (bF (ar dG (i-1) 0)<bF (ar dG i 0))=false:=by simp at h2⊢;omega
      simp[el,e3,hi0]
     |false=>
      have e3:decide (bF (ar dG (i-1) 0)<bF (ar dG i 0))=true:=by simp at h2⊢;omega
      cases h3:decide (0<=bF (ar dG i 1)/\bF (ar dG i 1)<=e9.size)with
      |false=>left;simp[el,h3]
      |true=>right;exact⟨i+1,h,by omega,by simp only[el,h1,h3,e3,Kh,bc],rfl⟩
    ·have hz:i=0:=by omega
     subst hz;simp only[show decide (((0:aF):aw)>0)=ak from rfl,ax];cases h3:decide (0<=bF (ar dG 0 1)/\bF (ar dG 0 1)<=e9.size)with
     |false=>left;simp[el,h3]
     |true=>right;exact⟨1,h,by omega,by simp only[el,h1,h3,bc];rfl,rfl⟩
  ·left;have h0:dG.length-i=0:=by omega
   simp only[h,bj,ax,h0,R0,List.all_nil,bc]) (dG.length+1) 0 (by omega) (by omega)
 refine this.trans ?_;unfold v;rw[si,<-R2]
end lK

namespace GF
def b(kr:FJ R)(a:aw)(d:aq)(e:aQ)(f:aq):az R:=bif Kw.c a d e then bif !lK.v a d e then kr a d e ak else bif a !=1 then kr a d e ak else bif !kl.v (f.size:aw) 1 40 then kr a d e ak else bif decide (bJ ((d.size:aw)+(f.size:aw))>400)then kr a d e ak else bif decide (d.size+f.size<=4611686018427387904)then kr a (d++f) e ai else aj else aj
def v(fX:aw)(e9:aq)(dG:aQ)(gp:aq):aw×aq×aQ×aX:=
 if lK.v fX e9 dG=ai/\fX=1/\1<=gp.size/\gp.size<=40/\e9.size+gp.size<=400 then(fX,e9++gp,dG,ai)else(fX,e9,dG,ak)
def c(fX:aw)(e9:aq)(dG:aQ)(gp:aq):aX:=decide (dG.length<=4294967296)
theorem eG(kr:FJ R)(fX:aw)(e9:aq)(dG:aQ)(gp:aq)(hc:c fX e9 dG gp=ai)(f0:D8 e9)(f1:vJ dG)(f2:D8 gp):b kr fX e9 dG gp=kr (v fX e9 dG gp).1 (v fX e9 dG gp).2.1 (v fX e9 dG gp).2.2.1 (v fX e9 dG gp).2.2.2:=by
 have hs1:e9.size<=4611686018427387904:=f0;have Nx:gp.size<=4611686018427387904:=f2;have e1:Kw.c fX e9 dG=true:=hc;have e2:∀a b c,lK.v a b c=lK.v a b c:=λ_ _ _=>rfl;have e3:∀n a b,kl.v n a b=decide (a<=n/\n<=b):=lK.mZ;unfold b v;rw[e1,e2,e3,au];cases h1:lK.v fX e9 dG with
 |false=>simp
 |true=>
  by_cases h2:fX=1
  ·by_cases h3:1<=(gp.size:aw)/\(gp.size:aw)<=40
   ·have e4:bJ ((e9.size:aw)+(gp.size:aw))=e9.size+gp.size:=iI (by omega) (by omega);rw[e4,aE h3];by_cases h4:(e9.size:aw)+(gp.size:aw)>400
    ·rw[Lib.Ab h4,bH (by omega)];simp[h2]
    ·rw[Lib.IG h4,bz (by refine⟨rfl,h2, ?_, ?_, ?_⟩<;>omega),Lib.Ab (show e9.size+gp.size<=4611686018427387904 by omega)];simp[h2]
   ·rw[aK h3,bH (by omega)];simp
  ·have iA:(fX !=1)=true:=bne_iff_ne.mpr h2;rw[bH (by simp[h2]),iA];rfl
end GF

namespace sI
def r1(N:aF)(g k0:jI R)(a d e f h i:aw)(j l m o p q:aQ):az R:=bif decide (e<(q.length:aw))then bif decide (0<=e)&&decide (e<(q.length:aw))then bif decide (bF (ar q e.toNat 2)=bJ (a+1))then bif decide (0<=e)&&decide (e<(q.length:aw))then bif decide (bF (ar q e.toNat 4)=1)then bif decide (0<=a)&&decide (a<(p.length:aw))then bif decide (0<=e)&&decide (e<(q.length:aw))then bif decide (0<=e)&&decide (e<((eJ q e.toNat 5 [.s (bw (ar p a.toNat 1))]).length:aw))then g a d (bJ (e+1)) f h i j l m o p (eJ (eJ q e.toNat 5 [.s (bw (ar p a.toNat 1))]) e.toNat 4 [.i .i64 d])else aj else aj else aj else g a d (bJ (e+1)) f h i j l m o p q else aj else g a d (bJ (e+1)) f h i j l m o p q else aj else k0 a d e f h i j l m o p q
def l1(N:aF)(k0:jI R):aF->jI R
 |0=>λ_ _ _ _ _ _ _ _ _ _ _ _=>aj
 |n+1=>r1 N (l1 N k0 n) k0
def b(N:aF)(kr:eR R)(a:aw)(d e f h:aQ)(i:aw)(j l:aQ)(m o p:aw):az R:=l1 N (λ_ _ _ q r s t u w y z α=>kr q t u w y r z α s) N o p 0 a i m d e f h j l
def vo:=b Lib.cW λr0 r1 r2 r3 r4 r5 r6 r7 r8=>ah (r0,r1,r2,r3,r4,r5,r6,r7,r8)
def c:=λa d e f h i j l m o p=>(vo a d e f h i j l m o p).isSome
def v:=λa d e f h i j l m o p=>(vo a d e f h i j l m o p).getD (0,[],[],[],[],0,[],[],0)
theorem out{x}:∀a d e f h i j l m o p,vo a d e f h i j l m o p=ah x->c a d e f h i j l m o p=ai/\v a d e f h i j l m o p=x:=λ_ _ _ _ _ _ _ _ _ _ _=>Lib.dh
end sI

namespace DM
def b(kr:kV R)(a:aw)(d e f h:aQ)(i:aw)(j l:aQ)(m o:aw)(p:aq):az R:=bif fQ.c a d e f h i j l m then Lib.lt (fQ.v a d e f h i j l m) λq=>bif vd.c a d e f h i j l m o then Lib.lt (vd.v a d e f h i j l m o) λr=>bif !r then kr q.1 q.2.1 q.2.2.1 q.2.2.2.1 q.2.2.2.2.1 q.2.2.2.2.2.1 q.2.2.2.2.2.2.1 q.2.2.2.2.2.2.2.1 q.2.2.2.2.2.2.2.2 ak else bif decide (0<=o)&&decide (o<(j.length:aw))then bif !(GF.v 1 (bw (ar j o.toNat 1)) [] p).2.2.2 then kr q.1 q.2.1 q.2.2.1 q.2.2.2.1 q.2.2.2.2.1 q.2.2.2.2.2.1 q.2.2.2.2.2.2.1 q.2.2.2.2.2.2.2.1 q.2.2.2.2.2.2.2.2 ak else bif decide (0<=o)&&decide (o<(q.2.2.2.2.2.2.1.length:aw))then bif sI.c q.1 q.2.1 q.2.2.1 q.2.2.2.1 q.2.2.2.2.1 q.2.2.2.2.2.1 (eJ q.2.2.2.2.2.2.1 o.toNat 1 [.s (GF.v 1 (bw (ar j o.toNat 1)) [] p).2.1]) q.2.2.2.2.2.2.2.1 q.2.2.2.2.2.2.2.2 o 1 then Lib.lt (sI.v q.1 q.2.1 q.2.2.1 q.2.2.2.1 q.2.2.2.2.1 q.2.2.2.2.2.1 (eJ q.2.2.2.2.2.2.1 o.toNat 1 [.s (GF.v 1 (bw (ar j o.toNat 1)) [] p).2.1]) q.2.2.2.2.2.2.2.1 q.2.2.2.2.2.2.2.2 o 1) λs=>kr s.1 s.2.1 s.2.2.1 s.2.2.2.1 s.2.2.2.2.1 s.2.2.2.2.2.1 s.2.2.2.2.2.2.1 s.2.2.2.2.2.2.2.1 s.2.2.2.2.2.2.2.2 ai else aj else aj else aj else aj else aj
def vo:=b λr0 r1 r2 r3 r4 r5 r6 r7 r8 r9=>ah (r0,r1,r2,r3,r4,r5,r6,r7,r8,r9)
def c:=λa d e f h i j l m o p=>(vo a d e f h i j l m o p).isSome
def v:=λa d e f h i j l m o p=>(vo a d e f h i j l m o p).getD (0,[],[],[],[],0,[],[],0,ak)
theorem out{x}:∀a d e f h i j l m o p,vo a d e f h i j l m o p=ah x->c a d e f h i j l m o p=ai/\v a d e f h i j l m o p=x:=λ_ _ _ _ _ _ _ _ _ _ _=>Lib.dh
end DM

namespace lM
def r9(N:aF)(g k0:oS R)(a:aQ)(d:aw)(e:aq)(f h:aw)(i:aq)(j:aQ):az R:=bif decide (d<(a.length:aw))then bif decide (0<=d)&&decide (d<(a.length:aw))then bif !(b7 (bw (ar a d.toNat 0)).toList (aC e)||List.beq (bw (ar a d.toNat 0)).toList (aC e))then bif decide (0<=d)&&decide (d<(a.length:aw))then bif cy (j.length+(aD (aP [Ck.s,Ck.i ao,Ck.i ao,Ck.s] 1) 0 [.s (bw (ar a d.toNat 0)), .i .i64 (bF (ar a d.toNat 1)), .i .i64 (bF (ar a d.toNat (1+1))), .s (bw (ar a d.toNat (1+1+1)))]).length) 48 then g a (bJ (d+1)) e f h i (j++aD (aP [Ck.s,Ck.i ao,Ck.i ao,Ck.s] 1) 0 [.s (bw (ar a d.toNat 0)), .i .i64 (bF (ar a d.toNat 1)), .i .i64 (bF (ar a d.toNat (1+1))), .s (bw (ar a d.toNat (1+1+1)))])else aj else aj else g a (bJ (d+1)) e f h i j else aj else k0 a d e f h i j
def l9(N:aF)(k0:oS R):aF->oS R
 |0=>λ_ _ _ _ _ _ _=>aj
 |n+1=>r9 N (l9 N k0 n) k0
def r3(N:aF)(g k0:oS R)(a:aQ)(d:aw)(e:aq)(f h:aw)(i:aq)(j:aQ):az R:=bif decide (d<(a.length:aw))then bif decide (0<=d)&&decide (d<(a.length:aw))then bif b7 (bw (ar a d.toNat 0)).toList (aC e)then bif decide (0<=d)&&decide (d<(a.length:aw))then bif cy (j.length+(aD (aP [Ck.s,Ck.i ao,Ck.i ao,Ck.s] 1) 0 [.s (bw (ar a d.toNat 0)), .i .i64 (bF (ar a d.toNat 1)), .i .i64 (bF (ar a d.toNat (1+1))), .s (bw (ar a d.toNat (1+1+1)))]).length) 48 then g a (bJ (d+1)) e f h i (j++aD (aP [Ck.s,Ck.i ao,Ck.i ao,Ck.s] 1) 0 [.s (bw (ar a d.toNat 0)), .i .i64 (bF (ar a d.toNat 1)), .i .i64 (bF (ar a d.toNat (1+1))), .s (bw (ar a d.toNat (1+1+1)))])else aj else aj else g a (bJ (d+1)) e f h i j else aj else k0 a d e f h i j
def l3(N:aF)(k0:oS R):aF->oS R
 |0=>λ_ _ _ _ _ _ _=>aj
 |n+1=>r3 N (l3 N k0 n) k0
def b(N:aF)(kr:aQ->az R)(a:aQ)(d:aq)(e f:aw)(h:aq):az R:=l3 N (λi _ j l m o p=>bif cy (p.length+(aD (aP [Ck.s,Ck.i ao,Ck.i ao,Ck.s] 1) 0 [.s j, .i .i64 l, .i .i64 m, .s o]).length) 48 then l9 N (λ_ _ _ _ _ _ q=>kr q) N i 0 j l m o (p++aD (aP [Ck.s,Ck.i ao,Ck.i ao,Ck.s] 1) 0 [.s j, .i .i64 l, .i .i64 m, .s o])else aj) N a 0 d e f h (aP [Ck.s,Ck.i ao,Ck.i ao,Ck.s] 0)
def vo:=b Lib.cW λr0=>ah r0
def c:=λa d e f h=>(vo a d e f h).isSome
def v:=λa d e f h=>(vo a d e f h).getD ([])
theorem out{x}:∀a d e f h,vo a d e f h=ah x->c a d e f h=ai/\v a d e f h=x:=λ_ _ _ _ _=>Lib.dh
end lM

namespace OR
def b(kr:eR R)(a:aw)(d e f h:aQ)(i:aw)(j l:aQ)(m:aw)(o:aq)(p q:aw)(r:aq):az R:=bif e8.c e f h i o then Lib.lt (e8.v e f h i o) λs=>bif !List.beq (aC s.2.2.2.2) (aC ⟨#[]⟩)then bif ql.c d s.2.2.2.2 then Lib.lt (ql.v d s.2.2.2.2) λt=>bif s9.c s.1 s.2.1 s.2.2.1 s.2.2.2.1 o then Lib.lt (s9.v s.1 s.2.1 s.2.2.1 s.2.2.2.1 o) λu=>bif u then bif lM.c t o p q r then Lib.lt (lM.v t o p q r) λw=>kr a w s.1 s.2.1 s.2.2.1 s.2.2.2.1 j l m else aj else kr a t s.1 s.2.1 s.2.2.1 s.2.2.2.1 j l m else aj else aj else bif s9.c s.1 s.2.1 s.2.2.1 s.2.2.2.1 o then Lib.lt (s9.v s.1 s.2.1 s.2.2.1 s.2.2.2.1 o) λt=>bif t then bif lM.c d o p q r then Lib.lt (lM.v d o p q r) λu=>kr a u s.1 s.2.1 s.2.2.1 s.2.2.2.1 j l m else aj else kr a d s.1 s.2.1 s.2.2.1 s.2.2.2.1 j l m else aj else aj
def vo:=b λr0 r1 r2 r3 r4 r5 r6 r7 r8=>ah (r0,r1,r2,r3,r4,r5,r6,r7,r8)
def c:=λa d e f h i j l m o p q r=>(vo a d e f h i j l m o p q r).isSome
def v:=λa d e f h i j l m o p q r=>(vo a d e f h i j l m o p q r).getD (0,[],[],[],[],0,[],[],0)
theorem out{x}:∀a d e f h i j l m o p q r,vo a d e f h i j l m o p q r=ah x->c a d e f h i j l m o p q r=ai/\v a d e f h i j l m o p q r=x:=λ_ _ _ _ _ _ _ _ _ _ _ _ _=>Lib.dh
end OR

namespace DP
def b(kr:kV R)(a:aw)(d e f h:aQ)(i:aw)(j l:aQ)(m o p:aw):az R:=bif fQ.c a d e f h i j l m then Lib.lt (fQ.v a d e f h i j l m) λq=>bif vd.c a d e f h i j l m o then Lib.lt (vd.v a d e f h i j l m o) λr=>bif !r then kr q.1 q.2.1 q.2.2.1 q.2.2.2.1 q.2.2.2.2.1 q.2.2.2.2.2.1 q.2.2.2.2.2.2.1 q.2.2.2.2.2.2.2.1 q.2.2.2.2.2.2.2.2 ak else bif !kl.v p 0 999999 then kr q.1 q.2.1 q.2.2.1 q.2.2.2.1 q.2.2.2.2.1 q.2.2.2.2.2.1 q.2.2.2.2.2.2.1 q.2.2.2.2.2.2.2.1 q.2.2.2.2.2.2.2.2 ak else bif decide (0<=o)&&decide (o<(j.length:aw))then bif decide (0<=o)&&decide (o<(q.2.2.2.2.2.2.1.length:aw))then bif sI.c q.1 q.2.1 q.2.2.1 q.2.2.2.1 q.2.2.2.2.1 q.2.2.2.2.2.1 (eJ q.2.2.2.2.2.2.1 o.toNat 0 [.s (bw (ar j o.toNat 0)), .s (bw (ar j o.toNat 1)), .i .i64 2, .i .i64 p, .i .i64 a]) q.2.2.2.2.2.2.2.1 q.2.2.2.2.2.2.2.2 o 2 then Lib.lt (sI.v q.1 q.2.1 q.2.2.1 q.2.2.2.1 q.2.2.2.2.1 q.2.2.2.2.2.1 (eJ q.2.2.2.2.2.2.1 o.toNat 0 [.s (bw (ar j o.toNat 0)), .s (bw (ar j o.toNat 1)), .i .i64 2, .i .i64 p, .i .i64 a]) q.2.2.2.2.2.2.2.1 q.2.2.2.2.2.2.2.2 o 2) λs=>bif decide (p>0)then bif OR.c s.1 s.2.1 s.2.2.1 s.2.2.2.1 s.2.2.2.2.1 s.2.2.2.2.2.1 s.2.2.2.2.2.2.1 s.2.2.2.2.2.2.2.1 s.2.2.2.2.2.2.2.2 (bw (ar j o.toNat 0)) a p (bw (ar j o.toNat 1))then Lib.lt (OR.v s.1 s.2.1 s.2.2.1 s.2.2.2.1 s.2.2.2.2.1 s.2.2.2.2.2.1 s.2.2.2.2.2.2.1 s.2.2.2.2.2.2.2.1 s.2.2.2.2.2.2.2.2 (bw (ar j o.toNat 0)) a p (bw (ar j o.toNat 1))) λt=>kr t.1 t.2.1 t.2.2.1 t.2.2.2.1 t.2.2.2.2.1 t.2.2.2.2.2.1 t.2.2.2.2.2.2.1 t.2.2.2.2.2.2.2.1 t.2.2.2.2.2.2.2.2 ai else aj else kr s.1 s.2.1 s.2.2.1 s.2.2.2.1 s.2.2.2.2.1 s.2.2.2.2.2.1 s.2.2.2.2.2.2.1 s.2.2.2.2.2.2.2.1 s.2.2.2.2.2.2.2.2 ai else aj else aj else aj else aj else aj
def vo:=b λr0 r1 r2 r3 r4 r5 r6 r7 r8 r9=>ah (r0,r1,r2,r3,r4,r5,r6,r7,r8,r9)
def c:=λa d e f h i j l m o p=>(vo a d e f h i j l m o p).isSome
def v:=λa d e f h i j l m o p=>(vo a d e f h i j l m o p).getD (0,[],[],[],[],0,[],[],0,ak)
theorem out{x}:∀a d e f h i j l m o p,vo a d e f h i j l m o p=ah x->c a d e f h i j l m o p=ai/\v a d e f h i j l m o p=x:=λ_ _ _ _ _ _ _ _ _ _ _=>Lib.dh
end DP

namespace kE
def r2(N:aF)(g k0:OH R)(a:aw)(d:aQ):az R:=bif decide (a>127)then bif cy (d.length+(aD (aP [Ck.i bh] 1) 0 [CV.i bh (bE bh (bJ (cz a 128+128)))]).length) 1 then g (bJ (cR a 128)) (d++aD (aP [Ck.i bh] 1) 0 [CV.i bh (bE bh (bJ (cz a 128+128)))])else aj else k0 a d
def l2(N:aF)(k0:OH R):aF->OH R
 |0=>λ_ _=>aj
 |n+1=>r2 N (l2 N k0 n) k0
def b(N:aF)(kr:aq->az R)(a:aw):az R:=l2 N (λd e=>bif cy (e.length+(aD (aP [Ck.i bh] 1) 0 [CV.i bh (bE bh d)]).length) 1 then bif decide ((e++aD (aP [Ck.i bh] 1) 0 [CV.i bh (bE bh d)]).length<=4611686018427387904)then kr (bytesOf (e++aD (aP [Ck.i bh] 1) 0 [CV.i bh (bE bh d)]))else aj else aj) N a (aP [Ck.i bh] 0)
def v(n0:aw):aq:=bytesOf (Lib.vb n0)
def c(n0:aw):aX:=decide (n0<=9223372036854775807)
theorem eG(kr:aq->az R)(n0:aw)(hc:c n0=ai):∃N,b N kr n0=kr (v n0):=by
 refine⟨n0.toNat+1, ?_⟩
 refine Lib.Ol (λn x acc=>l2 (n0.toNat+1) _ n x acc) kr (λn x acc h hl=> ?_) (λn x acc h hl=> ?_) n0 (cu hc)
 ·simp only[l2,r2,h,aN,au,Lib.iM,show acc.length+bT [[CV.i bh (bE bh (bJ (cz x 128+128)))]]=acc.length+1 from rfl,Lib.Hu (show acc.length+1<=140737488355328 by omega),show decide ((128:aw)=0)=ak from rfl,wA,bR]
 ·simp only[l2,r2,h,bj,ax,Lib.iM,show acc.length+bT [[CV.i bh (bE bh x)]]=acc.length+1 from rfl,Lib.Hu (show acc.length+1<=140737488355328 by omega),au];exact Lib.tp (Lib.Ab (by rw[bP,bA];omega))
end kE

namespace jL
def b(kr:yO R)(a:aq)(d e:aw)(f:aq):az R:=bif !nb.v a d e f then kr ⟨#[]⟩ ak else bif kE.c (a.size:aw)then bif decide ((kE.v (a.size:aw)).size+a.size<=4611686018427387904)then bif kE.c d then bif decide ((kE.v (a.size:aw)++a).size+(kE.v d).size<=4611686018427387904)then bif kE.c e then bif decide ((kE.v (a.size:aw)++a++kE.v d).size+(kE.v e).size<=4611686018427387904)then bif decide ((kE.v (a.size:aw)++a++kE.v d++kE.v e).size+f.size<=4611686018427387904)then kr (kE.v (a.size:aw)++a++kE.v d++kE.v e++f) ai else aj else aj else aj else aj else aj else aj else aj
def sR(k:aq)(s l:aw)(b:aq):aq:=bytesOf (Lib.vb k.size)++k++bytesOf (Lib.vb s)++bytesOf (Lib.vb l)++b
def v(oM:aq)(po:aw)(pq:aw)(vg:aq):aq×aX:=if nb.v oM po pq vg=ai then(sR oM po pq vg,ai)else(⟨#[]⟩,ak)
theorem eG(kr:yO R)(oM:aq)(po:aw)(pq:aw)(vg:aq):b kr oM po pq vg=kr (v oM po pq vg).1 (v oM po pq vg).2:=by
 unfold b v;cases h:nb.v oM po pq vg with
 |false=>rfl
 |true=>have hr:=nb.Ea h;have cc:∀x:aw,x<=9223372036854775807->kE.c x=true:=λx hx=>aE hx;have z1:(kE.v (oM.size:aw)).size<=64:=Lib.jP (x:=(oM.size:aw)) (by omega);have z2:(kE.v po).size<=64:=Lib.jP (x:=po) (by omega);have z3:(kE.v pq).size<=64:=Lib.jP (x:=pq) (by omega);simp(disch:=omega) only[a_,ax,cc _ (show(oM.size:aw)<=9223372036854775807 by omega),cc po (by omega),cc pq (by omega),au,if_true,Lib.ki,Lib.Sw];rfl
end jL

namespace pb
def b(kr:aq->az R)(a:aw):az R:=kr (bytesOf (aD (aD (aD (aD (aP [Ck.i bh] 4) 0 [CV.i bh (bE bh (ly a (h_ 2 (if aW 24<=32 then aW 24 else 32))))]) 1 [CV.i bh (bE bh (ly a (h_ 2 (if aW 16<=32 then aW 16 else 32))))]) 2 [CV.i bh (bE bh (ly a (h_ 2 (if aW 8<=32 then aW 8 else 32))))]) 3 [CV.i bh (bE bh a)]))
def v(a0:aw):aq:=(bytesOf (aD (aD (aD (aD (aP [Ck.i bh] 4) 0 [CV.i bh (bE bh (ly a0 (h_ 2 (if aW 24<=32 then aW 24 else 32))))]) 1 [CV.i bh (bE bh (ly a0 (h_ 2 (if aW 16<=32 then aW 16 else 32))))]) 2 [CV.i bh (bE bh (ly a0 (h_ 2 (if aW 8<=32 then aW 8 else 32))))]) 3 [CV.i bh (bE bh a0)]))
theorem eG(kr:aq->az R)(a0:aw):b kr a0=kr (v a0):=by first|rfl|(unfold b v;simp only[cM];(repeat' split)<;>rfl)
end pb

namespace fK
def b(kr:yO R)(a:aq):az R:=bif !kl.v (a.size:aw) 1 9000 then kr ⟨#[]⟩ ak else bif kE.c (a.size:aw)then bif vU.c a then bif decide ((kE.v (a.size:aw)).size+(pb.v (vU.v a)).size<=4611686018427387904)then bif decide ((kE.v (a.size:aw)++pb.v (vU.v a)).size+a.size<=4611686018427387904)then kr (kE.v (a.size:aw)++pb.v (vU.v a)++a) ai else aj else aj else aj else aj
def vo:=b λr0 r1=>ah (r0,r1)
def c:=λa=>(vo a).isSome
def v:=λa=>(vo a).getD (⟨#[]⟩,ak)
theorem out{x}:∀a,vo a=ah x->c a=ai/\v a=x:=λ_=>Lib.dh
end fK

namespace DQ
def b(kr:H3 R)(a:aq)(d e:aw)(f:aq):az R:=bif fK.c (jL.v a d e f).1 then bif !(jL.v a d e f).2 then kr (aP [Ck.i ao,Ck.s,Ck.s,Ck.s] 0) ak else bif !(fK.v (jL.v a d e f).1).2 then kr (aP [Ck.i ao,Ck.s,Ck.s,Ck.s] 0) ak else kr (aD (aD (aP [Ck.i ao,Ck.s,Ck.s,Ck.s] 2) 0 [.i .i64 1, .s {data:= #[ay 107,ay 101,ay 112,ay 116]}, .s (fK.v (jL.v a d e f).1).1, .s ⟨#[]⟩]) 1 [.i .i64 2, .s {data:= #[ay 107,ay 101,ay 112,ay 116]}, .s ⟨#[]⟩, .s ⟨#[]⟩]) ai else aj
def vo:=b λr0 r1=>ah (r0,r1)
def c:=λa d e f=>(vo a d e f).isSome
def v:=λa d e f=>(vo a d e f).getD ([],ak)
theorem out{x}:∀a d e f,vo a d e f=ah x->c a d e f=ai/\v a d e f=x:=λ_ _ _ _=>Lib.dh
end DQ

namespace qj
def b(kr:aX->az R)(a:aq):az R:=kr (kl.v (a.size:aw) 1 8)
def v(a0:aq):aX:=(kl.v (a0.size:aw) 1 8)
theorem eG(kr:aX->az R)(a0:aq):b kr a0=kr (v a0):=by first|rfl|(unfold b v;simp only[cM];(repeat' split)<;>rfl)
end qj

namespace gE
def r4(N:aF)(g k0 k1:El R)(a:aX)(d:aw)(e:aQ):az R:=bif decide (d<(e.length:aw))then bif decide (0<=d)&&decide (d<(e.length:aw))then bif !qj.v (bw (ar e d.toNat 0))then k0 ak d e else bif decide (((bw (ar e d.toNat 1)).size:aw)>20000)then k0 ak d e else bif !kl.v (bF (ar e d.toNat (1+1))) 0 ((bw (ar e d.toNat 1)).size:aw)then k0 ak d e else bif decide (d>0)then bif decide (0<=bJ (d-1))&&decide (bJ (d-1)<(e.length:aw))then bif !Op.bytesLess (bw (ar e (bJ (d-1)).toNat 0)).toList (bw (ar e d.toNat 0)).toList then k0 ak d e else g a (bJ (d+1)) e else aj else g a (bJ (d+1)) e else aj else k1 a d e
def l4(N:aF)(k0 k1:El R):aF->El R
 |0=>λ_ _ _=>aj
 |n+1=>r4 N (l4 N k0 k1 n) k0 k1
def b(N:aF)(kr:aX->az R)(a:aQ):az R:=bif decide ((a.length:aw)>30)then kr ak else l4 N (λd _ _=>kr d) (λ_ _ _=>kr ai) N ak 0 a
def vo:=b Lib.cW λr0=>ah r0
def c:=λa=>(vo a).isSome
def v:=λa=>(vo a).getD ak
theorem out{x}:∀a,vo a=ah x->c a=ai/\v a=x:=λ_=>Lib.dh
end gE

namespace jz
def r2(N:aF)(g k0 k1:mm R)(a:aq)(d e:aw)(f:aQ):az R:=bif decide (e<(f.length:aw))then bif decide (0<=e)&&decide (e<(f.length:aw))then bif bZ (bw (ar f e.toNat 0)).toList (aC a)then k0 a e e f else g a d (bJ (e+1)) f else aj else k1 a d e f
def l2(N:aF)(k0 k1:mm R):aF->mm R
 |0=>λ_ _ _ _=>aj
 |n+1=>r2 N (l2 N k0 k1 n) k0 k1
def b(N:aF)(kr:aw->az R)(a:aQ)(d:aq):az R:=l2 N (λ_ e _ _=>kr e) (λ_ _ _ _=>kr (-1)) N d 0 0 a
def vo:=b Lib.cW λr0=>ah r0
def c:=λa d=>(vo a d).isSome
def v:=λa d=>(vo a d).getD (0)
theorem out{x}:∀a d,vo a d=ah x->c a d=ai/\v a d=x:=λ_ _=>Lib.dh
end jz

namespace eu
def r9(N:aF)(g k0:lP R)(a:aw)(d:aQ)(e f:aq)(h:aw)(i:aQ):az R:=bif decide (a<(d.length:aw))then bif decide (0<=a)&&decide (a<(d.length:aw))then bif !(b7 (bw (ar d a.toNat 0)).toList (aC e)||List.beq (bw (ar d a.toNat 0)).toList (aC e))then bif decide (0<=a)&&decide (a<(d.length:aw))then bif cy (i.length+(aD (aP [Ck.s,Ck.s,Ck.i ao] 1) 0 [.s (bw (ar d a.toNat 0)), .s (bw (ar d a.toNat 1)), .i .i64 (bF (ar d a.toNat (1+1)))]).length) 40 then g (bJ (a+1)) d e f h (i++aD (aP [Ck.s,Ck.s,Ck.i ao] 1) 0 [.s (bw (ar d a.toNat 0)), .s (bw (ar d a.toNat 1)), .i .i64 (bF (ar d a.toNat (1+1)))])else aj else aj else g (bJ (a+1)) d e f h i else aj else k0 a d e f h i
def l9(N:aF)(k0:lP R):aF->lP R
 |0=>λ_ _ _ _ _ _=>aj
 |n+1=>r9 N (l9 N k0 n) k0
def r3(N:aF)(g:rq R)(g1:lP R)(k0:rq R)(k1:lP R)(a:aw)(d:aQ)(e f:aq)(h:aw):az R:=bif decide (a<(d.length:aw))then bif decide (0<=a)&&decide (a<(d.length:aw))then bif b7 (bw (ar d a.toNat 0)).toList (aC e)then bif decide (0<=a)&&decide (a<(d.length:aw))then g1 (bJ (a+1)) d e f h ([]++aD (aP [Ck.s,Ck.s,Ck.i ao] 1) 0 [.s (bw (ar d a.toNat 0)), .s (bw (ar d a.toNat 1)), .i .i64 (bF (ar d a.toNat (1+1)))])else aj else g (bJ (a+1)) d e f h else aj else k0 a d e f h
def zM(N:aF)(g:rq R)(g1:lP R)(k0:rq R)(k1:lP R)(a:aw)(d:aQ)(e f:aq)(h:aw)(i:aQ):az R:=bif decide (a<(d.length:aw))then bif decide (0<=a)&&decide (a<(d.length:aw))then bif b7 (bw (ar d a.toNat 0)).toList (aC e)then bif decide (0<=a)&&decide (a<(d.length:aw))then bif cy (i.length+(aD (aP [Ck.s,Ck.s,Ck.i ao] 1) 0 [.s (bw (ar d a.toNat 0)), .s (bw (ar d a.toNat 1)), .i .i64 (bF (ar d a.toNat (1+1)))]).length) 40 then g1 (bJ (a+1)) d e f h (i++aD (aP [Ck.s,Ck.s,Ck.i ao] 1) 0 [.s (bw (ar d a.toNat 0)), .s (bw (ar d a.toNat 1)), .i .i64 (bF (ar d a.toNat (1+1)))])else aj else aj else g1 (bJ (a+1)) d e f h i else aj else k1 a d e f h i
def sL(N:aF)(k0:rq R)(k1:lP R):aF->lP R
 |0=>λ_ _ _ _ _ _=>aj
 |n+1=>zM N (λx0 x1 x2 x3 x4=>aj) (sL N k0 k1 n) k0 k1
def l3(N:aF)(k0:rq R)(k1:lP R):aF->rq R
 |0=>λ_ _ _ _ _=>aj
 |n+1=>r3 N (l3 N k0 k1 n) (sL N k0 k1 n) k0 k1
def b(N:aF)(kr:aQ->az R)(a:aQ)(d e:aq)(f:aw):az R:=l3 N (λ_ h i j l=>l9 N (λ_ _ _ _ _ m=>kr m) N 0 h i j l ([]++aD (aP [Ck.s,Ck.s,Ck.i ao] 1) 0 [.s i, .s j, .i .i64 l])) (λ_ h i j l m=>bif cy (m.length+(aD (aP [Ck.s,Ck.s,Ck.i ao] 1) 0 [.s i, .s j, .i .i64 l]).length) 40 then l9 N (λ_ _ _ _ _ o=>kr o) N 0 h i j l (m++aD (aP [Ck.s,Ck.s,Ck.i ao] 1) 0 [.s i, .s j, .i .i64 l])else aj) N 0 a d e f
def vo:=b Lib.cW λr0=>ah r0
def c:=λa d e f=>(vo a d e f).isSome
def v:=λa d e f=>(vo a d e f).getD ([])
theorem out{x}:∀a d e f,vo a d e f=ah x->c a d e f=ai/\v a d e f=x:=λ_ _ _ _=>Lib.dh
end eu

namespace eT
def r3(N:aF)(g:vj R)(g1:vI R)(k0:vj R)(k1:vI R)(a:aq)(d:aw)(e:aQ):az R:=bif decide (d<(e.length:aw))then bif decide (0<=d)&&decide (d<(e.length:aw))then bif !List.beq (bw (ar e d.toNat 0)).toList (aC a)then bif decide (0<=d)&&decide (d<(e.length:aw))then g1 a (bJ (d+1)) e ([]++aD (aP [Ck.s,Ck.s,Ck.i ao] 1) 0 [.s (bw (ar e d.toNat 0)), .s (bw (ar e d.toNat 1)), .i .i64 (bF (ar e d.toNat (1+1)))])else aj else g a (bJ (d+1)) e else aj else k0 a d e
def zM(N:aF)(g:vj R)(g1:vI R)(k0:vj R)(k1:vI R)(a:aq)(d:aw)(e f:aQ):az R:=bif decide (d<(e.length:aw))then bif decide (0<=d)&&decide (d<(e.length:aw))then bif !List.beq (bw (ar e d.toNat 0)).toList (aC a)then bif decide (0<=d)&&decide (d<(e.length:aw))then bif cy (f.length+(aD (aP [Ck.s,Ck.s,Ck.i ao] 1) 0 [.s (bw (ar e d.toNat 0)), .s (bw (ar e d.toNat 1)), .i .i64 (bF (ar e d.toNat (1+1)))]).length) 40 then g1 a (bJ (d+1)) e (f++aD (aP [Ck.s,Ck.s,Ck.i ao] 1) 0 [.s (bw (ar e d.toNat 0)), .s (bw (ar e d.toNat 1)), .i .i64 (bF (ar e d.toNat (1+1)))])else aj else aj else g1 a (bJ (d+1)) e f else aj else k1 a d e f
def sL(N:aF)(k0:vj R)(k1:vI R):aF->vI R
 |0=>λ_ _ _ _=>aj
 |n+1=>zM N (λx0 x1 x2=>aj) (sL N k0 k1 n) k0 k1
def l3(N:aF)(k0:vj R)(k1:vI R):aF->vj R
 |0=>λ_ _ _=>aj
 |n+1=>r3 N (l3 N k0 k1 n) (sL N k0 k1 n) k0 k1
def b(N:aF)(kr:aQ->az R)(a:aQ)(d:aq):az R:=l3 N (λ_ _ _=>kr []) (λ_ _ _ e=>kr e) N d 0 a
def vo:=b Lib.cW λr0=>ah r0
def c:=λa d=>(vo a d).isSome
def v:=λa d=>(vo a d).getD ([])
theorem out{x}:∀a d,vo a d=ah x->c a d=ai/\v a d=x:=λ_ _=>Lib.dh
end eT

namespace BZ
def b(kr:H3 R)(a:aQ)(d:aw)(e f h:aq):az R:=bif gE.c a then bif !gE.v a then kr [] ak else bif !qj.v e then kr [] ak else bif d !=3 then bif !List.beq (aC h) (aC ⟨#[]⟩)then kr [] ak else bif d !=1 then bif !List.beq (aC f) (aC ⟨#[]⟩)then kr [] ak else bif jz.c a e then Lib.lt (jz.v a e) λi=>bif decide (i≥0)then bif decide (0<=i)&&decide (i<(a.length:aw))then bif decide (d=1)then bif decide ((bw (ar a i.toNat 1)).size+f.size<=4611686018427387904)then bif eu.c a (bw (ar a i.toNat 0)) (bw (ar a i.toNat 1)++f) (bF (ar a i.toNat (1+1)))then Lib.lt (eu.v a (bw (ar a i.toNat 0)) (bw (ar a i.toNat 1)++f) (bF (ar a i.toNat (1+1)))) λj=>bif gE.c j then bif !gE.v j then kr [] ak else kr j ai else aj else aj else aj else bif decide (i<0)then kr [] ak else bif decide (d=2)then bif eu.c a (bw (ar a i.toNat 0)) (bw (ar a i.toNat 1)) ((bw (ar a i.toNat 1)).size:aw)then Lib.lt (eu.v a (bw (ar a i.toNat 0)) (bw (ar a i.toNat 1)) ((bw (ar a i.toNat 1)).size:aw)) λj=>bif gE.c j then bif !gE.v j then kr [] ak else kr j ai else aj else aj else bif decide (d=3)then bif decide (bF (ar a i.toNat (1+1))<((bw (ar a i.toNat 1)).size:aw))then kr [] ak else bif bZ (aC h) (aC e)then kr [] ak else bif !qj.v h then kr [] ak else bif eT.c a e then bif eu.c (eT.v a e) h (bw (ar a i.toNat 1)) (bF (ar a i.toNat (1+1)))then bif gE.c (eu.v (eT.v a e) h (bw (ar a i.toNat 1)) (bF (ar a i.toNat (1+1))))then bif !gE.v (eu.v (eT.v a e) h (bw (ar a i.toNat 1)) (bF (ar a i.toNat (1+1))))then kr [] ak else kr (eu.v (eT.v a e) h (bw (ar a i.toNat 1)) (bF (ar a i.toNat (1+1)))) ai else aj else aj else aj else bif decide (d=4)then bif eT.c a e then bif gE.c (eT.v a e)then bif !gE.v (eT.v a e)then kr [] ak else kr (eT.v a e) ai else aj else aj else kr [] ak else aj else bif decide (d=1)then bif decide (cq ⟨#[]⟩+f.size<=4611686018427387904)then bif eu.c a e ({data:= #[]}++f) 0 then bif gE.c (eu.v a e ({data:= #[]}++f) 0)then bif !gE.v (eu.v a e ({data:= #[]}++f) 0)then kr [] ak else kr (eu.v a e ({data:= #[]}++f) 0) ai else aj else aj else aj else bif decide (i<0)then kr [] ak else bif decide (d=2)then bif eu.c a e ⟨#[]⟩ (cq ⟨#[]⟩:aw)then bif gE.c (eu.v a e ⟨#[]⟩ (cq ⟨#[]⟩:aw))then bif !gE.v (eu.v a e ⟨#[]⟩ (cq ⟨#[]⟩:aw))then kr [] ak else kr (eu.v a e ⟨#[]⟩ (cq ⟨#[]⟩:aw)) ai else aj else aj else bif decide (d=3)then bif bZ (aC h) (aC e)then kr [] ak else bif !qj.v h then kr [] ak else bif eT.c a e then bif eu.c (eT.v a e) h ⟨#[]⟩ 0 then bif gE.c (eu.v (eT.v a e) h ⟨#[]⟩ 0)then bif !gE.v (eu.v (eT.v a e) h ⟨#[]⟩ 0)then kr [] ak else kr (eu.v (eT.v a e) h ⟨#[]⟩ 0) ai else aj else aj else aj else bif decide (d=4)then bif eT.c a e then bif gE.c (eT.v a e)then bif !gE.v (eT.v a e)then kr [] ak else kr (eT.v a e) ai else aj else aj else kr [] ak else aj else bif jz.c a e then Lib.lt (jz.v a e) λi=>bif decide (i≥0)then bif decide (0<=i)&&decide (i<(a.length:aw))then bif decide (d=1)then bif decide ((bw (ar a i.toNat 1)).size+f.size<=4611686018427387904)then bif eu.c a (bw (ar a i.toNat 0)) (bw (ar a i.toNat 1)++f) (bF (ar a i.toNat (1+1)))then Lib.lt (eu.v a (bw (ar a i.toNat 0)) (bw (ar a i.toNat 1)++f) (bF (ar a i.toNat (1+1)))) λj=>bif gE.c j then bif !gE.v j then kr [] ak else kr j ai else aj else aj else aj else bif decide (i<0)then kr [] ak else bif decide (d=2)then bif eu.c a (bw (ar a i.toNat 0)) (bw (ar a i.toNat 1)) ((bw (ar a i.toNat 1)).size:aw)then Lib.lt (eu.v a (bw (ar a i.toNat 0)) (bw (ar a i.toNat 1)) ((bw (ar a i.toNat 1)).size:aw)) λj=>bif gE.c j then bif !gE.v j then kr [] ak else kr j ai else aj else aj else bif decide (d=3)then bif decide (bF (ar a i.toNat (1+1))<((bw (ar a i.toNat 1)).size:aw))then kr [] ak else bif bZ (aC h) (aC e)then kr [] ak else bif !qj.v h then kr [] ak else bif eT.c a e then bif eu.c (eT.v a e) h (bw (ar a i.toNat 1)) (bF (ar a i.toNat (1+1)))then bif gE.c (eu.v (eT.v a e) h (bw (ar a i.toNat 1)) (bF (ar a i.toNat (1+1))))then bif !gE.v (eu.v (eT.v a e) h (bw (ar a i.toNat 1)) (bF (ar a i.toNat (1+1))))then kr [] ak else kr (eu.v (eT.v a e) h (bw (ar a i.toNat 1)) (bF (ar a i.toNat (1+1)))) ai else aj else aj else aj else bif decide (d=4)then bif eT.c a e then bif gE.c (eT.v a e)then bif !gE.v (eT.v a e)then kr [] ak else kr (eT.v a e) ai else aj else aj else kr [] ak else aj else bif decide (d=1)then bif decide (cq ⟨#[]⟩+f.size<=4611686018427387904)then bif eu.c a e ({data:= #[]}++f) 0 then bif gE.c (eu.v a e ({data:= #[]}++f) 0)then bif !gE.v (eu.v a e ({data:= #[]}++f) 0)then kr [] ak else kr (eu.v a e ({data:= #[]}++f) 0) ai else aj else aj else aj else bif decide (i<0)then kr [] ak else bif decide (d=2)then bif eu.c a e ⟨#[]⟩ (cq ⟨#[]⟩:aw)then bif gE.c (eu.v a e ⟨#[]⟩ (cq ⟨#[]⟩:aw))then bif !gE.v (eu.v a e ⟨#[]⟩ (cq ⟨#[]⟩:aw))then kr [] ak else kr (eu.v a e ⟨#[]⟩ (cq ⟨#[]⟩:aw)) ai else aj else aj else bif decide (d=3)then bif bZ (aC h) (aC e)then kr [] ak else bif !qj.v h then kr [] ak else bif eT.c a e then bif eu.c (eT.v a e) h ⟨#[]⟩ 0 then bif gE.c (eu.v (eT.v a e) h ⟨#[]⟩ 0)then bif !gE.v (eu.v (eT.v a e) h ⟨#[]⟩ 0)then kr [] ak else kr (eu.v (eT.v a e) h ⟨#[]⟩ 0) ai else aj else aj else aj else bif decide (d=4)then bif eT.c a e then bif gE.c (eT.v a e)then bif !gE.v (eT.v a e)then kr [] ak else kr (eT.v a e) ai else aj else aj else kr [] ak else aj else bif d !=1 then bif !List.beq (aC f) (aC ⟨#[]⟩)then kr [] ak else bif jz.c a e then Lib.lt (jz.v a e) λi=>bif decide (i≥0)then bif decide (0<=i)&&decide (i<(a.length:aw))then bif decide (d=1)then bif decide ((bw (ar a i.toNat 1)).size+f.size<=4611686018427387904)then bif eu.c a (bw (ar a i.toNat 0)) (bw (ar a i.toNat 1)++f) (bF (ar a i.toNat (1+1)))then Lib.lt (eu.v a (bw (ar a i.toNat 0)) (bw (ar a i.toNat 1)++f) (bF (ar a i.toNat (1+1)))) λj=>bif gE.c j then bif !gE.v j then kr [] ak else kr j ai else aj else aj else aj else bif decide (i<0)then kr [] ak else bif decide (d=2)then bif eu.c a (bw (ar a i.toNat 0)) (bw (ar a i.toNat 1)) ((bw (ar a i.toNat 1)).size:aw)then Lib.lt (eu.v a (bw (ar a i.toNat 0)) (bw (ar a i.toNat 1)) ((bw (ar a i.toNat 1)).size:aw)) λj=>bif gE.c j then bif !gE.v j then kr [] ak else kr j ai else aj else aj else bif decide (d=3)then bif decide (bF (ar a i.toNat (1+1))<((bw (ar a i.toNat 1)).size:aw))then kr [] ak else bif bZ (aC h) (aC e)then kr [] ak else bif !qj.v h then kr [] ak else bif eT.c a e then bif eu.c (eT.v a e) h (bw (ar a i.toNat 1)) (bF (ar a i.toNat (1+1)))then bif gE.c (eu.v (eT.v a e) h (bw (ar a i.toNat 1)) (bF (ar a i.toNat (1+1))))then bif !gE.v (eu.v (eT.v a e) h (bw (ar a i.toNat 1)) (bF (ar a i.toNat (1+1))))then kr [] ak else kr (eu.v (eT.v a e) h (bw (ar a i.toNat 1)) (bF (ar a i.toNat (1+1)))) ai else aj else aj else aj else bif decide (d=4)then bif eT.c a e then bif gE.c (eT.v a e)then bif !gE.v (eT.v a e)then kr [] ak else kr (eT.v a e) ai else aj else aj else kr [] ak else aj else bif decide (d=1)then bif decide (cq ⟨#[]⟩+f.size<=4611686018427387904)then bif eu.c a e ({data:= #[]}++f) 0 then bif gE.c (eu.v a e ({data:= #[]}++f) 0)then bif !gE.v (eu.v a e ({data:= #[]}++f) 0)then kr [] ak else kr (eu.v a e ({data:= #[]}++f) 0) ai else aj else aj else aj else bif decide (i<0)then kr [] ak else bif decide (d=2)then bif eu.c a e ⟨#[]⟩ (cq ⟨#[]⟩:aw)then bif gE.c (eu.v a e ⟨#[]⟩ (cq ⟨#[]⟩:aw))then bif !gE.v (eu.v a e ⟨#[]⟩ (cq ⟨#[]⟩:aw))then kr [] ak else kr (eu.v a e ⟨#[]⟩ (cq ⟨#[]⟩:aw)) ai else aj else aj else bif decide (d=3)then bif bZ (aC h) (aC e)then kr [] ak else bif !qj.v h then kr [] ak else bif eT.c a e then bif eu.c (eT.v a e) h ⟨#[]⟩ 0 then bif gE.c (eu.v (eT.v a e) h ⟨#[]⟩ 0)then bif !gE.v (eu.v (eT.v a e) h ⟨#[]⟩ 0)then kr [] ak else kr (eu.v (eT.v a e) h ⟨#[]⟩ 0) ai else aj else aj else aj else bif decide (d=4)then bif eT.c a e then bif gE.c (eT.v a e)then bif !gE.v (eT.v a e)then kr [] ak else kr (eT.v a e) ai else aj else aj else kr [] ak else aj else bif jz.c a e then Lib.lt (jz.v a e) λi=>bif decide (i≥0)then bif decide (0<=i)&&decide (i<(a.length:aw))then bif decide (d=1)then bif decide ((bw (ar a i.toNat 1)).size+f.size<=4611686018427387904)then bif eu.c a (bw (ar a i.toNat 0)) (bw (ar a i.toNat 1)++f) (bF (ar a i.toNat (1+1)))then Lib.lt (eu.v a (bw (ar a i.toNat 0)) (bw (ar a i.toNat 1)++f) (bF (ar a i.toNat (1+1)))) λj=>bif gE.c j then bif !gE.v j then kr [] ak else kr j ai else aj else aj else aj else bif decide (i<0)then kr [] ak else bif decide (d=2)then bif eu.c a (bw (ar a i.toNat 0)) (bw (ar a i.toNat 1)) ((bw (ar a i.toNat 1)).size:aw)then Lib.lt (eu.v a (bw (ar a i.toNat 0)) (bw (ar a i.toNat 1)) ((bw (ar a i.toNat 1)).size:aw)) λj=>bif gE.c j then bif !gE.v j then kr [] ak else kr j ai else aj else aj else bif decide (d=3)then bif decide (bF (ar a i.toNat (1+1))<((bw (ar a i.toNat 1)).size:aw))then kr [] ak else bif bZ (aC h) (aC e)then kr [] ak else bif !qj.v h then kr [] ak else bif eT.c a e then bif eu.c (eT.v a e) h (bw (ar a i.toNat 1)) (bF (ar a i.toNat (1+1)))then bif gE.c (eu.v (eT.v a e) h (bw (ar a i.toNat 1)) (bF (ar a i.toNat (1+1))))then bif !gE.v (eu.v (eT.v a e) h (bw (ar a i.toNat 1)) (bF (ar a i.toNat (1+1))))then kr [] ak else kr (eu.v (eT.v a e) h (bw (ar a i.toNat 1)) (bF (ar a i.toNat (1+1)))) ai else aj else aj else aj else bif decide (d=4)then bif eT.c a e then bif gE.c (eT.v a e)then bif !gE.v (eT.v a e)then kr [] ak else kr (eT.v a e) ai else aj else aj else kr [] ak else aj else bif decide (d=1)then bif decide (cq ⟨#[]⟩+f.size<=4611686018427387904)then bif eu.c a e ({data:= #[]}++f) 0 then bif gE.c (eu.v a e ({data:= #[]}++f) 0)then bif !gE.v (eu.v a e ({data:= #[]}++f) 0)then kr [] ak else kr (eu.v a e ({data:= #[]}++f) 0) ai else aj else aj else aj else bif decide (i<0)then kr [] ak else bif decide (d=2)then bif eu.c a e ⟨#[]⟩ (cq ⟨#[]⟩:aw)then bif gE.c (eu.v a e ⟨#[]⟩ (cq ⟨#[]⟩:aw))then bif !gE.v (eu.v a e ⟨#[]⟩ (cq ⟨#[]⟩:aw))then kr [] ak else kr (eu.v a e ⟨#[]⟩ (cq ⟨#[]⟩:aw)) ai else aj else aj else bif decide (d=3)then bif bZ (aC h) (aC e)then kr [] ak else bif !qj.v h then kr [] ak else bif eT.c a e then bif eu.c (eT.v a e) h ⟨#[]⟩ 0 then bif gE.c (eu.v (eT.v a e) h ⟨#[]⟩ 0)then bif !gE.v (eu.v (eT.v a e) h ⟨#[]⟩ 0)then kr [] ak else kr (eu.v (eT.v a e) h ⟨#[]⟩ 0) ai else aj else aj else aj else bif decide (d=4)then bif eT.c a e then bif gE.c (eT.v a e)then bif !gE.v (eT.v a e)then kr [] ak else kr (eT.v a e) ai else aj else aj else kr [] ak else aj else aj
def vo:=b λr0 r1=>ah (r0,r1)
def c:=λa d e f h=>(vo a d e f h).isSome
def v:=λa d e f h=>(vo a d e f h).getD ([],ak)
theorem out{x}:∀a d e f h,vo a d e f h=ah x->c a d e f h=ai/\v a d e f h=x:=λ_ _ _ _ _=>Lib.dh
end BZ

namespace qm
def r3(N:aF)(g k0 k1:yM R)(a:aQ)(d e:aw)(f:aQ):az R:=bif decide (e<(a.length:aw))then bif decide (0<=e)&&decide (e<(a.length:aw))then bif BZ.c f (bF (ar a e.toNat 0)) (bw (ar a e.toNat 1)) (bw (ar a e.toNat (1+1))) (bw (ar a e.toNat (1+1+1)))then bif !(BZ.v f (bF (ar a e.toNat 0)) (bw (ar a e.toNat 1)) (bw (ar a e.toNat (1+1))) (bw (ar a e.toNat (1+1+1)))).2 then k0 a e e f else g a d (bJ (e+1)) (BZ.v f (bF (ar a e.toNat 0)) (bw (ar a e.toNat 1)) (bw (ar a e.toNat (1+1))) (bw (ar a e.toNat (1+1+1)))).1 else aj else aj else k1 a d e f
def l3(N:aF)(k0 k1:yM R):aF->yM R
 |0=>λ_ _ _ _=>aj
 |n+1=>r3 N (l3 N k0 k1 n) k0 k1
def b(N:aF)(kr:DB R)(a d:aQ):az R:=bif cy ((aP [Ck.s,Ck.s,Ck.i ao] 0).length+a.length) 40 then l3 N (λ_ e _ f=>kr f e) (λe _ _ f=>kr f (e.length:aw)) N d 0 0 (aP [Ck.s,Ck.s,Ck.i ao] 0++a)else aj
def vo:=b Lib.cW λr0 r1=>ah (r0,r1)
def c:=λa d=>(vo a d).isSome
def v:=λa d=>(vo a d).getD ([],0)
theorem out{x}:∀a d,vo a d=ah x->c a d=ai/\v a d=x:=λ_ _=>Lib.dh
end qm

namespace AP
def b(kr:aw->az R)(a:aX):az R:=bif a then kr 0 else kr 1
def v(a0:aX):aw:=bif a0 then 0 else 1
theorem eG(kr:aw->az R)(a0:aX):b kr a0=kr (v a0):=by first|rfl|(unfold b v;simp only[cM];(repeat' split)<;>rfl)
end AP

namespace DN
def b(kr:n6 R)(a:aw)(d e f h:aQ)(i:aw)(j l:aQ)(m:aw)(o p q:aQ)(r s:aw)(t:aq)(u:aw)(w:aQ):az R:=bif DP.c a d e f h i j l m s (cz u 1000000)then Lib.lt (DP.v a d e f h i j l m s (cz u 1000000)) λy=>bif y.2.2.2.2.2.2.2.2.2 then bif decide (cz u 1000000>0)then bif decide (0<=s)&&decide (s<(y.2.2.2.2.2.2.1.length:aw))then bif cy ((aP [Ck.s,Ck.i ao,Ck.i ao,Ck.s] 0).length+q.length) 48 then bif cy ((aP [Ck.s,Ck.i ao,Ck.i ao,Ck.s] 0++q).length+(aD (aP [Ck.s,Ck.i ao,Ck.i ao,Ck.s] 1) 0 [.s (bw (ar y.2.2.2.2.2.2.1 s.toNat 0)), .i .i64 (bF (ar y.2.2.2.2.2.2.1 s.toNat (1+1+1+1))), .i .i64 (bF (ar y.2.2.2.2.2.2.1 s.toNat (1+1+1))), .s (bw (ar y.2.2.2.2.2.2.1 s.toNat 1))]).length) 48 then bif DQ.c (bw (ar y.2.2.2.2.2.2.1 s.toNat 0)) (bF (ar y.2.2.2.2.2.2.1 s.toNat (1+1+1+1))) (bF (ar y.2.2.2.2.2.2.1 s.toNat (1+1+1))) (bw (ar y.2.2.2.2.2.2.1 s.toNat 1))then Lib.lt (DQ.v (bw (ar y.2.2.2.2.2.2.1 s.toNat 0)) (bF (ar y.2.2.2.2.2.2.1 s.toNat (1+1+1+1))) (bF (ar y.2.2.2.2.2.2.1 s.toNat (1+1+1))) (bw (ar y.2.2.2.2.2.2.1 s.toNat 1))) λz=>bif z.2 then bif qm.c o z.1 then Lib.lt (qm.v o z.1) λα=>kr (AP.v y.2.2.2.2.2.2.2.2.2) y.1 y.2.1 y.2.2.1 y.2.2.2.1 y.2.2.2.2.1 y.2.2.2.2.2.1 y.2.2.2.2.2.2.1 y.2.2.2.2.2.2.2.1 y.2.2.2.2.2.2.2.2.1 α.1 p (aP [Ck.s,Ck.i ao,Ck.i ao,Ck.s] 0++q++aD (aP [Ck.s,Ck.i ao,Ck.i ao,Ck.s] 1) 0 [.s (bw (ar y.2.2.2.2.2.2.1 s.toNat 0)), .i .i64 (bF (ar y.2.2.2.2.2.2.1 s.toNat (1+1+1+1))), .i .i64 (bF (ar y.2.2.2.2.2.2.1 s.toNat (1+1+1))), .s (bw (ar y.2.2.2.2.2.2.1 s.toNat 1))])else aj else kr (AP.v y.2.2.2.2.2.2.2.2.2) y.1 y.2.1 y.2.2.1 y.2.2.2.1 y.2.2.2.2.1 y.2.2.2.2.2.1 y.2.2.2.2.2.2.1 y.2.2.2.2.2.2.2.1 y.2.2.2.2.2.2.2.2.1 o p (aP [Ck.s,Ck.i ao,Ck.i ao,Ck.s] 0++q++aD (aP [Ck.s,Ck.i ao,Ck.i ao,Ck.s] 1) 0 [.s (bw (ar y.2.2.2.2.2.2.1 s.toNat 0)), .i .i64 (bF (ar y.2.2.2.2.2.2.1 s.toNat (1+1+1+1))), .i .i64 (bF (ar y.2.2.2.2.2.2.1 s.toNat (1+1+1))), .s (bw (ar y.2.2.2.2.2.2.1 s.toNat 1))])else aj else aj else aj else aj else kr (AP.v y.2.2.2.2.2.2.2.2.2) y.1 y.2.1 y.2.2.1 y.2.2.2.1 y.2.2.2.2.1 y.2.2.2.2.2.1 y.2.2.2.2.2.2.1 y.2.2.2.2.2.2.2.1 y.2.2.2.2.2.2.2.2.1 o p q else kr (AP.v y.2.2.2.2.2.2.2.2.2) y.1 y.2.1 y.2.2.1 y.2.2.2.1 y.2.2.2.2.1 y.2.2.2.2.2.1 y.2.2.2.2.2.2.1 y.2.2.2.2.2.2.2.1 y.2.2.2.2.2.2.2.2.1 o p q else aj
def vo:=b λr0 r1 r2 r3 r4 r5 r6 r7 r8 r9 JH Ap US=>ah (r0,r1,r2,r3,r4,r5,r6,r7,r8,r9,JH,Ap,US)
def c:=λa d e f h i j l m o p q r s t u w=>(vo a d e f h i j l m o p q r s t u w).isSome
def v:=λa d e f h i j l m o p q r s t u w=>(vo a d e f h i j l m o p q r s t u w).getD (0,0,[],[],[],[],0,[],[],0,[],[],[])
theorem out{x}:∀a d e f h i j l m o p q r s t u w,vo a d e f h i j l m o p q r s t u w=ah x->c a d e f h i j l m o p q r s t u w=ai/\v a d e f h i j l m o p q r s t u w=x:=λ_ _ _ _ _ _ _ _ _ _ _ _ _ _ _ _ _=>Lib.dh
end DN

namespace DO
def b(kr:kV R)(a:aw)(d e f h:aQ)(i:aw)(j l:aQ)(m o:aw):az R:=bif fQ.c a d e f h i j l m then Lib.lt (fQ.v a d e f h i j l m) λp=>bif vd.c a d e f h i j l m o then Lib.lt (vd.v a d e f h i j l m o) λq=>bif !q then kr p.1 p.2.1 p.2.2.1 p.2.2.2.1 p.2.2.2.2.1 p.2.2.2.2.2.1 p.2.2.2.2.2.2.1 p.2.2.2.2.2.2.2.1 p.2.2.2.2.2.2.2.2 ak else bif decide (0<=o)&&decide (o<(p.2.2.2.2.2.2.1.length:aw))then bif sI.c p.1 p.2.1 p.2.2.1 p.2.2.2.1 p.2.2.2.2.1 p.2.2.2.2.2.1 (eJ p.2.2.2.2.2.2.1 o.toNat 2 [.i .i64 3]) p.2.2.2.2.2.2.2.1 p.2.2.2.2.2.2.2.2 o 3 then Lib.lt (sI.v p.1 p.2.1 p.2.2.1 p.2.2.2.1 p.2.2.2.2.1 p.2.2.2.2.2.1 (eJ p.2.2.2.2.2.2.1 o.toNat 2 [.i .i64 3]) p.2.2.2.2.2.2.2.1 p.2.2.2.2.2.2.2.2 o 3) λr=>kr r.1 r.2.1 r.2.2.1 r.2.2.2.1 r.2.2.2.2.1 r.2.2.2.2.2.1 r.2.2.2.2.2.2.1 r.2.2.2.2.2.2.2.1 r.2.2.2.2.2.2.2.2 ai else aj else aj else aj else aj
def vo:=b λr0 r1 r2 r3 r4 r5 r6 r7 r8 r9=>ah (r0,r1,r2,r3,r4,r5,r6,r7,r8,r9)
def c:=λa d e f h i j l m o=>(vo a d e f h i j l m o).isSome
def v:=λa d e f h i j l m o=>(vo a d e f h i j l m o).getD (0,[],[],[],[],0,[],[],0,ak)
theorem out{x}:∀a d e f h i j l m o,vo a d e f h i j l m o=ah x->c a d e f h i j l m o=ai/\v a d e f h i j l m o=x:=λ_ _ _ _ _ _ _ _ _ _=>Lib.dh
end DO

namespace qH
def b(kr:eR R)(a:aw)(d e f h:aQ)(i:aw)(j l:aQ)(m o:aw):az R:=bif fQ.c a d e f h i j l m then bif decide (cz o 1000<0)then bif decide ((fQ.v a d e f h i j l m).1>bJ (1000000000-bJ (cz o 1000+1000)))then kr 1000000000 (fQ.v a d e f h i j l m).2.1 (fQ.v a d e f h i j l m).2.2.1 (fQ.v a d e f h i j l m).2.2.2.1 (fQ.v a d e f h i j l m).2.2.2.2.1 (fQ.v a d e f h i j l m).2.2.2.2.2.1 (fQ.v a d e f h i j l m).2.2.2.2.2.2.1 (fQ.v a d e f h i j l m).2.2.2.2.2.2.2.1 (fQ.v a d e f h i j l m).2.2.2.2.2.2.2.2 else kr (bJ ((fQ.v a d e f h i j l m).1+bJ (cz o 1000+1000))) (fQ.v a d e f h i j l m).2.1 (fQ.v a d e f h i j l m).2.2.1 (fQ.v a d e f h i j l m).2.2.2.1 (fQ.v a d e f h i j l m).2.2.2.2.1 (fQ.v a d e f h i j l m).2.2.2.2.2.1 (fQ.v a d e f h i j l m).2.2.2.2.2.2.1 (fQ.v a d e f h i j l m).2.2.2.2.2.2.2.1 (fQ.v a d e f h i j l m).2.2.2.2.2.2.2.2 else bif decide ((fQ.v a d e f h i j l m).1>bJ (1000000000-cz o 1000))then kr 1000000000 (fQ.v a d e f h i j l m).2.1 (fQ.v a d e f h i j l m).2.2.1 (fQ.v a d e f h i j l m).2.2.2.1 (fQ.v a d e f h i j l m).2.2.2.2.1 (fQ.v a d e f h i j l m).2.2.2.2.2.1 (fQ.v a d e f h i j l m).2.2.2.2.2.2.1 (fQ.v a d e f h i j l m).2.2.2.2.2.2.2.1 (fQ.v a d e f h i j l m).2.2.2.2.2.2.2.2 else kr (bJ ((fQ.v a d e f h i j l m).1+cz o 1000)) (fQ.v a d e f h i j l m).2.1 (fQ.v a d e f h i j l m).2.2.1 (fQ.v a d e f h i j l m).2.2.2.1 (fQ.v a d e f h i j l m).2.2.2.2.1 (fQ.v a d e f h i j l m).2.2.2.2.2.1 (fQ.v a d e f h i j l m).2.2.2.2.2.2.1 (fQ.v a d e f h i j l m).2.2.2.2.2.2.2.1 (fQ.v a d e f h i j l m).2.2.2.2.2.2.2.2 else aj
def vo:=b λr0 r1 r2 r3 r4 r5 r6 r7 r8=>ah (r0,r1,r2,r3,r4,r5,r6,r7,r8)
def c:=λa d e f h i j l m o=>(vo a d e f h i j l m o).isSome
def v:=λa d e f h i j l m o=>(vo a d e f h i j l m o).getD (0,[],[],[],[],0,[],[],0)
theorem out{x}:∀a d e f h i j l m o,vo a d e f h i j l m o=ah x->c a d e f h i j l m o=ai/\v a d e f h i j l m o=x:=λ_ _ _ _ _ _ _ _ _ _=>Lib.dh
end qH

namespace s_
def r4(N:aF)(g k0:jd R)(a d e:aw)(f h i j:aQ)(l:aw)(m o:aQ)(p q r s t u w:aw)(y z α xa xb xc:aQ):az R:=bif decide (d<(o.length:aw))then bif decide (0<=d)&&decide (d<(o.length:aw))then bif bF (ar o d.toNat 0) !=a then bif decide (0<=d)&&decide (d<(o.length:aw))then bif cy (xc.length+(aD (aP [Ck.i ao,Ck.s,Ck.i ao,Ck.i ao,Ck.i ao,Ck.s,Ck.i ao] 1) 0 [.i .i64 (bF (ar o d.toNat 0)), .s (bw (ar o d.toNat 1)), .i .i64 (bF (ar o d.toNat (1+1))), .i .i64 (bF (ar o d.toNat (1+1+1))), .i .i64 (bF (ar o d.toNat (1+1+1+1))), .s (bw (ar o d.toNat (1+1+1+1+1))), .i .i64 (bF (ar o d.toNat (1+1+1+1+1+1)))]).length) 72 then g a (bJ (d+1)) e f h i j l m o p q r s t u w y z α xa xb (xc++aD (aP [Ck.i ao,Ck.s,Ck.i ao,Ck.i ao,Ck.i ao,Ck.s,Ck.i ao] 1) 0 [.i .i64 (bF (ar o d.toNat 0)), .s (bw (ar o d.toNat 1)), .i .i64 (bF (ar o d.toNat (1+1))), .i .i64 (bF (ar o d.toNat (1+1+1))), .i .i64 (bF (ar o d.toNat (1+1+1+1))), .s (bw (ar o d.toNat (1+1+1+1+1))), .i .i64 (bF (ar o d.toNat (1+1+1+1+1+1)))])else aj else aj else g a (bJ (d+1)) e f h i j l m o p q r s t u w y z α xa xb xc else aj else k0 a d e f h i j l m o p q r s t u w y z α xa xb xc
def l4(N:aF)(k0:jd R):aF->jd R
 |0=>λ_ _ _ _ _ _ _ _ _ _ _ _ _ _ _ _ _ _ _ _ _ _ _=>aj
 |n+1=>r4 N (l4 N k0 n) k0
def b(N:aF)(kr:eR R)(a:aw)(d e f h:aQ)(i:aw)(j l:aQ)(m o:aw):az R:=bif fQ.c a d e f h i j l m then l4 N (λ_ _ _ _ _ _ _ _ _ _ _ _ _ _ p q r s t u w y z=>kr p s t u w q y z r) N o 0 a d e f h i j l m 0 0 0 (fQ.v a d e f h i j l m).1 (fQ.v a d e f h i j l m).2.2.2.2.2.1 (fQ.v a d e f h i j l m).2.2.2.2.2.2.2.2 (fQ.v a d e f h i j l m).2.1 (fQ.v a d e f h i j l m).2.2.1 (fQ.v a d e f h i j l m).2.2.2.1 (fQ.v a d e f h i j l m).2.2.2.2.1 (fQ.v a d e f h i j l m).2.2.2.2.2.2.1 (aP [Ck.i ao,Ck.s,Ck.i ao,Ck.i ao,Ck.i ao,Ck.s,Ck.i ao] 0)else aj
def vo:=b Lib.cW λr0 r1 r2 r3 r4 r5 r6 r7 r8=>ah (r0,r1,r2,r3,r4,r5,r6,r7,r8)
def c:=λa d e f h i j l m o=>(vo a d e f h i j l m o).isSome
def v:=λa d e f h i j l m o=>(vo a d e f h i j l m o).getD (0,[],[],[],[],0,[],[],0)
theorem out{x}:∀a d e f h i j l m o,vo a d e f h i j l m o=ah x->c a d e f h i j l m o=ai/\v a d e f h i j l m o=x:=λ_ _ _ _ _ _ _ _ _ _=>Lib.dh
end s_

namespace wR
def r5(N:aF)(g:BN R)(g1:vG R)(k0:BN R)(k1:vG R)(a:aQ)(d:aw)(e:aQ):az R:=bif decide (d<(e.length:aw))then bif decide (0<=d)&&decide (d<(e.length:aw))then bif decide (d<(a.length:aw))then bif decide (0<=d)&&decide (d<(a.length:aw))then bif decide (bF (ar a d.toNat 0)>((bw (ar e d.toNat 1)).size:aw))then bif decide (((bw (ar e d.toNat 1)).size:aw)<bF (ar e d.toNat (1+1)))then bif g7 0 (bF (ar e d.toNat (1+1))) ((bw (ar e d.toNat 1)).size:aw)then g1 a (bJ (d+1)) e ([]++aD (aP [Ck.s,Ck.s,Ck.i ao] 1) 0 [.s (bw (ar e d.toNat 0)), .s (bO (bw (ar e d.toNat 1)) (aW 0) (bF (ar e d.toNat (1+1))).toNat), .i .i64 (bF (ar e d.toNat (1+1)))])else aj else bif g7 0 ((bw (ar e d.toNat 1)).size:aw) ((bw (ar e d.toNat 1)).size:aw)then g1 a (bJ (d+1)) e ([]++aD (aP [Ck.s,Ck.s,Ck.i ao] 1) 0 [.s (bw (ar e d.toNat 0)), .s (bO (bw (ar e d.toNat 1)) (aW 0) ((bw (ar e d.toNat 1)).size:aw).toNat), .i .i64 ((bw (ar e d.toNat 1)).size:aw)])else aj else bif decide (bF (ar a d.toNat 0)<bF (ar e d.toNat (1+1)))then bif g7 0 (bF (ar e d.toNat (1+1))) ((bw (ar e d.toNat 1)).size:aw)then g1 a (bJ (d+1)) e ([]++aD (aP [Ck.s,Ck.s,Ck.i ao] 1) 0 [.s (bw (ar e d.toNat 0)), .s (bO (bw (ar e d.toNat 1)) (aW 0) (bF (ar e d.toNat (1+1))).toNat), .i .i64 (bF (ar e d.toNat (1+1)))])else aj else bif g7 0 (bF (ar a d.toNat 0)) ((bw (ar e d.toNat 1)).size:aw)then g1 a (bJ (d+1)) e ([]++aD (aP [Ck.s,Ck.s,Ck.i ao] 1) 0 [.s (bw (ar e d.toNat 0)), .s (bO (bw (ar e d.toNat 1)) (aW 0) (bF (ar a d.toNat 0)).toNat), .i .i64 (bF (ar a d.toNat 0))])else aj else aj else bif decide (0<bF (ar e d.toNat (1+1)))then bif g7 0 (bF (ar e d.toNat (1+1))) ((bw (ar e d.toNat 1)).size:aw)then g1 a (bJ (d+1)) e ([]++aD (aP [Ck.s,Ck.s,Ck.i ao] 1) 0 [.s (bw (ar e d.toNat 0)), .s (bO (bw (ar e d.toNat 1)) (aW 0) (bF (ar e d.toNat (1+1))).toNat), .i .i64 (bF (ar e d.toNat (1+1)))])else aj else g1 a (bJ (d+1)) e ([]++aD (aP [Ck.s,Ck.s,Ck.i ao] 1) 0 [.s (bw (ar e d.toNat 0)), .s (bO (bw (ar e d.toNat 1)) (aW 0) (aW 0)), .i .i64 0])else aj else k0 a d e
def r5a(N:aF)(g:BN R)(g1:vG R)(k0:BN R)(k1:vG R)(a:aQ)(d:aw)(e f:aQ):az R:=bif decide (d<(e.length:aw))then bif decide (0<=d)&&decide (d<(e.length:aw))then bif decide (d<(a.length:aw))then bif decide (0<=d)&&decide (d<(a.length:aw))then bif decide (bF (ar a d.toNat 0)>((bw (ar e d.toNat 1)).size:aw))then bif decide (((bw (ar e d.toNat 1)).size:aw)<bF (ar e d.toNat (1+1)))then bif g7 0 (bF (ar e d.toNat (1+1))) ((bw (ar e d.toNat 1)).size:aw)then bif cy (f.length+(aD (aP [Ck.s,Ck.s,Ck.i ao] 1) 0 [.s (bw (ar e d.toNat 0)), .s (bO (bw (ar e d.toNat 1)) (aW 0) (bF (ar e d.toNat (1+1))).toNat), .i .i64 (bF (ar e d.toNat (1+1)))]).length) 40 then g1 a (bJ (d+1)) e (f++aD (aP [Ck.s,Ck.s,Ck.i ao] 1) 0 [.s (bw (ar e d.toNat 0)), .s (bO (bw (ar e d.toNat 1)) (aW 0) (bF (ar e d.toNat (1+1))).toNat), .i .i64 (bF (ar e d.toNat (1+1)))])else aj else aj else bif g7 0 ((bw (ar e d.toNat 1)).size:aw) ((bw (ar e d.toNat 1)).size:aw)then bif cy (f.length+(aD (aP [Ck.s,Ck.s,Ck.i ao] 1) 0 [.s (bw (ar e d.toNat 0)), .s (bO (bw (ar e d.toNat 1)) (aW 0) ((bw (ar e d.toNat 1)).size:aw).toNat), .i .i64 ((bw (ar e d.toNat 1)).size:aw)]).length) 40 then g1 a (bJ (d+1)) e (f++aD (aP [Ck.s,Ck.s,Ck.i ao] 1) 0 [.s (bw (ar e d.toNat 0)), .s (bO (bw (ar e d.toNat 1)) (aW 0) ((bw (ar e d.toNat 1)).size:aw).toNat), .i .i64 ((bw (ar e d.toNat 1)).size:aw)])else aj else aj else bif decide (bF (ar a d.toNat 0)<bF (ar e d.toNat (1+1)))then bif g7 0 (bF (ar e d.toNat (1+1))) ((bw (ar e d.toNat 1)).size:aw)then bif cy (f.length+(aD (aP [Ck.s,Ck.s,Ck.i ao] 1) 0 [.s (bw (ar e d.toNat 0)), .s (bO (bw (ar e d.toNat 1)) (aW 0) (bF (ar e d.toNat (1+1))).toNat), .i .i64 (bF (ar e d.toNat (1+1)))]).length) 40 then g1 a (bJ (d+1)) e (f++aD (aP [Ck.s,Ck.s,Ck.i ao] 1) 0 [.s (bw (ar e d.toNat 0)), .s (bO (bw (ar e d.toNat 1)) (aW 0) (bF (ar e d.toNat (1+1))).toNat), .i .i64 (bF (ar e d.toNat (1+1)))])else aj else aj else bif g7 0 (bF (ar a d.toNat 0)) ((bw (ar e d.toNat 1)).size:aw)then bif cy (f.length+(aD (aP [Ck.s,Ck.s,Ck.i ao] 1) 0 [.s (bw (ar e d.toNat 0)), .s (bO (bw (ar e d.toNat 1)) (aW 0) (bF (ar a d.toNat 0)).toNat), .i .i64 (bF (ar a d.toNat 0))]).length) 40 then g1 a (bJ (d+1)) e (f++aD (aP [Ck.s,Ck.s,Ck.i ao] 1) 0 [.s (bw (ar e d.toNat 0)), .s (bO (bw (ar e d.toNat 1)) (aW 0) (bF (ar a d.toNat 0)).toNat), .i .i64 (bF (ar a d.toNat 0))])else aj else aj else aj else bif decide (0<bF (ar e d.toNat (1+1)))then bif g7 0 (bF (ar e d.toNat (1+1))) ((bw (ar e d.toNat 1)).size:aw)then bif cy (f.length+(aD (aP [Ck.s,Ck.s,Ck.i ao] 1) 0 [.s (bw (ar e d.toNat 0)), .s (bO (bw (ar e d.toNat 1)) (aW 0) (bF (ar e d.toNat (1+1))).toNat), .i .i64 (bF (ar e d.toNat (1+1)))]).length) 40 then g1 a (bJ (d+1)) e (f++aD (aP [Ck.s,Ck.s,Ck.i ao] 1) 0 [.s (bw (ar e d.toNat 0)), .s (bO (bw (ar e d.toNat 1)) (aW 0) (bF (ar e d.toNat (1+1))).toNat), .i .i64 (bF (ar e d.toNat (1+1)))])else aj else aj else bif cy (f.length+(aD (aP [Ck.s,Ck.s,Ck.i ao] 1) 0 [.s (bw (ar e d.toNat 0)), .s (bO (bw (ar e d.toNat 1)) (aW 0) (aW 0)), .i .i64 0]).length) 40 then g1 a (bJ (d+1)) e (f++aD (aP [Ck.s,Ck.s,Ck.i ao] 1) 0 [.s (bw (ar e d.toNat 0)), .s (bO (bw (ar e d.toNat 1)) (aW 0) (aW 0)), .i .i64 0])else aj else aj else k1 a d e f
def l5a(N:aF)(k0:BN R)(k1:vG R):aF->vG R
 |0=>λ_ _ _ _=>aj
 |n+1=>r5a N (λx0 x1 x2=>aj) (l5a N k0 k1 n) k0 k1
def l5(N:aF)(k0:BN R)(k1:vG R):aF->BN R
 |0=>λ_ _ _=>aj
 |n+1=>r5 N (l5 N k0 k1 n) (l5a N k0 k1 n) k0 k1
def b(N:aF)(kr:H3 R)(a d:aQ):az R:=bif gE.c a then bif !gE.v a then kr [] ak else l5 N (λ_ _ _=>kr [] ai) (λ_ _ _ e=>kr e ai) N d 0 a else aj
def vo:=b Lib.cW λr0 r1=>ah (r0,r1)
def c:=λa d=>(vo a d).isSome
def v:=λa d=>(vo a d).getD ([],ak)
theorem out{x}:∀a d,vo a d=ah x->c a d=ai/\v a d=x:=λ_ _=>Lib.dh
end wR

namespace vZ
def b(kr:yO R)(a:aQ)(d:aq):az R:=bif jz.c a d then bif decide (jz.v a d<0)then kr ⟨#[]⟩ ak else bif decide (0<=jz.v a d)&&decide (jz.v a d<(a.length:aw))then kr (bw (ar a (jz.v a d).toNat 1)) ai else aj else aj
def vo:=b λr0 r1=>ah (r0,r1)
def c:=λa d=>(vo a d).isSome
def v:=λa d=>(vo a d).getD (⟨#[]⟩,ak)
theorem out{x}:∀a d,vo a d=ah x->c a d=ai/\v a d=x:=λ_ _=>Lib.dh
end vZ

namespace fP
def r6(N:aF)(g k0 k1:vH R)(a:aq)(d e f:aw)(h:aX)(i j l:aw):az R:=bif decide (l<(a.size:aw))then bif decide (l<bJ (d+5))then bif decide (0<=l)&&decide (l<(a.size:aw))then bif decide (0<=l)&&decide (l<(a.size:aw))then bif decide ((↑(gQ a l.toNat):aw)<128)then bif decide (bJ (i+bJ (cz (bJ (↑(gQ a l.toNat):aw)) 128*j))>1000000000)then k0 a d 0 0 ak (bJ (i+bJ (cz (bJ (↑(gQ a l.toNat):aw)) 128*j))) (bJ (j*128)) l else bif kE.c (bJ (i+bJ (cz (bJ (↑(gQ a l.toNat):aw)) 128*j)))then bif g7 d (bJ (l+1)) (a.size:aw)then bif !List.beq (kE.v (bJ (i+bJ (cz (bJ (↑(gQ a l.toNat):aw)) 128*j)))).toList (bO a d.toNat (bJ (l+1)).toNat).toList then k0 a d 0 0 ak (bJ (i+bJ (cz (bJ (↑(gQ a l.toNat):aw)) 128*j))) (bJ (j*128)) l else k0 a d (bJ (i+bJ (cz (bJ (↑(gQ a l.toNat):aw)) 128*j))) (bJ (l+1)) ai (bJ (i+bJ (cz (bJ (↑(gQ a l.toNat):aw)) 128*j))) (bJ (j*128)) l else aj else aj else g a d e f h (bJ (i+bJ (cz (bJ (↑(gQ a l.toNat):aw)) 128*j))) (bJ (j*128)) (bJ (l+1))else aj else aj else k1 a d e f h i j l else k1 a d e f h i j l
def l6(N:aF)(k0 k1:vH R):aF->vH R
 |0=>λ_ _ _ _ _ _ _ _=>aj
 |n+1=>r6 N (l6 N k0 k1 n) k0 k1
def b(N:aF)(kr:Mf R)(a:aq)(d:aw):az R:=bif !kl.v d 0 (a.size:aw)then kr 0 0 ak else l6 N (λ_ _ e f h _ _ _=>kr e f h) (λ_ _ _ _ _ _ _ _=>kr 0 0 ak) N a d 0 0 ak 0 1 d
def v(cY:aq)(gP:aw):aw×aw×aX:=if 0<=gP/\gP<=cY.size then Lib.rv cY gP.toNat 5 0 0 else(0,0,ak)
theorem eG(kr:Mf R)(cY:aq)(gP:aw)(f0:D8 cY):∃N,b N kr cY gP=kr (v cY gP).1 (v cY gP).2.1 (v cY gP).2.2:=by
 refine⟨6, ?_⟩
 unfold b v;by_cases hn:0<=gP/\gP<=cY.size
 ·have e:kl.v gP 0 (cY.size:aw)=true:=by simp[kl.v,hn]
  obtain⟨a,rfl⟩:∃a:aF,gP=(a:aw):=⟨gP.toNat,by omega⟩
  have ha:a<=cY.size:=by omega
  rw[e,bz hn,Lib.dY];have hs:cY.size<=4611686018427387904:=f0;simp only[a_,ax]
  have:=Lib.g8 (λm (s:aF×aw)=>l6 6 (λy8 y9 Kc wx Md HJ Oz WJ=>kr Kc wx Md) (λQK Dx FA Eg wy Kd Ke V4=>kr 0 0 ak) m cY a 0 0 ak s.2 (128^s.1) ((a+s.1:aF):aw)) (λs=>5-s.1) (λs=>s.1<=5/\s.2=Lib.num cY a s.1/\∀i,i<s.1->128<=gQ cY (a+i))
   (λs=>kr (Lib.rv cY a (5-s.1) s.1 s.2).1 (Lib.rv cY a (5-s.1) s.1 s.2).2.1 (Lib.rv cY a (5-s.1) s.1 s.2).2.2) (λm s hs5=>by
   obtain⟨j,n⟩:=s
   obtain⟨hj,afk,hge⟩:=hs5
   dsimp only at hj afk hge⊢
   have hb:=Lib.GO cY (a+j)
   have e5:bJ ((a:aw)+5)=((a+5:aF):aw):=by rw[iI (by omega) (by omega)];omega
   by_cases gh:a+j<cY.size
   ·by_cases hj5:j<5
    ·have eb:bJ (gQ cY (a+j):aw)=(gQ cY (a+j):aw):=iI (by omega) (by omega);have em:cz (gQ cY (a+j):aw) 128=(gQ cY (a+j):aw)%128:=iq (by omega);have hp:(128:aw)^j<=268435456/\(1:aw)<=128^j/\(128:aw)^(j+1)=128^j*128:=by
      obtain rfl|rfl|rfl|rfl|rfl:j=0\/j=1\/j=2\/j=3\/j=4:=by omega
      all_goals decide
     have hrg:=Lib.Bw cY j a;rw[<-afk]at hrg;have hm0:0<=(gQ cY (a+j):aw)%128/\(gQ cY (a+j):aw)%128<=127:=by omega
     have hq:0<=(gQ cY (a+j):aw)%128*128^j/\(gQ cY (a+j):aw)%128*128^j<=127*128^j:=
      ⟨Int.mul_nonneg hm0.1 (by omega),DC hm0.2 (by omega)⟩
     have eq1:bJ ((gQ cY (a+j):aw)%128*128^j)=(gQ cY (a+j):aw)%128*128^j:=iI (by omega) (by omega);have eq2:bJ (n+(gQ cY (a+j):aw)%128*128^j)=n+(gQ cY (a+j):aw)%128*128^j:=iI (by omega) (by omega);have eq3:bJ ((128:aw)^j*128)=128^(j+1):=by rw[hp.2.2];exact iI (by omega) (by omega)
     have ef:5-j=(5-(j+1))+1:=by omega
     have XW:n+(gQ cY (a+j):aw)%128*128^j=Lib.num cY a (j+1):=by rw[Lib.xP,<-afk]
     have en:bJ (((a+j:aF):aw)+1)=((a+(j+1):aF):aw):=Lib.c5 gh (by omega);have c2:decide (((a+j:aF):aw)<((a+5:aF):aw))=true:=Lib.Nc (by omega)
     have XV:Lib.rv cY a (5-j) j n=(if(gQ cY (a+j):aw)>127 then Lib.rv cY a (5-(j+1)) (j+1) (n+(gQ cY (a+j):aw)%128*128^j)
       else if(j>0/\gQ cY (a+j)=0)\/n+(gQ cY (a+j):aw)%128*128^j>1000000000 then(0,0,ak)
       else(n+(gQ cY (a+j):aw)%128*128^j,((a+j+1:aF):aw),ai)):=by
      rw[ef];simp only[Lib.rv];rw[bz gh]
     simp only[l6,r6,Lib.Nc gh,e5,c2,Lib.cF,Lib.dY,eb,em,eq1,eq2,eq3,en,au,aM];by_cases hc:(gQ cY (a+j):aw)<128
     ·left;rw[aE hc,au,XV,bH (by omega)];by_cases tF:n+(gQ cY (a+j):aw)%128*128^j>1000000000
      ·rw[aE tF,bz (.inr tF)];rfl
      ·have ec:kE.c (n+(gQ cY (a+j):aw)%128*128^j)=true:=aE (by omega);have ein:g7 (a:aw) ((a+(j+1):aF):aw) (cY.size:aw)=true:=by simp[g7];omega
       rw[aK tF,ax,ec,au,ein,au,XW];have arH:=Lib.canon cY j a (by omega) hge (by omega) (by rw[<-XW];omega);unfold kE.v;rw[arH];by_cases hz:j>0/\gQ cY (a+j)=0
       ·rw[aE hz,bz (.inl hz)];rfl
       ·rw[aK hz,bH (by rw[XW]at tF;omega)];rfl
     ·right;rw[aK hc];refine⟨(j+1,n+(gQ cY (a+j):aw)%128*128^j),⟨by dsimp only;omega,XW,λi hi=> ?_⟩,by dsimp only;omega,by dsimp only;rw[XV,bz (by omega)],rfl⟩
      by_cases Pp:i<j
      ·exact hge i Pp
      ·have:i=j:=by dsimp only at hi;omega
       subst this;omega
    ·left;have J7:j=5:=by omega
     subst J7;simp only[l6,r6,Lib.Nc gh,e5,Lib.Sv (bm (a+5)),au,ax];rfl
   ·left;have XV:Lib.rv cY a (5-j) j n=(0,0,ak):=by
     by_cases hj5:j<5
     ·have ef:5-j=(5-(j+1))+1:=by omega
      rw[ef];simp only[Lib.rv];rw[bH gh]
     ·rw[show 5-j=0 by omega];rfl
    simp only[l6,r6,Lib.Sv gh,ax,XV]) 6 (0,0) ⟨by dsimp only;omega,rfl,λi hi=>by dsimp only at hi;omega⟩ (by dsimp only;omega)
  exact this
 ·have e:kl.v gP 0 (cY.size:aw)=false:=by simp[kl.v];omega
  rw[e,bH hn];rfl
end fP

namespace HQ
def r5(N:aF)(g k0 k1:mm R)(a:aq)(d e:aw)(f:aQ):az R:=bif decide (e<(a.size:aw))then bif !(fP.v a e).2.2 then k0 a e e f else bif decide ((fP.v a e).1>bJ (bJ ((a.size:aw)-(fP.v a e).2.1)-4))then k0 a e e f else bif g7 (bJ ((fP.v a e).2.1+4)) (bJ (bJ ((fP.v a e).2.1+4)+(fP.v a e).1)) (a.size:aw)then bif fK.c (bO a (bJ ((fP.v a e).2.1+4)).toNat (bJ (bJ ((fP.v a e).2.1+4)+(fP.v a e).1)).toNat)then bif !(fK.v (bO a (bJ ((fP.v a e).2.1+4)).toNat (bJ (bJ ((fP.v a e).2.1+4)+(fP.v a e).1)).toNat)).2 then k0 a e e f else bif g7 e (bJ (bJ ((fP.v a e).2.1+4)+(fP.v a e).1)) (a.size:aw)then bif !List.beq (fK.v (bO a (bJ ((fP.v a e).2.1+4)).toNat (bJ (bJ ((fP.v a e).2.1+4)+(fP.v a e).1)).toNat)).1.toList (bO a e.toNat (bJ (bJ ((fP.v a e).2.1+4)+(fP.v a e).1)).toNat).toList then k0 a e e f else bif cy (f.length+(aD (aP [.s] 1) 0 [.s (bO a (bJ ((fP.v a e).2.1+4)).toNat (bJ (bJ ((fP.v a e).2.1+4)+(fP.v a e).1)).toNat)]).length) 16 then g a d (bJ (bJ ((fP.v a e).2.1+4)+(fP.v a e).1)) (f++aD (aP [.s] 1) 0 [.s (bO a (bJ ((fP.v a e).2.1+4)).toNat (bJ (bJ ((fP.v a e).2.1+4)+(fP.v a e).1)).toNat)])else aj else aj else aj else aj else k1 a d e f
def l5(N:aF)(k0 k1:mm R):aF->mm R
 |0=>λ_ _ _ _=>aj
 |n+1=>r5 N (l5 N k0 k1 n) k0 k1
def b(N:aF)(kr:DB R)(a:aq):az R:=bif decide ((a.size:aw)>20000)then kr (aP [.s] 0) 0 else l5 N (λ_ d _ e=>kr e d) (λ_ _ d e=>kr e d) N a 0 0 (aP [.s] 0)
def vo:=b Lib.cW λr0 r1=>ah (r0,r1)
def c:=λa=>(vo a).isSome
def v:=λa=>(vo a).getD ([],0)
theorem out{x}:∀a,vo a=ah x->c a=ai/\v a=x:=λ_=>Lib.dh
end HQ

namespace qk
def b(kr:Mj R)(a:aq)(d:aw):az R:=bif !(fP.v a d).2.2 then kr ⟨#[]⟩ 0 ak else bif decide ((fP.v a d).1>20000)then kr ⟨#[]⟩ 0 ak else bif decide ((fP.v a d).1>bJ ((a.size:aw)-(fP.v a d).2.1))then kr ⟨#[]⟩ 0 ak else bif g7 (fP.v a d).2.1 (bJ ((fP.v a d).2.1+(fP.v a d).1)) (a.size:aw)then kr (bO a (fP.v a d).2.1.toNat (bJ ((fP.v a d).2.1+(fP.v a d).1)).toNat) (bJ ((fP.v a d).2.1+(fP.v a d).1)) ai else aj
def v(cY:aq)(gP:aw):aq×aw×aX:=Lib.ia cY gP
theorem eG(kr:Mj R)(cY:aq)(gP:aw)(f0:D8 cY):b kr cY gP=kr (v cY gP).1 (v cY gP).2.1 (v cY gP).2.2:=Lib.vB f0 gP kr
end qk

namespace rJ
def b(kr:wE R)(a:aq):az R:=bif !(qk.v a 0).2.2 then kr ⟨#[]⟩ 0 0 ⟨#[]⟩ ak else bif !(fP.v a (qk.v a 0).2.1).2.2 then kr ⟨#[]⟩ 0 0 ⟨#[]⟩ ak else bif !(fP.v a (fP.v a (qk.v a 0).2.1).2.1).2.2 then kr ⟨#[]⟩ 0 0 ⟨#[]⟩ ak else bif g7 (fP.v a (fP.v a (qk.v a 0).2.1).2.1).2.1 (a.size:aw) (a.size:aw)then bif !(jL.v (qk.v a 0).1 (fP.v a (qk.v a 0).2.1).1 (fP.v a (fP.v a (qk.v a 0).2.1).2.1).1 (bO a (fP.v a (fP.v a (qk.v a 0).2.1).2.1).2.1.toNat (a.size:aw).toNat)).2 then kr ⟨#[]⟩ 0 0 ⟨#[]⟩ ak else bif !List.beq (jL.v (qk.v a 0).1 (fP.v a (qk.v a 0).2.1).1 (fP.v a (fP.v a (qk.v a 0).2.1).2.1).1 (bO a (fP.v a (fP.v a (qk.v a 0).2.1).2.1).2.1.toNat (a.size:aw).toNat)).1.toList (aC a)then kr ⟨#[]⟩ 0 0 ⟨#[]⟩ ak else kr (qk.v a 0).1 (fP.v a (qk.v a 0).2.1).1 (fP.v a (fP.v a (qk.v a 0).2.1).2.1).1 (bO a (fP.v a (fP.v a (qk.v a 0).2.1).2.1).2.1.toNat (a.size:aw).toNat) ai else aj
def no:aq×aw×aw×aq×aX:=(⟨#[]⟩,0,0,⟨#[]⟩,ak)
def v(t0:aq):aq×aw×aw×aq×aX:=
 match Lib.ia t0 0 with
 |(k,a,ai)=>(match Lib.eF t0 a with
  |(s,x,ai)=>(match Lib.eF t0 x with
   |(l,y,ai)=>if nb.v k s l (t0.extract y.toNat t0.size)=ai then(k,s,l,t0.extract y.toNat t0.size,ai)else no
   |_=>no)
  |_=>no)
 |_=>no
theorem eG(kr:wE R)(t0:aq)(f0:D8 t0):b kr t0=kr (v t0).1 (v t0).2.1 (v t0).2.2.1 (v t0).2.2.2.1 (v t0).2.2.2.2:=by
 have e1:qk.v=Lib.ia:=rfl;have e2:fP.v=Lib.eF:=rfl;unfold b v;simp only[e1,e2,Lib.dY];cases h1:Lib.ia t0 0 with
 |mk k r1=>
  obtain⟨a,ok1⟩:=r1;cases ok1 with
  |false=>rfl
  |true=>
   dsimp only;cases h2:Lib.eF t0 a with
   |mk s r2=>
    obtain⟨x,ok2⟩:=r2;cases ok2 with
    |false=>rfl
    |true=>
     dsimp only;cases h3:Lib.eF t0 x with
     |mk l r3=>
      obtain⟨y,ok3⟩:=r3;cases ok3 with
      |false=>rfl
      |true=>
       obtain⟨p1,p2,p3,p4,p5⟩:=Lib.Ht h1;obtain⟨q1,q2,q3,q4,q5,q6⟩:=Lib.j6 h2;obtain⟨r1,r2,r3,r4,r5,r6⟩:=Lib.j6 h3;dsimp only;simp only[a_,ax];rw[Lib.tp (show g7 y (t0.size:aw) (t0.size:aw)=ai by simp[g7];omega)];unfold jL.v;cases hE:nb.v k s l (t0.extract y.toNat t0.size)with
       |false=>rfl
       |true=>
        have ht:jL.sR k s l (t0.extract y.toNat t0.size)=t0:=by unfold jL.sR;rw[p5,q6,Lib.xA t0 (by omega) (by omega),r6,Lib.xA t0 (by omega) (by omega),Lib.xA t0 (by omega) (by omega)];exact Lib.GS t0
        simp only[if_true,a_,ax,ht,Lib.qJ]
end rJ

namespace yF
def r7(N:aF)(g k0:QV R)(a:aw)(d e:aQ):az R:=bif decide (a<(e.length:aw))then bif decide (0<=a)&&decide (a<(e.length:aw))then bif(rJ.v (bw (ar e a.toNat 0))).2.2.2.2 then bif lM.c d (rJ.v (bw (ar e a.toNat 0))).1 (rJ.v (bw (ar e a.toNat 0))).2.1 (rJ.v (bw (ar e a.toNat 0))).2.2.1 (rJ.v (bw (ar e a.toNat 0))).2.2.2.1 then g (bJ (a+1)) (lM.v d (rJ.v (bw (ar e a.toNat 0))).1 (rJ.v (bw (ar e a.toNat 0))).2.1 (rJ.v (bw (ar e a.toNat 0))).2.2.1 (rJ.v (bw (ar e a.toNat 0))).2.2.2.1) e else aj else g (bJ (a+1)) d e else aj else k0 a d e
def l7(N:aF)(k0:QV R):aF->QV R
 |0=>λ_ _ _=>aj
 |n+1=>r7 N (l7 N k0 n) k0
def b(N:aF)(kr:aQ->az R)(a:aQ):az R:=bif gE.c a then bif !gE.v a then kr (aP [Ck.s,Ck.i ao,Ck.i ao,Ck.s] 0)else bif vZ.c a {data:= #[ay 107,ay 101,ay 112,ay 116]}then bif HQ.c (vZ.v a {data:= #[ay 107,ay 101,ay 112,ay 116]}).1 then l7 N (λ_ d _=>kr d) N 0 (aP [Ck.s,Ck.i ao,Ck.i ao,Ck.s] 0) (HQ.v (vZ.v a {data:= #[ay 107,ay 101,ay 112,ay 116]}).1).1 else aj else aj else aj
def vo:=b Lib.cW λr0=>ah r0
def c:=λa=>(vo a).isSome
def v:=λa=>(vo a).getD ([])
theorem out{x}:∀a,vo a=ah x->c a=ai/\v a=x:=λ_=>Lib.dh
end yF

namespace jM
def r9(N:aF)(g:A6 R)(k0:H4 R)(k1:A6 R)(a:aQ)(d:aX)(e:aq)(f:aw)(h:aQ):az R:=bif decide (f<(a.length:aw))then bif decide (0<=f)&&decide (f<(a.length:aw))then bif fK.c (jL.v (bw (ar a f.toNat 0)) (bF (ar a f.toNat 1)) (bF (ar a f.toNat (1+1))) (bw (ar a f.toNat (1+1+1)))).1 then bif !(jL.v (bw (ar a f.toNat 0)) (bF (ar a f.toNat 1)) (bF (ar a f.toNat (1+1))) (bw (ar a f.toNat (1+1+1)))).2 then k0 a ak e f (aP [Ck.i ao,Ck.s,Ck.s,Ck.s] 0) h else bif !(fK.v (jL.v (bw (ar a f.toNat 0)) (bF (ar a f.toNat 1)) (bF (ar a f.toNat (1+1))) (bw (ar a f.toNat (1+1+1)))).1).2 then k0 a ak e f (aP [Ck.i ao,Ck.s,Ck.s,Ck.s] 0) h else bif decide (e.size+(fK.v (jL.v (bw (ar a f.toNat 0)) (bF (ar a f.toNat 1)) (bF (ar a f.toNat (1+1))) (bw (ar a f.toNat (1+1+1)))).1).1.size<=4611686018427387904)then g a d (e++(fK.v (jL.v (bw (ar a f.toNat 0)) (bF (ar a f.toNat 1)) (bF (ar a f.toNat (1+1))) (bw (ar a f.toNat (1+1+1)))).1).1) (bJ (f+1)) h else aj else aj else aj else k1 a d e f h
def l9(N:aF)(k0:H4 R)(k1:A6 R):aF->A6 R
 |0=>λ_ _ _ _ _=>aj
 |n+1=>r9 N (l9 N k0 k1 n) k0 k1
def b(N:aF)(kr:H3 R)(a d:aQ):az R:=bif gE.c a then bif !gE.v a then kr (aP [Ck.i ao,Ck.s,Ck.s,Ck.s] 0) ak else bif vZ.c a {data:= #[ay 110,ay 101,ay 119]}then bif(vZ.v a {data:= #[ay 110,ay 101,ay 119]}).2 then l9 N (λ_ e _ _ f _=>kr f e) (λ_ _ e _ f=>bif cy (f.length+(aD (aD (aD (aP [Ck.i ao,Ck.s,Ck.s,Ck.s] 3) 0 [.i .i64 1, .s {data:= #[ay 110,ay 101,ay 119]}, .s e, .s ⟨#[]⟩]) 1 [.i .i64 2, .s {data:= #[ay 110,ay 101,ay 119]}, .s ⟨#[]⟩, .s ⟨#[]⟩]) 2 [.i .i64 3, .s {data:= #[ay 110,ay 101,ay 119]}, .s ⟨#[]⟩, .s {data:= #[ay 107,ay 101,ay 112,ay 116]}]).length) 56 then kr (f++aD (aD (aD (aP [Ck.i ao,Ck.s,Ck.s,Ck.s] 3) 0 [.i .i64 1, .s {data:= #[ay 110,ay 101,ay 119]}, .s e, .s ⟨#[]⟩]) 1 [.i .i64 2, .s {data:= #[ay 110,ay 101,ay 119]}, .s ⟨#[]⟩, .s ⟨#[]⟩]) 2 [.i .i64 3, .s {data:= #[ay 110,ay 101,ay 119]}, .s ⟨#[]⟩, .s {data:= #[ay 107,ay 101,ay 112,ay 116]}]) ai else aj) N d ak ⟨#[]⟩ 0 (aP [Ck.i ao,Ck.s,Ck.s,Ck.s] 0++aD (aP [Ck.i ao,Ck.s,Ck.s,Ck.s] 1) 0 [.i .i64 4, .s {data:= #[ay 110,ay 101,ay 119]}, .s ⟨#[]⟩, .s ⟨#[]⟩])else l9 N (λ_ e _ _ f _=>kr f e) (λ_ _ e _ f=>bif cy (f.length+(aD (aD (aD (aP [Ck.i ao,Ck.s,Ck.s,Ck.s] 3) 0 [.i .i64 1, .s {data:= #[ay 110,ay 101,ay 119]}, .s e, .s ⟨#[]⟩]) 1 [.i .i64 2, .s {data:= #[ay 110,ay 101,ay 119]}, .s ⟨#[]⟩, .s ⟨#[]⟩]) 2 [.i .i64 3, .s {data:= #[ay 110,ay 101,ay 119]}, .s ⟨#[]⟩, .s {data:= #[ay 107,ay 101,ay 112,ay 116]}]).length) 56 then kr (f++aD (aD (aD (aP [Ck.i ao,Ck.s,Ck.s,Ck.s] 3) 0 [.i .i64 1, .s {data:= #[ay 110,ay 101,ay 119]}, .s e, .s ⟨#[]⟩]) 1 [.i .i64 2, .s {data:= #[ay 110,ay 101,ay 119]}, .s ⟨#[]⟩, .s ⟨#[]⟩]) 2 [.i .i64 3, .s {data:= #[ay 110,ay 101,ay 119]}, .s ⟨#[]⟩, .s {data:= #[ay 107,ay 101,ay 112,ay 116]}]) ai else aj) N d ak ⟨#[]⟩ 0 (aP [Ck.i ao,Ck.s,Ck.s,Ck.s] 0)else aj else aj
def vo:=b Lib.cW λr0 r1=>ah (r0,r1)
def c:=λa d=>(vo a d).isSome
def v:=λa d=>(vo a d).getD ([],ak)
theorem out{x}:∀a d,vo a d=ah x->c a d=ai/\v a d=x:=λ_ _=>Lib.dh
end jM

namespace z8
def r4(N:aF)(g k0:mP R)(a:aw)(d:aQ)(e f h i j l m:aw)(o p q r s t:aQ):az R:=bif decide (e<(d.length:aw))then bif decide (0<=e)&&decide (e<(d.length:aw))then bif nb.v (bw (ar d e.toNat 0)) (bF (ar d e.toNat 1)) (bF (ar d e.toNat (1+1))) (bw (ar d e.toNat (1+1+1)))then bif decide (0<=e)&&decide (e<(d.length:aw))then bif vR.v (bw (ar d e.toNat 0)) (bF (ar d e.toNat 1)) (bF (ar d e.toNat (1+1))) (bw (ar d e.toNat (1+1+1))) a then bif decide (0<=e)&&decide (e<(d.length:aw))then bif OR.c j o p q r l s t m (bw (ar d e.toNat 0)) (bF (ar d e.toNat 1)) (bF (ar d e.toNat (1+1))) (bw (ar d e.toNat (1+1+1)))then Lib.lt (OR.v j o p q r l s t m (bw (ar d e.toNat 0)) (bF (ar d e.toNat 1)) (bF (ar d e.toNat (1+1))) (bw (ar d e.toNat (1+1+1)))) λu=>g a d (bJ (e+1)) f h i u.1 u.2.2.2.2.2.1 u.2.2.2.2.2.2.2.2 u.2.1 u.2.2.1 u.2.2.2.1 u.2.2.2.2.1 u.2.2.2.2.2.2.1 u.2.2.2.2.2.2.2.1 else aj else aj else g a d (bJ (e+1)) f h i j l m o p q r s t else aj else g a d (bJ (e+1)) f h i j l m o p q r s t else aj else k0 a d e f h i j l m o p q r s t
def l4(N:aF)(k0:mP R):aF->mP R
 |0=>λ_ _ _ _ _ _ _ _ _ _ _ _ _ _ _=>aj
 |n+1=>r4 N (l4 N k0 n) k0
def b(N:aF)(kr:eR R)(a:aw)(d:aQ):az R:=l4 N (λ_ _ _ _ _ _ e f h i j l m o p=>kr e i j l m f o p h) N a d 0 0 0 0 a 0 0 [] [] [] ([]++aD (aP [Ck.l 3] 1) 0 [CV.l 3 (aP [Ck.i ao] (aW 16))]++aD (aP [Ck.l 3] 1) 0 [CV.l 3 (aP [Ck.i ao] (aW 16))]++aD (aP [Ck.l 3] 1) 0 [CV.l 3 (aP [Ck.i ao] (aW 16))]) [] []
def vo:=b Lib.cW λr0 r1 r2 r3 r4 r5 r6 r7 r8=>ah (r0,r1,r2,r3,r4,r5,r6,r7,r8)
def c:=λa d=>(vo a d).isSome
def v:=λa d=>(vo a d).getD (0,[],[],[],[],0,[],[],0)
theorem out{x}:∀a d,vo a d=ah x->c a d=ai/\v a d=x:=λ_ _=>Lib.dh
end z8

namespace wN
def r7(N:aF)(g g1 k0 k1:iB R)(a d e f:aw)(h i j l m o p q r s t:aQ):az R:=bif decide (a<(h.length:aw))then bif decide (0<=a)&&decide (a<(h.length:aw))then bif vR.v (bw (ar h a.toNat 0)) (bF (ar h a.toNat 1)) (bF (ar h a.toNat (1+1))) (bw (ar h a.toNat (1+1+1))) d then bif decide (0<=a)&&decide (a<(h.length:aw))then bif cy (i.length+(aD (aP [Ck.s,Ck.i ao,Ck.i ao,Ck.s] 1) 0 [.s (bw (ar h a.toNat 0)), .i .i64 (bF (ar h a.toNat 1)), .i .i64 (bF (ar h a.toNat (1+1))), .s (bw (ar h a.toNat (1+1+1)))]).length) 48 then g (bJ (a+1)) d e f h (i++aD (aP [Ck.s,Ck.i ao,Ck.i ao,Ck.s] 1) 0 [.s (bw (ar h a.toNat 0)), .i .i64 (bF (ar h a.toNat 1)), .i .i64 (bF (ar h a.toNat (1+1))), .s (bw (ar h a.toNat (1+1+1)))]) j l m o p q r s t else aj else aj else g (bJ (a+1)) d e f h i j l m o p q r s t else aj else k0 a d e f h i j l m o p q r s t
def r7a(N:aF)(g g1 k0 k1:iB R)(a d e f:aw)(h i j l m o p q r s t:aQ):az R:=bif decide (a<(h.length:aw))then bif decide (0<=a)&&decide (a<(h.length:aw))then bif vR.v (bw (ar h a.toNat 0)) (bF (ar h a.toNat 1)) (bF (ar h a.toNat (1+1))) (bw (ar h a.toNat (1+1+1))) d then bif decide (0<=a)&&decide (a<(h.length:aw))then bif cy (i.length+(aD (aP [Ck.s,Ck.i ao,Ck.i ao,Ck.s] 1) 0 [.s (bw (ar h a.toNat 0)), .i .i64 (bF (ar h a.toNat 1)), .i .i64 (bF (ar h a.toNat (1+1))), .s (bw (ar h a.toNat (1+1+1)))]).length) 48 then g1 (bJ (a+1)) d e f h (i++aD (aP [Ck.s,Ck.i ao,Ck.i ao,Ck.s] 1) 0 [.s (bw (ar h a.toNat 0)), .i .i64 (bF (ar h a.toNat 1)), .i .i64 (bF (ar h a.toNat (1+1))), .s (bw (ar h a.toNat (1+1+1)))]) j l m o p q r s t else aj else aj else g1 (bJ (a+1)) d e f h i j l m o p q r s t else aj else k1 a d e f h i j l m o p q r s t
def l7a(N:aF)(k0 k1:iB R):aF->iB R
 |0=>λ_ _ _ _ _ _ _ _ _ _ _ _ _ _ _=>aj
 |n+1=>r7a N (λx2 x3 x4 x5 x6 x7 x8 x9 WD WE HH WG x14 WH WI=>aj) (l7a N k0 k1 n) k0 k1
def l7(N:aF)(k0 k1:iB R):aF->iB R
 |0=>λ_ _ _ _ _ _ _ _ _ _ _ _ _ _ _=>aj
 |n+1=>r7 N (l7 N k0 k1 n) (l7a N k0 k1 n) k0 k1
def b(N:aF)(kr:o4 R)(a:aw)(d e f h:aQ)(i:aw)(j l:aQ)(m:aw)(o p q:aQ)(r s:aw)(t:aq)(u:aw)(w:aQ):az R:=bif wR.c o w then Lib.lt (wR.v o w) λy=>bif y.2 then bif yF.c y.1 then Lib.lt (yF.v y.1) λz=>l7 N (λ_ α _ _ _ xa _ _ _ _ _ _ xb xc xd=>bif jM.c xb xa then Lib.lt (jM.v xb xa) λxe=>bif xe.2 then bif qm.c xb xe.1 then Lib.lt (qm.v xb xe.1) λxf=>bif z8.c α xa then Lib.lt (z8.v α xa) λxg=>kr xg.1 xg.2.1 xg.2.2.1 xg.2.2.2.1 xg.2.2.2.2.1 xg.2.2.2.2.2.1 xg.2.2.2.2.2.2.1 xg.2.2.2.2.2.2.2.1 xg.2.2.2.2.2.2.2.2 xf.1 xc xd else aj else aj else bif z8.c α xa then Lib.lt (z8.v α xa) λxf=>kr xf.1 xf.2.1 xf.2.2.1 xf.2.2.2.1 xf.2.2.2.2.1 xf.2.2.2.2.2.1 xf.2.2.2.2.2.2.1 xf.2.2.2.2.2.2.2.1 xf.2.2.2.2.2.2.2.2 xb xc xd else aj else aj) (λ_ α _ _ _ xa _ _ _ _ _ _ xb xc xd=>bif jM.c xb xa then Lib.lt (jM.v xb xa) λxe=>bif xe.2 then bif qm.c xb xe.1 then Lib.lt (qm.v xb xe.1) λxf=>bif z8.c α xa then Lib.lt (z8.v α xa) λxg=>kr xg.1 xg.2.1 xg.2.2.1 xg.2.2.2.1 xg.2.2.2.2.1 xg.2.2.2.2.2.1 xg.2.2.2.2.2.2.1 xg.2.2.2.2.2.2.2.1 xg.2.2.2.2.2.2.2.2 xf.1 xc xd else aj else aj else bif z8.c α xa then Lib.lt (z8.v α xa) λxf=>kr xf.1 xf.2.1 xf.2.2.1 xf.2.2.2.1 xf.2.2.2.2.1 xf.2.2.2.2.2.1 xf.2.2.2.2.2.2.1 xf.2.2.2.2.2.2.2.1 xf.2.2.2.2.2.2.2.2 xb xc xd else aj else aj) N 0 a i m z (aP [Ck.s,Ck.i ao,Ck.i ao,Ck.s] 0) d e f h j l y.1 p q else aj else bif yF.c o then Lib.lt (yF.v o) λz=>l7a N (λ_ α _ _ _ xa _ _ _ _ _ _ xb xc xd=>bif jM.c xb xa then Lib.lt (jM.v xb xa) λxe=>bif xe.2 then bif qm.c xb xe.1 then Lib.lt (qm.v xb xe.1) λxf=>bif z8.c α xa then Lib.lt (z8.v α xa) λxg=>kr xg.1 xg.2.1 xg.2.2.1 xg.2.2.2.1 xg.2.2.2.2.1 xg.2.2.2.2.2.1 xg.2.2.2.2.2.2.1 xg.2.2.2.2.2.2.2.1 xg.2.2.2.2.2.2.2.2 xf.1 xc xd else aj else aj else bif z8.c α xa then Lib.lt (z8.v α xa) λxf=>kr xf.1 xf.2.1 xf.2.2.1 xf.2.2.2.1 xf.2.2.2.2.1 xf.2.2.2.2.2.1 xf.2.2.2.2.2.2.1 xf.2.2.2.2.2.2.2.1 xf.2.2.2.2.2.2.2.2 xb xc xd else aj else aj) (λ_ α _ _ _ xa _ _ _ _ _ _ xb xc xd=>bif jM.c xb xa then Lib.lt (jM.v xb xa) λxe=>bif xe.2 then bif qm.c xb xe.1 then Lib.lt (qm.v xb xe.1) λxf=>bif z8.c α xa then Lib.lt (z8.v α xa) λxg=>kr xg.1 xg.2.1 xg.2.2.1 xg.2.2.2.1 xg.2.2.2.2.1 xg.2.2.2.2.2.1 xg.2.2.2.2.2.2.1 xg.2.2.2.2.2.2.2.1 xg.2.2.2.2.2.2.2.2 xf.1 xc xd else aj else aj else bif z8.c α xa then Lib.lt (z8.v α xa) λxf=>kr xf.1 xf.2.1 xf.2.2.1 xf.2.2.2.1 xf.2.2.2.2.1 xf.2.2.2.2.2.1 xf.2.2.2.2.2.2.1 xf.2.2.2.2.2.2.2.1 xf.2.2.2.2.2.2.2.2 xb xc xd else aj else aj) N 0 a i m z (aP [Ck.s,Ck.i ao,Ck.i ao,Ck.s] 0) d e f h j l o p q else aj else aj
def vo:=b Lib.cW λr0 r1 r2 r3 r4 r5 r6 r7 r8 r9 JH Ap=>ah (r0,r1,r2,r3,r4,r5,r6,r7,r8,r9,JH,Ap)
def c:=λa d e f h i j l m o p q r s t u w=>(vo a d e f h i j l m o p q r s t u w).isSome
def v:=λa d e f h i j l m o p q r s t u w=>(vo a d e f h i j l m o p q r s t u w).getD (0,[],[],[],[],0,[],[],0,[],[],[])
theorem out{x}:∀a d e f h i j l m o p q r s t u w,vo a d e f h i j l m o p q r s t u w=ah x->c a d e f h i j l m o p q r s t u w=ai/\v a d e f h i j l m o p q r s t u w=x:=λ_ _ _ _ _ _ _ _ _ _ _ _ _ _ _ _ _=>Lib.dh
end wN

namespace DI
def b(kr:n6 R)(a:aw)(d e f h:aQ)(i:aw)(j l:aQ)(m:aw)(o p q:aQ)(r s:aw)(t:aq)(u:aw)(w:aQ):az R:=bif decide (r=1)then bif wM.c a d e f h i j l m s t then Lib.lt (wM.v a d e f h i j l m s t) λy=>kr y.2.2.2.2.2.2.2.2.2 y.1 y.2.1 y.2.2.1 y.2.2.2.1 y.2.2.2.2.1 y.2.2.2.2.2.1 y.2.2.2.2.2.2.1 y.2.2.2.2.2.2.2.1 y.2.2.2.2.2.2.2.2.1 o p q else aj else bif decide (r=2)then bif DM.c a d e f h i j l m s t then Lib.lt (DM.v a d e f h i j l m s t) λy=>kr (AP.v y.2.2.2.2.2.2.2.2.2) y.1 y.2.1 y.2.2.1 y.2.2.2.1 y.2.2.2.2.1 y.2.2.2.2.2.1 y.2.2.2.2.2.2.1 y.2.2.2.2.2.2.2.1 y.2.2.2.2.2.2.2.2.1 o p q else aj else bif decide (r=3)then bif DN.c a d e f h i j l m o p q r s t u w then Lib.lt (DN.v a d e f h i j l m o p q r s t u w) λy=>kr y.1 y.2.1 y.2.2.1 y.2.2.2.1 y.2.2.2.2.1 y.2.2.2.2.2.1 y.2.2.2.2.2.2.1 y.2.2.2.2.2.2.2.1 y.2.2.2.2.2.2.2.2.1 y.2.2.2.2.2.2.2.2.2.1 y.2.2.2.2.2.2.2.2.2.2.1 y.2.2.2.2.2.2.2.2.2.2.2.1 y.2.2.2.2.2.2.2.2.2.2.2.2 else aj else bif decide (r=4)then bif DO.c a d e f h i j l m s then Lib.lt (DO.v a d e f h i j l m s) λy=>kr (AP.v y.2.2.2.2.2.2.2.2.2) y.1 y.2.1 y.2.2.1 y.2.2.2.1 y.2.2.2.2.1 y.2.2.2.2.2.1 y.2.2.2.2.2.2.1 y.2.2.2.2.2.2.2.1 y.2.2.2.2.2.2.2.2.1 o p q else aj else bif decide (r=5)then bif qH.c a d e f h i j l m u then Lib.lt (qH.v a d e f h i j l m u) λy=>kr 0 y.1 y.2.1 y.2.2.1 y.2.2.2.1 y.2.2.2.2.1 y.2.2.2.2.2.1 y.2.2.2.2.2.2.1 y.2.2.2.2.2.2.2.1 y.2.2.2.2.2.2.2.2 o p q else aj else bif decide (r=6)then bif s_.c a d e f h i j l m s then Lib.lt (s_.v a d e f h i j l m s) λy=>kr (AP.v (decide ((y.2.2.2.2.2.2.2.1.length:aw)<(l.length:aw)))) y.1 y.2.1 y.2.2.1 y.2.2.2.1 y.2.2.2.2.1 y.2.2.2.2.2.1 y.2.2.2.2.2.2.1 y.2.2.2.2.2.2.2.1 y.2.2.2.2.2.2.2.2 o p q else aj else bif decide (r=7)then bif wN.c a d e f h i j l m o p q r s t u w then Lib.lt (wN.v a d e f h i j l m o p q r s t u w) λy=>kr 0 y.1 y.2.1 y.2.2.1 y.2.2.2.1 y.2.2.2.2.1 y.2.2.2.2.2.1 y.2.2.2.2.2.2.1 y.2.2.2.2.2.2.2.1 y.2.2.2.2.2.2.2.2.1 y.2.2.2.2.2.2.2.2.2.1 y.2.2.2.2.2.2.2.2.2.2.1 y.2.2.2.2.2.2.2.2.2.2.2 else aj else kr 0 a d e f h i j l m o p q
def vo:=b λr0 r1 r2 r3 r4 r5 r6 r7 r8 r9 JH Ap US=>ah (r0,r1,r2,r3,r4,r5,r6,r7,r8,r9,JH,Ap,US)
def c:=λa d e f h i j l m o p q r s t u w=>(vo a d e f h i j l m o p q r s t u w).isSome
def v:=λa d e f h i j l m o p q r s t u w=>(vo a d e f h i j l m o p q r s t u w).getD (0,0,[],[],[],[],0,[],[],0,[],[],[])
theorem out{x}:∀a d e f h i j l m o p q r s t u w,vo a d e f h i j l m o p q r s t u w=ah x->c a d e f h i j l m o p q r s t u w=ai/\v a d e f h i j l m o p q r s t u w=x:=λ_ _ _ _ _ _ _ _ _ _ _ _ _ _ _ _ _=>Lib.dh
end DI

namespace J5
def b(kr:o4 R)(a:aw)(d e f h:aQ)(i:aw)(j l:aQ)(m:aw)(o p q:aQ)(r s:aw)(t:aq)(u:aw)(w:aQ):az R:=bif DI.c a d e f h i j l m o p q r s t u w then Lib.lt (DI.v a d e f h i j l m o p q r s t u w) λy=>bif cy ((aP [Ck.i ao] 0).length+y.2.2.2.2.2.2.2.2.2.2.2.1.length) 8 then bif cy ((aP [Ck.i ao] 0++y.2.2.2.2.2.2.2.2.2.2.2.1).length+(aD (aP [Ck.i ao] 1) 0 [.i .i64 y.1]).length) 8 then kr y.2.1 y.2.2.1 y.2.2.2.1 y.2.2.2.2.1 y.2.2.2.2.2.1 y.2.2.2.2.2.2.1 y.2.2.2.2.2.2.2.1 y.2.2.2.2.2.2.2.2.1 y.2.2.2.2.2.2.2.2.2.1 y.2.2.2.2.2.2.2.2.2.2.1 (aP [Ck.i ao] 0++y.2.2.2.2.2.2.2.2.2.2.2.1++aD (aP [Ck.i ao] 1) 0 [.i .i64 y.1]) y.2.2.2.2.2.2.2.2.2.2.2.2 else aj else aj else aj
def vo:=b λr0 r1 r2 r3 r4 r5 r6 r7 r8 r9 JH Ap=>ah (r0,r1,r2,r3,r4,r5,r6,r7,r8,r9,JH,Ap)
def c:=λa d e f h i j l m o p q r s t u w=>(vo a d e f h i j l m o p q r s t u w).isSome
def v:=λa d e f h i j l m o p q r s t u w=>(vo a d e f h i j l m o p q r s t u w).getD (0,[],[],[],[],0,[],[],0,[],[],[])
theorem out{x}:∀a d e f h i j l m o p q r s t u w,vo a d e f h i j l m o p q r s t u w=ah x->c a d e f h i j l m o p q r s t u w=ai/\v a d e f h i j l m o p q r s t u w=x:=λ_ _ _ _ _ _ _ _ _ _ _ _ _ _ _ _ _=>Lib.dh
end J5

namespace Qt
def r7(N:aF)(g k0:kG R)(a d:aw)(e:aQ)(f h i j l:aw)(m o p q r s t u w y:aQ):az R:=bif decide (d<a)then bif Kz.c e f h i o p q r j s t l u w y then Lib.lt (Kz.v e f h i o p q r j s t l u w y) λz=>bif HR.c z.2.2.2.2.2.1 z.2.2.2.2.2.2.1 z.2.2.2.2.2.2.2.1 24 then Lib.lt (HR.v z.2.2.2.2.2.1 z.2.2.2.2.2.2.1 z.2.2.2.2.2.2.2.1 24) λα=>bif α.1 then bif nA.c α.2.1 α.2.2.1 α.2.2.2 60 then Lib.lt (nA.v α.2.1 α.2.2.1 α.2.2.2 60) λxa=>bif J5.c i z.2.2.2.2.2.2.2.2.1 z.2.2.2.2.2.2.2.2.2.1 z.2.2.2.2.2.2.2.2.2.2.1 z.2.2.2.2.2.2.2.2.2.2.2.1 j z.2.2.2.2.2.2.2.2.2.2.2.2.1 z.2.2.2.2.2.2.2.2.2.2.2.2.2.1 l z.2.2.2.2.2.2.2.2.2.2.2.2.2.2.1 z.2.2.2.2.2.2.2.2.2.2.2.2.2.2.2.1 z.2.2.2.2.2.2.2.2.2.2.2.2.2.2.2.2 7 0 ⟨#[]⟩ 0 (aD (aP [Ck.i ao] 1) 0 [.i .i64 xa.1])then Lib.lt (J5.v i z.2.2.2.2.2.2.2.2.1 z.2.2.2.2.2.2.2.2.2.1 z.2.2.2.2.2.2.2.2.2.2.1 z.2.2.2.2.2.2.2.2.2.2.2.1 j z.2.2.2.2.2.2.2.2.2.2.2.2.1 z.2.2.2.2.2.2.2.2.2.2.2.2.2.1 l z.2.2.2.2.2.2.2.2.2.2.2.2.2.2.1 z.2.2.2.2.2.2.2.2.2.2.2.2.2.2.2.1 z.2.2.2.2.2.2.2.2.2.2.2.2.2.2.2.2 7 0 ⟨#[]⟩ 0 (aD (aP [Ck.i ao] 1) 0 [.i .i64 xa.1])) λxb=>bif cy (m.length+(aD (aP [Ck.i ao,Ck.i ao,Ck.s,Ck.i ao,Ck.l 3] 1) 0 [.i .i64 7, .i .i64 0, .s ⟨#[]⟩, .i .i64 0,CV.l 3 (aD (aP [Ck.i ao] 1) 0 [.i .i64 xa.1])]).length) 64 then g a (bJ (d+1)) xa.2.1 xa.2.2.1 xa.2.2.2 xb.1 xb.2.2.2.2.2.1 xb.2.2.2.2.2.2.2.2.1 (m++aD (aP [Ck.i ao,Ck.i ao,Ck.s,Ck.i ao,Ck.l 3] 1) 0 [.i .i64 7, .i .i64 0, .s ⟨#[]⟩, .i .i64 0,CV.l 3 (aD (aP [Ck.i ao] 1) 0 [.i .i64 xa.1])]) xb.2.1 xb.2.2.1 xb.2.2.2.1 xb.2.2.2.2.1 xb.2.2.2.2.2.2.1 xb.2.2.2.2.2.2.2.1 xb.2.2.2.2.2.2.2.2.2.1 xb.2.2.2.2.2.2.2.2.2.2.1 xb.2.2.2.2.2.2.2.2.2.2.2 else aj else aj else aj else bif J5.c i z.2.2.2.2.2.2.2.2.1 z.2.2.2.2.2.2.2.2.2.1 z.2.2.2.2.2.2.2.2.2.2.1 z.2.2.2.2.2.2.2.2.2.2.2.1 j z.2.2.2.2.2.2.2.2.2.2.2.2.1 z.2.2.2.2.2.2.2.2.2.2.2.2.2.1 l z.2.2.2.2.2.2.2.2.2.2.2.2.2.2.1 z.2.2.2.2.2.2.2.2.2.2.2.2.2.2.2.1 z.2.2.2.2.2.2.2.2.2.2.2.2.2.2.2.2 z.1 z.2.1 z.2.2.1 z.2.2.2.1 z.2.2.2.2.1 then Lib.lt (J5.v i z.2.2.2.2.2.2.2.2.1 z.2.2.2.2.2.2.2.2.2.1 z.2.2.2.2.2.2.2.2.2.2.1 z.2.2.2.2.2.2.2.2.2.2.2.1 j z.2.2.2.2.2.2.2.2.2.2.2.2.1 z.2.2.2.2.2.2.2.2.2.2.2.2.2.1 l z.2.2.2.2.2.2.2.2.2.2.2.2.2.2.1 z.2.2.2.2.2.2.2.2.2.2.2.2.2.2.2.1 z.2.2.2.2.2.2.2.2.2.2.2.2.2.2.2.2 z.1 z.2.1 z.2.2.1 z.2.2.2.1 z.2.2.2.2.1) λxa=>bif cy (m.length+(aD (aP [Ck.i ao,Ck.i ao,Ck.s,Ck.i ao,Ck.l 3] 1) 0 [.i .i64 z.1, .i .i64 z.2.1, .s z.2.2.1, .i .i64 z.2.2.2.1,CV.l 3 z.2.2.2.2.1]).length) 64 then g a (bJ (d+1)) α.2.1 α.2.2.1 α.2.2.2 xa.1 xa.2.2.2.2.2.1 xa.2.2.2.2.2.2.2.2.1 (m++aD (aP [Ck.i ao,Ck.i ao,Ck.s,Ck.i ao,Ck.l 3] 1) 0 [.i .i64 z.1, .i .i64 z.2.1, .s z.2.2.1, .i .i64 z.2.2.2.1,CV.l 3 z.2.2.2.2.1]) xa.2.1 xa.2.2.1 xa.2.2.2.1 xa.2.2.2.2.1 xa.2.2.2.2.2.2.1 xa.2.2.2.2.2.2.2.1 xa.2.2.2.2.2.2.2.2.2.1 xa.2.2.2.2.2.2.2.2.2.2.1 xa.2.2.2.2.2.2.2.2.2.2.2 else aj else aj else aj else aj else k0 a d e f h i j l m o p q r s t u w y
def l7(N:aF)(k0:kG R):aF->kG R
 |0=>λ_ _ _ _ _ _ _ _ _ _ _ _ _ _ _ _ _ _=>aj
 |n+1=>r7 N (l7 N k0 n) k0
def b(N:aF)(kr:ael R)(a:aQ)(d e:aw)(f:aQ):az R:=bif decide (bJ (20+bJ (cR (f.length:aw) 6))>65)then l7 N (λ_ _ h i j _ _ _ l _ _ _ _ _ _ _ _ _=>kr l h i j) N 65 0 a d e 1 0 0 (aP [Ck.i ao,Ck.i ao,Ck.s,Ck.i ao,Ck.l 3] 0) [] [] [] ([]++aD (aP [Ck.l 3] 1) 0 [CV.l 3 (aP [Ck.i ao] (aW 16))]++aD (aP [Ck.l 3] 1) 0 [CV.l 3 (aP [Ck.i ao] (aW 16))]++aD (aP [Ck.l 3] 1) 0 [CV.l 3 (aP [Ck.i ao] (aW 16))]) [] [] [] [] []else l7 N (λ_ _ h i j _ _ _ l _ _ _ _ _ _ _ _ _=>kr l h i j) N (bJ (20+bJ (cR (f.length:aw) 6))) 0 a d e 1 0 0 (aP [Ck.i ao,Ck.i ao,Ck.s,Ck.i ao,Ck.l 3] 0) [] [] [] ([]++aD (aP [Ck.l 3] 1) 0 [CV.l 3 (aP [Ck.i ao] (aW 16))]++aD (aP [Ck.l 3] 1) 0 [CV.l 3 (aP [Ck.i ao] (aW 16))]++aD (aP [Ck.l 3] 1) 0 [CV.l 3 (aP [Ck.i ao] (aW 16))]) [] [] [] [] []
def vo:=b Lib.cW λr0 r1 r2 r3=>ah (r0,r1,r2,r3)
def c:=λa d e f=>(vo a d e f).isSome
def v:=λa d e f=>(vo a d e f).getD ([],[],0,0)
theorem out{x}:∀a d e f,vo a d e f=ah x->c a d e f=ai/\v a d e f=x:=λ_ _ _ _=>Lib.dh
end Qt

namespace U9
def b(kr:aQ->az R)(a:aQ):az R:=bif Kx.c a then Lib.lt (Kx.v a) λd=>bif Qt.c d.1 d.2.1 d.2.2 a then Lib.lt (Qt.v d.1 d.2.1 d.2.2 a) λe=>kr e.1 else aj else aj
def vo:=b λr0=>ah r0
def c:=λa=>(vo a).isSome
def v:=λa=>(vo a).getD ([])
theorem out{x}:∀a,vo a=ah x->c a=ai/\v a=x:=λ_=>Lib.dh
end U9

namespace MV
def r5(N:aF)(g k0:A5 R)(a:aw)(d:aQ)(e f:aw)(h:aQ):az R:=bif decide (a<12)then bif nA.c d e f 10000 then Lib.lt (nA.v d e f 10000) λi=>bif cy (h.length+(aD (aP [Ck.i ao] 1) 0 [.i .i64 i.1]).length) 8 then g (bJ (a+1)) i.2.1 i.2.2.1 i.2.2.2 (h++aD (aP [Ck.i ao] 1) 0 [.i .i64 i.1])else aj else aj else k0 a d e f h
def l5(N:aF)(k0:A5 R):aF->A5 R
 |0=>λ_ _ _ _ _=>aj
 |n+1=>r5 N (l5 N k0 n) k0
def b(N:aF)(kr:aQ->az R)(a:aQ):az R:=bif Kx.c a then Lib.lt (Kx.v a) λd=>bif du.c d.1 d.2.1 d.2.2 then Lib.lt (du.v d.1 d.2.1 d.2.2) λe=>l5 N (λ_ _ _ _ f=>kr f) N 0 e.2.1 e.2.2.1 e.2.2.2 (aP [Ck.i ao] 0)else aj else aj
def vo:=b Lib.cW λr0=>ah r0
def c:=λa=>(vo a).isSome
def v:=λa=>(vo a).getD ([])
theorem out{x}:∀a,vo a=ah x->c a=ai/\v a=x:=λ_=>Lib.dh
end MV

namespace lz
def b(kr:aX->az R)(a d e:aw):az R:=bif decide (a≥d)then kr (decide (a<=e))else kr ak
def v(a0 a1 a2:aw):aX:=bif decide (a0≥a1)then decide (a0<=a2)else ak
theorem eG(kr:aX->az R)(a0 a1 a2:aw):b kr a0 a1 a2=kr (v a0 a1 a2):=by first|rfl|(unfold b v;simp only[cM];(repeat' split)<;>rfl)
end lz

namespace U31
def b(kr:aX->az R)(a d:aw)(e:aq)(f:aw)(h:aQ):az R:=bif lz.v a 1 7 then bif lz.v d 0 30 then bif decide ((e.size:aw)<=60)then bif decide (f≥0)then kr (decide ((h.length:aw)<=4))else kr ak else kr ak else kr ak else kr ak
def v(a0 a1:aw)(a2:aq)(a3:aw)(a4:aQ):aX:=bif lz.v a0 1 7 then bif lz.v a1 0 30 then bif decide ((a2.size:aw)<=60)then bif decide (a3≥0)then decide ((a4.length:aw)<=4)else ak else ak else ak else ak
theorem eG(kr:aX->az R)(a0 a1:aw)(a2:aq)(a3:aw)(a4:aQ):b kr a0 a1 a2 a3 a4=kr (v a0 a1 a2 a3 a4):=by first|rfl|(unfold b v;simp only[cM];(repeat' split)<;>rfl)
end U31

namespace GC
def r3(N:aF)(g:pR R)(g1:jJ R)(k0:pR R)(k1:jJ R)(a d e:aw):az R:=bif decide (a<3)then g1 (bJ (a+1)) d e ([]++aD (aP [Ck.l 3] 1) 0 [CV.l 3 (aP [Ck.i ao] (aW 16))])else k0 a d e
def zM(N:aF)(g:pR R)(g1:jJ R)(k0:pR R)(k1:jJ R)(a d e:aw)(f:aQ):az R:=bif decide (a<3)then bif cy (f.length+(aD (aP [Ck.l 3] 1) 0 [CV.l 3 (aP [Ck.i ao] (aW 16))]).length) 24 then g1 (bJ (a+1)) d e (f++aD (aP [Ck.l 3] 1) 0 [CV.l 3 (aP [Ck.i ao] (aW 16))])else aj else k1 a d e f
def sL(N:aF)(k0:pR R)(k1:jJ R):aF->jJ R
 |0=>λ_ _ _ _=>aj
 |n+1=>zM N (λx0 x1 x2=>aj) (sL N k0 k1 n) k0 k1
def l3(N:aF)(k0:pR R)(k1:jJ R):aF->pR R
 |0=>λ_ _ _=>aj
 |n+1=>r3 N (l3 N k0 k1 n) (sL N k0 k1 n) k0 k1
def b(N:aF)(kr:DB R):az R:=l3 N (λ_ _ a=>kr [] a) (λ_ _ a d=>kr d a) N 0 0 0
def vo:=b Lib.cW λr0 r1=>ah (r0,r1)
def c:=vo.isSome
def v:=vo.getD ([],0)
end GC

namespace U95
def b(kr:s6 R):az R:=kr [] [] ([]++aD (aP [Ck.l 3] 1) 0 [CV.l 3 (aP [Ck.i ao] (aW 16))]++aD (aP [Ck.l 3] 1) 0 [CV.l 3 (aP [Ck.i ao] (aW 16))]++aD (aP [Ck.l 3] 1) 0 [CV.l 3 (aP [Ck.i ao] (aW 16))]) 0
def v:aQ×aQ×aQ×aw:=([],[],[]++aD (aP [Ck.l 3] 1) 0 [CV.l 3 (aP [Ck.i ao] (aW 16))]++aD (aP [Ck.l 3] 1) 0 [CV.l 3 (aP [Ck.i ao] (aW 16))]++aD (aP [Ck.l 3] 1) 0 [CV.l 3 (aP [Ck.i ao] (aW 16))],0)
theorem eG(kr:s6 R):b kr=kr v.1 v.2.1 v.2.2.1 v.2.2.2:=by first|rfl|(unfold b v;simp only[cM];(repeat' split)<;>rfl)
end U95

namespace U42
def b(kr:eR R):az R:=kr 1 [] [] [] ([]++aD (aP [Ck.l 3] 1) 0 [CV.l 3 (aP [Ck.i ao] (aW 16))]++aD (aP [Ck.l 3] 1) 0 [CV.l 3 (aP [Ck.i ao] (aW 16))]++aD (aP [Ck.l 3] 1) 0 [CV.l 3 (aP [Ck.i ao] (aW 16))]) 0 [] [] 0
def v:aw×aQ×aQ×aQ×aQ×aw×aQ×aQ×aw:=(1,[],[],[],[]++aD (aP [Ck.l 3] 1) 0 [CV.l 3 (aP [Ck.i ao] (aW 16))]++aD (aP [Ck.l 3] 1) 0 [CV.l 3 (aP [Ck.i ao] (aW 16))]++aD (aP [Ck.l 3] 1) 0 [CV.l 3 (aP [Ck.i ao] (aW 16))],0,[],[],0)
theorem eG(kr:eR R):b kr=kr v.1 v.2.1 v.2.2.1 v.2.2.2.1 v.2.2.2.2.1 v.2.2.2.2.2.1 v.2.2.2.2.2.2.1 v.2.2.2.2.2.2.2.1 v.2.2.2.2.2.2.2.2:=by first|rfl|(unfold b v;simp only[cM];(repeat' split)<;>rfl)
end U42

namespace wP
def b(kr:aQ->az R)(a:aQ):az R:=bif cy ((aP [Ck.s,Ck.i ao,Ck.i ao,Ck.s] 0).length+a.length) 48 then kr (aP [Ck.s,Ck.i ao,Ck.i ao,Ck.s] 0++a)else aj
def vo:=b λr0=>ah r0
def c:=λa=>(vo a).isSome
def v:=λa=>(vo a).getD ([])
theorem out{x}:∀a,vo a=ah x->c a=ai/\v a=x:=λ_=>Lib.dh
end wP

namespace tf
def b(kr:aQ->az R)(a:aQ):az R:=bif cy ((aP [.s] 0).length+a.length) 16 then kr (aP [.s] 0++a)else aj
def vo:=b λr0=>ah r0
def c:=λa=>(vo a).isSome
def v:=λa=>(vo a).getD ([])
theorem out{x}:∀a,vo a=ah x->c a=ai/\v a=x:=λ_=>Lib.dh
end tf

namespace vW
def b(kr:aQ->az R)(a:aQ):az R:=bif cy ((aP [Ck.i ao] 0).length+a.length) 8 then kr (aP [Ck.i ao] 0++a)else aj
def vo:=b λr0=>ah r0
def c:=λa=>(vo a).isSome
def v:=λa=>(vo a).getD ([])
theorem out{x}:∀a,vo a=ah x->c a=ai/\v a=x:=λ_=>Lib.dh
end vW

namespace jm
def r3(N:aF)(g:kW R)(g1:o6 R)(k0:kW R)(k1:o6 R)(a:aQ)(d e f h:aw):az R:=bif decide (e<d)then bif decide (0<=e)&&decide (e<(a.length:aw))then bif vW.c (jx (ar a e.toNat 0))then g1 a d (bJ (e+1)) f h ([]++aD (aP [Ck.l 3] 1) 0 [CV.l 3 (vW.v (jx (ar a e.toNat 0)))])else aj else aj else k0 a d e f h
def zM(N:aF)(g:kW R)(g1:o6 R)(k0:kW R)(k1:o6 R)(a:aQ)(d e f h:aw)(i:aQ):az R:=bif decide (e<d)then bif decide (0<=e)&&decide (e<(a.length:aw))then bif vW.c (jx (ar a e.toNat 0))then bif cy (i.length+(aD (aP [Ck.l 3] 1) 0 [CV.l 3 (vW.v (jx (ar a e.toNat 0)))]).length) 24 then g1 a d (bJ (e+1)) f h (i++aD (aP [Ck.l 3] 1) 0 [CV.l 3 (vW.v (jx (ar a e.toNat 0)))])else aj else aj else aj else k1 a d e f h i
def sL(N:aF)(k0:kW R)(k1:o6 R):aF->o6 R
 |0=>λ_ _ _ _ _ _=>aj
 |n+1=>zM N (λx0 x1 x2 x3 x4=>aj) (sL N k0 k1 n) k0 k1
def l3(N:aF)(k0:kW R)(k1:o6 R):aF->kW R
 |0=>λ_ _ _ _ _=>aj
 |n+1=>r3 N (l3 N k0 k1 n) (sL N k0 k1 n) k0 k1
def b(N:aF)(kr:DB R)(a:aQ)(d:aw):az R:=l3 N (λ_ _ _ _ e=>kr [] e) (λ_ _ _ _ e f=>kr f e) N a (a.length:aw) 0 0 d
def vo:=b Lib.cW λr0 r1=>ah (r0,r1)
def c:=λa d=>(vo a d).isSome
def v:=λa d=>(vo a d).getD ([],0)
theorem out{x}:∀a d,vo a d=ah x->c a d=ai/\v a d=x:=λ_ _=>Lib.dh
end jm

namespace ju
def b(kr:s6 R)(a d e:aQ)(f:aw):az R:=bif tf.c a then bif tf.c d then bif jm.c e f then kr (tf.v a) (tf.v d) (jm.v e f).1 (jm.v e f).2 else aj else aj else aj
def vo:=b λr0 r1 r2 r3=>ah (r0,r1,r2,r3)
def c:=λa d e f=>(vo a d e f).isSome
def v:=λa d e f=>(vo a d e f).getD ([],[],[],0)
theorem out{x}:∀a d e f,vo a d e f=ah x->c a d e f=ai/\v a d e f=x:=λ_ _ _ _=>Lib.dh
end ju

namespace iP
def b(kr:eR R)(a:aw)(d e f h:aQ)(i:aw)(j l:aQ)(m:aw):az R:=bif wP.c d then bif ju.c e f h i then bif cy ((aP [Ck.s,Ck.s,Ck.i ao,Ck.i ao,Ck.i ao] 0).length+j.length) 56 then bif cy ((aP [Ck.i ao,Ck.s,Ck.i ao,Ck.i ao,Ck.i ao,Ck.s,Ck.i ao] 0).length+l.length) 72 then kr a (wP.v d) (ju.v e f h i).1 (ju.v e f h i).2.1 (ju.v e f h i).2.2.1 (ju.v e f h i).2.2.2 (aP [Ck.s,Ck.s,Ck.i ao,Ck.i ao,Ck.i ao] 0++j) (aP [Ck.i ao,Ck.s,Ck.i ao,Ck.i ao,Ck.i ao,Ck.s,Ck.i ao] 0++l) m else aj else aj else aj else aj
def vo:=b λr0 r1 r2 r3 r4 r5 r6 r7 r8=>ah (r0,r1,r2,r3,r4,r5,r6,r7,r8)
def c:=λa d e f h i j l m=>(vo a d e f h i j l m).isSome
def v:=λa d e f h i j l m=>(vo a d e f h i j l m).getD (0,[],[],[],[],0,[],[],0)
theorem out{x}:∀a d e f h i j l m,vo a d e f h i j l m=ah x->c a d e f h i j l m=ai/\v a d e f h i j l m=x:=λ_ _ _ _ _ _ _ _ _=>Lib.dh
end iP

namespace zq
def b(kr:aX->az R)(a:aq):az R:=kr (lz.v (a.size:aw) 1 30)
def v(a0:aq):aX:=(lz.v (a0.size:aw) 1 30)
theorem eG(kr:aX->az R)(a0:aq):b kr a0=kr (v a0):=by first|rfl|(unfold b v;simp only[cM];(repeat' split)<;>rfl)
end zq

namespace R6
def b(kr:aX->az R)(a:aw):az R:=kr (lz.v a 0 1000000000)
def v(a0:aw):aX:=(lz.v a0 0 1000000000)
theorem eG(kr:aX->az R)(a0:aw):b kr a0=kr (v a0):=by first|rfl|(unfold b v;simp only[cM];(repeat' split)<;>rfl)
end R6

namespace wJ
def b(kr:aX->az R)(a:aq)(d e:aw)(f:aq):az R:=bif zq.v a then bif R6.v d then bif lz.v e 1 999999 then kr (decide ((f.size:aw)<=400))else kr ak else kr ak else kr ak
def v(a0:aq)(a1 a2:aw)(a3:aq):aX:=bif zq.v a0 then bif R6.v a1 then bif lz.v a2 1 999999 then decide ((a3.size:aw)<=400)else ak else ak else ak
theorem eG(kr:aX->az R)(a0:aq)(a1 a2:aw)(a3:aq):b kr a0 a1 a2 a3=kr (v a0 a1 a2 a3):=by first|rfl|(unfold b v;simp only[cM];(repeat' split)<;>rfl)
end wJ

namespace DR
def b(kr:aQ->az R)(a:aw):az R:=bif decide (a<0)then aj else bif decide (bJ (a-bJ (0-0))>0)then bif decide (0<=bJ (a-bJ (0-0)))&&cy (([]:aQ).length+(bJ (a-bJ (0-0))).toNat) 16&&decide (bJ (a-bJ (0-0))<=9223372036854775807)then kr (eA ([]++aP [.s] (bJ (a-bJ (0-0))).toNat) (aW 0) (aW 0))else aj else kr []
def vo:=b λr0=>ah r0
def c:=λa=>(vo a).isSome
def v:=λa=>(vo a).getD ([])
theorem out{x}:∀a,vo a=ah x->c a=ai/\v a=x:=λ_=>Lib.dh
end DR

namespace wO
def Ap(N:aF)(g k0:yM R)(a:aQ)(d e:aw)(f:aQ):az R:=bif decide (e<d)then bif decide (0<=e)&&decide (e<(a.length:aw))then bif cy (f.length+(jx (ar a e.toNat 0)).length) 16 then g a d (bJ (e+1)) (f++jx (ar a e.toNat 0))else aj else aj else k0 a d e f
def PD(N:aF)(k0:yM R):aF->yM R
 |0=>λ_ _ _ _=>aj
 |n+1=>Ap N (PD N k0 n) k0
def r3(N:aF)(g k0:FL R)(a:aQ)(d:aw)(e:aQ)(f h:aw):az R:=bif decide (h<f)then bif decide (0<=h)&&decide (h<(e.length:aw))then bif decide (bJ (d+((jx (ar e h.toNat 0)).length:aw))<0)then aj else g a (bJ (d+((jx (ar e h.toNat 0)).length:aw))) e f (bJ (h+1))else aj else k0 a d e f h
def l3(N:aF)(k0:FL R):aF->FL R
 |0=>λ_ _ _ _ _=>aj
 |n+1=>r3 N (l3 N k0 n) k0
def b(N:aF)(kr:aQ->az R)(a:aQ):az R:=l3 N (λd e _ _ _=>bif DR.c e then PD N (λ_ _ _ f=>kr f) N d (d.length:aw) 0 (DR.v e)else aj) N a 0 a (a.length:aw) 0
def vo:=b Lib.cW λr0=>ah r0
def c:=λa=>(vo a).isSome
def v:=λa=>(vo a).getD ([])
theorem out{x}:∀a,vo a=ah x->c a=ai/\v a=x:=λ_=>Lib.dh
end wO

namespace qE
def b(kr:aQ->az R)(a d e:aQ)(f:aw):az R:=bif wO.c (aD (aD (aP [Ck.l 9] 2) 0 [CV.l 9 a]) 1 [CV.l 9 d])then kr (wO.v (aD (aD (aP [Ck.l 9] 2) 0 [CV.l 9 a]) 1 [CV.l 9 d]))else aj
def vo:=b λr0=>ah r0
def c:=λa d e f=>(vo a d e f).isSome
def v:=λa d e f=>(vo a d e f).getD ([])
theorem out{x}:∀a d e f,vo a d e f=ah x->c a d e f=ai/\v a d e f=x:=λ_ _ _ _=>Lib.dh
end qE

namespace AR
def r2(N:aF)(g k0 k1:ig R)(a:aQ)(d:aq)(e f h:aw):az R:=bif decide (h<f)then bif decide (0<=h)&&decide (h<(a.length:aw))then bif bZ (aC d) (bw (ar a h.toNat 0)).toList then k0 a d h f h else g a d e f (bJ (h+1))else aj else k1 a d e f h
def l2(N:aF)(k0 k1:ig R):aF->ig R
 |0=>λ_ _ _ _ _=>aj
 |n+1=>r2 N (l2 N k0 k1 n) k0 k1
def b(N:aF)(kr:aw->az R)(a:aQ)(d:aq):az R:=l2 N (λ_ _ e _ _=>kr e) (λ_ _ _ _ _=>kr (-1)) N a d 0 (a.length:aw) 0
def vo:=b Lib.cW λr0=>ah r0
def c:=λa d=>(vo a d).isSome
def v:=λa d=>(vo a d).getD (0)
theorem out{x}:∀a d,vo a d=ah x->c a d=ai/\v a d=x:=λ_ _=>Lib.dh
end AR

namespace sH
def b(kr:aX->az R)(a:aQ)(d:aq):az R:=bif AR.c a d then kr (decide (AR.v a d≥0))else aj
def vo:=b λr0=>ah r0
def c:=λa d=>(vo a d).isSome
def v:=λa d=>(vo a d).getD ak
theorem out{x}:∀a d,vo a d=ah x->c a d=ai/\v a d=x:=λ_ _=>Lib.dh
end sH

namespace sG
def b(kr:aX->az R)(a d e:aQ)(f:aw)(h:aq):az R:=bif qE.c a d e f then bif sH.c (qE.v a d e f) h then kr (sH.v (qE.v a d e f) h)else aj else aj
def vo:=b λr0=>ah r0
def c:=λa d e f h=>(vo a d e f h).isSome
def v:=λa d e f h=>(vo a d e f h).getD ak
theorem out{x}:∀a d e f h,vo a d e f h=ah x->c a d e f h=ai/\v a d e f h=x:=λ_ _ _ _ _=>Lib.dh
end sG

namespace pN
def r5(N:aF)(g k0 k1:rj R)(a:aX)(d e:aQ)(f h:aw)(i:aQ)(j l:aw)(m:aQ)(o:aw):az R:=bif decide (l<j)then bif decide (0<=l)&&decide (l<(i.length:aw))then bif !lz.v (bF (ar i l.toNat 0)) 0 15 then k0 ak d e f h i j l m o else g a d e f h i j (bJ (l+1)) m o else aj else k1 a d e f h i j l m o
def l5(N:aF)(k0 k1:rj R):aF->rj R
 |0=>λ_ _ _ _ _ _ _ _ _ _=>aj
 |n+1=>r5 N (l5 N k0 k1 n) k0 k1
def r2(N:aF)(g k0 k1:BK R)(a:aX)(d:aQ)(e f:aw)(h:aQ)(i:aw):az R:=bif decide (f<e)then bif decide (0<=f)&&decide (f<(d.length:aw))then l5 N (λj _ l m o _ _ _ p q=>k0 j l m o p q) (λj l m o p _ _ _ q r=>bif(l.length:aw) !=16 then k0 ak m o p q r else g j m o (bJ (p+1)) q r) N a (jx (ar d f.toNat 0)) d e f (jx (ar d f.toNat 0)) ((jx (ar d f.toNat 0)).length:aw) 0 h i else aj else k1 a d e f h i
def l2(N:aF)(k0 k1:BK R):aF->BK R
 |0=>λ_ _ _ _ _ _=>aj
 |n+1=>r2 N (l2 N k0 k1 n) k0 k1
def b(N:aF)(kr:aX->az R)(a:aQ)(d:aw):az R:=l2 N (λe _ _ _ _ _=>kr e) (λ_ _ _ _ e f=>bif decide ((e.length:aw)=3)then kr (lz.v f 0 63)else kr ak) N ak a (a.length:aw) 0 a d
def vo:=b Lib.cW λr0=>ah r0
def c:=λa d=>(vo a d).isSome
def v:=λa d=>(vo a d).getD ak
theorem out{x}:∀a d,vo a d=ah x->c a d=ai/\v a d=x:=λ_ _=>Lib.dh
end pN

namespace o_
def r3(N:aF)(g k0 k1:vD R)(a:aX)(d e:aw)(f h i:aQ)(j:aw)(l:aQ):az R:=bif decide (e<d)then bif decide (0<=e)&&decide (e<(l.length:aw))then bif !zq.v (bw (ar l e.toNat 0))then k0 ak d e f h i j l else bif g7 0 e (l.length:aw)then bif sH.c (eA l (aW 0) e.toNat) (bw (ar l e.toNat 0))then bif sH.v (eA l (aW 0) e.toNat) (bw (ar l e.toNat 0))then k0 ak d e f h i j l else g a d (bJ (e+1)) f h i j l else aj else aj else aj else k1 a d e f h i j l
def l3(N:aF)(k0 k1:vD R):aF->vD R
 |0=>λ_ _ _ _ _ _ _ _=>aj
 |n+1=>r3 N (l3 N k0 k1 n) k0 k1
def b(N:aF)(kr:aX->az R)(a d e:aQ)(f:aw):az R:=bif qE.c a d e f then l3 N (λh _ _ _ _ _ _ _=>kr h) (λ_ _ _ h i j l _=>bif decide ((h.length:aw)<=2)then bif decide ((i.length:aw)<=4)then bif pN.c j l then kr (pN.v j l)else aj else kr ak else kr ak) N ak ((qE.v a d e f).length:aw) 0 a d e f (qE.v a d e f)else aj
def vo:=b Lib.cW λr0=>ah r0
def c:=λa d e f=>(vo a d e f).isSome
def v:=λa d e f=>(vo a d e f).getD ak
theorem out{x}:∀a d e f,vo a d e f=ah x->c a d e f=ai/\v a d e f=x:=λ_ _ _ _=>Lib.dh
end o_

namespace Qv
def r2(N:aF)(g k0 k1:eV R)(a:aX)(d:aQ)(e f h:aw)(i j l m:aQ)(o:aw)(p q:aQ)(r:aw):az R:=bif decide (f<e)then bif decide (0<=f)&&decide (f<(d.length:aw))then bif !wJ.v (bw (ar d f.toNat 0)) (bF (ar d f.toNat 1)) (bF (ar d f.toNat (1+1))) (bw (ar d f.toNat (1+1+1)))then k0 ak d e f h i j l m o p q r else bif decide (f>0)then bif decide (0<=bJ (f-1))&&decide (bJ (f-1)<(i.length:aw))then bif !Op.bytesLess (bw (ar i (bJ (f-1)).toNat 0)).toList (bw (ar d f.toNat 0)).toList then k0 ak d e f h i j l m o p q r else bif sG.c j l m o (bw (ar d f.toNat 0))then bif !sG.v j l m o (bw (ar d f.toNat 0))then k0 ak d e f h i j l m o p q r else g a d e (bJ (f+1)) h i j l m o p q r else aj else aj else bif sG.c j l m o (bw (ar d f.toNat 0))then bif !sG.v j l m o (bw (ar d f.toNat 0))then k0 ak d e f h i j l m o p q r else g a d e (bJ (f+1)) h i j l m o p q r else aj else aj else k1 a d e f h i j l m o p q r
def l2(N:aF)(k0 k1:eV R):aF->eV R
 |0=>λ_ _ _ _ _ _ _ _ _ _ _ _ _=>aj
 |n+1=>r2 N (l2 N k0 k1 n) k0 k1
def b(N:aF)(kr:aX->az R)(a:aw)(d e f h:aQ)(i:aw)(j l:aQ)(m:aw):az R:=l2 N (λo _ _ _ _ _ _ _ _ _ _ _ _=>kr o) (λ_ _ _ _ _ o p q r s _ _ _=>bif o_.c p q r s then bif o_.v p q r s then bif qE.c p q r s then kr (decide (((qE.v p q r s).length:aw)=(o.length:aw)))else aj else kr ak else aj) N ak d (d.length:aw) 0 a d e f h i j l m
def vo:=b Lib.cW λr0=>ah r0
def c:=λa d e f h i j l m=>(vo a d e f h i j l m).isSome
def v:=λa d e f h i j l m=>(vo a d e f h i j l m).getD ak
theorem out{x}:∀a d e f h i j l m,vo a d e f h i j l m=ah x->c a d e f h i j l m=ai/\v a d e f h i j l m=x:=λ_ _ _ _ _ _ _ _ _=>Lib.dh
end Qv

namespace Ia
def b(kr:aX->az R)(a d:aq)(e f h:aw)(gO:aq):az R:=bif bZ (aC a) (aC gO)then kr (decide (e=1))else kr ak
def v(a0 a1:aq)(a2 a3 a4:aw)(gO:aq):aX:=bif bZ (aC a0) (aC gO)then decide (a2=1)else ak
theorem eG(kr:aX->az R)(a0 a1:aq)(a2 a3 a4:aw)(gO:aq):b kr a0 a1 a2 a3 a4 gO=kr (v a0 a1 a2 a3 a4 gO):=by first|rfl|(unfold b v;simp only[cM];(repeat' split)<;>rfl)
end Ia

namespace qF
def r2(N:aF)(g k0 k1:ig R)(a:aQ)(d:aq)(e f h:aw):az R:=bif decide (h<f)then bif decide (0<=h)&&decide (h<(a.length:aw))then bif Ia.v (bw (ar a h.toNat 0)) (bw (ar a h.toNat 1)) (bF (ar a h.toNat (1+1))) (bF (ar a h.toNat (1+1+1))) (bF (ar a h.toNat (1+1+1+1))) d then k0 a d h f h else g a d e f (bJ (h+1))else aj else k1 a d e f h
def l2(N:aF)(k0 k1:ig R):aF->ig R
 |0=>λ_ _ _ _ _=>aj
 |n+1=>r2 N (l2 N k0 k1 n) k0 k1
def b(N:aF)(kr:aw->az R)(a:aQ)(gO:aq):az R:=l2 N (λ_ _ d _ _=>kr d) (λ_ _ _ _ _=>kr (-1)) N a gO 0 (a.length:aw) 0
def vo:=b Lib.cW λr0=>ah r0
def c:=λa d=>(vo a d).isSome
def v:=λa d=>(vo a d).getD (0)
theorem out{x}:∀a d,vo a d=ah x->c a d=ai/\v a d=x:=λ_ _=>Lib.dh
end qF

namespace Ky
def b(kr:aw->az R)(a:aw)(d e f h:aQ)(i:aw)(j l:aQ)(m:aw)(o:aq):az R:=bif qF.c j o then kr (qF.v j o)else aj
def vo:=b λr0=>ah r0
def c:=λa d e f h i j l m o=>(vo a d e f h i j l m o).isSome
def v:=λa d e f h i j l m o=>(vo a d e f h i j l m o).getD (0)
theorem out{x}:∀a d e f h i j l m o,vo a d e f h i j l m o=ah x->c a d e f h i j l m o=ai/\v a d e f h i j l m o=x:=λ_ _ _ _ _ _ _ _ _ _=>Lib.dh
end Ky

namespace MY
def r2(N:aF)(g k0 k1:eV R)(a:aX)(d:aQ)(e f h:aw)(i j l m:aQ)(o:aw)(p q:aQ)(r:aw):az R:=bif decide (f<e)then bif decide (0<=f)&&decide (f<(d.length:aw))then bif decide (bF (ar d f.toNat (1+1))=1)then bif Ky.c h i j l m o p q r (bw (ar d f.toNat 0))then bif Ky.v h i j l m o p q r (bw (ar d f.toNat 0)) !=f then k0 ak d e f h i j l m o p q r else g a d e (bJ (f+1)) h i j l m o p q r else aj else g a d e (bJ (f+1)) h i j l m o p q r else aj else k1 a d e f h i j l m o p q r
def l2(N:aF)(k0 k1:eV R):aF->eV R
 |0=>λ_ _ _ _ _ _ _ _ _ _ _ _ _=>aj
 |n+1=>r2 N (l2 N k0 k1 n) k0 k1
def b(N:aF)(kr:aX->az R)(a:aw)(d e f h:aQ)(i:aw)(j l:aQ)(m:aw):az R:=l2 N (λo _ _ _ _ _ _ _ _ _ _ _ _=>kr o) (λ_ _ _ _ _ _ _ _ _ _ _ _ _=>kr ai) N ak j (j.length:aw) 0 a d e f h i j l m
def vo:=b Lib.cW λr0=>ah r0
def c:=λa d e f h i j l m=>(vo a d e f h i j l m).isSome
def v:=λa d e f h i j l m=>(vo a d e f h i j l m).getD ak
theorem out{x}:∀a d e f h i j l m,vo a d e f h i j l m=ah x->c a d e f h i j l m=ai/\v a d e f h i j l m=x:=λ_ _ _ _ _ _ _ _ _=>Lib.dh
end MY

namespace OP
def r2(N:aF)(g k0 k1:eV R)(a:aX)(d:aQ)(e f h:aw)(i j l m:aQ)(o:aw)(p q:aQ)(r:aw):az R:=bif decide (f<e)then bif decide (0<=f)&&decide (f<(d.length:aw))then bif !zq.v (bw (ar d f.toNat 0))then k0 ak d e f h i j l m o p q r else bif decide (((bw (ar d f.toNat 1)).size:aw)>400)then k0 ak d e f h i j l m o p q r else bif !lz.v (bF (ar d f.toNat (1+1))) 1 3 then k0 ak d e f h i j l m o p q r else bif !lz.v (bF (ar d f.toNat (1+1+1))) 0 999999 then k0 ak d e f h i j l m o p q r else bif !lz.v (bF (ar d f.toNat (1+1+1+1))) 0 h then k0 ak d e f h i j l m o p q r else g a d e (bJ (f+1)) h i j l m o p q r else aj else k1 a d e f h i j l m o p q r
def l2(N:aF)(k0 k1:eV R):aF->eV R
 |0=>λ_ _ _ _ _ _ _ _ _ _ _ _ _=>aj
 |n+1=>r2 N (l2 N k0 k1 n) k0 k1
def b(N:aF)(kr:aX->az R)(a:aw)(d e f h:aQ)(i:aw)(j l:aQ)(m:aw):az R:=l2 N (λo _ _ _ _ _ _ _ _ _ _ _ _=>kr o) (λ_ _ _ _ o p q r s t u w y=>bif decide ((u.length:aw)<=20)then bif MY.c o p q r s t u w y then kr (MY.v o p q r s t u w y)else aj else kr ak) N ak j (j.length:aw) 0 a d e f h i j l m
def vo:=b Lib.cW λr0=>ah r0
def c:=λa d e f h i j l m=>(vo a d e f h i j l m).isSome
def v:=λa d e f h i j l m=>(vo a d e f h i j l m).getD ak
theorem out{x}:∀a d e f h i j l m,vo a d e f h i j l m=ah x->c a d e f h i j l m=ai/\v a d e f h i j l m=x:=λ_ _ _ _ _ _ _ _ _=>Lib.dh
end OP

namespace Qw
def r2(N:aF)(g k0 k1:eV R)(a:aX)(d:aQ)(e f h:aw)(i j l m:aQ)(o:aw)(p q:aQ)(r:aw):az R:=bif decide (f<e)then bif decide (0<=f)&&decide (f<(d.length:aw))then bif !lz.v (bF (ar d f.toNat 0)) 1 9 then k0 ak d e f h i j l m o p q r else bif decide (f>0)then bif decide (0<=bJ (f-1))&&decide (bJ (f-1)<(q.length:aw))then bif decide (bF (ar q (bJ (f-1)).toNat 0)≥bF (ar d f.toNat 0))then k0 ak d e f h i j l m o p q r else bif !zq.v (bw (ar d f.toNat 1))then k0 ak d e f h i j l m o p q r else bif !lz.v (bF (ar d f.toNat (1+1+1+1))) 1 3 then k0 ak d e f h i j l m o p q r else bif !lz.v (bF (ar d f.toNat (1+1))) 0 (p.length:aw)then k0 ak d e f h i j l m o p q r else bif decide (((bw (ar d f.toNat (1+1+1+1+1))).size:aw)>400)then k0 ak d e f h i j l m o p q r else bif !lz.v (bF (ar d f.toNat (1+1+1))) 0 h then k0 ak d e f h i j l m o p q r else bif decide (bF (ar d f.toNat (1+1+1+1+1+1))<0)then k0 ak d e f h i j l m o p q r else g a d e (bJ (f+1)) h i j l m o p q r else aj else bif !zq.v (bw (ar d f.toNat 1))then k0 ak d e f h i j l m o p q r else bif !lz.v (bF (ar d f.toNat (1+1+1+1))) 1 3 then k0 ak d e f h i j l m o p q r else bif !lz.v (bF (ar d f.toNat (1+1))) 0 (p.length:aw)then k0 ak d e f h i j l m o p q r else bif decide (((bw (ar d f.toNat (1+1+1+1+1))).size:aw)>400)then k0 ak d e f h i j l m o p q r else bif !lz.v (bF (ar d f.toNat (1+1+1))) 0 h then k0 ak d e f h i j l m o p q r else bif decide (bF (ar d f.toNat (1+1+1+1+1+1))<0)then k0 ak d e f h i j l m o p q r else g a d e (bJ (f+1)) h i j l m o p q r else aj else k1 a d e f h i j l m o p q r
def l2(N:aF)(k0 k1:eV R):aF->eV R
 |0=>λ_ _ _ _ _ _ _ _ _ _ _ _ _=>aj
 |n+1=>r2 N (l2 N k0 k1 n) k0 k1
def b(N:aF)(kr:aX->az R)(a:aw)(d e f h:aQ)(i:aw)(j l:aQ)(m:aw):az R:=l2 N (λo _ _ _ _ _ _ _ _ _ _ _ _=>kr o) (λ_ _ _ _ _ _ _ _ _ _ _ o _=>kr (decide ((o.length:aw)<=6))) N ak l (l.length:aw) 0 a d e f h i j l m
def vo:=b Lib.cW λr0=>ah r0
def c:=λa d e f h i j l m=>(vo a d e f h i j l m).isSome
def v:=λa d e f h i j l m=>(vo a d e f h i j l m).getD ak
theorem out{x}:∀a d e f h i j l m,vo a d e f h i j l m=ah x->c a d e f h i j l m=ai/\v a d e f h i j l m=x:=λ_ _ _ _ _ _ _ _ _=>Lib.dh
end Qw

namespace OO
def b(kr:aX->az R)(a:aw)(d e f h:aQ)(i:aw)(j l:aQ)(m:aw):az R:=bif lz.v a 1 1000000000 then bif Qv.c a d e f h i j l m then bif Qv.v a d e f h i j l m then bif OP.c a d e f h i j l m then bif OP.v a d e f h i j l m then bif Qw.c a d e f h i j l m then bif Qw.v a d e f h i j l m then kr (R6.v m)else kr ak else aj else kr ak else aj else kr ak else aj else kr ak
def vo:=b λr0=>ah r0
def c:=λa d e f h i j l m=>(vo a d e f h i j l m).isSome
def v:=λa d e f h i j l m=>(vo a d e f h i j l m).getD ak
theorem out{x}:∀a d e f h i j l m,vo a d e f h i j l m=ah x->c a d e f h i j l m=ai/\v a d e f h i j l m=x:=λ_ _ _ _ _ _ _ _ _=>Lib.dh
end OO

namespace Kr
def b(kr:aX->az R)(a:aw)(d:aq)(e f h:aw)(i:aq)(j Cz:aw):az R:=kr (decide (a=Cz))
def v(a0:aw)(a1:aq)(a2 a3 a4:aw)(a5:aq)(a6 Cz:aw):aX:=(decide (a0=Cz))
theorem eG(kr:aX->az R)(a0:aw)(a1:aq)(a2 a3 a4:aw)(a5:aq)(a6 Cz:aw):b kr a0 a1 a2 a3 a4 a5 a6 Cz=kr (v a0 a1 a2 a3 a4 a5 a6 Cz):=by first|rfl|(unfold b v;simp only[cM];(repeat' split)<;>rfl)
end Kr

namespace qG
def r2(N:aF)(g k0 k1:kW R)(a:aQ)(d e f h:aw):az R:=bif decide (h<f)then bif decide (0<=h)&&decide (h<(a.length:aw))then bif Kr.v (bF (ar a h.toNat 0)) (bw (ar a h.toNat 1)) (bF (ar a h.toNat (1+1))) (bF (ar a h.toNat (1+1+1))) (bF (ar a h.toNat (1+1+1+1))) (bw (ar a h.toNat (1+1+1+1+1))) (bF (ar a h.toNat (1+1+1+1+1+1))) d then k0 a d h f h else g a d e f (bJ (h+1))else aj else k1 a d e f h
def l2(N:aF)(k0 k1:kW R):aF->kW R
 |0=>λ_ _ _ _ _=>aj
 |n+1=>r2 N (l2 N k0 k1 n) k0 k1
def b(N:aF)(kr:aw->az R)(a:aQ)(Cz:aw):az R:=l2 N (λ_ _ d _ _=>kr d) (λ_ _ _ _ _=>kr (-1)) N a Cz 0 (a.length:aw) 0
def vo:=b Lib.cW λr0=>ah r0
def c:=λa d=>(vo a d).isSome
def v:=λa d=>(vo a d).getD (0)
theorem out{x}:∀a d,vo a d=ah x->c a d=ai/\v a d=x:=λ_ _=>Lib.dh
end qG

namespace AM
def b(kr:aX->az R)(a:aw)(d:aq)(e f h:aw)(i:aq)(j Cz:aw):az R:=kr (decide (a=Cz))
def v(a0:aw)(a1:aq)(a2 a3 a4:aw)(a5:aq)(a6 Cz:aw):aX:=(decide (a0=Cz))
theorem eG(kr:aX->az R)(a0:aw)(a1:aq)(a2 a3 a4:aw)(a5:aq)(a6 Cz:aw):b kr a0 a1 a2 a3 a4 a5 a6 Cz=kr (v a0 a1 a2 a3 a4 a5 a6 Cz):=by first|rfl|(unfold b v;simp only[cM];(repeat' split)<;>rfl)
end AM

namespace nr
def r2(N:aF)(g k0 k1:kW R)(a:aQ)(d e f h:aw):az R:=bif decide (h<f)then bif decide (0<=h)&&decide (h<(a.length:aw))then bif AM.v (bF (ar a h.toNat 0)) (bw (ar a h.toNat 1)) (bF (ar a h.toNat (1+1))) (bF (ar a h.toNat (1+1+1))) (bF (ar a h.toNat (1+1+1+1))) (bw (ar a h.toNat (1+1+1+1+1))) (bF (ar a h.toNat (1+1+1+1+1+1))) d then k0 a d h f h else g a d e f (bJ (h+1))else aj else k1 a d e f h
def l2(N:aF)(k0 k1:kW R):aF->kW R
 |0=>λ_ _ _ _ _=>aj
 |n+1=>r2 N (l2 N k0 k1 n) k0 k1
def b(N:aF)(kr:aw->az R)(a:aQ)(Cz:aw):az R:=l2 N (λ_ _ d _ _=>kr d) (λ_ _ _ _ _=>kr (-1)) N a Cz 0 (a.length:aw) 0
def vo:=b Lib.cW λr0=>ah r0
def c:=λa d=>(vo a d).isSome
def v:=λa d=>(vo a d).getD (0)
theorem out{x}:∀a d,vo a d=ah x->c a d=ai/\v a d=x:=λ_ _=>Lib.dh
end nr

namespace zp
def b(kr:aw->az R)(a:aw)(d e f h:aQ)(i:aw)(j l:aQ)(m o:aw):az R:=bif qG.c l o then kr (qG.v l o)else aj
def vo:=b λr0=>ah r0
def c:=λa d e f h i j l m o=>(vo a d e f h i j l m o).isSome
def v:=λa d e f h i j l m o=>(vo a d e f h i j l m o).getD (0)
theorem out{x}:∀a d e f h i j l m o,vo a d e f h i j l m o=ah x->c a d e f h i j l m o=ai/\v a d e f h i j l m o=x:=λ_ _ _ _ _ _ _ _ _ _=>Lib.dh
end zp

namespace Kq
def b(kr:aX->az R)(a:aq)(d e:aw)(f gO:aq):az R:=kr (bZ (aC a) (aC gO))
def v(a0:aq)(a1 a2:aw)(a3 gO:aq):aX:=(bZ (aC a0) (aC gO))
theorem eG(kr:aX->az R)(a0:aq)(a1 a2:aw)(a3 gO:aq):b kr a0 a1 a2 a3 gO=kr (v a0 a1 a2 a3 gO):=by first|rfl|(unfold b v;simp only[cM];(repeat' split)<;>rfl)
end Kq

namespace pU
def r2(N:aF)(g k0 k1:ig R)(a:aQ)(d:aq)(e f h:aw):az R:=bif decide (h<f)then bif decide (0<=h)&&decide (h<(a.length:aw))then bif Kq.v (bw (ar a h.toNat 0)) (bF (ar a h.toNat 1)) (bF (ar a h.toNat (1+1))) (bw (ar a h.toNat (1+1+1))) d then k0 a d h f h else g a d e f (bJ (h+1))else aj else k1 a d e f h
def l2(N:aF)(k0 k1:ig R):aF->ig R
 |0=>λ_ _ _ _ _=>aj
 |n+1=>r2 N (l2 N k0 k1 n) k0 k1
def b(N:aF)(kr:aw->az R)(a:aQ)(gO:aq):az R:=l2 N (λ_ _ d _ _=>kr d) (λ_ _ _ _ _=>kr (-1)) N a gO 0 (a.length:aw) 0
def vo:=b Lib.cW λr0=>ah r0
def c:=λa d=>(vo a d).isSome
def v:=λa d=>(vo a d).getD (0)
theorem out{x}:∀a d,vo a d=ah x->c a d=ai/\v a d=x:=λ_ _=>Lib.dh
end pU

namespace AQ
def b(kr:aX->az R)(a:aq)(d e:aw)(f gO:aq):az R:=kr (bZ (aC a) (aC gO))
def v(a0:aq)(a1 a2:aw)(a3 gO:aq):aX:=(bZ (aC a0) (aC gO))
theorem eG(kr:aX->az R)(a0:aq)(a1 a2:aw)(a3 gO:aq):b kr a0 a1 a2 a3 gO=kr (v a0 a1 a2 a3 gO):=by first|rfl|(unfold b v;simp only[cM];(repeat' split)<;>rfl)
end AQ

namespace nq
def r2(N:aF)(g k0 k1:ig R)(a:aQ)(d:aq)(e f h:aw):az R:=bif decide (h<f)then bif decide (0<=h)&&decide (h<(a.length:aw))then bif AQ.v (bw (ar a h.toNat 0)) (bF (ar a h.toNat 1)) (bF (ar a h.toNat (1+1))) (bw (ar a h.toNat (1+1+1))) d then k0 a d h f h else g a d e f (bJ (h+1))else aj else k1 a d e f h
def l2(N:aF)(k0 k1:ig R):aF->ig R
 |0=>λ_ _ _ _ _=>aj
 |n+1=>r2 N (l2 N k0 k1 n) k0 k1
def b(N:aF)(kr:aw->az R)(a:aQ)(gO:aq):az R:=l2 N (λ_ _ d _ _=>kr d) (λ_ _ _ _ _=>kr (-1)) N a gO 0 (a.length:aw) 0
def vo:=b Lib.cW λr0=>ah r0
def c:=λa d=>(vo a d).isSome
def v:=λa d=>(vo a d).getD (0)
theorem out{x}:∀a d,vo a d=ah x->c a d=ai/\v a d=x:=λ_ _=>Lib.dh
end nq

namespace U89
def b(kr:aX->az R)(a:aq)(d e:aw)(f:aq)(OV:aw)(Ir:aq)(OX Is OY:aw)(Iu:aq)(Iv:aw):az R:=bif bZ (aC a) (aC Ir)then bif decide (d=Is)then bif bZ (aC f) (aC Iu)then kr (decide (e>Iv))else kr ak else kr ak else kr ak
def v(a0:aq)(a1 a2:aw)(a3:aq)(OV:aw)(Ir:aq)(OX Is OY:aw)(Iu:aq)(Iv:aw):aX:=bif bZ (aC a0) (aC Ir)then bif decide (a1=Is)then bif bZ (aC a3) (aC Iu)then decide (a2>Iv)else ak else ak else ak
theorem eG(kr:aX->az R)(a0:aq)(a1 a2:aw)(a3:aq)(OV:aw)(Ir:aq)(OX Is OY:aw)(Iu:aq)(Iv:aw):b kr a0 a1 a2 a3 OV Ir OX Is OY Iu Iv=kr (v a0 a1 a2 a3 OV Ir OX Is OY Iu Iv):=by first|rfl|(unfold b v;simp only[cM];(repeat' split)<;>rfl)
end U89

namespace BW
def r2(N:aF)(g k0 k1:qf R)(a:aQ)(d:aw)(e:aq)(f h i:aw)(j:aq)(l m o p:aw):az R:=bif decide (p<o)then bif decide (0<=p)&&decide (p<(a.length:aw))then bif U89.v (bw (ar a p.toNat 0)) (bF (ar a p.toNat 1)) (bF (ar a p.toNat (1+1))) (bw (ar a p.toNat (1+1+1))) d e f h i j l then k0 a d e f h i j l p o p else g a d e f h i j l m o (bJ (p+1))else aj else k1 a d e f h i j l m o p
def l2(N:aF)(k0 k1:qf R):aF->qf R
 |0=>λ_ _ _ _ _ _ _ _ _ _ _=>aj
 |n+1=>r2 N (l2 N k0 k1 n) k0 k1
def b(N:aF)(kr:aw->az R)(a:aQ)(OV:aw)(Ir:aq)(OX Is OY:aw)(Iu:aq)(Iv:aw):az R:=l2 N (λ_ _ _ _ _ _ _ _ d _ _=>kr d) (λ_ _ _ _ _ _ _ _ _ _ _=>kr (-1)) N a OV Ir OX Is OY Iu Iv 0 (a.length:aw) 0
def vo:=b Lib.cW λr0=>ah r0
def c:=λa d e f h i j l=>(vo a d e f h i j l).isSome
def v:=λa d e f h i j l=>(vo a d e f h i j l).getD (0)
theorem out{x}:∀a d e f h i j l,vo a d e f h i j l=ah x->c a d e f h i j l=ai/\v a d e f h i j l=x:=λ_ _ _ _ _ _ _ _=>Lib.dh
end BW

namespace GG
def b(kr:aX->az R)(a:aq)(d e:aw)(f:aq)(h:aw):az R:=bif wJ.v a d e f then bif R6.v h then kr (lz.v h d (bJ (bJ (d+e)-1)))else kr ak else kr ak
def v(a0:aq)(a1 a2:aw)(a3:aq)(a4:aw):aX:=bif wJ.v a0 a1 a2 a3 then bif R6.v a4 then lz.v a4 a1 (bJ (bJ (a1+a2)-1))else ak else ak
theorem eG(kr:aX->az R)(a0:aq)(a1 a2:aw)(a3:aq)(a4:aw):b kr a0 a1 a2 a3 a4=kr (v a0 a1 a2 a3 a4):=by first|rfl|(unfold b v;simp only[cM];(repeat' split)<;>rfl)
end GG

namespace wT
def r6(N:aF)(g k0:yK R)(a:aw)(d:aq)(e f:aw):az R:=bif decide (f<8)then bif decide (cz a 2=1)then g (bE eI (↑(dW (mh (cf 32 (bE eI (cR a 2))) (cf 32 3558460437))):aw)) d e (bJ (f+1))else g (bE eI (cR a 2)) d e (bJ (f+1))else k0 a d e f
def l6(N:aF)(k0:yK R):aF->yK R
 |0=>λ_ _ _ _=>aj
 |n+1=>r6 N (l6 N k0 n) k0
def r2(N:aF)(g k0:Em R)(a:aw)(d:aq)(e:aw):az R:=bif decide (e<(d.size:aw))then bif decide (0<=e)&&decide (e<(d.size:aw))then l6 N (λf h i _=>g f h (bJ (i+1))) N (bE eI (↑(dW (mh (cf 32 a) (cf 32 (bE eI (↑(gQ d e.toNat):aw))))):aw)) d e 0 else aj else k0 a d e
def l2(N:aF)(k0:Em R):aF->Em R
 |0=>λ_ _ _=>aj
 |n+1=>r2 N (l2 N k0 n) k0
def b(N:aF)(kr:aw->az R)(a:aw)(d:aq):az R:=l2 N (λe _ _=>kr e) N a d 0
def vo:=b Lib.cW λr0=>ah r0
def c:=λa d=>(vo a d).isSome
def v:=λa d=>(vo a d).getD (0)
theorem out{x}:∀a d,vo a d=ah x->c a d=ai/\v a d=x:=λ_ _=>Lib.dh
end wT

namespace ve
def b(kr:aw->az R)(a:aq):az R:=bif wT.c 4294967295 a then kr (wT.v 4294967295 a)else aj
def vo:=b λr0=>ah r0
def c:=λa=>(vo a).isSome
def v:=λa=>(vo a).getD (0)
theorem out{x}:∀a,vo a=ah x->c a=ai/\v a=x:=λ_=>Lib.dh
end ve

namespace qI
def b(kr:aw->az R)(a:aw)(d:aq):az R:=bif decide (d.size+(bytesOf (aD (aP [Ck.i bh] 1) 0 [CV.i bh (bE bh (bJ (↑(dW (jt (cf 64 a) (cf 64 255))):aw)))])).size<=4611686018427387904)then bif ve.c (d++bytesOf (aD (aP [Ck.i bh] 1) 0 [CV.i bh (bE bh (bJ (↑(dW (jt (cf 64 a) (cf 64 255))):aw)))]))then kr (cz (bJ (ve.v (d++bytesOf (aD (aP [Ck.i bh] 1) 0 [CV.i bh (bE bh (bJ (↑(dW (jt (cf 64 a) (cf 64 255))):aw)))])))) 16)else aj else aj
def vo:=b λr0=>ah r0
def c:=λa d=>(vo a d).isSome
def v:=λa d=>(vo a d).getD (0)
theorem out{x}:∀a d,vo a d=ah x->c a d=ai/\v a d=x:=λ_ _=>Lib.dh
end qI

namespace iL
def r18(N:aF)(g k0:vE R)(a:aF)(d e f h i j:aw)(l:aQ):az R:=bif decide (h<f)then bif decide (0<=h)&&decide (h<((jx (ar l a 0)).length:aw))then bif decide (0<=h)&&decide (h<((jx (ar l a 0)).length:aw))then g a d e f (bJ (h+1)) i j (eJ l a 0 [CV.l 3 (eJ (jx (ar l a 0)) h.toNat 0 [.i .i64 (bJ (cR (bF (ar (jx (ar l a 0)) h.toNat 0)) 2))])])else aj else aj else k0 a d e f h i j l
def l18(N:aF)(k0:vE R):aF->vE R
 |0=>λ_ _ _ _ _ _ _ _=>aj
 |n+1=>r18 N (l18 N k0 n) k0
def QF(N:aF)(g k0:ug R)(a d e f:aw)(h:aQ):az R:=bif decide (d<a)then bif decide (0<=d)&&decide (d<(h.length:aw))then l18 N (λ_ i j _ _ l m o=>g i (bJ (j+1)) l m o) N d.toNat a d ((jx (ar h d.toNat 0)).length:aw) 0 e f h else aj else k0 a d e f h
def Jp(N:aF)(k0:ug R):aF->ug R
 |0=>λ_ _ _ _ _=>aj
 |n+1=>QF N (Jp N k0 n) k0
def r5(N:aF)(g k0:BP R)(a:aq)(d e f h:aw)(i:aQ):az R:=bif decide (e<d)then bif decide (0<=e)&&decide (e<(i.length:aw))then bif qI.c e a then bif decide (0<=qI.v e a)&&decide (qI.v e a<((jx (ar i e.toNat 0)).length:aw))then bif decide (0<=qI.v e a)&&decide (qI.v e a<((jx (ar i e.toNat 0)).length:aw))then g a d (bJ (e+1)) f h (eJ i e.toNat 0 [CV.l 3 (eJ (jx (ar i e.toNat 0)) (qI.v e a).toNat 0 [.i .i64 (iu ak (bJ (bF (ar (jx (ar i e.toNat 0)) (qI.v e a).toNat 0)+1)) 15)])])else aj else aj else aj else aj else k0 a d e f h i
def l5(N:aF)(k0:BP R):aF->BP R
 |0=>λ_ _ _ _ _ _=>aj
 |n+1=>r5 N (l5 N k0 n) k0
def b(N:aF)(kr:DB R)(a:aQ)(d:aw)(e:aq):az R:=bif jm.c a d then bif pN.c a d then bif !pN.v a d then kr (jm.v a d).1 (jm.v a d).2 else l5 N (λ_ _ _ f h i=>bif decide (bJ (h+1)<64)then kr i (bJ (h+1))else Jp N (λ_ _ _ j l=>kr l j) N (i.length:aw) 0 f 0 i) N e ((jm.v a d).1.length:aw) 0 0 (jm.v a d).2 (jm.v a d).1 else aj else aj
def vo:=b Lib.cW λr0 r1=>ah (r0,r1)
def c:=λa d e=>(vo a d e).isSome
def v:=λa d e=>(vo a d e).getD ([],0)
theorem out{x}:∀a d e,vo a d e=ah x->c a d e=ai/\v a d e=x:=λ_ _ _=>Lib.dh
end iL

namespace AU
def b(kr:aX->az R)(a gO:aq):az R:=kr (bZ (aC a) (aC gO))
def v(a0 gO:aq):aX:=(bZ (aC a0) (aC gO))
theorem eG(kr:aX->az R)(a0 gO:aq):b kr a0 gO=kr (v a0 gO):=by first|rfl|(unfold b v;simp only[cM];(repeat' split)<;>rfl)
end AU

namespace sJ
def r2(N:aF)(g k0 k1:ig R)(a:aQ)(d:aq)(e f h:aw):az R:=bif decide (h<f)then bif decide (0<=h)&&decide (h<(a.length:aw))then bif AU.v (bw (ar a h.toNat 0)) d then k0 a d h f h else g a d e f (bJ (h+1))else aj else k1 a d e f h
def l2(N:aF)(k0 k1:ig R):aF->ig R
 |0=>λ_ _ _ _ _=>aj
 |n+1=>r2 N (l2 N k0 k1 n) k0 k1
def b(N:aF)(kr:aw->az R)(a:aQ)(gO:aq):az R:=l2 N (λ_ _ d _ _=>kr d) (λ_ _ _ _ _=>kr (-1)) N a gO 0 (a.length:aw) 0
def vo:=b Lib.cW λr0=>ah r0
def c:=λa d=>(vo a d).isSome
def v:=λa d=>(vo a d).getD (0)
theorem out{x}:∀a d,vo a d=ah x->c a d=ai/\v a d=x:=λ_ _=>Lib.dh
end sJ

namespace wS
def r5(N:aF)(g k0:mm R)(a:aq)(d e:aw)(f:aQ):az R:=bif decide (e<(f.length:aw))then bif decide (0<=e)&&decide (e<(f.length:aw))then bif !AU.v (bw (ar f e.toNat 0)) a then bif decide (0<=d)&&decide (d<(f.length:aw))then g a (bJ (d+1)) (bJ (e+1)) (eJ f d.toNat 0 [.s (bw (ar f e.toNat 0))])else aj else g a d (bJ (e+1)) f else aj else k0 a d e f
def l5(N:aF)(k0:mm R):aF->mm R
 |0=>λ_ _ _ _=>aj
 |n+1=>r5 N (l5 N k0 n) k0
def b(N:aF)(kr:aQ->az R)(a:aQ)(gO:aq):az R:=bif sJ.c a gO then bif decide (sJ.v a gO=Kn 1)then kr a else l5 N (λ_ d _ e=>bif g7 d (e.length:aw) (e.length:aw)then bif g7 0 d ((g9 d.toNat e++aP [.s] ((e.length:aw).toNat-d.toNat)++nk (e.length:aw).toNat e).length:aw)then kr (eA (g9 d.toNat e++aP [.s] ((e.length:aw).toNat-d.toNat)++nk (e.length:aw).toNat e) (aW 0) d.toNat)else aj else aj) N gO (sJ.v a gO) (bJ (sJ.v a gO+1)) a else aj
def vo:=b Lib.cW λr0=>ah r0
def c:=λa d=>(vo a d).isSome
def v:=λa d=>(vo a d).getD ([])
theorem out{x}:∀a d,vo a d=ah x->c a d=ai/\v a d=x:=λ_ _=>Lib.dh
end wS

namespace ka
def b(kr:aQ->az R)(a:aQ)(d:aq):az R:=bif tf.c a then bif wS.c (tf.v a) d then kr (wS.v (tf.v a) d)else aj else aj
def vo:=b λr0=>ah r0
def c:=λa d=>(vo a d).isSome
def v:=λa d=>(vo a d).getD ([])
theorem out{x}:∀a d,vo a d=ah x->c a d=ai/\v a d=x:=λ_ _=>Lib.dh
end ka

namespace vV
def r5(N:aF)(g k0:FP R)(a:aq)(d:aw)(e:aQ)(f h:aw):az R:=bif decide (h<f)then bif decide (0<=h)&&decide (h<(e.length:aw))then bif qI.c h a then bif decide (0<=qI.v h a)&&decide (qI.v h a<((jx (ar e h.toNat 0)).length:aw))then g a (iu ak d (bF (ar (jx (ar e h.toNat 0)) (qI.v h a).toNat 0))) e f (bJ (h+1))else aj else aj else aj else k0 a d e f h
def l5(N:aF)(k0:FP R):aF->FP R
 |0=>λ_ _ _ _ _=>aj
 |n+1=>r5 N (l5 N k0 n) k0
def b(N:aF)(kr:aw->az R)(a:aQ)(d:aw)(e:aq):az R:=bif pN.c a d then bif !pN.v a d then kr 0 else l5 N (λ_ f _ _ _=>kr f) N e 15 a (a.length:aw) 0 else aj
def vo:=b Lib.cW λr0=>ah r0
def c:=λa d e=>(vo a d e).isSome
def v:=λa d e=>(vo a d e).getD (0)
theorem out{x}:∀a d e,vo a d e=ah x->c a d e=ai/\v a d e=x:=λ_ _ _=>Lib.dh
end vV

namespace zr
def b(kr:Mi R)(a d e:aQ)(f:aw)(h:aq):az R:=bif ju.c a d e f then bif o_.c a d e f then bif !o_.v a d e f then kr (ju.v a d e f).1 (ju.v a d e f).2.1 (ju.v a d e f).2.2.1 (ju.v a d e f).2.2.2 ⟨#[]⟩else bif !zq.v h then kr (ju.v a d e f).1 (ju.v a d e f).2.1 (ju.v a d e f).2.2.1 (ju.v a d e f).2.2.2 ⟨#[]⟩else bif iL.c e f h then bif sH.c d h then bif sH.v d h then bif ka.c d h then bif cy ((ka.v d h).length+(aD (aP [.s] 1) 0 [.s h]).length) 16 then kr (ju.v a d e f).1 (ka.v d h++aD (aP [.s] 1) 0 [.s h]) (iL.v e f h).1 (iL.v e f h).2 ⟨#[]⟩else aj else aj else bif ka.c a h then bif cy ((ka.v a h).length+(aD (aP [.s] 1) 0 [.s h]).length) 16 then bif decide (((ka.v a h++aD (aP [.s] 1) 0 [.s h]).length:aw)<=2)then kr (ka.v a h++aD (aP [.s] 1) 0 [.s h]) (ju.v a d e f).2.1 (iL.v e f h).1 (iL.v e f h).2 ⟨#[]⟩else bif decide (0<((ka.v a h++aD (aP [.s] 1) 0 [.s h]).length:aw))then bif g7 1 ((ka.v a h++aD (aP [.s] 1) 0 [.s h]).length:aw) ((ka.v a h++aD (aP [.s] 1) 0 [.s h]).length:aw)then bif decide (((ju.v a d e f).2.1.length:aw)<4)then bif cy ((ju.v a d e f).2.1.length+(aD (aP [.s] 1) 0 [.s (bw (ar (ka.v a h++aD (aP [.s] 1) 0 [.s h]) (aW 0) 0))]).length) 16 then kr (eA (ka.v a h++aD (aP [.s] 1) 0 [.s h]) (aW 1) ((ka.v a h++aD (aP [.s] 1) 0 [.s h]).length:aw).toNat) ((ju.v a d e f).2.1++aD (aP [.s] 1) 0 [.s (bw (ar (ka.v a h++aD (aP [.s] 1) 0 [.s h]) (aW 0) 0))]) (iL.v e f h).1 (iL.v e f h).2 ⟨#[]⟩else aj else bif decide (0<((ju.v a d e f).2.1.length:aw))then bif vV.c (iL.v e f h).1 (iL.v e f h).2 (bw (ar (ka.v a h++aD (aP [.s] 1) 0 [.s h]) (aW 0) 0))then bif vV.c (iL.v e f h).1 (iL.v e f h).2 (bw (ar (ju.v a d e f).2.1 (aW 0) 0))then bif decide (vV.v (iL.v e f h).1 (iL.v e f h).2 (bw (ar (ka.v a h++aD (aP [.s] 1) 0 [.s h]) (aW 0) 0))>vV.v (iL.v e f h).1 (iL.v e f h).2 (bw (ar (ju.v a d e f).2.1 (aW 0) 0)))then bif g7 1 ((ju.v a d e f).2.1.length:aw) ((ju.v a d e f).2.1.length:aw)then bif cy ((eA (ju.v a d e f).2.1 (aW 1) ((ju.v a d e f).2.1.length:aw).toNat).length+(aD (aP [.s] 1) 0 [.s (bw (ar (ka.v a h++aD (aP [.s] 1) 0 [.s h]) (aW 0) 0))]).length) 16 then kr (eA (ka.v a h++aD (aP [.s] 1) 0 [.s h]) (aW 1) ((ka.v a h++aD (aP [.s] 1) 0 [.s h]).length:aw).toNat) (eA (ju.v a d e f).2.1 (aW 1) ((ju.v a d e f).2.1.length:aw).toNat++aD (aP [.s] 1) 0 [.s (bw (ar (ka.v a h++aD (aP [.s] 1) 0 [.s h]) (aW 0) 0))]) (iL.v e f h).1 (iL.v e f h).2 (bw (ar (ju.v a d e f).2.1 (aW 0) 0))else aj else aj else kr (eA (ka.v a h++aD (aP [.s] 1) 0 [.s h]) (aW 1) ((ka.v a h++aD (aP [.s] 1) 0 [.s h]).length:aw).toNat) (ju.v a d e f).2.1 (iL.v e f h).1 (iL.v e f h).2 (bw (ar (ka.v a h++aD (aP [.s] 1) 0 [.s h]) (aW 0) 0))else aj else aj else aj else aj else aj else aj else aj else aj else aj else aj else aj
def vo:=b λr0 r1 r2 r3 r4=>ah (r0,r1,r2,r3,r4)
def c:=λa d e f h=>(vo a d e f h).isSome
def v:=λa d e f h=>(vo a d e f h).getD ([],[],[],0,⟨#[]⟩)
theorem out{x}:∀a d e f h,vo a d e f h=ah x->c a d e f h=ai/\v a d e f h=x:=λ_ _ _ _ _=>Lib.dh
end zr


namespace jl
def r2(N:aF)(g k0:lG R)(a d e f h:aw)(i:aq)(j l m:aw)(o:aq)(p:aw)(q r s t u w:aQ):az R:=bif decide (a<(w.length:aw))then bif decide (0<=a)&&decide (a<(w.length:aw))then bif decide (bF (ar w a.toNat 0)<h)then g (bJ (a+1)) d e f h i j l m o p q r s t u w else k0 a d e f h i j l m o p q r s t u w else aj else k0 a d e f h i j l m o p q r s t u w
def l2(N:aF)(k0:lG R):aF->lG R
 |0=>λ_ _ _ _ _ _ _ _ _ _ _ _ _ _ _ _ _=>aj
 |n+1=>r2 N (l2 N k0 n) k0
def b(N:aF)(kr:eR R)(a:aw)(d e f h:aQ)(i:aw)(j l:aQ)(m o:aw)(p:aq)(q r s:aw)(t:aq)(u:aw):az R:=l2 N (λw y z α xa xb xc xd xe xf xg xh xi xj xk xl xm=>bif decide (0<=w)&&decide (w<=(xm.length:aw))&&cy (xm.length+(aD (aP [Ck.i ao,Ck.s,Ck.i ao,Ck.i ao,Ck.i ao,Ck.s,Ck.i ao] 1) 0 [.i .i64 xa, .s xb, .i .i64 xc, .i .i64 xd, .i .i64 xe, .s xf, .i .i64 xg]).length) 72 then kr y xh xi xj xk z xl (Pu.tI xm w.toNat (aD (aP [Ck.i ao,Ck.s,Ck.i ao,Ck.i ao,Ck.i ao,Ck.s,Ck.i ao] 1) 0 [.i .i64 xa, .s xb, .i .i64 xc, .i .i64 xd, .i .i64 xe, .s xf, .i .i64 xg])) α else aj) N 0 a i m o p q r s t u d e f h j l
def vo:=b Lib.cW λr0 r1 r2 r3 r4 r5 r6 r7 r8=>ah (r0,r1,r2,r3,r4,r5,r6,r7,r8)
def c:=λa d e f h i j l m o p q r s t u=>(vo a d e f h i j l m o p q r s t u).isSome
def v:=λa d e f h i j l m o p q r s t u=>(vo a d e f h i j l m o p q r s t u).getD (0,[],[],[],[],0,[],[],0)
theorem out{x}:∀a d e f h i j l m o p q r s t u,vo a d e f h i j l m o p q r s t u=ah x->c a d e f h i j l m o p q r s t u=ai/\v a d e f h i j l m o p q r s t u=x:=λ_ _ _ _ _ _ _ _ _ _ _ _ _ _ _ _=>Lib.dh
end jl

namespace pc
def r5(N:aF)(g k0:mm R)(a:aq)(d e:aw)(f:aQ):az R:=bif decide (e<(f.length:aw))then bif decide (0<=e)&&decide (e<(f.length:aw))then bif !AQ.v (bw (ar f e.toNat 0)) (bF (ar f e.toNat 1)) (bF (ar f e.toNat (1+1))) (bw (ar f e.toNat (1+1+1))) a then bif decide (0<=d)&&decide (d<(f.length:aw))then g a (bJ (d+1)) (bJ (e+1)) (eJ f d.toNat 0 [.s (bw (ar f e.toNat 0)), .i .i64 (bF (ar f e.toNat 1)), .i .i64 (bF (ar f e.toNat (1+1))), .s (bw (ar f e.toNat (1+1+1)))])else aj else g a d (bJ (e+1)) f else aj else k0 a d e f
def l5(N:aF)(k0:mm R):aF->mm R
 |0=>λ_ _ _ _=>aj
 |n+1=>r5 N (l5 N k0 n) k0
def b(N:aF)(kr:aQ->az R)(a:aQ)(gO:aq):az R:=bif nq.c a gO then bif decide (nq.v a gO=Kn 1)then kr a else l5 N (λ_ d _ e=>bif g7 d (e.length:aw) (e.length:aw)then bif g7 0 d ((g9 d.toNat e++aP [Ck.s,Ck.i ao,Ck.i ao,Ck.s] ((e.length:aw).toNat-d.toNat)++nk (e.length:aw).toNat e).length:aw)then kr (eA (g9 d.toNat e++aP [Ck.s,Ck.i ao,Ck.i ao,Ck.s] ((e.length:aw).toNat-d.toNat)++nk (e.length:aw).toNat e) (aW 0) d.toNat)else aj else aj) N gO (nq.v a gO) (bJ (nq.v a gO+1)) a else aj
def vo:=b Lib.cW λr0=>ah r0
def c:=λa d=>(vo a d).isSome
def v:=λa d=>(vo a d).getD ([])
theorem out{x}:∀a d,vo a d=ah x->c a d=ai/\v a d=x:=λ_ _=>Lib.dh
end pc

namespace pM
def b(kr:aQ->az R)(a:aQ)(d:aq):az R:=bif wP.c a then bif pc.c (wP.v a) d then kr (pc.v (wP.v a) d)else aj else aj
def vo:=b λr0=>ah r0
def c:=λa d=>(vo a d).isSome
def v:=λa d=>(vo a d).getD ([])
theorem out{x}:∀a d,vo a d=ah x->c a d=ai/\v a d=x:=λ_ _=>Lib.dh
end pM

namespace u5
def b(kr:s6 R)(a d e:aQ)(f:aw)(h:aq):az R:=bif ju.c a d e f then bif ka.c a h then bif ka.c d h then kr (ka.v a h) (ka.v d h) (ju.v a d e f).2.2.1 (ju.v a d e f).2.2.2 else aj else aj else aj
def vo:=b λr0 r1 r2 r3=>ah (r0,r1,r2,r3)
def c:=λa d e f h=>(vo a d e f h).isSome
def v:=λa d e f h=>(vo a d e f h).getD ([],[],[],0)
theorem out{x}:∀a d e f h,vo a d e f h=ah x->c a d e f h=ai/\v a d e f h=x:=λ_ _ _ _ _=>Lib.dh
end u5

namespace R7
def b(kr:wD R)(a:aw)(d e f h:aQ)(i:aw)(j l:aQ)(m o:aw)(p:aq):az R:=bif iP.c a d e f h i j l m then Lib.lt (iP.v a d e f h i j l m) λq=>bif OO.c a d e f h i j l m then Lib.lt (OO.v a d e f h i j l m) λr=>bif !r then kr q.1 q.2.1 q.2.2.1 q.2.2.2.1 q.2.2.2.2.1 q.2.2.2.2.2.1 q.2.2.2.2.2.2.1 q.2.2.2.2.2.2.2.1 q.2.2.2.2.2.2.2.2 1 else bif !lz.v o 1 9 then kr q.1 q.2.1 q.2.2.1 q.2.2.2.1 q.2.2.2.2.1 q.2.2.2.2.2.1 q.2.2.2.2.2.2.1 q.2.2.2.2.2.2.2.1 q.2.2.2.2.2.2.2.2 1 else bif !zq.v p then kr q.1 q.2.1 q.2.2.1 q.2.2.2.1 q.2.2.2.2.1 q.2.2.2.2.2.1 q.2.2.2.2.2.2.1 q.2.2.2.2.2.2.2.1 q.2.2.2.2.2.2.2.2 1 else bif zp.c a d e f h i j l m o then Lib.lt (zp.v a d e f h i j l m o) λs=>bif decide (s≥0)then kr q.1 q.2.1 q.2.2.1 q.2.2.2.1 q.2.2.2.2.1 q.2.2.2.2.2.1 q.2.2.2.2.2.2.1 q.2.2.2.2.2.2.2.1 q.2.2.2.2.2.2.2.2 1 else bif decide ((l.length:aw)=6)then kr q.1 q.2.1 q.2.2.1 q.2.2.2.1 q.2.2.2.2.1 q.2.2.2.2.2.1 q.2.2.2.2.2.2.1 q.2.2.2.2.2.2.2.1 q.2.2.2.2.2.2.2.2 1 else bif pU.c d p then Lib.lt (pU.v d p) λt=>bif decide (t≥0)then bif decide (0<=t)&&decide (t<(d.length:aw))then bif GG.v (bw (ar d t.toNat 0)) (bF (ar d t.toNat 1)) (bF (ar d t.toNat (1+1))) (bw (ar d t.toNat (1+1+1))) a then bif decide (0<=t)&&decide (t<(d.length:aw))then bif zr.c e f h i p then Lib.lt (zr.v e f h i p) λu=>bif jl.c q.1 q.2.1 u.1 u.2.1 u.2.2.1 u.2.2.2.1 q.2.2.2.2.2.2.1 q.2.2.2.2.2.2.2.1 q.2.2.2.2.2.2.2.2 o p 0 (bF (ar d t.toNat 1)) 2 (bw (ar d t.toNat (1+1+1))) (bJ (a-bF (ar d t.toNat 1)))then Lib.lt (jl.v q.1 q.2.1 u.1 u.2.1 u.2.2.1 u.2.2.2.1 q.2.2.2.2.2.2.1 q.2.2.2.2.2.2.2.1 q.2.2.2.2.2.2.2.2 o p 0 (bF (ar d t.toNat 1)) 2 (bw (ar d t.toNat (1+1+1))) (bJ (a-bF (ar d t.toNat 1)))) λw=>kr w.1 w.2.1 w.2.2.1 w.2.2.2.1 w.2.2.2.2.1 w.2.2.2.2.2.1 w.2.2.2.2.2.2.1 w.2.2.2.2.2.2.2.1 (iu ak (bJ (m+1)) 1000000000) 0 else aj else aj else aj else bif Ky.c a d e f h i j l m p then Lib.lt (Ky.v a d e f h i j l m p) λu=>bif decide (u<0)then bif decide ((j.length:aw)=20)then kr q.1 q.2.1 q.2.2.1 q.2.2.2.1 q.2.2.2.2.1 q.2.2.2.2.2.1 q.2.2.2.2.2.2.1 q.2.2.2.2.2.2.2.1 q.2.2.2.2.2.2.2.2 2 else bif decide (t≥0)then bif pM.c d p then Lib.lt (pM.v d p) λw=>bif u5.c e f h i p then Lib.lt (u5.v e f h i p) λy=>bif iL.c h i p then Lib.lt (iL.v h i p) λz=>bif decide (u<0)then bif cy (q.2.2.2.2.2.2.1.length+(aD (aP [Ck.s,Ck.s,Ck.i ao,Ck.i ao,Ck.i ao] 1) 0 [.s p, .s ⟨#[]⟩, .i .i64 1, .i .i64 0, .i .i64 0]).length) 56 then bif decide ((j.length:aw)<((q.2.2.2.2.2.2.1++aD (aP [Ck.s,Ck.s,Ck.i ao,Ck.i ao,Ck.i ao] 1) 0 [.s p, .s ⟨#[]⟩, .i .i64 1, .i .i64 0, .i .i64 0]).length:aw))then bif jl.c q.1 w y.1 y.2.1 z.1 z.2 (q.2.2.2.2.2.2.1++aD (aP [Ck.s,Ck.s,Ck.i ao,Ck.i ao,Ck.i ao] 1) 0 [.s p, .s ⟨#[]⟩, .i .i64 1, .i .i64 0, .i .i64 0]) q.2.2.2.2.2.2.2.1 q.2.2.2.2.2.2.2.2 o p (bJ ((j.length:aw)+1)) 0 1 (bw (ar (q.2.2.2.2.2.2.1++aD (aP [Ck.s,Ck.s,Ck.i ao,Ck.i ao,Ck.i ao] 1) 0 [.s p, .s ⟨#[]⟩, .i .i64 1, .i .i64 0, .i .i64 0]) (j.length:aw).toNat 1)) 0 then Lib.lt (jl.v q.1 w y.1 y.2.1 z.1 z.2 (q.2.2.2.2.2.2.1++aD (aP [Ck.s,Ck.s,Ck.i ao,Ck.i ao,Ck.i ao] 1) 0 [.s p, .s ⟨#[]⟩, .i .i64 1, .i .i64 0, .i .i64 0]) q.2.2.2.2.2.2.2.1 q.2.2.2.2.2.2.2.2 o p (bJ ((j.length:aw)+1)) 0 1 (bw (ar (q.2.2.2.2.2.2.1++aD (aP [Ck.s,Ck.s,Ck.i ao,Ck.i ao,Ck.i ao] 1) 0 [.s p, .s ⟨#[]⟩, .i .i64 1, .i .i64 0, .i .i64 0]) (j.length:aw).toNat 1)) 0) λα=>kr α.1 α.2.1 α.2.2.1 α.2.2.2.1 α.2.2.2.2.1 α.2.2.2.2.2.1 α.2.2.2.2.2.2.1 α.2.2.2.2.2.2.2.1 α.2.2.2.2.2.2.2.2 0 else aj else aj else aj else bif decide (0<=u)&&decide (u<(q.2.2.2.2.2.2.1.length:aw))then bif jl.c q.1 w y.1 y.2.1 z.1 z.2 q.2.2.2.2.2.2.1 q.2.2.2.2.2.2.2.1 q.2.2.2.2.2.2.2.2 o p (bJ (u+1)) 0 1 (bw (ar q.2.2.2.2.2.2.1 u.toNat 1)) 0 then Lib.lt (jl.v q.1 w y.1 y.2.1 z.1 z.2 q.2.2.2.2.2.2.1 q.2.2.2.2.2.2.2.1 q.2.2.2.2.2.2.2.2 o p (bJ (u+1)) 0 1 (bw (ar q.2.2.2.2.2.2.1 u.toNat 1)) 0) λα=>kr α.1 α.2.1 α.2.2.1 α.2.2.2.1 α.2.2.2.2.1 α.2.2.2.2.2.1 α.2.2.2.2.2.2.1 α.2.2.2.2.2.2.2.1 α.2.2.2.2.2.2.2.2 0 else aj else aj else aj else aj else aj else bif iL.c h i p then Lib.lt (iL.v h i p) λw=>bif decide (u<0)then bif cy (q.2.2.2.2.2.2.1.length+(aD (aP [Ck.s,Ck.s,Ck.i ao,Ck.i ao,Ck.i ao] 1) 0 [.s p, .s ⟨#[]⟩, .i .i64 1, .i .i64 0, .i .i64 0]).length) 56 then bif decide ((j.length:aw)<((q.2.2.2.2.2.2.1++aD (aP [Ck.s,Ck.s,Ck.i ao,Ck.i ao,Ck.i ao] 1) 0 [.s p, .s ⟨#[]⟩, .i .i64 1, .i .i64 0, .i .i64 0]).length:aw))then bif jl.c q.1 q.2.1 q.2.2.1 q.2.2.2.1 w.1 w.2 (q.2.2.2.2.2.2.1++aD (aP [Ck.s,Ck.s,Ck.i ao,Ck.i ao,Ck.i ao] 1) 0 [.s p, .s ⟨#[]⟩, .i .i64 1, .i .i64 0, .i .i64 0]) q.2.2.2.2.2.2.2.1 q.2.2.2.2.2.2.2.2 o p (bJ ((j.length:aw)+1)) 0 1 (bw (ar (q.2.2.2.2.2.2.1++aD (aP [Ck.s,Ck.s,Ck.i ao,Ck.i ao,Ck.i ao] 1) 0 [.s p, .s ⟨#[]⟩, .i .i64 1, .i .i64 0, .i .i64 0]) (j.length:aw).toNat 1)) 0 then Lib.lt (jl.v q.1 q.2.1 q.2.2.1 q.2.2.2.1 w.1 w.2 (q.2.2.2.2.2.2.1++aD (aP [Ck.s,Ck.s,Ck.i ao,Ck.i ao,Ck.i ao] 1) 0 [.s p, .s ⟨#[]⟩, .i .i64 1, .i .i64 0, .i .i64 0]) q.2.2.2.2.2.2.2.1 q.2.2.2.2.2.2.2.2 o p (bJ ((j.length:aw)+1)) 0 1 (bw (ar (q.2.2.2.2.2.2.1++aD (aP [Ck.s,Ck.s,Ck.i ao,Ck.i ao,Ck.i ao] 1) 0 [.s p, .s ⟨#[]⟩, .i .i64 1, .i .i64 0, .i .i64 0]) (j.length:aw).toNat 1)) 0) λy=>kr y.1 y.2.1 y.2.2.1 y.2.2.2.1 y.2.2.2.2.1 y.2.2.2.2.2.1 y.2.2.2.2.2.2.1 y.2.2.2.2.2.2.2.1 y.2.2.2.2.2.2.2.2 0 else aj else aj else aj else bif decide (0<=u)&&decide (u<(q.2.2.2.2.2.2.1.length:aw))then bif jl.c q.1 q.2.1 q.2.2.1 q.2.2.2.1 w.1 w.2 q.2.2.2.2.2.2.1 q.2.2.2.2.2.2.2.1 q.2.2.2.2.2.2.2.2 o p (bJ (u+1)) 0 1 (bw (ar q.2.2.2.2.2.2.1 u.toNat 1)) 0 then Lib.lt (jl.v q.1 q.2.1 q.2.2.1 q.2.2.2.1 w.1 w.2 q.2.2.2.2.2.2.1 q.2.2.2.2.2.2.2.1 q.2.2.2.2.2.2.2.2 o p (bJ (u+1)) 0 1 (bw (ar q.2.2.2.2.2.2.1 u.toNat 1)) 0) λy=>kr y.1 y.2.1 y.2.2.1 y.2.2.2.1 y.2.2.2.2.1 y.2.2.2.2.2.1 y.2.2.2.2.2.2.1 y.2.2.2.2.2.2.2.1 y.2.2.2.2.2.2.2.2 0 else aj else aj else aj else bif decide (t≥0)then bif pM.c d p then Lib.lt (pM.v d p) λw=>bif u5.c e f h i p then Lib.lt (u5.v e f h i p) λy=>bif iL.c h i p then Lib.lt (iL.v h i p) λz=>bif decide (u<0)then bif cy (q.2.2.2.2.2.2.1.length+(aD (aP [Ck.s,Ck.s,Ck.i ao,Ck.i ao,Ck.i ao] 1) 0 [.s p, .s ⟨#[]⟩, .i .i64 1, .i .i64 0, .i .i64 0]).length) 56 then bif decide ((j.length:aw)<((q.2.2.2.2.2.2.1++aD (aP [Ck.s,Ck.s,Ck.i ao,Ck.i ao,Ck.i ao] 1) 0 [.s p, .s ⟨#[]⟩, .i .i64 1, .i .i64 0, .i .i64 0]).length:aw))then bif jl.c q.1 w y.1 y.2.1 z.1 z.2 (q.2.2.2.2.2.2.1++aD (aP [Ck.s,Ck.s,Ck.i ao,Ck.i ao,Ck.i ao] 1) 0 [.s p, .s ⟨#[]⟩, .i .i64 1, .i .i64 0, .i .i64 0]) q.2.2.2.2.2.2.2.1 q.2.2.2.2.2.2.2.2 o p (bJ ((j.length:aw)+1)) 0 1 (bw (ar (q.2.2.2.2.2.2.1++aD (aP [Ck.s,Ck.s,Ck.i ao,Ck.i ao,Ck.i ao] 1) 0 [.s p, .s ⟨#[]⟩, .i .i64 1, .i .i64 0, .i .i64 0]) (j.length:aw).toNat 1)) 0 then Lib.lt (jl.v q.1 w y.1 y.2.1 z.1 z.2 (q.2.2.2.2.2.2.1++aD (aP [Ck.s,Ck.s,Ck.i ao,Ck.i ao,Ck.i ao] 1) 0 [.s p, .s ⟨#[]⟩, .i .i64 1, .i .i64 0, .i .i64 0]) q.2.2.2.2.2.2.2.1 q.2.2.2.2.2.2.2.2 o p (bJ ((j.length:aw)+1)) 0 1 (bw (ar (q.2.2.2.2.2.2.1++aD (aP [Ck.s,Ck.s,Ck.i ao,Ck.i ao,Ck.i ao] 1) 0 [.s p, .s ⟨#[]⟩, .i .i64 1, .i .i64 0, .i .i64 0]) (j.length:aw).toNat 1)) 0) λα=>kr α.1 α.2.1 α.2.2.1 α.2.2.2.1 α.2.2.2.2.1 α.2.2.2.2.2.1 α.2.2.2.2.2.2.1 α.2.2.2.2.2.2.2.1 α.2.2.2.2.2.2.2.2 0 else aj else aj else aj else bif decide (0<=u)&&decide (u<(q.2.2.2.2.2.2.1.length:aw))then bif jl.c q.1 w y.1 y.2.1 z.1 z.2 q.2.2.2.2.2.2.1 q.2.2.2.2.2.2.2.1 q.2.2.2.2.2.2.2.2 o p (bJ (u+1)) 0 1 (bw (ar q.2.2.2.2.2.2.1 u.toNat 1)) 0 then Lib.lt (jl.v q.1 w y.1 y.2.1 z.1 z.2 q.2.2.2.2.2.2.1 q.2.2.2.2.2.2.2.1 q.2.2.2.2.2.2.2.2 o p (bJ (u+1)) 0 1 (bw (ar q.2.2.2.2.2.2.1 u.toNat 1)) 0) λα=>kr α.1 α.2.1 α.2.2.1 α.2.2.2.1 α.2.2.2.2.1 α.2.2.2.2.2.1 α.2.2.2.2.2.2.1 α.2.2.2.2.2.2.2.1 α.2.2.2.2.2.2.2.2 0 else aj else aj else aj else aj else aj else bif iL.c h i p then Lib.lt (iL.v h i p) λw=>bif decide (u<0)then bif cy (q.2.2.2.2.2.2.1.length+(aD (aP [Ck.s,Ck.s,Ck.i ao,Ck.i ao,Ck.i ao] 1) 0 [.s p, .s ⟨#[]⟩, .i .i64 1, .i .i64 0, .i .i64 0]).length) 56 then bif decide ((j.length:aw)<((q.2.2.2.2.2.2.1++aD (aP [Ck.s,Ck.s,Ck.i ao,Ck.i ao,Ck.i ao] 1) 0 [.s p, .s ⟨#[]⟩, .i .i64 1, .i .i64 0, .i .i64 0]).length:aw))then bif jl.c q.1 q.2.1 q.2.2.1 q.2.2.2.1 w.1 w.2 (q.2.2.2.2.2.2.1++aD (aP [Ck.s,Ck.s,Ck.i ao,Ck.i ao,Ck.i ao] 1) 0 [.s p, .s ⟨#[]⟩, .i .i64 1, .i .i64 0, .i .i64 0]) q.2.2.2.2.2.2.2.1 q.2.2.2.2.2.2.2.2 o p (bJ ((j.length:aw)+1)) 0 1 (bw (ar (q.2.2.2.2.2.2.1++aD (aP [Ck.s,Ck.s,Ck.i ao,Ck.i ao,Ck.i ao] 1) 0 [.s p, .s ⟨#[]⟩, .i .i64 1, .i .i64 0, .i .i64 0]) (j.length:aw).toNat 1)) 0 then Lib.lt (jl.v q.1 q.2.1 q.2.2.1 q.2.2.2.1 w.1 w.2 (q.2.2.2.2.2.2.1++aD (aP [Ck.s,Ck.s,Ck.i ao,Ck.i ao,Ck.i ao] 1) 0 [.s p, .s ⟨#[]⟩, .i .i64 1, .i .i64 0, .i .i64 0]) q.2.2.2.2.2.2.2.1 q.2.2.2.2.2.2.2.2 o p (bJ ((j.length:aw)+1)) 0 1 (bw (ar (q.2.2.2.2.2.2.1++aD (aP [Ck.s,Ck.s,Ck.i ao,Ck.i ao,Ck.i ao] 1) 0 [.s p, .s ⟨#[]⟩, .i .i64 1, .i .i64 0, .i .i64 0]) (j.length:aw).toNat 1)) 0) λy=>kr y.1 y.2.1 y.2.2.1 y.2.2.2.1 y.2.2.2.2.1 y.2.2.2.2.2.1 y.2.2.2.2.2.2.1 y.2.2.2.2.2.2.2.1 y.2.2.2.2.2.2.2.2 0 else aj else aj else aj else bif decide (0<=u)&&decide (u<(q.2.2.2.2.2.2.1.length:aw))then bif jl.c q.1 q.2.1 q.2.2.1 q.2.2.2.1 w.1 w.2 q.2.2.2.2.2.2.1 q.2.2.2.2.2.2.2.1 q.2.2.2.2.2.2.2.2 o p (bJ (u+1)) 0 1 (bw (ar q.2.2.2.2.2.2.1 u.toNat 1)) 0 then Lib.lt (jl.v q.1 q.2.1 q.2.2.1 q.2.2.2.1 w.1 w.2 q.2.2.2.2.2.2.1 q.2.2.2.2.2.2.2.1 q.2.2.2.2.2.2.2.2 o p (bJ (u+1)) 0 1 (bw (ar q.2.2.2.2.2.2.1 u.toNat 1)) 0) λy=>kr y.1 y.2.1 y.2.2.1 y.2.2.2.1 y.2.2.2.2.1 y.2.2.2.2.2.1 y.2.2.2.2.2.2.1 y.2.2.2.2.2.2.2.1 y.2.2.2.2.2.2.2.2 0 else aj else aj else aj else aj else aj else bif Ky.c a d e f h i j l m p then Lib.lt (Ky.v a d e f h i j l m p) λu=>bif decide (u<0)then bif decide ((j.length:aw)=20)then kr q.1 q.2.1 q.2.2.1 q.2.2.2.1 q.2.2.2.2.1 q.2.2.2.2.2.1 q.2.2.2.2.2.2.1 q.2.2.2.2.2.2.2.1 q.2.2.2.2.2.2.2.2 2 else bif decide (t≥0)then bif pM.c d p then Lib.lt (pM.v d p) λw=>bif u5.c e f h i p then Lib.lt (u5.v e f h i p) λy=>bif iL.c h i p then Lib.lt (iL.v h i p) λz=>bif decide (u<0)then bif cy (q.2.2.2.2.2.2.1.length+(aD (aP [Ck.s,Ck.s,Ck.i ao,Ck.i ao,Ck.i ao] 1) 0 [.s p, .s ⟨#[]⟩, .i .i64 1, .i .i64 0, .i .i64 0]).length) 56 then bif decide ((j.length:aw)<((q.2.2.2.2.2.2.1++aD (aP [Ck.s,Ck.s,Ck.i ao,Ck.i ao,Ck.i ao] 1) 0 [.s p, .s ⟨#[]⟩, .i .i64 1, .i .i64 0, .i .i64 0]).length:aw))then bif jl.c q.1 w y.1 y.2.1 z.1 z.2 (q.2.2.2.2.2.2.1++aD (aP [Ck.s,Ck.s,Ck.i ao,Ck.i ao,Ck.i ao] 1) 0 [.s p, .s ⟨#[]⟩, .i .i64 1, .i .i64 0, .i .i64 0]) q.2.2.2.2.2.2.2.1 q.2.2.2.2.2.2.2.2 o p (bJ ((j.length:aw)+1)) 0 1 (bw (ar (q.2.2.2.2.2.2.1++aD (aP [Ck.s,Ck.s,Ck.i ao,Ck.i ao,Ck.i ao] 1) 0 [.s p, .s ⟨#[]⟩, .i .i64 1, .i .i64 0, .i .i64 0]) (j.length:aw).toNat 1)) 0 then Lib.lt (jl.v q.1 w y.1 y.2.1 z.1 z.2 (q.2.2.2.2.2.2.1++aD (aP [Ck.s,Ck.s,Ck.i ao,Ck.i ao,Ck.i ao] 1) 0 [.s p, .s ⟨#[]⟩, .i .i64 1, .i .i64 0, .i .i64 0]) q.2.2.2.2.2.2.2.1 q.2.2.2.2.2.2.2.2 o p (bJ ((j.length:aw)+1)) 0 1 (bw (ar (q.2.2.2.2.2.2.1++aD (aP [Ck.s,Ck.s,Ck.i ao,Ck.i ao,Ck.i ao] 1) 0 [.s p, .s ⟨#[]⟩, .i .i64 1, .i .i64 0, .i .i64 0]) (j.length:aw).toNat 1)) 0) λα=>kr α.1 α.2.1 α.2.2.1 α.2.2.2.1 α.2.2.2.2.1 α.2.2.2.2.2.1 α.2.2.2.2.2.2.1 α.2.2.2.2.2.2.2.1 α.2.2.2.2.2.2.2.2 0 else aj else aj else aj else bif decide (0<=u)&&decide (u<(q.2.2.2.2.2.2.1.length:aw))then bif jl.c q.1 w y.1 y.2.1 z.1 z.2 q.2.2.2.2.2.2.1 q.2.2.2.2.2.2.2.1 q.2.2.2.2.2.2.2.2 o p (bJ (u+1)) 0 1 (bw (ar q.2.2.2.2.2.2.1 u.toNat 1)) 0 then Lib.lt (jl.v q.1 w y.1 y.2.1 z.1 z.2 q.2.2.2.2.2.2.1 q.2.2.2.2.2.2.2.1 q.2.2.2.2.2.2.2.2 o p (bJ (u+1)) 0 1 (bw (ar q.2.2.2.2.2.2.1 u.toNat 1)) 0) λα=>kr α.1 α.2.1 α.2.2.1 α.2.2.2.1 α.2.2.2.2.1 α.2.2.2.2.2.1 α.2.2.2.2.2.2.1 α.2.2.2.2.2.2.2.1 α.2.2.2.2.2.2.2.2 0 else aj else aj else aj else aj else aj else bif iL.c h i p then Lib.lt (iL.v h i p) λw=>bif decide (u<0)then bif cy (q.2.2.2.2.2.2.1.length+(aD (aP [Ck.s,Ck.s,Ck.i ao,Ck.i ao,Ck.i ao] 1) 0 [.s p, .s ⟨#[]⟩, .i .i64 1, .i .i64 0, .i .i64 0]).length) 56 then bif decide ((j.length:aw)<((q.2.2.2.2.2.2.1++aD (aP [Ck.s,Ck.s,Ck.i ao,Ck.i ao,Ck.i ao] 1) 0 [.s p, .s ⟨#[]⟩, .i .i64 1, .i .i64 0, .i .i64 0]).length:aw))then bif jl.c q.1 q.2.1 q.2.2.1 q.2.2.2.1 w.1 w.2 (q.2.2.2.2.2.2.1++aD (aP [Ck.s,Ck.s,Ck.i ao,Ck.i ao,Ck.i ao] 1) 0 [.s p, .s ⟨#[]⟩, .i .i64 1, .i .i64 0, .i .i64 0]) q.2.2.2.2.2.2.2.1 q.2.2.2.2.2.2.2.2 o p (bJ ((j.length:aw)+1)) 0 1 (bw (ar (q.2.2.2.2.2.2.1++aD (aP [Ck.s,Ck.s,Ck.i ao,Ck.i ao,Ck.i ao] 1) 0 [.s p, .s ⟨#[]⟩, .i .i64 1, .i .i64 0, .i .i64 0]) (j.length:aw).toNat 1)) 0 then Lib.lt (jl.v q.1 q.2.1 q.2.2.1 q.2.2.2.1 w.1 w.2 (q.2.2.2.2.2.2.1++aD (aP [Ck.s,Ck.s,Ck.i ao,Ck.i ao,Ck.i ao] 1) 0 [.s p, .s ⟨#[]⟩, .i .i64 1, .i .i64 0, .i .i64 0]) q.2.2.2.2.2.2.2.1 q.2.2.2.2.2.2.2.2 o p (bJ ((j.length:aw)+1)) 0 1 (bw (ar (q.2.2.2.2.2.2.1++aD (aP [Ck.s,Ck.s,Ck.i ao,Ck.i ao,Ck.i ao] 1) 0 [.s p, .s ⟨#[]⟩, .i .i64 1, .i .i64 0, .i .i64 0]) (j.length:aw).toNat 1)) 0) λy=>kr y.1 y.2.1 y.2.2.1 y.2.2.2.1 y.2.2.2.2.1 y.2.2.2.2.2.1 y.2.2.2.2.2.2.1 y.2.2.2.2.2.2.2.1 y.2.2.2.2.2.2.2.2 0 else aj else aj else aj else bif decide (0<=u)&&decide (u<(q.2.2.2.2.2.2.1.length:aw))then bif jl.c q.1 q.2.1 q.2.2.1 q.2.2.2.1 w.1 w.2 q.2.2.2.2.2.2.1 q.2.2.2.2.2.2.2.1 q.2.2.2.2.2.2.2.2 o p (bJ (u+1)) 0 1 (bw (ar q.2.2.2.2.2.2.1 u.toNat 1)) 0 then Lib.lt (jl.v q.1 q.2.1 q.2.2.1 q.2.2.2.1 w.1 w.2 q.2.2.2.2.2.2.1 q.2.2.2.2.2.2.2.1 q.2.2.2.2.2.2.2.2 o p (bJ (u+1)) 0 1 (bw (ar q.2.2.2.2.2.2.1 u.toNat 1)) 0) λy=>kr y.1 y.2.1 y.2.2.1 y.2.2.2.1 y.2.2.2.2.1 y.2.2.2.2.2.1 y.2.2.2.2.2.2.1 y.2.2.2.2.2.2.2.1 y.2.2.2.2.2.2.2.2 0 else aj else aj else aj else bif decide (t≥0)then bif pM.c d p then Lib.lt (pM.v d p) λw=>bif u5.c e f h i p then Lib.lt (u5.v e f h i p) λy=>bif iL.c h i p then Lib.lt (iL.v h i p) λz=>bif decide (u<0)then bif cy (q.2.2.2.2.2.2.1.length+(aD (aP [Ck.s,Ck.s,Ck.i ao,Ck.i ao,Ck.i ao] 1) 0 [.s p, .s ⟨#[]⟩, .i .i64 1, .i .i64 0, .i .i64 0]).length) 56 then bif decide ((j.length:aw)<((q.2.2.2.2.2.2.1++aD (aP [Ck.s,Ck.s,Ck.i ao,Ck.i ao,Ck.i ao] 1) 0 [.s p, .s ⟨#[]⟩, .i .i64 1, .i .i64 0, .i .i64 0]).length:aw))then bif jl.c q.1 w y.1 y.2.1 z.1 z.2 (q.2.2.2.2.2.2.1++aD (aP [Ck.s,Ck.s,Ck.i ao,Ck.i ao,Ck.i ao] 1) 0 [.s p, .s ⟨#[]⟩, .i .i64 1, .i .i64 0, .i .i64 0]) q.2.2.2.2.2.2.2.1 q.2.2.2.2.2.2.2.2 o p (bJ ((j.length:aw)+1)) 0 1 (bw (ar (q.2.2.2.2.2.2.1++aD (aP [Ck.s,Ck.s,Ck.i ao,Ck.i ao,Ck.i ao] 1) 0 [.s p, .s ⟨#[]⟩, .i .i64 1, .i .i64 0, .i .i64 0]) (j.length:aw).toNat 1)) 0 then Lib.lt (jl.v q.1 w y.1 y.2.1 z.1 z.2 (q.2.2.2.2.2.2.1++aD (aP [Ck.s,Ck.s,Ck.i ao,Ck.i ao,Ck.i ao] 1) 0 [.s p, .s ⟨#[]⟩, .i .i64 1, .i .i64 0, .i .i64 0]) q.2.2.2.2.2.2.2.1 q.2.2.2.2.2.2.2.2 o p (bJ ((j.length:aw)+1)) 0 1 (bw (ar (q.2.2.2.2.2.2.1++aD (aP [Ck.s,Ck.s,Ck.i ao,Ck.i ao,Ck.i ao] 1) 0 [.s p, .s ⟨#[]⟩, .i .i64 1, .i .i64 0, .i .i64 0]) (j.length:aw).toNat 1)) 0) λα=>kr α.1 α.2.1 α.2.2.1 α.2.2.2.1 α.2.2.2.2.1 α.2.2.2.2.2.1 α.2.2.2.2.2.2.1 α.2.2.2.2.2.2.2.1 α.2.2.2.2.2.2.2.2 0 else aj else aj else aj else bif decide (0<=u)&&decide (u<(q.2.2.2.2.2.2.1.length:aw))then bif jl.c q.1 w y.1 y.2.1 z.1 z.2 q.2.2.2.2.2.2.1 q.2.2.2.2.2.2.2.1 q.2.2.2.2.2.2.2.2 o p (bJ (u+1)) 0 1 (bw (ar q.2.2.2.2.2.2.1 u.toNat 1)) 0 then Lib.lt (jl.v q.1 w y.1 y.2.1 z.1 z.2 q.2.2.2.2.2.2.1 q.2.2.2.2.2.2.2.1 q.2.2.2.2.2.2.2.2 o p (bJ (u+1)) 0 1 (bw (ar q.2.2.2.2.2.2.1 u.toNat 1)) 0) λα=>kr α.1 α.2.1 α.2.2.1 α.2.2.2.1 α.2.2.2.2.1 α.2.2.2.2.2.1 α.2.2.2.2.2.2.1 α.2.2.2.2.2.2.2.1 α.2.2.2.2.2.2.2.2 0 else aj else aj else aj else aj else aj else bif iL.c h i p then Lib.lt (iL.v h i p) λw=>bif decide (u<0)then bif cy (q.2.2.2.2.2.2.1.length+(aD (aP [Ck.s,Ck.s,Ck.i ao,Ck.i ao,Ck.i ao] 1) 0 [.s p, .s ⟨#[]⟩, .i .i64 1, .i .i64 0, .i .i64 0]).length) 56 then bif decide ((j.length:aw)<((q.2.2.2.2.2.2.1++aD (aP [Ck.s,Ck.s,Ck.i ao,Ck.i ao,Ck.i ao] 1) 0 [.s p, .s ⟨#[]⟩, .i .i64 1, .i .i64 0, .i .i64 0]).length:aw))then bif jl.c q.1 q.2.1 q.2.2.1 q.2.2.2.1 w.1 w.2 (q.2.2.2.2.2.2.1++aD (aP [Ck.s,Ck.s,Ck.i ao,Ck.i ao,Ck.i ao] 1) 0 [.s p, .s ⟨#[]⟩, .i .i64 1, .i .i64 0, .i .i64 0]) q.2.2.2.2.2.2.2.1 q.2.2.2.2.2.2.2.2 o p (bJ ((j.length:aw)+1)) 0 1 (bw (ar (q.2.2.2.2.2.2.1++aD (aP [Ck.s,Ck.s,Ck.i ao,Ck.i ao,Ck.i ao] 1) 0 [.s p, .s ⟨#[]⟩, .i .i64 1, .i .i64 0, .i .i64 0]) (j.length:aw).toNat 1)) 0 then Lib.lt (jl.v q.1 q.2.1 q.2.2.1 q.2.2.2.1 w.1 w.2 (q.2.2.2.2.2.2.1++aD (aP [Ck.s,Ck.s,Ck.i ao,Ck.i ao,Ck.i ao] 1) 0 [.s p, .s ⟨#[]⟩, .i .i64 1, .i .i64 0, .i .i64 0]) q.2.2.2.2.2.2.2.1 q.2.2.2.2.2.2.2.2 o p (bJ ((j.length:aw)+1)) 0 1 (bw (ar (q.2.2.2.2.2.2.1++aD (aP [Ck.s,Ck.s,Ck.i ao,Ck.i ao,Ck.i ao] 1) 0 [.s p, .s ⟨#[]⟩, .i .i64 1, .i .i64 0, .i .i64 0]) (j.length:aw).toNat 1)) 0) λy=>kr y.1 y.2.1 y.2.2.1 y.2.2.2.1 y.2.2.2.2.1 y.2.2.2.2.2.1 y.2.2.2.2.2.2.1 y.2.2.2.2.2.2.2.1 y.2.2.2.2.2.2.2.2 0 else aj else aj else aj else bif decide (0<=u)&&decide (u<(q.2.2.2.2.2.2.1.length:aw))then bif jl.c q.1 q.2.1 q.2.2.1 q.2.2.2.1 w.1 w.2 q.2.2.2.2.2.2.1 q.2.2.2.2.2.2.2.1 q.2.2.2.2.2.2.2.2 o p (bJ (u+1)) 0 1 (bw (ar q.2.2.2.2.2.2.1 u.toNat 1)) 0 then Lib.lt (jl.v q.1 q.2.1 q.2.2.1 q.2.2.2.1 w.1 w.2 q.2.2.2.2.2.2.1 q.2.2.2.2.2.2.2.1 q.2.2.2.2.2.2.2.2 o p (bJ (u+1)) 0 1 (bw (ar q.2.2.2.2.2.2.1 u.toNat 1)) 0) λy=>kr y.1 y.2.1 y.2.2.1 y.2.2.2.1 y.2.2.2.2.1 y.2.2.2.2.2.1 y.2.2.2.2.2.2.1 y.2.2.2.2.2.2.2.1 y.2.2.2.2.2.2.2.2 0 else aj else aj else aj else aj else aj else aj else aj else aj
def vo:=b λr0 r1 r2 r3 r4 r5 r6 r7 r8 r9=>ah (r0,r1,r2,r3,r4,r5,r6,r7,r8,r9)
def c:=λa d e f h i j l m o p=>(vo a d e f h i j l m o p).isSome
def v:=λa d e f h i j l m o p=>(vo a d e f h i j l m o p).getD (0,[],[],[],[],0,[],[],0,0)
theorem out{x}:∀a d e f h i j l m o p,vo a d e f h i j l m o p=ah x->c a d e f h i j l m o p=ai/\v a d e f h i j l m o p=x:=λ_ _ _ _ _ _ _ _ _ _ _=>Lib.dh
end R7

namespace u6
def b(kr:aX->az R)(a:aw)(d e f h:aQ)(i:aw)(j l:aQ)(m o:aw):az R:=bif OO.c a d e f h i j l m then bif OO.v a d e f h i j l m then kr (lz.v o 0 (bJ ((j.length:aw)-1)))else kr ak else aj
def vo:=b λr0=>ah r0
def c:=λa d e f h i j l m o=>(vo a d e f h i j l m o).isSome
def v:=λa d e f h i j l m o=>(vo a d e f h i j l m o).getD ak
theorem out{x}:∀a d e f h i j l m o,vo a d e f h i j l m o=ah x->c a d e f h i j l m o=ai/\v a d e f h i j l m o=x:=λ_ _ _ _ _ _ _ _ _ _=>Lib.dh
end u6

namespace Ks
def b(kr:Mg R)(a:aw)(d:aq)(e:aQ):az R:=bif cy ((aP [Ck.i ao,Ck.i ao] 0).length+e.length) 16 then kr a d (aP [Ck.i ao,Ck.i ao] 0++e)else aj
def v(fX:aw)(e9:aq)(dG:aQ):aw×aq×aQ:=(fX,e9,dG)
def c(fX:aw)(e9:aq)(dG:aQ):aX:=decide (dG.length<=4294967296)
theorem eG(kr:Mg R)(fX:aw)(e9:aq)(dG:aQ)(hc:c fX e9 dG=ai):b kr fX e9 dG=kr (v fX e9 dG).1 (v fX e9 dG).2.1 (v fX e9 dG).2.2:=by have h:dG.length<=4294967296:=cu hc;unfold b;rw[show bT (aP [Ck.i ao,Ck.i ao] 0)+dG.length=dG.length by simp[aP],Lib.cj (by omega) (by omega)];rfl
end Ks

namespace Ib
def r2(N:aF)(g k0 k1:yJ R)(a:aX)(d:aQ)(e f h:aw)(i:aq)(j:aQ):az R:=bif decide (f<e)then bif decide (0<=f)&&decide (f<(d.length:aw))then bif !lz.v (bF (ar d f.toNat 0)) 1 9 then k0 ak d e f h i j else bif !lz.v (bF (ar d f.toNat 1)) 0 (i.size:aw)then k0 ak d e f h i j else bif decide (f>0)then bif decide (0<=bJ (f-1))&&decide (bJ (f-1)<(j.length:aw))then bif decide (bF (ar j (bJ (f-1)).toNat 0)≥bF (ar d f.toNat 0))then k0 ak d e f h i j else g a d e (bJ (f+1)) h i j else aj else g a d e (bJ (f+1)) h i j else aj else k1 a d e f h i j
def l2(N:aF)(k0 k1:yJ R):aF->yJ R
 |0=>λ_ _ _ _ _ _ _=>aj
 |n+1=>r2 N (l2 N k0 k1 n) k0 k1
def b(N:aF)(kr:aX->az R)(a:aw)(d:aq)(e:aQ):az R:=l2 N (λf _ _ _ _ _ _=>kr f) (λ_ _ _ _ f h i=>bif lz.v f 1 3 then bif decide ((h.size:aw)<=400)then kr (decide ((i.length:aw)<=6))else kr ak else kr ak) N ak e (e.length:aw) 0 a d e
def v(fX:aw)(e9:aq)(dG:aQ):aX:=(b9 dG.length).all (lK.el e9 dG)&&lK.rest fX e9 dG
theorem eG(kr:aX->az R)(fX:aw)(e9:aq)(dG:aQ)(f0:D8 e9)(f1:vJ dG):∃N,b N kr fX e9 dG=kr (v fX e9 dG):=by
 refine⟨dG.length+1, ?_⟩
 unfold b;have ew:lz.v=kl.v:=rfl;simp only[ew,lK.N1]
 have:=Lib.g8 (λn (i:aF)=>l2 (dG.length+1) (λy7 y8 y9 Kc wx Md HJ=>kr y7) (λOz WJ QK Dx FA Eg wy=>kr (lK.rest FA Eg wy)) n ak dG dG.length i fX e9 dG) (λi=>dG.length-i) (λi=>i<=dG.length)
  (λi=>kr ((mo i (dG.length-i)).all (lK.el e9 dG)&&lK.rest fX e9 dG)) (λn i hi=>by
  simp only[l2,r2,ew,Lib.dn,Lib.cF,Lib.dY,bc,lK.mZ]
  by_cases h:i<dG.length
  ·rw[lK.Ik _ h];simp only[h,aN,au,Lib.c5 h f1.1];cases h1:decide (1<=bF (ar dG i 0)/\bF (ar dG i 0)<=9)with
   |false=>left;simp[lK.el,h1]
   |true=>
    simp only[a_,ax];cases h3:decide (0<=bF (ar dG i 1)/\bF (ar dG i 1)<=e9.size)with
    |false=>left;simp[lK.el,h3]
    |true=>
     simp only[a_,ax];by_cases hz:0<i
     ·have e0:decide ((i:aw)>0)=true:=by simp;omega
      have hp:i-1<dG.length:=by omega
      have hi0:(i==0)=false:=by simp;omega
      simp only[e0,au,lK.Di hz (by have:=f1.1;omega),Lib.cF,Lib.dn,Lib.dY,hp,aN,aM];cases h2:decide (bF (ar dG (i-1) 0)≥bF (ar dG i 0))with
      |true=>
       left;have e3:decide (bF (ar dG (i-1) 0)<bF (ar dG i 0))=false:=by simp at h2⊢;omega
       simp[lK.el,e3,hi0]
      |false=>
       have e3:decide (bF (ar dG (i-1) 0)<bF (ar dG i 0))=true:=by simp at h2⊢;omega
       right;exact⟨i+1,h,by omega,by simp only[lK.el,h1,h3,e3,Kh,bc],rfl⟩
     ·have hz:i=0:=by omega
      subst hz;simp only[show decide (((0:aF):aw)>0)=ak from rfl,ax];right;exact⟨1,h,by omega,by simp only[lK.el,h1,h3,bc];rfl,rfl⟩
  ·left;have h0:dG.length-i=0:=by omega
   simp only[h,bj,ax,h0,R0,List.all_nil,bc]) (dG.length+1) 0 (by omega) (by omega)
 refine this.trans ?_;unfold v;rw[si,<-R2]
end Ib

namespace DJ
def b(kr:FJ R)(a:aw)(d:aq)(e:aQ)(f:aq):az R:=bif Ks.c a d e then bif !Ib.v a d e then kr a d e ak else bif a !=1 then kr a d e ak else bif !lz.v (f.size:aw) 1 40 then kr a d e ak else bif decide (bJ ((d.size:aw)+(f.size:aw))>400)then kr a d e ak else bif decide (d.size+f.size<=4611686018427387904)then kr a (d++f) e ai else aj else aj
def v(fX:aw)(e9:aq)(dG:aQ)(gp:aq):aw×aq×aQ×aX:=
 if lK.v fX e9 dG=ai/\fX=1/\1<=gp.size/\gp.size<=40/\e9.size+gp.size<=400 then(fX,e9++gp,dG,ai)else(fX,e9,dG,ak)
def c(fX:aw)(e9:aq)(dG:aQ)(gp:aq):aX:=decide (dG.length<=4294967296)
theorem eG(kr:FJ R)(fX:aw)(e9:aq)(dG:aQ)(gp:aq)(hc:c fX e9 dG gp=ai)(f0:D8 e9)(f1:vJ dG)(f2:D8 gp):b kr fX e9 dG gp=kr (v fX e9 dG gp).1 (v fX e9 dG gp).2.1 (v fX e9 dG gp).2.2.1 (v fX e9 dG gp).2.2.2:=by
 have hs1:e9.size<=4611686018427387904:=f0;have Nx:gp.size<=4611686018427387904:=f2;have e1:Ks.c fX e9 dG=true:=hc;have e2:∀a b c,Ib.v a b c=lK.v a b c:=λ_ _ _=>rfl;have e3:∀n a b,lz.v n a b=decide (a<=n/\n<=b):=lK.mZ;unfold b v;rw[e1,e2,e3,au];cases h1:lK.v fX e9 dG with
 |false=>simp
 |true=>
  by_cases h2:fX=1
  ·by_cases h3:1<=(gp.size:aw)/\(gp.size:aw)<=40
   ·have e4:bJ ((e9.size:aw)+(gp.size:aw))=e9.size+gp.size:=iI (by omega) (by omega);rw[e4,aE h3];by_cases h4:(e9.size:aw)+(gp.size:aw)>400
    ·rw[Lib.Ab h4,bH (by omega)];simp[h2]
    ·rw[Lib.IG h4,bz (by refine⟨rfl,h2, ?_, ?_, ?_⟩<;>omega),Lib.Ab (show e9.size+gp.size<=4611686018427387904 by omega)];simp[h2]
   ·rw[aK h3,bH (by omega)];simp
  ·have iA:(fX !=1)=true:=bne_iff_ne.mpr h2;rw[bH (by simp[h2]),iA];rfl
end DJ

namespace AJ
def r1(N:aF)(g k0:jI R)(a d e f h i:aw)(j l m o p q:aQ):az R:=bif decide (e<d)then bif decide (0<=e)&&decide (e<(j.length:aw))then bif decide (bF (ar j e.toNat (1+1))=bJ (a+1))then bif decide (bF (ar j e.toNat (1+1+1+1))=1)then bif decide (0<=a)&&decide (a<(q.length:aw))then bif decide (0<=e)&&decide (e<(j.length:aw))then g a d (bJ (e+1)) f h i (eJ j e.toNat 5 [.s (bw (ar q a.toNat 1))]) l m o p q else aj else aj else g a d (bJ (e+1)) f h i j l m o p q else g a d (bJ (e+1)) f h i j l m o p q else aj else k0 a d e f h i j l m o p q
def l1(N:aF)(k0:jI R):aF->jI R
 |0=>λ_ _ _ _ _ _ _ _ _ _ _ _=>aj
 |n+1=>r1 N (l1 N k0 n) k0
def b(N:aF)(kr:eR R)(a:aw)(d e f h:aQ)(i:aw)(j l:aQ)(m o:aw):az R:=l1 N (λ_ _ _ p q r s t u w y z=>kr p t u w y q z s r) N o (l.length:aw) 0 a i m l d e f h j
def vo:=b Lib.cW λr0 r1 r2 r3 r4 r5 r6 r7 r8=>ah (r0,r1,r2,r3,r4,r5,r6,r7,r8)
def c:=λa d e f h i j l m o=>(vo a d e f h i j l m o).isSome
def v:=λa d e f h i j l m o=>(vo a d e f h i j l m o).getD (0,[],[],[],[],0,[],[],0)
theorem out{x}:∀a d e f h i j l m o,vo a d e f h i j l m o=ah x->c a d e f h i j l m o=ai/\v a d e f h i j l m o=x:=λ_ _ _ _ _ _ _ _ _ _=>Lib.dh
end AJ

namespace Wl
def b(kr:kV R)(a:aw)(d e f h:aQ)(i:aw)(j l:aQ)(m o:aw)(p:aq):az R:=bif iP.c a d e f h i j l m then Lib.lt (iP.v a d e f h i j l m) λq=>bif u6.c a d e f h i j l m o then Lib.lt (u6.v a d e f h i j l m o) λr=>bif !r then kr q.1 q.2.1 q.2.2.1 q.2.2.2.1 q.2.2.2.2.1 q.2.2.2.2.2.1 q.2.2.2.2.2.2.1 q.2.2.2.2.2.2.2.1 q.2.2.2.2.2.2.2.2 ak else bif decide (0<=o)&&decide (o<(j.length:aw))then bif decide (0<=o)&&decide (o<(j.length:aw))then bif !(DJ.v (bF (ar j o.toNat 2)) (bw (ar j o.toNat 1)) [] p).2.2.2 then kr q.1 q.2.1 q.2.2.1 q.2.2.2.1 q.2.2.2.2.1 q.2.2.2.2.2.1 q.2.2.2.2.2.2.1 q.2.2.2.2.2.2.2.1 q.2.2.2.2.2.2.2.2 ak else bif decide (0<=o)&&decide (o<(q.2.2.2.2.2.2.1.length:aw))then bif AJ.c q.1 q.2.1 q.2.2.1 q.2.2.2.1 q.2.2.2.2.1 q.2.2.2.2.2.1 (eJ q.2.2.2.2.2.2.1 o.toNat 1 [.s (DJ.v (bF (ar j o.toNat 2)) (bw (ar j o.toNat 1)) [] p).2.1]) q.2.2.2.2.2.2.2.1 q.2.2.2.2.2.2.2.2 o then Lib.lt (AJ.v q.1 q.2.1 q.2.2.1 q.2.2.2.1 q.2.2.2.2.1 q.2.2.2.2.2.1 (eJ q.2.2.2.2.2.2.1 o.toNat 1 [.s (DJ.v (bF (ar j o.toNat 2)) (bw (ar j o.toNat 1)) [] p).2.1]) q.2.2.2.2.2.2.2.1 q.2.2.2.2.2.2.2.2 o) λs=>kr s.1 s.2.1 s.2.2.1 s.2.2.2.1 s.2.2.2.2.1 s.2.2.2.2.2.1 s.2.2.2.2.2.2.1 s.2.2.2.2.2.2.2.1 s.2.2.2.2.2.2.2.2 ai else aj else aj else aj else aj else aj else aj
def vo:=b λr0 r1 r2 r3 r4 r5 r6 r7 r8 r9=>ah (r0,r1,r2,r3,r4,r5,r6,r7,r8,r9)
def c:=λa d e f h i j l m o p=>(vo a d e f h i j l m o p).isSome
def v:=λa d e f h i j l m o p=>(vo a d e f h i j l m o p).getD (0,[],[],[],[],0,[],[],0,ak)
theorem out{x}:∀a d e f h i j l m o p,vo a d e f h i j l m o p=ah x->c a d e f h i j l m o p=ai/\v a d e f h i j l m o p=x:=λ_ _ _ _ _ _ _ _ _ _ _=>Lib.dh
end Wl

namespace vT
def r1(N:aF)(g k0:n5 R)(a d e f h i j:aw)(l m o p q r:aQ):az R:=bif decide (f<e)then bif decide (0<=f)&&decide (f<(l.length:aw))then bif decide (bF (ar l f.toNat (1+1))=bJ (a+1))then bif decide (bF (ar l f.toNat (1+1+1+1))=1)then bif decide (0<=a)&&decide (a<(r.length:aw))then bif decide (0<=f)&&decide (f<(l.length:aw))then bif decide (0<=f)&&decide (f<((eJ l f.toNat 4 [.i .i64 d]).length:aw))then g a d e (bJ (f+1)) h i j (eJ (eJ l f.toNat 4 [.i .i64 d]) f.toNat 5 [.s (bw (ar r a.toNat 1))]) m o p q r else aj else aj else aj else g a d e (bJ (f+1)) h i j l m o p q r else g a d e (bJ (f+1)) h i j l m o p q r else aj else k0 a d e f h i j l m o p q r
def l1(N:aF)(k0:n5 R):aF->n5 R
 |0=>λ_ _ _ _ _ _ _ _ _ _ _ _ _=>aj
 |n+1=>r1 N (l1 N k0 n) k0
def b(N:aF)(kr:eR R)(a:aw)(d e f h:aQ)(i:aw)(j l:aQ)(m o p:aw):az R:=l1 N (λ_ _ _ _ q r s t u w y z α=>kr q u w y z r α t s) N o p (l.length:aw) 0 a i m l d e f h j
def vo:=b Lib.cW λr0 r1 r2 r3 r4 r5 r6 r7 r8=>ah (r0,r1,r2,r3,r4,r5,r6,r7,r8)
def c:=λa d e f h i j l m o p=>(vo a d e f h i j l m o p).isSome
def v:=λa d e f h i j l m o p=>(vo a d e f h i j l m o p).getD (0,[],[],[],[],0,[],[],0)
theorem out{x}:∀a d e f h i j l m o p,vo a d e f h i j l m o p=ah x->c a d e f h i j l m o p=ai/\v a d e f h i j l m o p=x:=λ_ _ _ _ _ _ _ _ _ _ _=>Lib.dh
end vT


namespace uY
def r3(N:aF)(g k0:BM R)(a:aw)(d:aq)(e f:aw)(h:aq)(i:aQ):az R:=bif decide (a<(i.length:aw))then bif decide (0<=a)&&decide (a<(i.length:aw))then bif b7 (bw (ar i a.toNat 0)).toList (aC d)then g (bJ (a+1)) d e f h i else k0 a d e f h i else aj else k0 a d e f h i
def l3(N:aF)(k0:BM R):aF->BM R
 |0=>λ_ _ _ _ _ _=>aj
 |n+1=>r3 N (l3 N k0 n) k0
def b(N:aF)(kr:aQ->az R)(a:aQ)(d:aq)(e f:aw)(h:aq):az R:=bif pM.c a d then l3 N (λi j l m o p=>bif decide (0<=i)&&decide (i<=(p.length:aw))&&cy (p.length+(aD (aP [Ck.s,Ck.i ao,Ck.i ao,Ck.s] 1) 0 [.s j, .i .i64 l, .i .i64 m, .s o]).length) 48 then kr (Pu.tI p i.toNat (aD (aP [Ck.s,Ck.i ao,Ck.i ao,Ck.s] 1) 0 [.s j, .i .i64 l, .i .i64 m, .s o]))else aj) N 0 d e f h (pM.v a d)else aj
def vo:=b Lib.cW λr0=>ah r0
def c:=λa d e f h=>(vo a d e f h).isSome
def v:=λa d e f h=>(vo a d e f h).getD ([])
theorem out{x}:∀a d e f h,vo a d e f h=ah x->c a d e f h=ai/\v a d e f h=x:=λ_ _ _ _ _=>Lib.dh
end uY

namespace OQ
def b(kr:eR R)(a:aw)(d e f h:aQ)(i:aw)(j l:aQ)(m:aw)(o:aq)(p q:aw)(r:aq):az R:=bif zr.c e f h i o then Lib.lt (zr.v e f h i o) λs=>bif pM.c d s.2.2.2.2 then Lib.lt (pM.v d s.2.2.2.2) λt=>bif sG.c s.1 s.2.1 s.2.2.1 s.2.2.2.1 o then Lib.lt (sG.v s.1 s.2.1 s.2.2.1 s.2.2.2.1 o) λu=>bif u then bif uY.c t o p q r then Lib.lt (uY.v t o p q r) λw=>kr a w s.1 s.2.1 s.2.2.1 s.2.2.2.1 j l m else aj else kr a t s.1 s.2.1 s.2.2.1 s.2.2.2.1 j l m else aj else aj else aj
def vo:=b λr0 r1 r2 r3 r4 r5 r6 r7 r8=>ah (r0,r1,r2,r3,r4,r5,r6,r7,r8)
def c:=λa d e f h i j l m o p q r=>(vo a d e f h i j l m o p q r).isSome
def v:=λa d e f h i j l m o p q r=>(vo a d e f h i j l m o p q r).getD (0,[],[],[],[],0,[],[],0)
theorem out{x}:∀a d e f h i j l m o p q r,vo a d e f h i j l m o p q r=ah x->c a d e f h i j l m o p q r=ai/\v a d e f h i j l m o p q r=x:=λ_ _ _ _ _ _ _ _ _ _ _ _ _=>Lib.dh
end OQ

namespace DK
def b(kr:kV R)(a:aw)(d e f h:aQ)(i:aw)(j l:aQ)(m o p:aw):az R:=bif iP.c a d e f h i j l m then Lib.lt (iP.v a d e f h i j l m) λq=>bif u6.c a d e f h i j l m o then Lib.lt (u6.v a d e f h i j l m o) λr=>bif !r then kr q.1 q.2.1 q.2.2.1 q.2.2.2.1 q.2.2.2.2.1 q.2.2.2.2.2.1 q.2.2.2.2.2.2.1 q.2.2.2.2.2.2.2.1 q.2.2.2.2.2.2.2.2 ak else bif decide (0<=o)&&decide (o<(j.length:aw))then bif bF (ar j o.toNat 2) !=1 then kr q.1 q.2.1 q.2.2.1 q.2.2.2.1 q.2.2.2.2.1 q.2.2.2.2.2.1 q.2.2.2.2.2.2.1 q.2.2.2.2.2.2.2.1 q.2.2.2.2.2.2.2.2 ak else bif !lz.v p 0 999999 then kr q.1 q.2.1 q.2.2.1 q.2.2.2.1 q.2.2.2.2.1 q.2.2.2.2.2.1 q.2.2.2.2.2.2.1 q.2.2.2.2.2.2.2.1 q.2.2.2.2.2.2.2.2 ak else bif decide (0<=o)&&decide (o<(q.2.2.2.2.2.2.1.length:aw))then bif vT.c q.1 q.2.1 q.2.2.1 q.2.2.2.1 q.2.2.2.2.1 q.2.2.2.2.2.1 (eJ (eJ (eJ q.2.2.2.2.2.2.1 o.toNat 2 [.i .i64 2]) o.toNat 3 [.i .i64 p]) o.toNat 4 [.i .i64 a]) q.2.2.2.2.2.2.2.1 q.2.2.2.2.2.2.2.2 o 2 then Lib.lt (vT.v q.1 q.2.1 q.2.2.1 q.2.2.2.1 q.2.2.2.2.1 q.2.2.2.2.2.1 (eJ (eJ (eJ q.2.2.2.2.2.2.1 o.toNat 2 [.i .i64 2]) o.toNat 3 [.i .i64 p]) o.toNat 4 [.i .i64 a]) q.2.2.2.2.2.2.2.1 q.2.2.2.2.2.2.2.2 o 2) λs=>bif decide (p>0)then bif OQ.c s.1 s.2.1 s.2.2.1 s.2.2.2.1 s.2.2.2.2.1 s.2.2.2.2.2.1 s.2.2.2.2.2.2.1 s.2.2.2.2.2.2.2.1 s.2.2.2.2.2.2.2.2 (bw (ar s.2.2.2.2.2.2.1 o.toNat 0)) a p (bw (ar s.2.2.2.2.2.2.1 o.toNat 1))then Lib.lt (OQ.v s.1 s.2.1 s.2.2.1 s.2.2.2.1 s.2.2.2.2.1 s.2.2.2.2.2.1 s.2.2.2.2.2.2.1 s.2.2.2.2.2.2.2.1 s.2.2.2.2.2.2.2.2 (bw (ar s.2.2.2.2.2.2.1 o.toNat 0)) a p (bw (ar s.2.2.2.2.2.2.1 o.toNat 1))) λt=>kr t.1 t.2.1 t.2.2.1 t.2.2.2.1 t.2.2.2.2.1 t.2.2.2.2.2.1 t.2.2.2.2.2.2.1 t.2.2.2.2.2.2.2.1 t.2.2.2.2.2.2.2.2 ai else aj else kr s.1 s.2.1 s.2.2.1 s.2.2.2.1 s.2.2.2.2.1 s.2.2.2.2.2.1 s.2.2.2.2.2.2.1 s.2.2.2.2.2.2.2.1 s.2.2.2.2.2.2.2.2 ai else aj else aj else aj else aj else aj
def vo:=b λr0 r1 r2 r3 r4 r5 r6 r7 r8 r9=>ah (r0,r1,r2,r3,r4,r5,r6,r7,r8,r9)
def c:=λa d e f h i j l m o p=>(vo a d e f h i j l m o p).isSome
def v:=λa d e f h i j l m o p=>(vo a d e f h i j l m o p).getD (0,[],[],[],[],0,[],[],0,ak)
theorem out{x}:∀a d e f h i j l m o p,vo a d e f h i j l m o p=ah x->c a d e f h i j l m o p=ai/\v a d e f h i j l m o p=x:=λ_ _ _ _ _ _ _ _ _ _ _=>Lib.dh
end DK

namespace nR
def r4(N:aF)(g k0:OH R)(a:aw)(d:aQ):az R:=bif decide (a>127)then bif cy (d.length+(aD (aP [Ck.i bh] 1) 0 [CV.i bh (bE bh (bJ (cz a 128+128)))]).length) 1 then g (bJ (cR a 128)) (d++aD (aP [Ck.i bh] 1) 0 [CV.i bh (bE bh (bJ (cz a 128+128)))])else aj else k0 a d
def l4(N:aF)(k0:OH R):aF->OH R
 |0=>λ_ _=>aj
 |n+1=>r4 N (l4 N k0 n) k0
def b(N:aF)(kr:yO R)(a:aw):az R:=bif !lz.v a 0 1000000000 then kr ⟨#[]⟩ ak else l4 N (λd e=>bif cy (e.length+(aD (aP [Ck.i bh] 1) 0 [CV.i bh (bE bh d)]).length) 1 then bif decide ((e++aD (aP [Ck.i bh] 1) 0 [CV.i bh (bE bh d)]).length<=4611686018427387904)then kr (bytesOf (e++aD (aP [Ck.i bh] 1) 0 [CV.i bh (bE bh d)])) ai else aj else aj) N a (aP [Ck.i bh] 0)
def v(n0:aw):aq×aX:=if 0<=n0/\n0<=1000000000 then(bytesOf (Lib.vb n0),ai)else(⟨#[]⟩,ak)
theorem eG(kr:yO R)(n0:aw):∃N,b N kr n0=kr (v n0).1 (v n0).2:=by
 refine⟨n0.toNat+1, ?_⟩
 unfold b v;by_cases hn:0<=n0/\n0<=1000000000
 ·have e:lz.v n0 0 1000000000=true:=by simp[lz.v,hn]
  rw[e,bz hn];refine Lib.Ol (λn x acc=>l4 (n0.toNat+1) _ n x acc) (λy=>kr y ai) (λn x acc h hl=> ?_) (λn x acc h hl=> ?_) n0 (by omega)
  ·simp only[l4,r4,h,aN,au,Lib.iM,show acc.length+bT [[CV.i bh (bE bh (bJ (cz x 128+128)))]]=acc.length+1 from rfl,Lib.Hu (show acc.length+1<=140737488355328 by omega),show decide ((128:aw)=0)=ak from rfl,wA,bR]
  ·simp only[l4,r4,h,bj,ax,Lib.iM,show acc.length+bT [[CV.i bh (bE bh x)]]=acc.length+1 from rfl,Lib.Hu (show acc.length+1<=140737488355328 by omega),au];exact Lib.tp (Lib.Ab (by rw[bP,bA];omega))
 ·have e:lz.v n0 0 1000000000=false:=by simp[lz.v];omega
  rw[e,bH hn];rfl
end nR

namespace DT
def b(kr:yO R)(a:aq):az R:=bif decide ((a.size:aw)>20000)then kr ⟨#[]⟩ ak else bif decide ((nR.v (a.size:aw)).1.size+a.size<=4611686018427387904)then kr ((nR.v (a.size:aw)).1++a) ai else aj
def v(s0:aq):aq×aX:=if s0.size>20000 then(⟨#[]⟩,ak)else(bytesOf (Lib.vb s0.size)++s0,ai)
theorem eG(kr:yO R)(s0:aq):b kr s0=kr (v s0).1 (v s0).2:=by
 unfold b v;by_cases h:s0.size>20000
 ·rw[bz h,show decide ((s0.size:aw)>20000)=ai by simp;omega];rfl
 ·rw[bH h,show decide ((s0.size:aw)>20000)=ak by simp;omega];have e:nR.v (s0.size:aw)=(bytesOf (Lib.vb s0.size),ai):=by unfold nR.v;rw[bz (by omega)]
  have:=Lib.jP (x:=(s0.size:aw)) (by omega);rw[e,ax];simp(disch:=omega) only[Lib.Sw,au]
end DT

namespace DS
def b(kr:yO R)(a:aq)(d e:aw)(f:aq):az R:=bif !wJ.v a d e f then kr ⟨#[]⟩ ak else bif decide ((DT.v a).1.size+(nR.v d).1.size<=4611686018427387904)then bif decide (((DT.v a).1++(nR.v d).1).size+(nR.v e).1.size<=4611686018427387904)then bif decide (((DT.v a).1++(nR.v d).1++(nR.v e).1).size+f.size<=4611686018427387904)then kr ((DT.v a).1++(nR.v d).1++(nR.v e).1++f) ai else aj else aj else aj
def v(oM:aq)(po:aw)(pq:aw)(vg:aq):aq×aX:=jL.v oM po pq vg
theorem eG(kr:yO R)(oM:aq)(po:aw)(pq:aw)(vg:aq):b kr oM po pq vg=kr (v oM po pq vg).1 (v oM po pq vg).2:=by
 have ee:wJ.v oM po pq vg=nb.v oM po pq vg:=rfl;unfold b v jL.v;rw[ee];cases h:nb.v oM po pq vg with
 |false=>rfl
 |true=>
  have hr:=nb.Ea h;have z1:(bytesOf (Lib.vb (oM.size:aw))).size<=64:=Lib.jP (x:=(oM.size:aw)) (by omega);have z2:(bytesOf (Lib.vb po)).size<=64:=Lib.jP (x:=po) (by omega);have z3:(bytesOf (Lib.vb pq)).size<=64:=Lib.jP (x:=pq) (by omega);have e1:DT.v oM=(bytesOf (Lib.vb oM.size)++oM,ai):=by unfold DT.v;rw[bH (by omega)]
  have e2:nR.v po=(bytesOf (Lib.vb po),ai):=by unfold nR.v;rw[bz (by omega)]
  have e3:nR.v pq=(bytesOf (Lib.vb pq),ai):=by unfold nR.v;rw[bz (by omega)]
  rw[e1,e2,e3];simp(disch:=omega) only[a_,ax,au,if_true,Lib.ki,Lib.Sw];rfl
end DS

namespace u_
def b(kr:aq->az R)(a:aq):az R:=bif ve.c a then kr (bytesOf (aD (aD (aD (aD (aP [Ck.i bh] 4) 0 [CV.i bh (bE bh (ly (ve.v a) (h_ 2 (if aW 24<=32 then aW 24 else 32))))]) 1 [CV.i bh (bE bh (ly (ve.v a) (h_ 2 (if aW 16<=32 then aW 16 else 32))))]) 2 [CV.i bh (bE bh (ly (ve.v a) (h_ 2 (if aW 8<=32 then aW 8 else 32))))]) 3 [CV.i bh (bE bh (ve.v a))]))else aj
def vo:=b λr0=>ah r0
def c:=λa=>(vo a).isSome
def v:=λa=>(vo a).getD (⟨#[]⟩)
theorem out{x}:∀a,vo a=ah x->c a=ai/\v a=x:=λ_=>Lib.dh
end u_

namespace BX
def b(kr:yO R)(a:aq):az R:=bif !lz.v (a.size:aw) 1 9000 then kr ⟨#[]⟩ ak else bif u_.c a then bif decide ((nR.v (a.size:aw)).1.size+(u_.v a).size<=4611686018427387904)then bif decide (((nR.v (a.size:aw)).1++u_.v a).size+a.size<=4611686018427387904)then kr ((nR.v (a.size:aw)).1++u_.v a++a) ai else aj else aj else aj
def vo:=b λr0 r1=>ah (r0,r1)
def c:=λa=>(vo a).isSome
def v:=λa=>(vo a).getD (⟨#[]⟩,ak)
theorem out{x}:∀a,vo a=ah x->c a=ai/\v a=x:=λ_=>Lib.dh
end BX

namespace mU
def b(kr:yO R)(a:aq)(d e:aw)(f:aq):az R:=bif !(DS.v a d e f).2 then kr ⟨#[]⟩ ak else bif BX.c (DS.v a d e f).1 then kr (BX.v (DS.v a d e f).1).1 (BX.v (DS.v a d e f).1).2 else aj
def vo:=b λr0 r1=>ah (r0,r1)
def c:=λa d e f=>(vo a d e f).isSome
def v:=λa d e f=>(vo a d e f).getD (⟨#[]⟩,ak)
theorem out{x}:∀a d e f,vo a d e f=ah x->c a d e f=ai/\v a d e f=x:=λ_ _ _ _=>Lib.dh
end mU

namespace u9
def b(kr:H3 R)(a:aq)(d e:aw)(f:aq):az R:=bif mU.c a d e f then bif !(mU.v a d e f).2 then kr [] ak else kr (aD (aD (aP [Ck.i ao,Ck.s,Ck.s,Ck.s] 2) 0 [.i .i64 1, .s {data:= #[ay 107,ay 101,ay 112,ay 116]}, .s (mU.v a d e f).1, .s ⟨#[]⟩]) 1 [.i .i64 2, .s {data:= #[ay 107,ay 101,ay 112,ay 116]}, .s ⟨#[]⟩, .s ⟨#[]⟩]) ai else aj
def vo:=b λr0 r1=>ah (r0,r1)
def c:=λa d e f=>(vo a d e f).isSome
def v:=λa d e f=>(vo a d e f).getD ([],ak)
theorem out{x}:∀a d e f,vo a d e f=ah x->c a d e f=ai/\v a d e f=x:=λ_ _ _ _=>Lib.dh
end u9

namespace td
def b(kr:aQ->az R)(a:aQ):az R:=bif cy ((aP [Ck.s,Ck.s,Ck.i ao] 0).length+a.length) 40 then kr (aP [Ck.s,Ck.s,Ck.i ao] 0++a)else aj
def vo:=b λr0=>ah r0
def c:=λa=>(vo a).isSome
def v:=λa=>(vo a).getD ([])
theorem out{x}:∀a,vo a=ah x->c a=ai/\v a=x:=λ_=>Lib.dh
end td

namespace Ku
def b(kr:aX->az R)(a d:aq)(e:aw)(kP:aq):az R:=kr (bZ (aC a) (aC kP))
def v(a0 a1:aq)(a2:aw)(kP:aq):aX:=(bZ (aC a0) (aC kP))
theorem eG(kr:aX->az R)(a0 a1:aq)(a2:aw)(kP:aq):b kr a0 a1 a2 kP=kr (v a0 a1 a2 kP):=by first|rfl|(unfold b v;simp only[cM];(repeat' split)<;>rfl)
end Ku

namespace sj
def r2(N:aF)(g k0 k1:ig R)(a:aQ)(d:aq)(e f h:aw):az R:=bif decide (h<f)then bif decide (0<=h)&&decide (h<(a.length:aw))then bif Ku.v (bw (ar a h.toNat 0)) (bw (ar a h.toNat 1)) (bF (ar a h.toNat (1+1))) d then k0 a d h f h else g a d e f (bJ (h+1))else aj else k1 a d e f h
def l2(N:aF)(k0 k1:ig R):aF->ig R
 |0=>λ_ _ _ _ _=>aj
 |n+1=>r2 N (l2 N k0 k1 n) k0 k1
def b(N:aF)(kr:aw->az R)(a:aQ)(kP:aq):az R:=l2 N (λ_ _ d _ _=>kr d) (λ_ _ _ _ _=>kr (-1)) N a kP 0 (a.length:aw) 0
def vo:=b Lib.cW λr0=>ah r0
def c:=λa d=>(vo a d).isSome
def v:=λa d=>(vo a d).getD (0)
theorem out{x}:∀a d,vo a d=ah x->c a d=ai/\v a d=x:=λ_ _=>Lib.dh
end sj

namespace AW
def b(kr:aX->az R)(a d:aq)(e:aw)(kP:aq):az R:=kr (bZ (aC a) (aC kP))
def v(a0 a1:aq)(a2:aw)(kP:aq):aX:=(bZ (aC a0) (aC kP))
theorem eG(kr:aX->az R)(a0 a1:aq)(a2:aw)(kP:aq):b kr a0 a1 a2 kP=kr (v a0 a1 a2 kP):=by first|rfl|(unfold b v;simp only[cM];(repeat' split)<;>rfl)
end AW

namespace nt
def r2(N:aF)(g k0 k1:ig R)(a:aQ)(d:aq)(e f h:aw):az R:=bif decide (h<f)then bif decide (0<=h)&&decide (h<(a.length:aw))then bif AW.v (bw (ar a h.toNat 0)) (bw (ar a h.toNat 1)) (bF (ar a h.toNat (1+1))) d then k0 a d h f h else g a d e f (bJ (h+1))else aj else k1 a d e f h
def l2(N:aF)(k0 k1:ig R):aF->ig R
 |0=>λ_ _ _ _ _=>aj
 |n+1=>r2 N (l2 N k0 k1 n) k0 k1
def b(N:aF)(kr:aw->az R)(a:aQ)(kP:aq):az R:=l2 N (λ_ _ d _ _=>kr d) (λ_ _ _ _ _=>kr (-1)) N a kP 0 (a.length:aw) 0
def vo:=b Lib.cW λr0=>ah r0
def c:=λa d=>(vo a d).isSome
def v:=λa d=>(vo a d).getD (0)
theorem out{x}:∀a d,vo a d=ah x->c a d=ai/\v a d=x:=λ_ _=>Lib.dh
end nt

namespace eE
def b(kr:aw->az R)(a:aQ)(d:aq):az R:=bif sj.c a d then kr (sj.v a d)else aj
def vo:=b λr0=>ah r0
def c:=λa d=>(vo a d).isSome
def v:=λa d=>(vo a d).getD (0)
theorem out{x}:∀a d,vo a d=ah x->c a d=ai/\v a d=x:=λ_ _=>Lib.dh
end eE

namespace ik
def r2(N:aF)(g k0 k1:FI R)(a:aX)(d:aQ)(e f:aw)(h:aQ):az R:=bif decide (f<e)then bif decide (0<=f)&&decide (f<(d.length:aw))then bif !lz.v ((bw (ar d f.toNat 0)).size:aw) 1 8 then k0 ak d e f h else bif decide (((bw (ar d f.toNat 1)).size:aw)>20000)then k0 ak d e f h else bif !lz.v (bF (ar d f.toNat (1+1))) 0 ((bw (ar d f.toNat 1)).size:aw)then k0 ak d e f h else bif decide (f>0)then bif decide (0<=bJ (f-1))&&decide (bJ (f-1)<(h.length:aw))then bif !Op.bytesLess (bw (ar h (bJ (f-1)).toNat 0)).toList (bw (ar d f.toNat 0)).toList then k0 ak d e f h else g a d e (bJ (f+1)) h else aj else g a d e (bJ (f+1)) h else aj else k1 a d e f h
def l2(N:aF)(k0 k1:FI R):aF->FI R
 |0=>λ_ _ _ _ _=>aj
 |n+1=>r2 N (l2 N k0 k1 n) k0 k1
def b(N:aF)(kr:aX->az R)(a:aQ):az R:=l2 N (λd _ _ _ _=>kr d) (λ_ _ _ _ d=>kr (decide ((d.length:aw)<=30))) N ak a (a.length:aw) 0 a
def vo:=b Lib.cW λr0=>ah r0
def c:=λa=>(vo a).isSome
def v:=λa=>(vo a).getD ak
theorem out{x}:∀a,vo a=ah x->c a=ai/\v a=x:=λ_=>Lib.dh
end ik

namespace Kv
def b(kr:aX->az R)(a:aw)(d e f:aq):az R:=bif lz.v a 1 4 then bif bZ (aC e) (aC ⟨#[]⟩)then bif bZ (aC f) (aC ⟨#[]⟩)then kr ai else kr (decide (a=3))else bif decide (a=1)then bif bZ (aC f) (aC ⟨#[]⟩)then kr ai else kr (decide (a=3))else kr ak else kr ak
def v(a0:aw)(a1 a2 a3:aq):aX:=bif lz.v a0 1 4 then bif bZ (aC a2) (aC {data:= #[]})then bif bZ (aC a3) (aC {data:= #[]})then ai else decide (a0=3)else bif decide (a0=1)then bif bZ (aC a3) (aC {data:= #[]})then ai else decide (a0=3)else ak else ak
theorem eG(kr:aX->az R)(a0:aw)(a1 a2 a3:aq):b kr a0 a1 a2 a3=kr (v a0 a1 a2 a3):=by first|rfl|(unfold b v;simp only[cM];(repeat' split)<;>rfl)
end Kv

namespace wU
def r5(N:aF)(g k0:mm R)(a:aq)(d e:aw)(f:aQ):az R:=bif decide (e<(f.length:aw))then bif decide (0<=e)&&decide (e<(f.length:aw))then bif !AW.v (bw (ar f e.toNat 0)) (bw (ar f e.toNat 1)) (bF (ar f e.toNat (1+1))) a then bif decide (0<=d)&&decide (d<(f.length:aw))then g a (bJ (d+1)) (bJ (e+1)) (eJ f d.toNat 0 [.s (bw (ar f e.toNat 0)), .s (bw (ar f e.toNat 1)), .i .i64 (bF (ar f e.toNat (1+1)))])else aj else g a d (bJ (e+1)) f else aj else k0 a d e f
def l5(N:aF)(k0:mm R):aF->mm R
 |0=>λ_ _ _ _=>aj
 |n+1=>r5 N (l5 N k0 n) k0
def b(N:aF)(kr:aQ->az R)(a:aQ)(kP:aq):az R:=bif nt.c a kP then bif decide (nt.v a kP=Kn 1)then kr a else l5 N (λ_ d _ e=>bif g7 d (e.length:aw) (e.length:aw)then bif g7 0 d ((g9 d.toNat e++aP [Ck.s,Ck.s,Ck.i ao] ((e.length:aw).toNat-d.toNat)++nk (e.length:aw).toNat e).length:aw)then kr (eA (g9 d.toNat e++aP [Ck.s,Ck.s,Ck.i ao] ((e.length:aw).toNat-d.toNat)++nk (e.length:aw).toNat e) (aW 0) d.toNat)else aj else aj) N kP (nt.v a kP) (bJ (nt.v a kP+1)) a else aj
def vo:=b Lib.cW λr0=>ah r0
def c:=λa d=>(vo a d).isSome
def v:=λa d=>(vo a d).getD ([])
theorem out{x}:∀a d,vo a d=ah x->c a d=ai/\v a d=x:=λ_ _=>Lib.dh
end wU

namespace iY
def b(kr:aQ->az R)(a:aQ)(d:aq):az R:=bif td.c a then bif wU.c (td.v a) d then kr (wU.v (td.v a) d)else aj else aj
def vo:=b λr0=>ah r0
def c:=λa d=>(vo a d).isSome
def v:=λa d=>(vo a d).getD ([])
theorem out{x}:∀a d,vo a d=ah x->c a d=ai/\v a d=x:=λ_ _=>Lib.dh
end iY


namespace gM
def r3(N:aF)(g k0:FK R)(a:aw)(d e:aq)(f:aw)(h:aQ):az R:=bif decide (a<(h.length:aw))then bif decide (0<=a)&&decide (a<(h.length:aw))then bif b7 (bw (ar h a.toNat 0)).toList (aC d)then g (bJ (a+1)) d e f h else k0 a d e f h else aj else k0 a d e f h
def l3(N:aF)(k0:FK R):aF->FK R
 |0=>λ_ _ _ _ _=>aj
 |n+1=>r3 N (l3 N k0 n) k0
def b(N:aF)(kr:aQ->az R)(a:aQ)(d e:aq)(f:aw):az R:=bif iY.c a d then l3 N (λh i j l m=>bif decide (0<=h)&&decide (h<=(m.length:aw))&&cy (m.length+(aD (aP [Ck.s,Ck.s,Ck.i ao] 1) 0 [.s i, .s j, .i .i64 l]).length) 40 then kr (Pu.tI m h.toNat (aD (aP [Ck.s,Ck.s,Ck.i ao] 1) 0 [.s i, .s j, .i .i64 l]))else aj) N 0 d e f (iY.v a d)else aj
def vo:=b Lib.cW λr0=>ah r0
def c:=λa d e f=>(vo a d e f).isSome
def v:=λa d e f=>(vo a d e f).getD ([])
theorem out{x}:∀a d e f,vo a d e f=ah x->c a d e f=ai/\v a d e f=x:=λ_ _ _ _=>Lib.dh
end gM

namespace rI
def b(kr:H3 R)(a:aQ)(d:aw)(e f h:aq):az R:=bif eE.c a e then bif ik.c a then bif !ik.v a then kr [] ak else bif !Kv.v d e f h then kr [] ak else bif decide (eE.v a e<0)then bif d !=1 then kr [] ak else bif decide (eE.v a e≥0)then bif decide (0<=eE.v a e)&&decide (eE.v a e<(a.length:aw))then bif decide (d=1)then bif decide ((bw (ar a (eE.v a e).toNat 1)).size+f.size<=4611686018427387904)then bif gM.c a (bw (ar a (eE.v a e).toNat 0)) (bw (ar a (eE.v a e).toNat 1)++f) (bF (ar a (eE.v a e).toNat (1+1)))then bif ik.c (gM.v a (bw (ar a (eE.v a e).toNat 0)) (bw (ar a (eE.v a e).toNat 1)++f) (bF (ar a (eE.v a e).toNat (1+1))))then bif !ik.v (gM.v a (bw (ar a (eE.v a e).toNat 0)) (bw (ar a (eE.v a e).toNat 1)++f) (bF (ar a (eE.v a e).toNat (1+1))))then kr [] ak else kr (gM.v a (bw (ar a (eE.v a e).toNat 0)) (bw (ar a (eE.v a e).toNat 1)++f) (bF (ar a (eE.v a e).toNat (1+1)))) ai else aj else aj else aj else bif decide (d=2)then bif gM.c a (bw (ar a (eE.v a e).toNat 0)) (bw (ar a (eE.v a e).toNat 1)) ((bw (ar a (eE.v a e).toNat 1)).size:aw)then bif ik.c (gM.v a (bw (ar a (eE.v a e).toNat 0)) (bw (ar a (eE.v a e).toNat 1)) ((bw (ar a (eE.v a e).toNat 1)).size:aw))then bif !ik.v (gM.v a (bw (ar a (eE.v a e).toNat 0)) (bw (ar a (eE.v a e).toNat 1)) ((bw (ar a (eE.v a e).toNat 1)).size:aw))then kr [] ak else kr (gM.v a (bw (ar a (eE.v a e).toNat 0)) (bw (ar a (eE.v a e).toNat 1)) ((bw (ar a (eE.v a e).toNat 1)).size:aw)) ai else aj else aj else bif decide (d=3)then bif bF (ar a (eE.v a e).toNat (1+1)) !=((bw (ar a (eE.v a e).toNat 1)).size:aw)then kr [] ak else bif bZ (aC h) (aC e)then kr [] ak else bif iY.c a e then bif gM.c (iY.v a e) h (bw (ar a (eE.v a e).toNat 1)) (bF (ar a (eE.v a e).toNat (1+1)))then bif ik.c (gM.v (iY.v a e) h (bw (ar a (eE.v a e).toNat 1)) (bF (ar a (eE.v a e).toNat (1+1))))then bif !ik.v (gM.v (iY.v a e) h (bw (ar a (eE.v a e).toNat 1)) (bF (ar a (eE.v a e).toNat (1+1))))then kr [] ak else kr (gM.v (iY.v a e) h (bw (ar a (eE.v a e).toNat 1)) (bF (ar a (eE.v a e).toNat (1+1)))) ai else aj else aj else aj else bif iY.c a e then bif ik.c (iY.v a e)then bif !ik.v (iY.v a e)then kr [] ak else kr (iY.v a e) ai else aj else aj else aj else bif decide (d=1)then bif decide (cq ⟨#[]⟩+f.size<=4611686018427387904)then bif gM.c a e ({data:= #[]}++f) 0 then bif ik.c (gM.v a e ({data:= #[]}++f) 0)then bif !ik.v (gM.v a e ({data:= #[]}++f) 0)then kr [] ak else kr (gM.v a e ({data:= #[]}++f) 0) ai else aj else aj else aj else bif decide (d=2)then bif gM.c a e ⟨#[]⟩ (cq ⟨#[]⟩:aw)then bif ik.c (gM.v a e ⟨#[]⟩ (cq ⟨#[]⟩:aw))then bif !ik.v (gM.v a e ⟨#[]⟩ (cq ⟨#[]⟩:aw))then kr [] ak else kr (gM.v a e ⟨#[]⟩ (cq ⟨#[]⟩:aw)) ai else aj else aj else bif decide (d=3)then bif bZ (aC h) (aC e)then kr [] ak else bif iY.c a e then bif gM.c (iY.v a e) h ⟨#[]⟩ 0 then bif ik.c (gM.v (iY.v a e) h ⟨#[]⟩ 0)then bif !ik.v (gM.v (iY.v a e) h ⟨#[]⟩ 0)then kr [] ak else kr (gM.v (iY.v a e) h ⟨#[]⟩ 0) ai else aj else aj else aj else bif iY.c a e then bif ik.c (iY.v a e)then bif !ik.v (iY.v a e)then kr [] ak else kr (iY.v a e) ai else aj else aj else bif decide (eE.v a e≥0)then bif decide (0<=eE.v a e)&&decide (eE.v a e<(a.length:aw))then bif decide (d=1)then bif decide ((bw (ar a (eE.v a e).toNat 1)).size+f.size<=4611686018427387904)then bif gM.c a (bw (ar a (eE.v a e).toNat 0)) (bw (ar a (eE.v a e).toNat 1)++f) (bF (ar a (eE.v a e).toNat (1+1)))then bif ik.c (gM.v a (bw (ar a (eE.v a e).toNat 0)) (bw (ar a (eE.v a e).toNat 1)++f) (bF (ar a (eE.v a e).toNat (1+1))))then bif !ik.v (gM.v a (bw (ar a (eE.v a e).toNat 0)) (bw (ar a (eE.v a e).toNat 1)++f) (bF (ar a (eE.v a e).toNat (1+1))))then kr [] ak else kr (gM.v a (bw (ar a (eE.v a e).toNat 0)) (bw (ar a (eE.v a e).toNat 1)++f) (bF (ar a (eE.v a e).toNat (1+1)))) ai else aj else aj else aj else bif decide (d=2)then bif gM.c a (bw (ar a (eE.v a e).toNat 0)) (bw (ar a (eE.v a e).toNat 1)) ((bw (ar a (eE.v a e).toNat 1)).size:aw)then bif ik.c (gM.v a (bw (ar a (eE.v a e).toNat 0)) (bw (ar a (eE.v a e).toNat 1)) ((bw (ar a (eE.v a e).toNat 1)).size:aw))then bif !ik.v (gM.v a (bw (ar a (eE.v a e).toNat 0)) (bw (ar a (eE.v a e).toNat 1)) ((bw (ar a (eE.v a e).toNat 1)).size:aw))then kr [] ak else kr (gM.v a (bw (ar a (eE.v a e).toNat 0)) (bw (ar a (eE.v a e).toNat 1)) ((bw (ar a (eE.v a e).toNat 1)).size:aw)) ai else aj else aj else bif decide (d=3)then bif bF (ar a (eE.v a e).toNat (1+1)) !=((bw (ar a (eE.v a e).toNat 1)).size:aw)then kr [] ak else bif bZ (aC h) (aC e)then kr [] ak else bif iY.c a e then bif gM.c (iY.v a e) h (bw (ar a (eE.v a e).toNat 1)) (bF (ar a (eE.v a e).toNat (1+1)))then bif ik.c (gM.v (iY.v a e) h (bw (ar a (eE.v a e).toNat 1)) (bF (ar a (eE.v a e).toNat (1+1))))then bif !ik.v (gM.v (iY.v a e) h (bw (ar a (eE.v a e).toNat 1)) (bF (ar a (eE.v a e).toNat (1+1))))then kr [] ak else kr (gM.v (iY.v a e) h (bw (ar a (eE.v a e).toNat 1)) (bF (ar a (eE.v a e).toNat (1+1)))) ai else aj else aj else aj else bif iY.c a e then bif ik.c (iY.v a e)then bif !ik.v (iY.v a e)then kr [] ak else kr (iY.v a e) ai else aj else aj else aj else bif decide (d=1)then bif decide (cq ⟨#[]⟩+f.size<=4611686018427387904)then bif gM.c a e ({data:= #[]}++f) 0 then bif ik.c (gM.v a e ({data:= #[]}++f) 0)then bif !ik.v (gM.v a e ({data:= #[]}++f) 0)then kr [] ak else kr (gM.v a e ({data:= #[]}++f) 0) ai else aj else aj else aj else bif decide (d=2)then bif gM.c a e ⟨#[]⟩ (cq ⟨#[]⟩:aw)then bif ik.c (gM.v a e ⟨#[]⟩ (cq ⟨#[]⟩:aw))then bif !ik.v (gM.v a e ⟨#[]⟩ (cq ⟨#[]⟩:aw))then kr [] ak else kr (gM.v a e ⟨#[]⟩ (cq ⟨#[]⟩:aw)) ai else aj else aj else bif decide (d=3)then bif bZ (aC h) (aC e)then kr [] ak else bif iY.c a e then bif gM.c (iY.v a e) h ⟨#[]⟩ 0 then bif ik.c (gM.v (iY.v a e) h ⟨#[]⟩ 0)then bif !ik.v (gM.v (iY.v a e) h ⟨#[]⟩ 0)then kr [] ak else kr (gM.v (iY.v a e) h ⟨#[]⟩ 0) ai else aj else aj else aj else bif iY.c a e then bif ik.c (iY.v a e)then bif !ik.v (iY.v a e)then kr [] ak else kr (iY.v a e) ai else aj else aj else aj else aj
def vo:=b λr0 r1=>ah (r0,r1)
def c:=λa d e f h=>(vo a d e f h).isSome
def v:=λa d e f h=>(vo a d e f h).getD ([],ak)
theorem out{x}:∀a d e f h,vo a d e f h=ah x->c a d e f h=ai/\v a d e f h=x:=λ_ _ _ _ _=>Lib.dh
end rI

namespace vS
def r3(N:aF)(g k0 k1:BO R)(a:aQ)(d:aw)(e:aQ)(f h:aw)(i:aQ):az R:=bif decide (h<f)then bif decide (0<=h)&&decide (h<(e.length:aw))then bif rI.c i (bF (ar e h.toNat 0)) (bw (ar e h.toNat 1)) (bw (ar e h.toNat (1+1))) (bw (ar e h.toNat (1+1+1)))then bif !(rI.v i (bF (ar e h.toNat 0)) (bw (ar e h.toNat 1)) (bw (ar e h.toNat (1+1))) (bw (ar e h.toNat (1+1+1)))).2 then k0 a h e f h i else g a d e f (bJ (h+1)) (rI.v i (bF (ar e h.toNat 0)) (bw (ar e h.toNat 1)) (bw (ar e h.toNat (1+1))) (bw (ar e h.toNat (1+1+1)))).1 else aj else aj else k1 a d e f h i
def l3(N:aF)(k0 k1:BO R):aF->BO R
 |0=>λ_ _ _ _ _ _=>aj
 |n+1=>r3 N (l3 N k0 k1 n) k0 k1
def b(N:aF)(kr:DB R)(a d:aQ):az R:=bif td.c a then l3 N (λ_ e _ _ _ f=>kr f e) (λe _ _ _ _ f=>kr f (e.length:aw)) N d 0 d (d.length:aw) 0 (td.v a)else aj
def vo:=b Lib.cW λr0 r1=>ah (r0,r1)
def c:=λa d=>(vo a d).isSome
def v:=λa d=>(vo a d).getD ([],0)
theorem out{x}:∀a d,vo a d=ah x->c a d=ai/\v a d=x:=λ_ _=>Lib.dh
end vS

namespace Wm
def b(kr:Az R)(a:aw)(d e f h:aQ)(i:aw)(j l:aQ)(m:aw)(o p q:aQ)(r s:aw):az R:=bif DK.c a d e f h i j l m r s then Lib.lt (DK.v a d e f h i j l m r s) λt=>bif !t.2.2.2.2.2.2.2.2.2 then kr t.2.2.2.2.2.2.2.2.2 t.1 t.2.1 t.2.2.1 t.2.2.2.1 t.2.2.2.2.1 t.2.2.2.2.2.1 t.2.2.2.2.2.2.1 t.2.2.2.2.2.2.2.1 t.2.2.2.2.2.2.2.2.1 o p q else bif decide (s=0)then kr t.2.2.2.2.2.2.2.2.2 t.1 t.2.1 t.2.2.1 t.2.2.2.1 t.2.2.2.2.1 t.2.2.2.2.2.1 t.2.2.2.2.2.2.1 t.2.2.2.2.2.2.2.1 t.2.2.2.2.2.2.2.2.1 o p q else bif decide (0<=r)&&decide (r<(t.2.2.2.2.2.2.1.length:aw))then bif sG.c t.2.2.1 t.2.2.2.1 t.2.2.2.2.1 t.2.2.2.2.2.1 (bw (ar t.2.2.2.2.2.2.1 r.toNat 0))then Lib.lt (sG.v t.2.2.1 t.2.2.2.1 t.2.2.2.2.1 t.2.2.2.2.2.1 (bw (ar t.2.2.2.2.2.2.1 r.toNat 0))) λu=>bif u then bif cy (q.length+(aD (aP [Ck.s,Ck.i ao,Ck.i ao,Ck.s] 1) 0 [.s (bw (ar t.2.2.2.2.2.2.1 r.toNat 0)), .i .i64 (bF (ar t.2.2.2.2.2.2.1 r.toNat (1+1+1+1))), .i .i64 (bF (ar t.2.2.2.2.2.2.1 r.toNat (1+1+1))), .s (bw (ar t.2.2.2.2.2.2.1 r.toNat 1))]).length) 48 then bif u9.c (bw (ar t.2.2.2.2.2.2.1 r.toNat 0)) (bF (ar t.2.2.2.2.2.2.1 r.toNat (1+1+1+1))) (bF (ar t.2.2.2.2.2.2.1 r.toNat (1+1+1))) (bw (ar t.2.2.2.2.2.2.1 r.toNat 1))then Lib.lt (u9.v (bw (ar t.2.2.2.2.2.2.1 r.toNat 0)) (bF (ar t.2.2.2.2.2.2.1 r.toNat (1+1+1+1))) (bF (ar t.2.2.2.2.2.2.1 r.toNat (1+1+1))) (bw (ar t.2.2.2.2.2.2.1 r.toNat 1))) λw=>bif vS.c o w.1 then Lib.lt (vS.v o w.1) λy=>kr ai t.1 t.2.1 t.2.2.1 t.2.2.2.1 t.2.2.2.2.1 t.2.2.2.2.2.1 t.2.2.2.2.2.2.1 t.2.2.2.2.2.2.2.1 t.2.2.2.2.2.2.2.2.1 y.1 p (q++aD (aP [Ck.s,Ck.i ao,Ck.i ao,Ck.s] 1) 0 [.s (bw (ar t.2.2.2.2.2.2.1 r.toNat 0)), .i .i64 (bF (ar t.2.2.2.2.2.2.1 r.toNat (1+1+1+1))), .i .i64 (bF (ar t.2.2.2.2.2.2.1 r.toNat (1+1+1))), .s (bw (ar t.2.2.2.2.2.2.1 r.toNat 1))])else aj else aj else aj else kr ai t.1 t.2.1 t.2.2.1 t.2.2.2.1 t.2.2.2.2.1 t.2.2.2.2.2.1 t.2.2.2.2.2.2.1 t.2.2.2.2.2.2.2.1 t.2.2.2.2.2.2.2.2.1 o p q else aj else aj else aj
def vo:=b λr0 r1 r2 r3 r4 r5 r6 r7 r8 r9 JH Ap US=>ah (r0,r1,r2,r3,r4,r5,r6,r7,r8,r9,JH,Ap,US)
def c:=λa d e f h i j l m o p q r s=>(vo a d e f h i j l m o p q r s).isSome
def v:=λa d e f h i j l m o p q r s=>(vo a d e f h i j l m o p q r s).getD (ak,0,[],[],[],[],0,[],[],0,[],[],[])
theorem out{x}:∀a d e f h i j l m o p q r s,vo a d e f h i j l m o p q r s=ah x->c a d e f h i j l m o p q r s=ai/\v a d e f h i j l m o p q r s=x:=λ_ _ _ _ _ _ _ _ _ _ _ _ _ _=>Lib.dh
end Wm

namespace Wn
def b(kr:kV R)(a:aw)(d e f h:aQ)(i:aw)(j l:aQ)(m o:aw):az R:=bif iP.c a d e f h i j l m then Lib.lt (iP.v a d e f h i j l m) λp=>bif u6.c a d e f h i j l m o then Lib.lt (u6.v a d e f h i j l m o) λq=>bif !q then kr p.1 p.2.1 p.2.2.1 p.2.2.2.1 p.2.2.2.2.1 p.2.2.2.2.2.1 p.2.2.2.2.2.2.1 p.2.2.2.2.2.2.2.1 p.2.2.2.2.2.2.2.2 ak else bif decide (0<=o)&&decide (o<(j.length:aw))then bif bF (ar j o.toNat 2) !=1 then kr p.1 p.2.1 p.2.2.1 p.2.2.2.1 p.2.2.2.2.1 p.2.2.2.2.2.1 p.2.2.2.2.2.2.1 p.2.2.2.2.2.2.2.1 p.2.2.2.2.2.2.2.2 ak else bif decide (0<=o)&&decide (o<(p.2.2.2.2.2.2.1.length:aw))then bif vT.c p.1 p.2.1 p.2.2.1 p.2.2.2.1 p.2.2.2.2.1 p.2.2.2.2.2.1 (eJ p.2.2.2.2.2.2.1 o.toNat 2 [.i .i64 3]) p.2.2.2.2.2.2.2.1 p.2.2.2.2.2.2.2.2 o 3 then Lib.lt (vT.v p.1 p.2.1 p.2.2.1 p.2.2.2.1 p.2.2.2.2.1 p.2.2.2.2.2.1 (eJ p.2.2.2.2.2.2.1 o.toNat 2 [.i .i64 3]) p.2.2.2.2.2.2.2.1 p.2.2.2.2.2.2.2.2 o 3) λr=>kr r.1 r.2.1 r.2.2.1 r.2.2.2.1 r.2.2.2.2.1 r.2.2.2.2.2.1 r.2.2.2.2.2.2.1 r.2.2.2.2.2.2.2.1 r.2.2.2.2.2.2.2.2 ai else aj else aj else aj else aj else aj
def vo:=b λr0 r1 r2 r3 r4 r5 r6 r7 r8 r9=>ah (r0,r1,r2,r3,r4,r5,r6,r7,r8,r9)
def c:=λa d e f h i j l m o=>(vo a d e f h i j l m o).isSome
def v:=λa d e f h i j l m o=>(vo a d e f h i j l m o).getD (0,[],[],[],[],0,[],[],0,ak)
theorem out{x}:∀a d e f h i j l m o,vo a d e f h i j l m o=ah x->c a d e f h i j l m o=ai/\v a d e f h i j l m o=x:=λ_ _ _ _ _ _ _ _ _ _=>Lib.dh
end Wn

namespace AL
def b(kr:aw->az R)(a d:aw):az R:=bif !decide (d=0)then bif !decide (d=0)then kr (cz (bJ (cz a d+d)) d)else aj else aj
def vo:=b λr0=>ah r0
def c:=λa d=>(vo a d).isSome
def v:=λa d=>(vo a d).getD (0)
theorem out{x}:∀a d,vo a d=ah x->c a d=ai/\v a d=x:=λ_ _=>Lib.dh
end AL

namespace DF
def b(kr:eR R)(a:aw)(d e f h:aQ)(i:aw)(j l:aQ)(m o:aw):az R:=bif iP.c a d e f h i j l m then bif decide (a>bJ (1000000000-AL.v o 1000))then kr 1000000000 (iP.v a d e f h i j l m).2.1 (iP.v a d e f h i j l m).2.2.1 (iP.v a d e f h i j l m).2.2.2.1 (iP.v a d e f h i j l m).2.2.2.2.1 (iP.v a d e f h i j l m).2.2.2.2.2.1 (iP.v a d e f h i j l m).2.2.2.2.2.2.1 (iP.v a d e f h i j l m).2.2.2.2.2.2.2.1 (iP.v a d e f h i j l m).2.2.2.2.2.2.2.2 else kr (bJ (a+AL.v o 1000)) (iP.v a d e f h i j l m).2.1 (iP.v a d e f h i j l m).2.2.1 (iP.v a d e f h i j l m).2.2.2.1 (iP.v a d e f h i j l m).2.2.2.2.1 (iP.v a d e f h i j l m).2.2.2.2.2.1 (iP.v a d e f h i j l m).2.2.2.2.2.2.1 (iP.v a d e f h i j l m).2.2.2.2.2.2.2.1 (iP.v a d e f h i j l m).2.2.2.2.2.2.2.2 else aj
def vo:=b λr0 r1 r2 r3 r4 r5 r6 r7 r8=>ah (r0,r1,r2,r3,r4,r5,r6,r7,r8)
def c:=λa d e f h i j l m o=>(vo a d e f h i j l m o).isSome
def v:=λa d e f h i j l m o=>(vo a d e f h i j l m o).getD (0,[],[],[],[],0,[],[],0)
theorem out{x}:∀a d e f h i j l m o,vo a d e f h i j l m o=ah x->c a d e f h i j l m o=ai/\v a d e f h i j l m o=x:=λ_ _ _ _ _ _ _ _ _ _=>Lib.dh
end DF

namespace wK
def r5(N:aF)(g k0:jJ R)(a d e:aw)(f:aQ):az R:=bif decide (e<(f.length:aw))then bif decide (0<=e)&&decide (e<(f.length:aw))then bif !AM.v (bF (ar f e.toNat 0)) (bw (ar f e.toNat 1)) (bF (ar f e.toNat (1+1))) (bF (ar f e.toNat (1+1+1))) (bF (ar f e.toNat (1+1+1+1))) (bw (ar f e.toNat (1+1+1+1+1))) (bF (ar f e.toNat (1+1+1+1+1+1))) a then bif decide (0<=d)&&decide (d<(f.length:aw))then g a (bJ (d+1)) (bJ (e+1)) (eJ f d.toNat 0 [.i .i64 (bF (ar f e.toNat 0)), .s (bw (ar f e.toNat 1)), .i .i64 (bF (ar f e.toNat (1+1))), .i .i64 (bF (ar f e.toNat (1+1+1))), .i .i64 (bF (ar f e.toNat (1+1+1+1))), .s (bw (ar f e.toNat (1+1+1+1+1))), .i .i64 (bF (ar f e.toNat (1+1+1+1+1+1)))])else aj else g a d (bJ (e+1)) f else aj else k0 a d e f
def l5(N:aF)(k0:jJ R):aF->jJ R
 |0=>λ_ _ _ _=>aj
 |n+1=>r5 N (l5 N k0 n) k0
def b(N:aF)(kr:aQ->az R)(a:aQ)(Cz:aw):az R:=bif nr.c a Cz then bif decide (nr.v a Cz=Kn 1)then kr a else l5 N (λ_ d _ e=>bif g7 d (e.length:aw) (e.length:aw)then bif g7 0 d ((g9 d.toNat e++aP [Ck.i ao,Ck.s,Ck.i ao,Ck.i ao,Ck.i ao,Ck.s,Ck.i ao] ((e.length:aw).toNat-d.toNat)++nk (e.length:aw).toNat e).length:aw)then kr (eA (g9 d.toNat e++aP [Ck.i ao,Ck.s,Ck.i ao,Ck.i ao,Ck.i ao,Ck.s,Ck.i ao] ((e.length:aw).toNat-d.toNat)++nk (e.length:aw).toNat e) (aW 0) d.toNat)else aj else aj) N Cz (nr.v a Cz) (bJ (nr.v a Cz+1)) a else aj
def vo:=b Lib.cW λr0=>ah r0
def c:=λa d=>(vo a d).isSome
def v:=λa d=>(vo a d).getD ([])
theorem out{x}:∀a d,vo a d=ah x->c a d=ai/\v a d=x:=λ_ _=>Lib.dh
end wK

namespace DG
def b(kr:eR R)(a:aw)(d e f h:aQ)(i:aw)(j l:aQ)(m o:aw):az R:=bif iP.c a d e f h i j l m then bif wK.c (iP.v a d e f h i j l m).2.2.2.2.2.2.2.1 o then kr (iP.v a d e f h i j l m).1 (iP.v a d e f h i j l m).2.1 (iP.v a d e f h i j l m).2.2.1 (iP.v a d e f h i j l m).2.2.2.1 (iP.v a d e f h i j l m).2.2.2.2.1 (iP.v a d e f h i j l m).2.2.2.2.2.1 (iP.v a d e f h i j l m).2.2.2.2.2.2.1 (wK.v (iP.v a d e f h i j l m).2.2.2.2.2.2.2.1 o) (iP.v a d e f h i j l m).2.2.2.2.2.2.2.2 else aj else aj
def vo:=b λr0 r1 r2 r3 r4 r5 r6 r7 r8=>ah (r0,r1,r2,r3,r4,r5,r6,r7,r8)
def c:=λa d e f h i j l m o=>(vo a d e f h i j l m o).isSome
def v:=λa d e f h i j l m o=>(vo a d e f h i j l m o).getD (0,[],[],[],[],0,[],[],0)
theorem out{x}:∀a d e f h i j l m o,vo a d e f h i j l m o=ah x->c a d e f h i j l m o=ai/\v a d e f h i j l m o=x:=λ_ _ _ _ _ _ _ _ _ _=>Lib.dh
end DG

namespace wL
def r5(N:aF)(g k0:FM R)(a d:aQ)(e f:aw)(h:aQ):az R:=bif decide (f<e)then bif decide (0<=f)&&decide (f<(d.length:aw))then bif decide (f<(a.length:aw))then bif decide (0<=f)&&decide (f<(a.length:aw))then bif g7 0 (iu ai (bF (ar d f.toNat (1+1))) (iu ak (bF (ar a f.toNat 0)) ((bw (ar d f.toNat 1)).size:aw))) ((bw (ar d f.toNat 1)).size:aw)then bif decide (0<=f)&&decide (f<(h.length:aw))then g a d e (bJ (f+1)) (eJ h f.toNat 0 [.s (bw (ar d f.toNat 0)), .s (bO (bw (ar d f.toNat 1)) (aW 0) (iu ai (bF (ar d f.toNat (1+1))) (iu ak (bF (ar a f.toNat 0)) ((bw (ar d f.toNat 1)).size:aw))).toNat), .i .i64 (iu ai (bF (ar d f.toNat (1+1))) (iu ak (bF (ar a f.toNat 0)) ((bw (ar d f.toNat 1)).size:aw)))])else aj else aj else aj else bif g7 0 (bF (ar d f.toNat (1+1))) ((bw (ar d f.toNat 1)).size:aw)then bif decide (0<=f)&&decide (f<(h.length:aw))then g a d e (bJ (f+1)) (eJ h f.toNat 0 [.s (bw (ar d f.toNat 0)), .s (bO (bw (ar d f.toNat 1)) (aW 0) (bF (ar d f.toNat (1+1))).toNat), .i .i64 (bF (ar d f.toNat (1+1)))])else aj else aj else aj else k0 a d e f h
def l5(N:aF)(k0:FM R):aF->FM R
 |0=>λ_ _ _ _ _=>aj
 |n+1=>r5 N (l5 N k0 n) k0
def b(N:aF)(kr:H3 R)(a d:aQ):az R:=bif ik.c a then bif !ik.v a then kr [] ak else bif td.c a then l5 N (λ_ _ _ _ e=>kr e ai) N d a (a.length:aw) 0 (td.v a)else aj else aj
def vo:=b Lib.cW λr0 r1=>ah (r0,r1)
def c:=λa d=>(vo a d).isSome
def v:=λa d=>(vo a d).getD ([],ak)
theorem out{x}:∀a d,vo a d=ah x->c a d=ai/\v a d=x:=λ_ _=>Lib.dh
end wL

namespace uX
def b(kr:yO R)(a:aQ)(d:aq):az R:=bif eE.c a d then bif decide (eE.v a d<0)then kr ⟨#[]⟩ ak else bif decide (0<=eE.v a d)&&decide (eE.v a d<(a.length:aw))then kr (bw (ar a (eE.v a d).toNat 1)) ai else aj else aj
def vo:=b λr0 r1=>ah (r0,r1)
def c:=λa d=>(vo a d).isSome
def v:=λa d=>(vo a d).getD (⟨#[]⟩,ak)
theorem out{x}:∀a d,vo a d=ah x->c a d=ai/\v a d=x:=λ_ _=>Lib.dh
end uX

namespace gm
def r5(N:aF)(g k0 k1:yP R)(a:aq)(d e f:aw)(h:aX)(i j:aw):az R:=bif decide (j<5)then bif decide (bJ (d+j)<(a.size:aw))then bif decide (0<=bJ (d+j))&&decide (bJ (d+j)<(a.size:aw))then bif decide (0<=bJ (7*j))then bif decide (bJ (↑(gQ a (bJ (d+j)).toNat):aw)>127)then g a d e f h (bJ (i+bJ (cz (bJ (↑(gQ a (bJ (d+j)).toNat):aw)) 128*h_ 2 (if(bJ (7*j)).toNat<=64 then(bJ (7*j)).toNat else 64)))) (bJ (j+1))else bif decide (j>0)then bif decide (bJ (↑(gQ a (bJ (d+j)).toNat):aw)=0)then k0 a d 0 0 ak (bJ (i+bJ (cz (bJ (↑(gQ a (bJ (d+j)).toNat):aw)) 128*h_ 2 (if(bJ (7*j)).toNat<=64 then(bJ (7*j)).toNat else 64)))) j else bif decide (bJ (i+bJ (cz (bJ (↑(gQ a (bJ (d+j)).toNat):aw)) 128*h_ 2 (if(bJ (7*j)).toNat<=64 then(bJ (7*j)).toNat else 64)))>1000000000)then k0 a d 0 0 ak (bJ (i+bJ (cz (bJ (↑(gQ a (bJ (d+j)).toNat):aw)) 128*h_ 2 (if(bJ (7*j)).toNat<=64 then(bJ (7*j)).toNat else 64)))) j else k0 a d (bJ (i+bJ (cz (bJ (↑(gQ a (bJ (d+j)).toNat):aw)) 128*h_ 2 (if(bJ (7*j)).toNat<=64 then(bJ (7*j)).toNat else 64)))) (bJ (bJ (d+j)+1)) ai (bJ (i+bJ (cz (bJ (↑(gQ a (bJ (d+j)).toNat):aw)) 128*h_ 2 (if(bJ (7*j)).toNat<=64 then(bJ (7*j)).toNat else 64)))) j else bif decide (bJ (i+bJ (cz (bJ (↑(gQ a (bJ (d+j)).toNat):aw)) 128*h_ 2 (if(bJ (7*j)).toNat<=64 then(bJ (7*j)).toNat else 64)))>1000000000)then k0 a d 0 0 ak (bJ (i+bJ (cz (bJ (↑(gQ a (bJ (d+j)).toNat):aw)) 128*h_ 2 (if(bJ (7*j)).toNat<=64 then(bJ (7*j)).toNat else 64)))) j else k0 a d (bJ (i+bJ (cz (bJ (↑(gQ a (bJ (d+j)).toNat):aw)) 128*h_ 2 (if(bJ (7*j)).toNat<=64 then(bJ (7*j)).toNat else 64)))) (bJ (bJ (d+j)+1)) ai (bJ (i+bJ (cz (bJ (↑(gQ a (bJ (d+j)).toNat):aw)) 128*h_ 2 (if(bJ (7*j)).toNat<=64 then(bJ (7*j)).toNat else 64)))) j else aj else aj else k1 a d e f h i j else k1 a d e f h i j
def l5(N:aF)(k0 k1:yP R):aF->yP R
 |0=>λ_ _ _ _ _ _ _=>aj
 |n+1=>r5 N (l5 N k0 k1 n) k0 k1
def b(N:aF)(kr:Mf R)(a:aq)(d:aw):az R:=bif !lz.v d 0 (a.size:aw)then kr 0 0 ak else l5 N (λ_ _ e f h _ _=>kr e f h) (λ_ _ _ _ _ _ _=>kr 0 0 ak) N a d 0 0 ak 0 0
def v(cY:aq)(gP:aw):aw×aw×aX:=if 0<=gP/\gP<=cY.size then Lib.rv cY gP.toNat 5 0 0 else(0,0,ak)
theorem eG(kr:Mf R)(cY:aq)(gP:aw)(f0:D8 cY):∃N,b N kr cY gP=kr (v cY gP).1 (v cY gP).2.1 (v cY gP).2.2:=by
 refine⟨6, ?_⟩
 unfold b v;by_cases hn:0<=gP/\gP<=cY.size
 ·have e:lz.v gP 0 (cY.size:aw)=true:=by simp[lz.v,hn]
  obtain⟨a,rfl⟩:∃a:aF,gP=(a:aw):=⟨gP.toNat,by omega⟩
  have ha:a<=cY.size:=by omega
  rw[e,bz hn,Lib.dY];have hs:cY.size<=4611686018427387904:=f0;simp only[a_,ax]
  have:=Lib.g8 (λm (s:aF×aw)=>l5 6 (λy7 y8 y9 Kc wx Md HJ=>kr y9 Kc wx) (λOz WJ QK Dx FA Eg wy=>kr 0 0 ak) m cY a 0 0 ak s.2 s.1) (λs=>5-s.1) (λs=>s.1<=5/\0<=s.2/\s.2<128^s.1)
   (λs=>kr (Lib.rv cY a (5-s.1) s.1 s.2).1 (Lib.rv cY a (5-s.1) s.1 s.2).2.1 (Lib.rv cY a (5-s.1) s.1 s.2).2.2) (λm s hs5=>by
   obtain⟨j,n⟩:=s
   obtain⟨hj,h0,jB⟩:=hs5
   dsimp only at hj h0 jB⊢
   have hb:=Lib.GO cY (a+j)
   by_cases hj5:j<5
   ·by_cases gh:a+j<cY.size
    ·have ew:bJ ((a:aw)+(j:aw))=((a+j:aF):aw):=by rw[iI (by omega) (by omega)];omega
     have ew2:bJ ((a+j:aF):aw)=((a+j:aF):aw):=iI (by omega) (by omega);have eb:bJ (gQ cY (a+j):aw)=(gQ cY (a+j):aw):=iI (by omega) (by omega);have em:cz (gQ cY (a+j):aw) 128=(gQ cY (a+j):aw)%128:=iq (by omega);have e7:bJ (7*(j:aw))=((7*j:aF):aw):=by rw[iI (by omega) (by omega)];omega
     have ep:h_ 2 (if 7*j<=64 then 7*j else 64)=128^j:=by rw[bz (by omega)];show(2:aw)^(7*j)=128^j;rw[Int.pow_mul];rfl
     have hp:(128:aw)^j<=268435456/\(1:aw)<=128^j/\(128:aw)^(j+1)=128*128^j:=by
      obtain rfl|rfl|rfl|rfl|rfl:j=0\/j=1\/j=2\/j=3\/j=4:=by omega
      all_goals decide
     have hm0:0<=(gQ cY (a+j):aw)%128/\(gQ cY (a+j):aw)%128<=127:=by omega
     have hq:0<=(gQ cY (a+j):aw)%128*128^j/\(gQ cY (a+j):aw)%128*128^j<=127*128^j:=
      ⟨Int.mul_nonneg hm0.1 (by omega),DC hm0.2 (by omega)⟩
     have eq1:bJ ((gQ cY (a+j):aw)%128*128^j)=(gQ cY (a+j):aw)%128*128^j:=iI (by omega) (by omega);have eq2:bJ (n+(gQ cY (a+j):aw)%128*128^j)=n+(gQ cY (a+j):aw)%128*128^j:=iI (by omega) (by omega);have ej:bJ ((j:aw)+1)=((j+1:aF):aw):=Lib.c5 hj5 (by omega);have ef:5-j=(5-(j+1))+1:=by omega
     have c1:decide ((j:aw)<5)=true:=by simp;omega
     have c2:decide (((a+j:aF):aw)<(cY.size:aw))=true:=Lib.Nc gh
     have XV:Lib.rv cY a (5-j) j n=(if(gQ cY (a+j):aw)>127 then Lib.rv cY a (5-(j+1)) (j+1) (n+(gQ cY (a+j):aw)%128*128^j)
       else if(j>0/\gQ cY (a+j)=0)\/n+(gQ cY (a+j):aw)%128*128^j>1000000000 then(0,0,ak)
       else(n+(gQ cY (a+j):aw)%128*128^j,((a+j+1:aF):aw),ai)):=by
      rw[ef];simp only[Lib.rv];rw[bz gh]
     have en:bJ (((a+j:aF):aw)+1)=((a+j+1:aF):aw):=Lib.c5 gh (by omega);simp only[l5,r5,c1,ew,c2,Lib.cF,Lib.dY,eb,em,e7,ep,eq1,eq2,ej,en,au,aM];by_cases hc:(gQ cY (a+j):aw)>127
     ·right;rw[aE hc];exact⟨(j+1,n+(gQ cY (a+j):aw)%128*128^j),⟨by dsimp only;omega,by dsimp only;omega,by dsimp only;omega⟩,by dsimp only;omega,by dsimp only;rw[XV,bz hc],rfl⟩
     ·left;rw[aK hc,ax,XV,bH hc];by_cases hj0:(j:aw)>0
      ·rw[aE hj0,au];by_cases hz:(gQ cY (a+j):aw)=0
       ·rw[aE hz,bz (.inl ⟨by omega,by omega⟩)];rfl
       ·rw[aK hz,ax];by_cases tF:n+(gQ cY (a+j):aw)%128*128^j>1000000000
        ·rw[aE tF,bz (.inr tF)];rfl
        ·rw[aK tF,bH (by omega)];rfl
      ·rw[aK hj0,ax];by_cases tF:n+(gQ cY (a+j):aw)%128*128^j>1000000000
       ·rw[aE tF,bz (.inr tF)];rfl
       ·rw[aK tF,bH (by omega)];rfl
    ·left;have ew:bJ ((a:aw)+(j:aw))=((a+j:aF):aw):=by rw[iI (by omega) (by omega)];omega
     have ef:5-j=(5-(j+1))+1:=by omega
     have XV:Lib.rv cY a (5-j) j n=(0,0,ak):=by rw[ef];simp only[Lib.rv];rw[bH gh]
     simp only[l5,r5,show decide ((j:aw)<5)=ai by simp;omega,ew,Lib.Sv gh,au,ax,XV]
   ·left;have J7:j=5:=by omega
    subst J7;simp only[l5,r5,show decide (((5:aF):aw)<5)=ak from rfl,ax];rfl) 6 (0,0) ⟨by dsimp only;omega,by dsimp only;omega,by dsimp only;decide⟩ (by dsimp only;omega)
  exact this
 ·have e:lz.v gP 0 (cY.size:aw)=false:=by simp[lz.v];omega
  rw[e,bH hn];rfl
end gm

namespace U122
def r3(N:aF)(g k0:vj R)(a:aq)(d:aw)(e:aQ):az R:=bif decide ((a.size:aw)<=20000)then bif !(gm.v a d).2.2 then k0 a d e else bif !lz.v (gm.v a d).1 1 9000 then k0 a d e else bif decide (bJ ((gm.v a d).1+4)>bJ ((a.size:aw)-(gm.v a d).2.1))then k0 a d e else bif g7 (bJ ((gm.v a d).2.1+4)) (bJ (bJ ((gm.v a d).2.1+4)+(gm.v a d).1)) (a.size:aw)then bif u_.c (bO a (bJ ((gm.v a d).2.1+4)).toNat (bJ (bJ ((gm.v a d).2.1+4)+(gm.v a d).1)).toNat)then bif g7 (gm.v a d).2.1 (bJ ((gm.v a d).2.1+4)) (a.size:aw)then bif !List.beq (u_.v (bO a (bJ ((gm.v a d).2.1+4)).toNat (bJ (bJ ((gm.v a d).2.1+4)+(gm.v a d).1)).toNat)).toList (bO a (gm.v a d).2.1.toNat (bJ ((gm.v a d).2.1+4)).toNat).toList then k0 a d e else bif cy (e.length+(aD (aP [.s] 1) 0 [.s (bO a (bJ ((gm.v a d).2.1+4)).toNat (bJ (bJ ((gm.v a d).2.1+4)+(gm.v a d).1)).toNat)]).length) 16 then g a (bJ (bJ ((gm.v a d).2.1+4)+(gm.v a d).1)) (e++aD (aP [.s] 1) 0 [.s (bO a (bJ ((gm.v a d).2.1+4)).toNat (bJ (bJ ((gm.v a d).2.1+4)+(gm.v a d).1)).toNat)])else aj else aj else aj else aj else k0 a d e
def l3(N:aF)(k0:vj R):aF->vj R
 |0=>λ_ _ _=>aj
 |n+1=>r3 N (l3 N k0 n) k0
def b(N:aF)(kr:DB R)(a:aq):az R:=l3 N (λ_ d e=>kr e d) N a 0 (aP [.s] 0)
def vo:=b Lib.cW λr0 r1=>ah (r0,r1)
def c:=λa=>(vo a).isSome
def v:=λa=>(vo a).getD ([],0)
theorem out{x}:∀a,vo a=ah x->c a=ai/\v a=x:=λ_=>Lib.dh
end U122

namespace tc
def b(kr:Mj R)(a:aq)(d:aw):az R:=bif !(gm.v a d).2.2 then kr ⟨#[]⟩ 0 ak else bif decide ((gm.v a d).1>20000)then kr ⟨#[]⟩ 0 ak else bif decide ((gm.v a d).1>bJ ((a.size:aw)-(gm.v a d).2.1))then kr ⟨#[]⟩ 0 ak else bif g7 (gm.v a d).2.1 (bJ ((gm.v a d).2.1+(gm.v a d).1)) (a.size:aw)then kr (bO a (gm.v a d).2.1.toNat (bJ ((gm.v a d).2.1+(gm.v a d).1)).toNat) (bJ ((gm.v a d).2.1+(gm.v a d).1)) ai else aj
def v(cY:aq)(gP:aw):aq×aw×aX:=Lib.ia cY gP
theorem eG(kr:Mj R)(cY:aq)(gP:aw)(f0:D8 cY):b kr cY gP=kr (v cY gP).1 (v cY gP).2.1 (v cY gP).2.2:=Lib.vB f0 gP kr
end tc

namespace vQ
def b(kr:wE R)(a:aq):az R:=bif !(tc.v a 0).2.2 then kr ⟨#[]⟩ 0 0 ⟨#[]⟩ ak else bif !(gm.v a (tc.v a 0).2.1).2.2 then kr ⟨#[]⟩ 0 0 ⟨#[]⟩ ak else bif !(gm.v a (gm.v a (tc.v a 0).2.1).2.1).2.2 then kr ⟨#[]⟩ 0 0 ⟨#[]⟩ ak else bif g7 (gm.v a (gm.v a (tc.v a 0).2.1).2.1).2.1 (a.size:aw) (a.size:aw)then bif !wJ.v (tc.v a 0).1 (gm.v a (tc.v a 0).2.1).1 (gm.v a (gm.v a (tc.v a 0).2.1).2.1).1 (bO a (gm.v a (gm.v a (tc.v a 0).2.1).2.1).2.1.toNat (a.size:aw).toNat)then kr ⟨#[]⟩ 0 0 ⟨#[]⟩ ak else kr (tc.v a 0).1 (gm.v a (tc.v a 0).2.1).1 (gm.v a (gm.v a (tc.v a 0).2.1).2.1).1 (bO a (gm.v a (gm.v a (tc.v a 0).2.1).2.1).2.1.toNat (a.size:aw).toNat) ai else aj
def v(t0:aq):aq×aw×aw×aq×aX:=rJ.v t0
theorem eG(kr:wE R)(t0:aq)(f0:D8 t0):b kr t0=kr (v t0).1 (v t0).2.1 (v t0).2.2.1 (v t0).2.2.2.1 (v t0).2.2.2.2:=by
 have e1:tc.v=Lib.ia:=rfl;have e2:gm.v=Lib.eF:=rfl;have e3:∀a b c d,wJ.v a b c d=nb.v a b c d:=λ_ _ _ _=>rfl;unfold b v rJ.v;simp only[e1,e2,e3,Lib.dY];cases h1:Lib.ia t0 0 with
 |mk k r1=>
  obtain⟨a,ok1⟩:=r1;cases ok1 with
  |false=>rfl
  |true=>
   dsimp only;cases h2:Lib.eF t0 a with
   |mk s r2=>
    obtain⟨x,ok2⟩:=r2;cases ok2 with
    |false=>rfl
    |true=>
     dsimp only;cases h3:Lib.eF t0 x with
     |mk l r3=>
      obtain⟨y,ok3⟩:=r3;cases ok3 with
      |false=>rfl
      |true=>
       obtain⟨r1,r2,r3,r4,r5,r6⟩:=Lib.j6 h3;dsimp only;simp only[a_,ax];rw[Lib.tp (show g7 y (t0.size:aw) (t0.size:aw)=ai by simp[g7];omega)];cases hE:nb.v k s l (t0.extract y.toNat t0.size)with
       |false=>rfl
       |true=>rfl
end vQ

end Go.FG
