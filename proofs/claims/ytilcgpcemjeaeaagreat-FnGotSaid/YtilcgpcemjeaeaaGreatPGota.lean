/- Functions of the program, told as functions of numbers, texts and lists, and what each comes to. No condition but those that each states. -/
import Derived.Test.YtilcgpcemjeaeaaGreatLib
set_option linter.unusedVariables false
set_option linter.unusedSimpArgs false
set_option maxRecDepth 100000
open BitVec renaming toNat->dV,and->jq,ofInt->b_,xor->mf
open Bool renaming cond_eq_ite->cK,true->ai,false->ak,false_eq_true->dv,true_and->bh,not_true->a_,and_self->aM,or_true->J8,and_false->wm,not_false->bR
open ByteArray renaming toList->aC,size->cj,extract->bK
open Go.IntKind renaming i64->ao,wrap->bF,u32->eC,u8->bf
open Go.Op renaming bytesLess->b7
open Int renaming toNat->aY,fdiv->ly,pow->gZ,tmod->cO,tdiv->cQ,tmod_eq_emod_of_nonneg->ig,mul_le_mul_of_nonneg_right->Ds,neg->Kc
open List renaming set->aD,beq->bZ,length->bS,range->cw,range'->mm,all_cons->sU,range'_zero->RJ,range_eq_range'->RK,length_append->bT,length_singleton->bA,take->gW,drop->nb
open Nat renaming sub_zero->yv,lt_irrefl->bm
open Option renaming none->aj,some->ah
open UInt8 renaming ofNat->ay
open _root_ renaming Int->aw,Option->az,ByteArray->aq,Bool->aW,Nat->aF,cond_true->au,cond_false->ax,of_decide_eq_true->cm,decide_eq_decide->ca,decide_true->aN,decide_false->bj,decide_eq_true->aE,if_neg->bH,if_pos->bz,decide_eq_false->aK
namespace Go.FG
variable {R:Type}
abbrev L6(R:Type):=aQ->aw->aw->az R
abbrev pO(R:Type):=aw->aw->aw->az R
abbrev jF(R:Type):=aw->aw->aw->aQ->az R
abbrev Dq(R:Type):=aQ->aw->az R
abbrev sS(R:Type):=aQ->aQ->aQ->aw->az R
abbrev eN(R:Type):=aw->aQ->aQ->aQ->aQ->aw->aQ->aQ->aw->az R
abbrev QE(R:Type):=aw->aQ->aw->aw->az R
abbrev WB(R:Type):=aw->aQ->aw->aw->aQ->az R
abbrev WC(R:Type):=aq->aQ->aw->aw->aQ->az R
abbrev adN(R:Type):=aq->aQ->aw->aw->az R
abbrev adL(R:Type):=aW->aQ->aw->aw->az R
abbrev gY(R:Type):=aw->aw->aw->aw->aQ->aw->aw->aQ->aQ->aQ->aQ->aQ->aQ->aQ->aQ->aQ->aw->aw->aw->aw->aw->aq->aw->aw->aw->aq->aw->aQ->az R
abbrev iH(R:Type):=aw->aw->aq->aw->aQ->aQ->aw->aw->aQ->aQ->aQ->aQ->aQ->aQ->aQ->aQ->aQ->az R
abbrev q_(R:Type):=aw->aQ->aw->aw->aw->az R
abbrev oW(R:Type):=aw->aQ->aw->aw->aw->aQ->az R
abbrev Ka(R:Type):=aQ->aq->aW->aw->az R
abbrev Fj(R:Type):=aW->aw->aw->aQ->aw->az R
abbrev J9(R:Type):=aW->aw->aQ->aw->az R
abbrev yA(R:Type):=aW->aw->aQ->aQ->aQ->aw->aQ->az R
abbrev g_(R:Type):=aW->aw->aw->aQ->aQ->aQ->aQ->aw->aQ->aQ->aw->az R
abbrev lF(R:Type):=aw->aW->aw->aw->aQ->aQ->aQ->aQ->aw->aQ->aQ->aw->aq->aq->aw->aw->aw->az R
abbrev mi(R:Type):=aq->aW->aw->aw->aQ->aQ->aQ->aQ->aw->aQ->aQ->aw->aq->aw->aw->aq->az R
abbrev wx(R:Type):=aq->aw->aw->aq->aW->az R
abbrev yC(R:Type):=aw->aq->aw->aw->az R
abbrev Ea(R:Type):=aw->aq->aw->az R
abbrev ua(R:Type):=aw->aw->aw->aw->aQ->az R
abbrev Fs(R:Type):=aq->aw->aw->aw->aQ->az R
abbrev yF(R:Type):=aQ->aq->aw->aQ->az R
abbrev Ft(R:Type):=aq->aw->aw->aQ->aw->az R
abbrev L7(R:Type):=aQ->aQ->aQ->aw->aq->az R
abbrev kX(R:Type):=aQ->aw->aw->aq->aw->aw->aw->aq->aw->aQ->az R
abbrev gp(R:Type):=aq->aW->aw->aw->aQ->aQ->aQ->aQ->aw->aQ->aQ->aw->aw->aw->aw->aw->aw->aw->aw->aq->aw->aw->aw->aq->aw->aQ->aQ->aQ->aQ->aQ->aQ->az R
abbrev iK(R:Type):=aw->aq->aw->aw->aw->aQ->aQ->aQ->aQ->aw->aQ->aQ->aw->aw->aw->aw->aw->aw->aw->aQ->aQ->aQ->aQ->aQ->aQ->az R
abbrev wv(R:Type):=aw->aQ->aQ->aQ->aQ->aw->aQ->aQ->aw->aw->az R
abbrev L5(R:Type):=aw->aq->aQ->az R
abbrev Fk(R:Type):=aW->aw->aw->aq->aQ->az R
abbrev Fm(R:Type):=aw->aq->aQ->aW->az R
abbrev jE(R:Type):=aw->aw->aw->aw->aw->aw->aQ->aQ->aQ->aQ->aQ->aQ->az R
abbrev kV(R:Type):=aw->aQ->aQ->aQ->aQ->aw->aQ->aQ->aw->aW->az R
abbrev oN(R:Type):=aQ->aw->aq->aw->aw->aq->aQ->az R
abbrev Oj(R:Type):=aw->aQ->az R
abbrev yG(R:Type):=aq->aW->az R
abbrev HV(R:Type):=aQ->aW->az R
abbrev QD(R:Type):=aW->aw->aQ->az R
abbrev mj(R:Type):=aq->aw->aw->aQ->az R
abbrev lO(R:Type):=aw->aQ->aq->aq->aw->aQ->az R
abbrev rh(R:Type):=aw->aQ->aq->aq->aw->az R
abbrev u6(R:Type):=aq->aw->aQ->az R
abbrev vB(R:Type):=aq->aw->aQ->aQ->az R
abbrev yE(R:Type):=aQ->aw->aw->aQ->az R
abbrev nZ(R:Type):=aw->aw->aQ->aQ->aQ->aQ->aw->aQ->aQ->aw->aQ->aQ->aQ->az R
abbrev jb(R:Type):=aw->aw->aw->aQ->aQ->aQ->aQ->aw->aQ->aQ->aw->aw->aw->aw->aw->aw->aw->aQ->aQ->aQ->aQ->aQ->aQ->az R
abbrev BA(R:Type):=aQ->aw->aQ->az R
abbrev vx(R:Type):=aQ->aw->aQ->aQ->az R
abbrev vA(R:Type):=aq->aw->aw->aw->aW->aw->aw->aw->az R
abbrev L4(R:Type):=aw->aw->aW->az R
abbrev L8(R:Type):=aq->aw->aW->az R
abbrev QF(R:Type):=aw->aQ->aQ->az R
abbrev AR(R:Type):=aQ->aW->aq->aw->aQ->az R
abbrev HW(R:Type):=aQ->aW->aq->aw->aQ->aQ->az R
abbrev mM(R:Type):=aw->aQ->aw->aw->aw->aw->aw->aw->aw->aQ->aQ->aQ->aQ->aQ->aQ->az R
abbrev ix(R:Type):=aw->aw->aw->aw->aQ->aQ->aQ->aQ->aQ->aQ->aQ->aQ->aQ->aQ->aQ->az R
abbrev oX(R:Type):=aw->aQ->aQ->aQ->aQ->aw->aQ->aQ->aw->aQ->aQ->aQ->az R
abbrev kE(R:Type):=aw->aw->aQ->aw->aw->aw->aw->aw->aQ->aQ->aQ->aQ->aQ->aQ->aQ->aQ->aQ->aQ->az R
abbrev adM(R:Type):=aQ->aQ->aw->aw->az R
abbrev kW(R:Type):=aQ->aw->aw->aw->aw->az R
abbrev oY(R:Type):=aQ->aw->aw->aw->aw->aQ->az R
abbrev Fp(R:Type):=aQ->aw->aQ->aw->aw->az R
abbrev hZ(R:Type):=aQ->aq->aw->aw->aw->az R
abbrev qZ(R:Type):=aW->aQ->aQ->aw->aw->aQ->aw->aw->aQ->aw->az R
abbrev Bw(R:Type):=aW->aQ->aw->aw->aQ->aw->az R
abbrev vq(R:Type):=aW->aw->aw->aQ->aQ->aQ->aw->aQ->az R
abbrev eR(R:Type):=aW->aQ->aw->aw->aw->aQ->aQ->aQ->aQ->aw->aQ->aQ->aw->az R
abbrev p_(R:Type):=aQ->aw->aq->aw->aw->aw->aq->aw->aw->aw->aw->az R
abbrev vt(R:Type):=aF->aw->aw->aw->aw->aw->aw->aQ->az R
abbrev BC(R:Type):=aq->aw->aw->aw->aw->aQ->az R
abbrev Fu(R:Type):=aq->aw->aQ->aw->aw->az R
abbrev lG(R:Type):=aw->aw->aw->aw->aw->aq->aw->aw->aw->aq->aw->aQ->aQ->aQ->aQ->aQ->aQ->az R
abbrev yB(R:Type):=aW->aQ->aw->aw->aw->aq->aQ->az R
abbrev nY(R:Type):=aw->aw->aw->aw->aw->aw->aw->aQ->aQ->aQ->aQ->aQ->aQ->az R
abbrev Bz(R:Type):=aw->aq->aw->aw->aq->aQ->az R
abbrev Fl(R:Type):=aW->aQ->aw->aw->aQ->az R
abbrev Fo(R:Type):=aw->aq->aq->aw->aQ->az R
abbrev BB(R:Type):=aQ->aw->aQ->aw->aw->aQ->az R
abbrev Ao(R:Type):=aW->aw->aQ->aQ->aQ->aQ->aw->aQ->aQ->aw->aQ->aQ->aQ->az R
abbrev Fq(R:Type):=aQ->aQ->aw->aw->aQ->az R
abbrev yH(R:Type):=aq->aw->aw->aw->aW->aw->aw->az R
abbrev J_(R:Type):=aw->aw->aQ->aQ->az R
abbrev Bx(R:Type):=aW->aq->aQ->aw->aw->aQ->az R
abbrev mh(R:Type):=aw->aQ->aw->aw->aw->aw->aw->aw->aw->aw->aQ->aQ->aQ->aQ->aQ->aQ->az R
abbrev mg(R:Type):=aw->aw->aw->aw->aw->aQ->aQ->aQ->aQ->aQ->aQ->aQ->aQ->aQ->aQ->aQ->az R
abbrev kF(R:Type):=aQ->aw->aw->aw->aw->aw->aw->aw->aw->aQ->aQ->aQ->aQ->aQ->aQ->aQ->aQ->aQ->az R
abbrev vu(R:Type):=aQ->aW->aQ->aw->aw->aw->aw->aw->az R
abbrev Ap(R:Type):=aw->aQ->aQ->aQ->aQ->aw->aQ->aQ->aw->aQ->aQ->aQ->aW->az R
abbrev gX(R:Type):=aW->aQ->aw->aw->aw->aQ->aQ->aQ->aQ->aw->aQ->aQ->aw->aQ->aQ->aQ->az R
abbrev vv(R:Type):=aQ->aw->aw->aw->aq->aw->aw->aq->az R
abbrev nk(R:Type):=aW->aw->aw->aw->aw->aQ->aQ->aQ->aQ->aQ->aQ->aQ->aQ->aQ->az R
abbrev yD(R:Type):=aQ->aW->aw->aq->aw->aw->aq->az R
abbrev np(R:Type):=aW->aw->aw->aQ->aQ->aQ->aQ->aw->aQ->aQ->aw->aQ->aQ->aQ->az R

namespace U8
def b(kr:aW->az R)(a:aQ):az R:=kr (decide ((a.length:aw)>1048576))
def v(a0:aQ):aW:=(decide ((a0.length:aw)>1048576))
theorem eu(kr:aW->az R)(a0:aQ):b kr a0=kr (v a0):=by first|rfl|(unfold b v;simp only[cK];(repeat' split)<;>rfl)
end U8

namespace Qd
def r3(N:aF)(g k0:L6 R)(a:aQ)(d e:aw):az R:=bif decide (e<(a.length:aw))then bif decide (e<4000)then bif decide (0<=e)&&decide (e<(a.length:aw))then g a (bJ (↑(dV (jq (b_ 64 (bJ (bJ (bJ (d*131)+bJ (bE (ar a e.toNat 0)))+7))) (b_ 64 1073741823))):aw)) (bJ (e+1))else aj else k0 a d e else k0 a d e
def l3(N:aF)(k0:L6 R):aF->L6 R
 |0=>λ_ _ _=>aj
 |n+1=>r3 N (l3 N k0 n) k0
def b(N:aF)(kr:L6 R)(a:aQ):az R:=l3 N (λd e _=>kr d 0 e) N a (bJ (34901+(a.length:aw))) 0
def vo:=b Lib.cZ λr0 r1 r2=>ah (r0,r1,r2)
def c:=λa=>(vo a).isSome
def v:=λa=>(vo a).getD ([],0,0)
theorem out{x}:∀a,vo a=ah x->c a=ai/\v a=x:=λ_=>Lib.de
end Qd

namespace Gi
def r3(N:aF)(g:pO R)(g1:jF R)(k0:pO R)(k1:jF R)(a d e:aw):az R:=bif decide (a<3)then g1 (bJ (a+1)) d e ([]++aD (aP [Ck.l 3] 1) 0 [CV.l 3 (aP [Ck.i ao] (aY 16))])else k0 a d e
def zG(N:aF)(g:pO R)(g1:jF R)(k0:pO R)(k1:jF R)(a d e:aw)(f:aQ):az R:=bif decide (a<3)then bif cC (f.length+(aD (aP [Ck.l 3] 1) 0 [CV.l 3 (aP [Ck.i ao] (aY 16))]).length) 24 then g1 (bJ (a+1)) d e (f++aD (aP [Ck.l 3] 1) 0 [CV.l 3 (aP [Ck.i ao] (aY 16))])else aj else k1 a d e f
def sG(N:aF)(k0:pO R)(k1:jF R):aF->jF R
 |0=>λ_ _ _ _=>aj
 |n+1=>zG N (λx0 x1 x2=>aj) (sG N k0 k1 n) k0 k1
def l3(N:aF)(k0:pO R)(k1:jF R):aF->pO R
 |0=>λ_ _ _=>aj
 |n+1=>r3 N (l3 N k0 k1 n) (sG N k0 k1 n) k0 k1
def b(N:aF)(kr:Dq R):az R:=l3 N (λ_ _ a=>kr [] a) (λ_ _ a d=>kr d a) N 0 0 0
def vo:=b Lib.cZ λr0 r1=>ah (r0,r1)
def c:=vo.isSome
def v:=vo.getD ([],0)
end Gi

namespace WO
def b(kr:sS R):az R:=kr [] [] ([]++aD (aP [Ck.l 3] 1) 0 [CV.l 3 (aP [Ck.i ao] (aY 16))]++aD (aP [Ck.l 3] 1) 0 [CV.l 3 (aP [Ck.i ao] (aY 16))]++aD (aP [Ck.l 3] 1) 0 [CV.l 3 (aP [Ck.i ao] (aY 16))]) 0
def v:aQ×aQ×aQ×aw:=([],[],[]++aD (aP [Ck.l 3] 1) 0 [CV.l 3 (aP [Ck.i ao] (aY 16))]++aD (aP [Ck.l 3] 1) 0 [CV.l 3 (aP [Ck.i ao] (aY 16))]++aD (aP [Ck.l 3] 1) 0 [CV.l 3 (aP [Ck.i ao] (aY 16))],0)
theorem eu(kr:sS R):b kr=kr v.1 v.2.1 v.2.2.1 v.2.2.2:=by first|rfl|(unfold b v;simp only[cK];(repeat' split)<;>rfl)
end WO

namespace U57
def b(kr:eN R):az R:=kr 1 [] [] [] ([]++aD (aP [Ck.l 3] 1) 0 [CV.l 3 (aP [Ck.i ao] (aY 16))]++aD (aP [Ck.l 3] 1) 0 [CV.l 3 (aP [Ck.i ao] (aY 16))]++aD (aP [Ck.l 3] 1) 0 [CV.l 3 (aP [Ck.i ao] (aY 16))]) 0 [] [] 0
def v:aw×aQ×aQ×aQ×aQ×aw×aQ×aQ×aw:=(1,[],[],[],[]++aD (aP [Ck.l 3] 1) 0 [CV.l 3 (aP [Ck.i ao] (aY 16))]++aD (aP [Ck.l 3] 1) 0 [CV.l 3 (aP [Ck.i ao] (aY 16))]++aD (aP [Ck.l 3] 1) 0 [CV.l 3 (aP [Ck.i ao] (aY 16))],0,[],[],0)
theorem eu(kr:eN R):b kr=kr v.1 v.2.1 v.2.2.1 v.2.2.2.1 v.2.2.2.2.1 v.2.2.2.2.2.1 v.2.2.2.2.2.2.1 v.2.2.2.2.2.2.2.1 v.2.2.2.2.2.2.2.2:=by first|rfl|(unfold b v;simp only[cK];(repeat' split)<;>rfl)
end U57

namespace dr
def b(kr:QE R)(a:aQ)(d e:aw):az R:=bif decide (d<(a.length:aw))then bif decide (0<=d)&&decide (d<(a.length:aw))then kr (bJ (↑(dV (jq (b_ 64 (bJ (bJ (↑(dV (jq (b_ 64 (bJ (↑(dV (mf (b_ 64 (ly (bJ (bJ (e*6364136223846793005)+1442695040888963407)) (gZ 2 (if aY 33<=64 then aY 33 else 64)))) (b_ 64 (ly (bJ (bJ (e*6364136223846793005)+1442695040888963407)) (gZ 2 (if aY 45<=64 then aY 45 else 64)))))):aw))) (b_ 64 255))):aw)+bJ (bE (ar a d.toNat 0))))) (b_ 64 255))):aw)) a (bJ (d+1)) (bJ (bJ (e*6364136223846793005)+1442695040888963407))else aj else kr (bJ (↑(dV (jq (b_ 64 (bJ (↑(dV (mf (b_ 64 (ly (bJ (bJ (e*6364136223846793005)+1442695040888963407)) (gZ 2 (if aY 33<=64 then aY 33 else 64)))) (b_ 64 (ly (bJ (bJ (e*6364136223846793005)+1442695040888963407)) (gZ 2 (if aY 45<=64 then aY 45 else 64)))))):aw))) (b_ 64 255))):aw)) a d (bJ (bJ (e*6364136223846793005)+1442695040888963407))
def vo:=b λr0 r1 r2 r3=>ah (r0,r1,r2,r3)
def c:=λa d e=>(vo a d e).isSome
def v:=λa d e=>(vo a d e).getD (0,[],0,0)
theorem out{x}:∀a d e,vo a d e=ah x->c a d e=ai/\v a d e=x:=λ_ _ _=>Lib.de
end dr

namespace nX
def b(kr:QE R)(a:aQ)(d e f:aw):az R:=bif decide (f<=0)then kr 0 a d e else bif decide (f<=256)then bif dr.c a d e then bif !decide (f=0)then kr (cO (dr.v a d e).1 f) (dr.v a d e).2.1 (dr.v a d e).2.2.1 (dr.v a d e).2.2.2 else aj else aj else bif dr.c a d e then bif dr.c (dr.v a d e).2.1 (dr.v a d e).2.2.1 (dr.v a d e).2.2.2 then bif dr.c (dr.v (dr.v a d e).2.1 (dr.v a d e).2.2.1 (dr.v a d e).2.2.2).2.1 (dr.v (dr.v a d e).2.1 (dr.v a d e).2.2.1 (dr.v a d e).2.2.2).2.2.1 (dr.v (dr.v a d e).2.1 (dr.v a d e).2.2.1 (dr.v a d e).2.2.2).2.2.2 then bif dr.c (dr.v (dr.v (dr.v a d e).2.1 (dr.v a d e).2.2.1 (dr.v a d e).2.2.2).2.1 (dr.v (dr.v a d e).2.1 (dr.v a d e).2.2.1 (dr.v a d e).2.2.2).2.2.1 (dr.v (dr.v a d e).2.1 (dr.v a d e).2.2.1 (dr.v a d e).2.2.2).2.2.2).2.1 (dr.v (dr.v (dr.v a d e).2.1 (dr.v a d e).2.2.1 (dr.v a d e).2.2.2).2.1 (dr.v (dr.v a d e).2.1 (dr.v a d e).2.2.1 (dr.v a d e).2.2.2).2.2.1 (dr.v (dr.v a d e).2.1 (dr.v a d e).2.2.1 (dr.v a d e).2.2.2).2.2.2).2.2.1 (dr.v (dr.v (dr.v a d e).2.1 (dr.v a d e).2.2.1 (dr.v a d e).2.2.2).2.1 (dr.v (dr.v a d e).2.1 (dr.v a d e).2.2.1 (dr.v a d e).2.2.2).2.2.1 (dr.v (dr.v a d e).2.1 (dr.v a d e).2.2.1 (dr.v a d e).2.2.2).2.2.2).2.2.2 then bif !decide (f=0)then kr (cO (bJ (bJ (bJ (bJ ((dr.v a d e).1*16777216)+bJ ((dr.v (dr.v a d e).2.1 (dr.v a d e).2.2.1 (dr.v a d e).2.2.2).1*65536))+bJ ((dr.v (dr.v (dr.v a d e).2.1 (dr.v a d e).2.2.1 (dr.v a d e).2.2.2).2.1 (dr.v (dr.v a d e).2.1 (dr.v a d e).2.2.1 (dr.v a d e).2.2.2).2.2.1 (dr.v (dr.v a d e).2.1 (dr.v a d e).2.2.1 (dr.v a d e).2.2.2).2.2.2).1*256))+(dr.v (dr.v (dr.v (dr.v a d e).2.1 (dr.v a d e).2.2.1 (dr.v a d e).2.2.2).2.1 (dr.v (dr.v a d e).2.1 (dr.v a d e).2.2.1 (dr.v a d e).2.2.2).2.2.1 (dr.v (dr.v a d e).2.1 (dr.v a d e).2.2.1 (dr.v a d e).2.2.2).2.2.2).2.1 (dr.v (dr.v (dr.v a d e).2.1 (dr.v a d e).2.2.1 (dr.v a d e).2.2.2).2.1 (dr.v (dr.v a d e).2.1 (dr.v a d e).2.2.1 (dr.v a d e).2.2.2).2.2.1 (dr.v (dr.v a d e).2.1 (dr.v a d e).2.2.1 (dr.v a d e).2.2.2).2.2.2).2.2.1 (dr.v (dr.v (dr.v a d e).2.1 (dr.v a d e).2.2.1 (dr.v a d e).2.2.2).2.1 (dr.v (dr.v a d e).2.1 (dr.v a d e).2.2.1 (dr.v a d e).2.2.2).2.2.1 (dr.v (dr.v a d e).2.1 (dr.v a d e).2.2.1 (dr.v a d e).2.2.2).2.2.2).2.2.2).1)) f) (dr.v (dr.v (dr.v (dr.v a d e).2.1 (dr.v a d e).2.2.1 (dr.v a d e).2.2.2).2.1 (dr.v (dr.v a d e).2.1 (dr.v a d e).2.2.1 (dr.v a d e).2.2.2).2.2.1 (dr.v (dr.v a d e).2.1 (dr.v a d e).2.2.1 (dr.v a d e).2.2.2).2.2.2).2.1 (dr.v (dr.v (dr.v a d e).2.1 (dr.v a d e).2.2.1 (dr.v a d e).2.2.2).2.1 (dr.v (dr.v a d e).2.1 (dr.v a d e).2.2.1 (dr.v a d e).2.2.2).2.2.1 (dr.v (dr.v a d e).2.1 (dr.v a d e).2.2.1 (dr.v a d e).2.2.2).2.2.2).2.2.1 (dr.v (dr.v (dr.v a d e).2.1 (dr.v a d e).2.2.1 (dr.v a d e).2.2.2).2.1 (dr.v (dr.v a d e).2.1 (dr.v a d e).2.2.1 (dr.v a d e).2.2.2).2.2.1 (dr.v (dr.v a d e).2.1 (dr.v a d e).2.2.1 (dr.v a d e).2.2.2).2.2.2).2.2.2).2.1 (dr.v (dr.v (dr.v (dr.v a d e).2.1 (dr.v a d e).2.2.1 (dr.v a d e).2.2.2).2.1 (dr.v (dr.v a d e).2.1 (dr.v a d e).2.2.1 (dr.v a d e).2.2.2).2.2.1 (dr.v (dr.v a d e).2.1 (dr.v a d e).2.2.1 (dr.v a d e).2.2.2).2.2.2).2.1 (dr.v (dr.v (dr.v a d e).2.1 (dr.v a d e).2.2.1 (dr.v a d e).2.2.2).2.1 (dr.v (dr.v a d e).2.1 (dr.v a d e).2.2.1 (dr.v a d e).2.2.2).2.2.1 (dr.v (dr.v a d e).2.1 (dr.v a d e).2.2.1 (dr.v a d e).2.2.2).2.2.2).2.2.1 (dr.v (dr.v (dr.v a d e).2.1 (dr.v a d e).2.2.1 (dr.v a d e).2.2.2).2.1 (dr.v (dr.v a d e).2.1 (dr.v a d e).2.2.1 (dr.v a d e).2.2.2).2.2.1 (dr.v (dr.v a d e).2.1 (dr.v a d e).2.2.1 (dr.v a d e).2.2.2).2.2.2).2.2.2).2.2.1 (dr.v (dr.v (dr.v (dr.v a d e).2.1 (dr.v a d e).2.2.1 (dr.v a d e).2.2.2).2.1 (dr.v (dr.v a d e).2.1 (dr.v a d e).2.2.1 (dr.v a d e).2.2.2).2.2.1 (dr.v (dr.v a d e).2.1 (dr.v a d e).2.2.1 (dr.v a d e).2.2.2).2.2.2).2.1 (dr.v (dr.v (dr.v a d e).2.1 (dr.v a d e).2.2.1 (dr.v a d e).2.2.2).2.1 (dr.v (dr.v a d e).2.1 (dr.v a d e).2.2.1 (dr.v a d e).2.2.2).2.2.1 (dr.v (dr.v a d e).2.1 (dr.v a d e).2.2.1 (dr.v a d e).2.2.2).2.2.2).2.2.1 (dr.v (dr.v (dr.v a d e).2.1 (dr.v a d e).2.2.1 (dr.v a d e).2.2.2).2.1 (dr.v (dr.v a d e).2.1 (dr.v a d e).2.2.1 (dr.v a d e).2.2.2).2.2.1 (dr.v (dr.v a d e).2.1 (dr.v a d e).2.2.1 (dr.v a d e).2.2.2).2.2.2).2.2.2).2.2.2 else aj else aj else aj else aj else aj
def vo:=b λr0 r1 r2 r3=>ah (r0,r1,r2,r3)
def c:=λa d e f=>(vo a d e f).isSome
def v:=λa d e f=>(vo a d e f).getD (0,[],0,0)
theorem out{x}:∀a d e f,vo a d e f=ah x->c a d e f=ai/\v a d e f=x:=λ_ _ _ _=>Lib.de
end nX

namespace zW
def b(kr:WB R)(a:aQ)(d e:aw)(f:aQ):az R:=bif nX.c a d e (f.length:aw)then bif decide (0<=(nX.v a d e (f.length:aw)).1)&&decide ((nX.v a d e (f.length:aw)).1<(f.length:aw))then kr (bE (ar f (nX.v a d e (f.length:aw)).1.toNat 0)) (nX.v a d e (f.length:aw)).2.1 (nX.v a d e (f.length:aw)).2.2.1 (nX.v a d e (f.length:aw)).2.2.2 f else aj else aj
def vo:=b λr0 r1 r2 r3 r4=>ah (r0,r1,r2,r3,r4)
def c:=λa d e f=>(vo a d e f).isSome
def v:=λa d e f=>(vo a d e f).getD (0,[],0,0,[])
theorem out{x}:∀a d e f,vo a d e f=ah x->c a d e f=ai/\v a d e f=x:=λ_ _ _ _=>Lib.de
end zW

namespace pI
def b(kr:WC R)(a:aQ)(d e:aw)(f:aQ):az R:=bif nX.c a d e (f.length:aw)then bif decide (0<=(nX.v a d e (f.length:aw)).1)&&decide ((nX.v a d e (f.length:aw)).1<(f.length:aw))then kr (bu (ar f (nX.v a d e (f.length:aw)).1.toNat 0)) (nX.v a d e (f.length:aw)).2.1 (nX.v a d e (f.length:aw)).2.2.1 (nX.v a d e (f.length:aw)).2.2.2 f else aj else aj
def vo:=b λr0 r1 r2 r3 r4=>ah (r0,r1,r2,r3,r4)
def c:=λa d e f=>(vo a d e f).isSome
def v:=λa d e f=>(vo a d e f).getD (⟨#[]⟩,[],0,0,[])
theorem out{x}:∀a d e f,vo a d e f=ah x->c a d e f=ai/\v a d e f=x:=λ_ _ _ _=>Lib.de
end pI

namespace uR
def b(kr:adN R)(a:aQ)(d e:aw):az R:=bif pI.c a d e (aD (aD (aD (aD (aD (aD (aD (aD (aP [.s] 8) 0 [.s {data:= #[ay 47,ay 97]}]) 1 [.s {data:= #[ay 47,ay 98]}]) 2 [.s {data:= #[ay 47,ay 99]}]) 3 [.s {data:= #[ay 47,ay 100]}]) 4 [.s {data:= #[ay 47,ay 101]}]) 5 [.s {data:= #[ay 47,ay 102]}]) 6 [.s {data:= #[ay 47,ay 103]}]) 7 [.s {data:= #[ay 47,ay 104]}])then kr (pI.v a d e (aD (aD (aD (aD (aD (aD (aD (aD (aP [.s] 8) 0 [.s {data:= #[ay 47,ay 97]}]) 1 [.s {data:= #[ay 47,ay 98]}]) 2 [.s {data:= #[ay 47,ay 99]}]) 3 [.s {data:= #[ay 47,ay 100]}]) 4 [.s {data:= #[ay 47,ay 101]}]) 5 [.s {data:= #[ay 47,ay 102]}]) 6 [.s {data:= #[ay 47,ay 103]}]) 7 [.s {data:= #[ay 47,ay 104]}])).1 (pI.v a d e (aD (aD (aD (aD (aD (aD (aD (aD (aP [.s] 8) 0 [.s {data:= #[ay 47,ay 97]}]) 1 [.s {data:= #[ay 47,ay 98]}]) 2 [.s {data:= #[ay 47,ay 99]}]) 3 [.s {data:= #[ay 47,ay 100]}]) 4 [.s {data:= #[ay 47,ay 101]}]) 5 [.s {data:= #[ay 47,ay 102]}]) 6 [.s {data:= #[ay 47,ay 103]}]) 7 [.s {data:= #[ay 47,ay 104]}])).2.1 (pI.v a d e (aD (aD (aD (aD (aD (aD (aD (aD (aP [.s] 8) 0 [.s {data:= #[ay 47,ay 97]}]) 1 [.s {data:= #[ay 47,ay 98]}]) 2 [.s {data:= #[ay 47,ay 99]}]) 3 [.s {data:= #[ay 47,ay 100]}]) 4 [.s {data:= #[ay 47,ay 101]}]) 5 [.s {data:= #[ay 47,ay 102]}]) 6 [.s {data:= #[ay 47,ay 103]}]) 7 [.s {data:= #[ay 47,ay 104]}])).2.2.1 (pI.v a d e (aD (aD (aD (aD (aD (aD (aD (aD (aP [.s] 8) 0 [.s {data:= #[ay 47,ay 97]}]) 1 [.s {data:= #[ay 47,ay 98]}]) 2 [.s {data:= #[ay 47,ay 99]}]) 3 [.s {data:= #[ay 47,ay 100]}]) 4 [.s {data:= #[ay 47,ay 101]}]) 5 [.s {data:= #[ay 47,ay 102]}]) 6 [.s {data:= #[ay 47,ay 103]}]) 7 [.s {data:= #[ay 47,ay 104]}])).2.2.2.1 else aj
def vo:=b λr0 r1 r2 r3=>ah (r0,r1,r2,r3)
def c:=λa d e=>(vo a d e).isSome
def v:=λa d e=>(vo a d e).getD (⟨#[]⟩,[],0,0)
theorem out{x}:∀a d e,vo a d e=ah x->c a d e=ai/\v a d e=x:=λ_ _ _=>Lib.de
end uR

namespace HI
def b(kr:adL R)(a:aQ)(d e f:aw):az R:=bif nX.c a d e f then kr (decide ((nX.v a d e f).1=0)) (nX.v a d e f).2.1 (nX.v a d e f).2.2.1 (nX.v a d e f).2.2.2 else aj
def vo:=b λr0 r1 r2 r3=>ah (r0,r1,r2,r3)
def c:=λa d e f=>(vo a d e f).isSome
def v:=λa d e f=>(vo a d e f).getD (ak,[],0,0)
theorem out{x}:∀a d e f,vo a d e f=ah x->c a d e f=ai/\v a d e f=x:=λ_ _ _ _=>Lib.de
end HI

namespace Km
def r4(N:aF)(g k0:gY R)(a d e f:aw)(h:aQ)(i j:aw)(l m o p q r s t u:aQ)(w y z α xa:aw)(xb:aq)(xc xd xe:aw)(xf:aq)(xg:aw)(xh:aQ):az R:=bif decide (f<(q.length:aw))then bif decide (0<=f)&&decide (f<(q.length:aw))then bif decide (bE (ar q f.toNat 2)=1)then bif cC (xh.length+(aD (aP [Ck.i ao] 1) 0 [.i .i64 f]).length) 8 then g a d e (bJ (f+1)) h i j l m o p q r s t u w y z α xa xb xc xd xe xf xg (xh++aD (aP [Ck.i ao] 1) 0 [.i .i64 f])else aj else g a d e (bJ (f+1)) h i j l m o p q r s t u w y z α xa xb xc xd xe xf xg xh else aj else k0 a d e f h i j l m o p q r s t u w y z α xa xb xc xd xe xf xg xh
def l4(N:aF)(k0:gY R):aF->gY R
 |0=>λ_ _ _ _ _ _ _ _ _ _ _ _ _ _ _ _ _ _ _ _ _ _ _ _ _ _ _ _=>aj
 |n+1=>r4 N (l4 N k0 n) k0
abbrev h0{R:Type}(kr:iH R)(w:aQ)(y z:aw)(α xa xb xc xd xe xf xg xh:aQ)(xi:aw)(xk:aq)(xl:aw)(xm:aQ):az R:=bif nX.c w y z 3 then Lib.lt (nX.v w y z 3) λxn=>bif decide ((xm.length:aw)>0)then bif HI.c xn.2.1 xn.2.2.1 xn.2.2.2 6 then Lib.lt (HI.v xn.2.1 xn.2.2.1 xn.2.2.2 6) λxo=>bif !xo.1 then bif nX.c xo.2.1 xo.2.2.1 xo.2.2.2 (xm.length:aw)then Lib.lt (nX.v xo.2.1 xo.2.2.1 xo.2.2.2 (xm.length:aw)) λxp=>bif decide (0<=xp.1)&&decide (xp.1<(xm.length:aw))then bif decide (xi=2)then bif pI.c xp.2.1 xp.2.2.1 xp.2.2.2 (aD (aD (aD (aD (aP [.s] 4) 0 [.s {data:= #[ay 120]}]) 1 [.s {data:= #[ay 104,ay 101,ay 108,ay 108,ay 111]}]) 2 [.s {data:= #[ay 109,ay 111,ay 114,ay 101,ay 32]}]) 3 [.s {data:= #[ay 48,ay 49,ay 50,ay 51,ay 52,ay 53,ay 54,ay 55,ay 56,ay 57]}])then Lib.lt (pI.v xp.2.1 xp.2.2.1 xp.2.2.2 (aD (aD (aD (aD (aP [.s] 4) 0 [.s {data:= #[ay 120]}]) 1 [.s {data:= #[ay 104,ay 101,ay 108,ay 108,ay 111]}]) 2 [.s {data:= #[ay 109,ay 111,ay 114,ay 101,ay 32]}]) 3 [.s {data:= #[ay 48,ay 49,ay 50,ay 51,ay 52,ay 53,ay 54,ay 55,ay 56,ay 57]}])) λxq=>bif decide (xi=3)then bif zW.c xq.2.1 xq.2.2.1 xq.2.2.2.1 (aD (aD (aD (aD (aD (aP [Ck.i ao] 5) 0 [.i .i64 0]) 1 [.i .i64 3]) 2 [.i .i64 20]) 3 [.i .i64 60]) 4 [.i .i64 60])then Lib.lt (zW.v xq.2.1 xq.2.2.1 xq.2.2.2.1 (aD (aD (aD (aD (aD (aP [Ck.i ao] 5) 0 [.i .i64 0]) 1 [.i .i64 3]) 2 [.i .i64 20]) 3 [.i .i64 60]) 4 [.i .i64 60])) λxr=>kr xi (bE (ar xm xp.1.toNat 0)) xq.1 xr.1 [] xr.2.1 xr.2.2.1 xr.2.2.2.1 α xa xb xc xd xe xf xg xh else aj else kr xi (bE (ar xm xp.1.toNat 0)) xq.1 xl [] xq.2.1 xq.2.2.1 xq.2.2.2.1 α xa xb xc xd xe xf xg xh else aj else bif decide (xi=3)then bif zW.c xp.2.1 xp.2.2.1 xp.2.2.2 (aD (aD (aD (aD (aD (aP [Ck.i ao] 5) 0 [.i .i64 0]) 1 [.i .i64 3]) 2 [.i .i64 20]) 3 [.i .i64 60]) 4 [.i .i64 60])then Lib.lt (zW.v xp.2.1 xp.2.2.1 xp.2.2.2 (aD (aD (aD (aD (aD (aP [Ck.i ao] 5) 0 [.i .i64 0]) 1 [.i .i64 3]) 2 [.i .i64 20]) 3 [.i .i64 60]) 4 [.i .i64 60])) λxq=>kr xi (bE (ar xm xp.1.toNat 0)) xk xq.1 [] xq.2.1 xq.2.2.1 xq.2.2.2.1 α xa xb xc xd xe xf xg xh else aj else kr xi (bE (ar xm xp.1.toNat 0)) xk xl [] xp.2.1 xp.2.2.1 xp.2.2.2 α xa xb xc xd xe xf xg xh else aj else aj else bif decide (xi=2)then bif pI.c xo.2.1 xo.2.2.1 xo.2.2.2 (aD (aD (aD (aD (aP [.s] 4) 0 [.s {data:= #[ay 120]}]) 1 [.s {data:= #[ay 104,ay 101,ay 108,ay 108,ay 111]}]) 2 [.s {data:= #[ay 109,ay 111,ay 114,ay 101,ay 32]}]) 3 [.s {data:= #[ay 48,ay 49,ay 50,ay 51,ay 52,ay 53,ay 54,ay 55,ay 56,ay 57]}])then Lib.lt (pI.v xo.2.1 xo.2.2.1 xo.2.2.2 (aD (aD (aD (aD (aP [.s] 4) 0 [.s {data:= #[ay 120]}]) 1 [.s {data:= #[ay 104,ay 101,ay 108,ay 108,ay 111]}]) 2 [.s {data:= #[ay 109,ay 111,ay 114,ay 101,ay 32]}]) 3 [.s {data:= #[ay 48,ay 49,ay 50,ay 51,ay 52,ay 53,ay 54,ay 55,ay 56,ay 57]}])) λxp=>bif decide (xi=3)then bif zW.c xp.2.1 xp.2.2.1 xp.2.2.2.1 (aD (aD (aD (aD (aD (aP [Ck.i ao] 5) 0 [.i .i64 0]) 1 [.i .i64 3]) 2 [.i .i64 20]) 3 [.i .i64 60]) 4 [.i .i64 60])then Lib.lt (zW.v xp.2.1 xp.2.2.1 xp.2.2.2.1 (aD (aD (aD (aD (aD (aP [Ck.i ao] 5) 0 [.i .i64 0]) 1 [.i .i64 3]) 2 [.i .i64 20]) 3 [.i .i64 60]) 4 [.i .i64 60])) λxq=>kr xi xn.1 xp.1 xq.1 [] xq.2.1 xq.2.2.1 xq.2.2.2.1 α xa xb xc xd xe xf xg xh else aj else kr xi xn.1 xp.1 xl [] xp.2.1 xp.2.2.1 xp.2.2.2.1 α xa xb xc xd xe xf xg xh else aj else bif decide (xi=3)then bif zW.c xo.2.1 xo.2.2.1 xo.2.2.2 (aD (aD (aD (aD (aD (aP [Ck.i ao] 5) 0 [.i .i64 0]) 1 [.i .i64 3]) 2 [.i .i64 20]) 3 [.i .i64 60]) 4 [.i .i64 60])then Lib.lt (zW.v xo.2.1 xo.2.2.1 xo.2.2.2 (aD (aD (aD (aD (aD (aP [Ck.i ao] 5) 0 [.i .i64 0]) 1 [.i .i64 3]) 2 [.i .i64 20]) 3 [.i .i64 60]) 4 [.i .i64 60])) λxp=>kr xi xn.1 xk xp.1 [] xp.2.1 xp.2.2.1 xp.2.2.2.1 α xa xb xc xd xe xf xg xh else aj else kr xi xn.1 xk xl [] xo.2.1 xo.2.2.1 xo.2.2.2 α xa xb xc xd xe xf xg xh else aj else bif decide (xi=2)then bif pI.c xn.2.1 xn.2.2.1 xn.2.2.2 (aD (aD (aD (aD (aP [.s] 4) 0 [.s {data:= #[ay 120]}]) 1 [.s {data:= #[ay 104,ay 101,ay 108,ay 108,ay 111]}]) 2 [.s {data:= #[ay 109,ay 111,ay 114,ay 101,ay 32]}]) 3 [.s {data:= #[ay 48,ay 49,ay 50,ay 51,ay 52,ay 53,ay 54,ay 55,ay 56,ay 57]}])then Lib.lt (pI.v xn.2.1 xn.2.2.1 xn.2.2.2 (aD (aD (aD (aD (aP [.s] 4) 0 [.s {data:= #[ay 120]}]) 1 [.s {data:= #[ay 104,ay 101,ay 108,ay 108,ay 111]}]) 2 [.s {data:= #[ay 109,ay 111,ay 114,ay 101,ay 32]}]) 3 [.s {data:= #[ay 48,ay 49,ay 50,ay 51,ay 52,ay 53,ay 54,ay 55,ay 56,ay 57]}])) λxo=>bif decide (xi=3)then bif zW.c xo.2.1 xo.2.2.1 xo.2.2.2.1 (aD (aD (aD (aD (aD (aP [Ck.i ao] 5) 0 [.i .i64 0]) 1 [.i .i64 3]) 2 [.i .i64 20]) 3 [.i .i64 60]) 4 [.i .i64 60])then Lib.lt (zW.v xo.2.1 xo.2.2.1 xo.2.2.2.1 (aD (aD (aD (aD (aD (aP [Ck.i ao] 5) 0 [.i .i64 0]) 1 [.i .i64 3]) 2 [.i .i64 20]) 3 [.i .i64 60]) 4 [.i .i64 60])) λxp=>kr xi xn.1 xo.1 xp.1 [] xp.2.1 xp.2.2.1 xp.2.2.2.1 α xa xb xc xd xe xf xg xh else aj else kr xi xn.1 xo.1 xl [] xo.2.1 xo.2.2.1 xo.2.2.2.1 α xa xb xc xd xe xf xg xh else aj else bif decide (xi=3)then bif zW.c xn.2.1 xn.2.2.1 xn.2.2.2 (aD (aD (aD (aD (aD (aP [Ck.i ao] 5) 0 [.i .i64 0]) 1 [.i .i64 3]) 2 [.i .i64 20]) 3 [.i .i64 60]) 4 [.i .i64 60])then Lib.lt (zW.v xn.2.1 xn.2.2.1 xn.2.2.2 (aD (aD (aD (aD (aD (aP [Ck.i ao] 5) 0 [.i .i64 0]) 1 [.i .i64 3]) 2 [.i .i64 20]) 3 [.i .i64 60]) 4 [.i .i64 60])) λxo=>kr xi xn.1 xk xo.1 [] xo.2.1 xo.2.2.1 xo.2.2.2.1 α xa xb xc xd xe xf xg xh else aj else kr xi xn.1 xk xl [] xn.2.1 xn.2.2.1 xn.2.2.2 α xa xb xc xd xe xf xg xh else aj
abbrev h1{R:Type}(kr:iH R)(w:aQ)(y z:aw)(α xa xb xc xd xe xf xg xh:aQ)(xi xj:aw)(xk:aq)(xl:aw):az R:=bif decide (xi=5)then bif zW.c w y z (aD (aD (aD (aD (aP [Ck.i ao] 4) 0 [.i .i64 1]) 1 [.i .i64 2]) 2 [.i .i64 5]) 3 [.i .i64 30])then Lib.lt (zW.v w y z (aD (aD (aD (aD (aP [Ck.i ao] 4) 0 [.i .i64 1]) 1 [.i .i64 2]) 2 [.i .i64 5]) 3 [.i .i64 30])) λxn=>kr xi xj xk xn.1 [] xn.2.1 xn.2.2.1 xn.2.2.2.1 α xa xb xc xd xe xf xg xh else aj else bif decide (xi=6)then bif nX.c w y z 9 then Lib.lt (nX.v w y z 9) λxn=>bif decide ((xe.length:aw)>0)then bif HI.c xn.2.1 xn.2.2.1 xn.2.2.2 4 then Lib.lt (HI.v xn.2.1 xn.2.2.1 xn.2.2.2 4) λxo=>bif !xo.1 then bif nX.c xo.2.1 xo.2.2.1 xo.2.2.2 (xe.length:aw)then Lib.lt (nX.v xo.2.1 xo.2.2.1 xo.2.2.2 (xe.length:aw)) λxp=>bif decide (0<=xp.1)&&decide (xp.1<(xe.length:aw))then kr xi (bE (ar xe xp.1.toNat 0)) xk xl [] xp.2.1 xp.2.2.1 xp.2.2.2 α xa xb xc xd xe xf xg xh else aj else aj else kr xi (bJ (1+xn.1)) xk xl [] xo.2.1 xo.2.2.1 xo.2.2.2 α xa xb xc xd xe xf xg xh else aj else kr xi (bJ (1+xn.1)) xk xl [] xn.2.1 xn.2.2.1 xn.2.2.2 α xa xb xc xd xe xf xg xh else aj else kr xi xj xk xl [] w y z α xa xb xc xd xe xf xg xh
abbrev h2{R:Type}(kr:iH R)(w:aQ)(y z:aw)(α xa xb xc xd xe xf xg xh:aQ)(xk:aq)(xl:aw):az R:=bif nX.c w y z 9 then Lib.lt (nX.v w y z 9) λxn=>bif decide ((xe.length:aw)>0)then bif HI.c xn.2.1 xn.2.2.1 xn.2.2.2 4 then Lib.lt (HI.v xn.2.1 xn.2.2.1 xn.2.2.2 4) λxo=>bif !xo.1 then bif nX.c xo.2.1 xo.2.2.1 xo.2.2.2 (xe.length:aw)then Lib.lt (nX.v xo.2.1 xo.2.2.1 xo.2.2.2 (xe.length:aw)) λxp=>bif decide (0<=xp.1)&&decide (xp.1<(xe.length:aw))then kr 6 (bE (ar xe xp.1.toNat 0)) xk xl [] xp.2.1 xp.2.2.1 xp.2.2.2 α xa xb xc xd xe xf xg xh else aj else aj else kr 6 (bJ (1+xn.1)) xk xl [] xo.2.1 xo.2.2.1 xo.2.2.2 α xa xb xc xd xe xf xg xh else aj else kr 6 (bJ (1+xn.1)) xk xl [] xn.2.1 xn.2.2.1 xn.2.2.2 α xa xb xc xd xe xf xg xh else aj
abbrev h3{R:Type}(kr:iH R)(w:aQ)(y z:aw)(α xa xb xc xd xe xf xg xh:aQ)(xi xl:aw):az R:=bif nX.c w y z 9 then Lib.lt (nX.v w y z 9) λxn=>bif uR.c xn.2.1 xn.2.2.1 xn.2.2.2 then Lib.lt (uR.v xn.2.1 xn.2.2.1 xn.2.2.2) λxo=>kr xi (bJ (1+xn.1)) xo.1 xl [] xo.2.1 xo.2.2.1 xo.2.2.2 α xa xb xc xd xe xf xg xh else aj else aj
def b(N:aF)(kr:iH R)(a:aQ)(d e f:aw)(h i j l:aQ)(m:aw)(o p:aQ)(q:aw)(r s t:aQ):az R:=bif zW.c a d e (aD (aD (aD (aD (aD (aD (aD (aD (aD (aD (aD (aD (aD (aD (aP [Ck.i ao] 14) 0 [.i .i64 1]) 1 [.i .i64 1]) 2 [.i .i64 1]) 3 [.i .i64 1]) 4 [.i .i64 2]) 5 [.i .i64 2]) 6 [.i .i64 2]) 7 [.i .i64 3]) 8 [.i .i64 3]) 9 [.i .i64 3]) 10 [.i .i64 4]) 11 [.i .i64 5]) 12 [.i .i64 6]) 13 [.i .i64 6])then Lib.lt (zW.v a d e (aD (aD (aD (aD (aD (aD (aD (aD (aD (aD (aD (aD (aD (aD (aP [Ck.i ao] 14) 0 [.i .i64 1]) 1 [.i .i64 1]) 2 [.i .i64 1]) 3 [.i .i64 1]) 4 [.i .i64 2]) 5 [.i .i64 2]) 6 [.i .i64 2]) 7 [.i .i64 3]) 8 [.i .i64 3]) 9 [.i .i64 3]) 10 [.i .i64 4]) 11 [.i .i64 5]) 12 [.i .i64 6]) 13 [.i .i64 6])) λu=>l4 N (λ_ _ _ _ w y z α xa xb xc xd xe xf xg xh _ _ _ _ _ _ _ xi xj xk xl xm=>bif decide ((xm.length:aw)=0)then bif decide (xi=2)then bif decide ((xe.length:aw)≥6)then h2 kr w y z α xa xb xc xd xe xf xg xh xk xl else bif nX.c w y z 9 then Lib.lt (nX.v w y z 9) λxn=>bif uR.c xn.2.1 xn.2.2.1 xn.2.2.2 then Lib.lt (uR.v xn.2.1 xn.2.2.1 xn.2.2.2) λxo=>kr 1 (bJ (1+xn.1)) xo.1 xl [] xo.2.1 xo.2.2.1 xo.2.2.2 α xa xb xc xd xe xf xg xh else aj else aj else bif decide (xi=3)then bif decide ((xe.length:aw)≥6)then h2 kr w y z α xa xb xc xd xe xf xg xh xk xl else bif nX.c w y z 9 then Lib.lt (nX.v w y z 9) λxn=>bif uR.c xn.2.1 xn.2.2.1 xn.2.2.2 then Lib.lt (uR.v xn.2.1 xn.2.2.1 xn.2.2.2) λxo=>kr 1 (bJ (1+xn.1)) xo.1 xl [] xo.2.1 xo.2.2.1 xo.2.2.2 α xa xb xc xd xe xf xg xh else aj else aj else bif decide ((xe.length:aw)≥6)then bif decide (xi=1)then h2 kr w y z α xa xb xc xd xe xf xg xh xk xl else bif decide (xi=1)then h3 kr w y z α xa xb xc xd xe xf xg xh xi xl else bif decide (xi=2)then h0 kr w y z α xa xb xc xd xe xf xg xh xi xk xl xm else bif decide (xi=3)then h0 kr w y z α xa xb xc xd xe xf xg xh xi xk xl xm else bif decide (xi=4)then h0 kr w y z α xa xb xc xd xe xf xg xh xi xk xl xm else h1 kr w y z α xa xb xc xd xe xf xg xh xi xj xk xl else bif decide (xi=1)then h3 kr w y z α xa xb xc xd xe xf xg xh xi xl else bif decide (xi=2)then h0 kr w y z α xa xb xc xd xe xf xg xh xi xk xl xm else bif decide (xi=3)then h0 kr w y z α xa xb xc xd xe xf xg xh xi xk xl xm else bif decide (xi=4)then h0 kr w y z α xa xb xc xd xe xf xg xh xi xk xl xm else h1 kr w y z α xa xb xc xd xe xf xg xh xi xj xk xl else bif decide ((xe.length:aw)≥6)then bif decide (xi=1)then h2 kr w y z α xa xb xc xd xe xf xg xh xk xl else bif decide (xi=1)then h3 kr w y z α xa xb xc xd xe xf xg xh xi xl else bif decide (xi=2)then h0 kr w y z α xa xb xc xd xe xf xg xh xi xk xl xm else bif decide (xi=3)then h0 kr w y z α xa xb xc xd xe xf xg xh xi xk xl xm else bif decide (xi=4)then h0 kr w y z α xa xb xc xd xe xf xg xh xi xk xl xm else h1 kr w y z α xa xb xc xd xe xf xg xh xi xj xk xl else bif decide (xi=1)then h3 kr w y z α xa xb xc xd xe xf xg xh xi xl else bif decide (xi=2)then h0 kr w y z α xa xb xc xd xe xf xg xh xi xk xl xm else bif decide (xi=3)then h0 kr w y z α xa xb xc xd xe xf xg xh xi xk xl xm else bif decide (xi=4)then h0 kr w y z α xa xb xc xd xe xf xg xh xi xk xl xm else h1 kr w y z α xa xb xc xd xe xf xg xh xi xj xk xl) N f m q 0 u.2.1 u.2.2.1 u.2.2.2.1 h i j l o p r s t f m q 0 0 ⟨#[]⟩ 0 u.1 0 ⟨#[]⟩ 0 (aP [Ck.i ao] 0)else aj
def vo:=b Lib.cZ λr0 r1 r2 r3 r4 r5 r6 r7 r8 r9 Jw Ag Uw r13 r14 r15 r16=>ah (r0,r1,r2,r3,r4,r5,r6,r7,r8,r9,Jw,Ag,Uw,r13,r14,r15,r16)
def c:=λa d e f h i j l m o p q r s t=>(vo a d e f h i j l m o p q r s t).isSome
def v:=λa d e f h i j l m o p q r s t=>(vo a d e f h i j l m o p q r s t).getD (0,0,⟨#[]⟩,0,[],[],0,0,[],[],[],[],[],[],[],[],[])
theorem out{x}:∀a d e f h i j l m o p q r s t,vo a d e f h i j l m o p q r s t=ah x->c a d e f h i j l m o p q r s t=ai/\v a d e f h i j l m o p q r s t=x:=λ_ _ _ _ _ _ _ _ _ _ _ _ _ _ _=>Lib.de
end Km

namespace n6
def r3(N:aF)(g:q_ R)(g1:oW R)(k0:q_ R)(k1:oW R)(a:aw)(d:aQ)(e f h:aw):az R:=bif decide (a<(d.length:aw))then bif decide (0<=a)&&decide (a<(d.length:aw))then bif cC ((aP [Ck.i ao] 0).length+(jv (ar d a.toNat 0)).length) 8 then g1 (bJ (a+1)) d e f h ([]++aD (aP [Ck.l 3] 1) 0 [CV.l 3 (aP [Ck.i ao] 0++jv (ar d a.toNat 0))])else aj else aj else k0 a d e f h
def zG(N:aF)(g:q_ R)(g1:oW R)(k0:q_ R)(k1:oW R)(a:aw)(d:aQ)(e f h:aw)(i:aQ):az R:=bif decide (a<(d.length:aw))then bif decide (0<=a)&&decide (a<(d.length:aw))then bif cC ((aP [Ck.i ao] 0).length+(jv (ar d a.toNat 0)).length) 8 then bif cC (i.length+(aD (aP [Ck.l 3] 1) 0 [CV.l 3 (aP [Ck.i ao] 0++jv (ar d a.toNat 0))]).length) 24 then g1 (bJ (a+1)) d e f h (i++aD (aP [Ck.l 3] 1) 0 [CV.l 3 (aP [Ck.i ao] 0++jv (ar d a.toNat 0))])else aj else aj else aj else k1 a d e f h i
def sG(N:aF)(k0:q_ R)(k1:oW R):aF->oW R
 |0=>λ_ _ _ _ _ _=>aj
 |n+1=>zG N (λx0 x1 x2 x3 x4=>aj) (sG N k0 k1 n) k0 k1
def l3(N:aF)(k0:q_ R)(k1:oW R):aF->q_ R
 |0=>λ_ _ _ _ _=>aj
 |n+1=>r3 N (l3 N k0 k1 n) (sG N k0 k1 n) k0 k1
def b(N:aF)(kr:Dq R)(a:aQ)(d:aw):az R:=l3 N (λ_ _ _ _ e=>kr [] e) (λ_ _ _ _ e f=>kr f e) N 0 a d 0 d
def vo:=b Lib.cZ λr0 r1=>ah (r0,r1)
def c:=λa d=>(vo a d).isSome
def v:=λa d=>(vo a d).getD ([],0)
theorem out{x}:∀a d,vo a d=ah x->c a d=ai/\v a d=x:=λ_ _=>Lib.de
end n6

namespace fY
def b(kr:sS R)(a d e:aQ)(f:aw):az R:=bif cC ((aP [.s] 0).length+a.length) 16 then bif cC ((aP [.s] 0).length+d.length) 16 then bif n6.c e f then kr (aP [.s] 0++a) (aP [.s] 0++d) (n6.v e f).1 (n6.v e f).2 else aj else aj else aj
def vo:=b λr0 r1 r2 r3=>ah (r0,r1,r2,r3)
def c:=λa d e f=>(vo a d e f).isSome
def v:=λa d e f=>(vo a d e f).getD ([],[],[],0)
theorem out{x}:∀a d e f,vo a d e f=ah x->c a d e f=ai/\v a d e f=x:=λ_ _ _ _=>Lib.de
end fY

namespace fN
def b(kr:eN R)(a:aw)(d e f h:aQ)(i:aw)(j l:aQ)(m:aw):az R:=bif cC ((aP [Ck.s,Ck.i ao,Ck.i ao,Ck.s] 0).length+d.length) 48 then bif fY.c e f h i then bif cC ((aP [Ck.s,Ck.s,Ck.i ao,Ck.i ao,Ck.i ao] 0).length+j.length) 56 then bif cC ((aP [Ck.i ao,Ck.s,Ck.i ao,Ck.i ao,Ck.i ao,Ck.s,Ck.i ao] 0).length+l.length) 72 then kr a (aP [Ck.s,Ck.i ao,Ck.i ao,Ck.s] 0++d) (fY.v e f h i).1 (fY.v e f h i).2.1 (fY.v e f h i).2.2.1 (fY.v e f h i).2.2.2 (aP [Ck.s,Ck.s,Ck.i ao,Ck.i ao,Ck.i ao] 0++j) (aP [Ck.i ao,Ck.s,Ck.i ao,Ck.i ao,Ck.i ao,Ck.s,Ck.i ao] 0++l) m else aj else aj else aj else aj
def vo:=b λr0 r1 r2 r3 r4 r5 r6 r7 r8=>ah (r0,r1,r2,r3,r4,r5,r6,r7,r8)
def c:=λa d e f h i j l m=>(vo a d e f h i j l m).isSome
def v:=λa d e f h i j l m=>(vo a d e f h i j l m).getD (0,[],[],[],[],0,[],[],0)
theorem out{x}:∀a d e f h i j l m,vo a d e f h i j l m=ah x->c a d e f h i j l m=ai/\v a d e f h i j l m=x:=λ_ _ _ _ _ _ _ _ _=>Lib.de
end fN

namespace kl
def b(kr:aW->az R)(a d e:aw):az R:=bif decide (a≥d)then kr (decide (a<=e))else kr ak
def v(a0 a1 a2:aw):aW:=bif decide (a0≥a1)then decide (a0<=a2)else ak
theorem eu(kr:aW->az R)(a0 a1 a2:aw):b kr a0 a1 a2=kr (v a0 a1 a2):=by first|rfl|(unfold b v;simp only[cK];(repeat' split)<;>rfl)
end kl

namespace sV
def b(kr:aW->az R)(a:aq):az R:=kr (kl.v (a.size:aw) 1 30)
def v(a0:aq):aW:=(kl.v (a0.size:aw) 1 30)
theorem eu(kr:aW->az R)(a0:aq):b kr a0=kr (v a0):=by first|rfl|(unfold b v;simp only[cK];(repeat' split)<;>rfl)
end sV

namespace m8
def b(kr:aW->az R)(a:aq)(d e:aw)(f:aq):az R:=bif sV.v a then bif kl.v d 0 1000000000 then bif kl.v e 1 999999 then kr (decide ((f.size:aw)<=400))else kr ak else kr ak else kr ak
def v(a0:aq)(a1 a2:aw)(a3:aq):aW:=bif sV.v a0 then bif kl.v a1 0 1000000000 then bif kl.v a2 1 999999 then decide ((a3.size:aw)<=400)else ak else ak else ak
theorem eu(kr:aW->az R)(a0:aq)(a1 a2:aw)(a3:aq):b kr a0 a1 a2 a3=kr (v a0 a1 a2 a3):=by first|rfl|(unfold b v;simp only[cK];(repeat' split)<;>rfl)
theorem D0{k:aq}{s l:aw}{b:aq}(h:v k s l b=ai):(1<=k.size/\k.size<=30)/\(0<=s/\s<=1000000000)/\(1<=l/\l<=999999)/\b.size<=400:=by unfold v at h;cases h1:sV.v k<;>rw[h1]at h<;>simp only[au,ax,dv]at h;cases h2:kl.v s 0 1000000000<;>rw[h2]at h<;>simp only[au,ax,dv]at h;cases h3:kl.v l 1 999999<;>rw[h3]at h<;>simp only[au,ax,dv]at h;simp[sV.v,kl.v]at h1 h2 h3;have:=cm h;omega
end m8

namespace fc
def r2(N:aF)(g k0 k1:Ka R)(a:aQ)(d:aq)(e:aW)(f:aw):az R:=bif decide (f<(a.length:aw))then bif decide (0<=f)&&decide (f<(a.length:aw))then bif bZ (bu (ar a f.toNat 0)).toList (aC d)then k0 a d ai f else g a d e (bJ (f+1))else aj else k1 a d e f
def l2(N:aF)(k0 k1:Ka R):aF->Ka R
 |0=>λ_ _ _ _=>aj
 |n+1=>r2 N (l2 N k0 k1 n) k0 k1
def b(N:aF)(kr:aW->az R)(a:aQ)(d:aq):az R:=l2 N (λ_ _ e _=>kr e) (λ_ _ _ _=>kr ak) N a d ak 0
def vo:=b Lib.cZ λr0=>ah r0
def c:=λa d=>(vo a d).isSome
def v:=λa d=>(vo a d).getD ak
theorem out{x}:∀a d,vo a d=ah x->c a d=ai/\v a d=x:=λ_ _=>Lib.de
end fc

namespace sW
def b(kr:aW->az R)(a d e:aQ)(f:aw)(h:aq):az R:=bif fc.c a h then bif fc.v a h then kr ai else bif fc.c d h then kr (fc.v d h)else aj else aj
def vo:=b λr0=>ah r0
def c:=λa d e f h=>(vo a d e f h).isSome
def v:=λa d e f h=>(vo a d e f h).getD ak
theorem out{x}:∀a d e f h,vo a d e f h=ah x->c a d e f h=ai/\v a d e f h=x:=λ_ _ _ _ _=>Lib.de
end sW

namespace fD
def r9(N:aF)(g k0 k1:Fj R)(a:aW)(d e:aw)(f:aQ)(h:aw):az R:=bif decide (0<=d)&&decide (d<(f.length:aw))then bif decide (e<((jv (ar f d.toNat 0)).length:aw))then bif decide (0<=d)&&decide (d<(f.length:aw))then bif decide (0<=e)&&decide (e<((jv (ar f d.toNat 0)).length:aw))then bif !kl.v (bE (ar (jv (ar f d.toNat 0)) e.toNat 0)) 0 15 then k0 ak d e f h else g a d (bJ (e+1)) f h else aj else aj else k1 a d e f h else aj
def l9(N:aF)(k0 k1:Fj R):aF->Fj R
 |0=>λ_ _ _ _ _=>aj
 |n+1=>r9 N (l9 N k0 k1 n) k0 k1
def r4(N:aF)(g k0 k1:J9 R)(a:aW)(d:aw)(e:aQ)(f:aw):az R:=bif decide (d<(e.length:aw))then bif decide (0<=d)&&decide (d<(e.length:aw))then bif((jv (ar e d.toNat 0)).length:aw) !=16 then k0 ak d e f else l9 N (λh i _ j l=>k0 h i j l) (λh i _ j l=>g h (bJ (i+1)) j l) N a d 0 e f else aj else k1 a d e f
def l4(N:aF)(k0 k1:J9 R):aF->J9 R
 |0=>λ_ _ _ _=>aj
 |n+1=>r4 N (l4 N k0 k1 n) k0 k1
def b(N:aF)(kr:aW->az R)(a:aQ)(d:aw):az R:=bif(a.length:aw) !=3 then kr ak else bif !kl.v d 0 63 then kr ak else l4 N (λe _ _ _=>kr e) (λ_ _ _ _=>kr ai) N ak 0 a d
def vo:=b Lib.cZ λr0=>ah r0
def c:=λa d=>(vo a d).isSome
def v:=λa d=>(vo a d).getD ak
theorem out{x}:∀a d,vo a d=ah x->c a d=ai/\v a d=x:=λ_ _=>Lib.de
end fD

namespace jx
def r3(N:aF)(g k0 k1:yA R)(a:aW)(d:aw)(e f h:aQ)(i:aw)(j:aQ):az R:=bif decide (d<(j.length:aw))then bif decide (0<=d)&&decide (d<(j.length:aw))then bif !sV.v (bu (ar j d.toNat 0))then k0 ak d e f h i j else bif g9 0 d (j.length:aw)then bif decide (0<=d)&&decide (d<(j.length:aw))then bif fc.c (e8 j (aY 0) d.toNat) (bu (ar j d.toNat 0))then bif fc.v (e8 j (aY 0) d.toNat) (bu (ar j d.toNat 0))then k0 ak d e f h i j else g a (bJ (d+1)) e f h i j else aj else aj else aj else aj else k1 a d e f h i j
def l3(N:aF)(k0 k1:yA R):aF->yA R
 |0=>λ_ _ _ _ _ _ _=>aj
 |n+1=>r3 N (l3 N k0 k1 n) k0 k1
def b(N:aF)(kr:aW->az R)(a d e:aQ)(f:aw):az R:=bif cC ((aP [.s] 0).length+a.length) 16 then bif cC ((aP [.s] 0++a).length+d.length) 16 then l3 N (λh _ _ _ _ _ _=>kr h) (λ_ _ h i j l _=>bif decide ((h.length:aw)<=2)then bif decide ((i.length:aw)<=4)then bif fD.c j l then kr (fD.v j l)else aj else kr ak else kr ak) N ak 0 a d e f (aP [.s] 0++a++d)else aj else aj
def vo:=b Lib.cZ λr0=>ah r0
def c:=λa d e f=>(vo a d e f).isSome
def v:=λa d e f=>(vo a d e f).getD ak
theorem out{x}:∀a d e f,vo a d e f=ah x->c a d e f=ai/\v a d e f=x:=λ_ _ _ _=>Lib.de
end jx

namespace nN
def r2(N:aF)(g k0 k1:g_ R)(a:aW)(d e:aw)(f h i j:aQ)(l:aw)(m o:aQ)(p:aw):az R:=bif decide (d<(f.length:aw))then bif decide (0<=d)&&decide (d<(f.length:aw))then bif !m8.v (bu (ar f d.toNat 0)) (bE (ar f d.toNat 1)) (bE (ar f d.toNat (1+1))) (bu (ar f d.toNat (1+1+1)))then k0 ak d e f h i j l m o p else bif decide (d>0)then bif decide (0<=bJ (d-1))&&decide (bJ (d-1)<(f.length:aw))then bif decide (0<=d)&&decide (d<(f.length:aw))then bif !Op.bytesLess (bu (ar f (bJ (d-1)).toNat 0)).toList (bu (ar f d.toNat 0)).toList then k0 ak d e f h i j l m o p else bif decide (0<=d)&&decide (d<(f.length:aw))then bif sW.c h i j l (bu (ar f d.toNat 0))then bif !sW.v h i j l (bu (ar f d.toNat 0))then k0 ak d e f h i j l m o p else g a (bJ (d+1)) e f h i j l m o p else aj else aj else aj else aj else bif decide (0<=d)&&decide (d<(f.length:aw))then bif sW.c h i j l (bu (ar f d.toNat 0))then bif !sW.v h i j l (bu (ar f d.toNat 0))then k0 ak d e f h i j l m o p else g a (bJ (d+1)) e f h i j l m o p else aj else aj else aj else k1 a d e f h i j l m o p
def l2(N:aF)(k0 k1:g_ R):aF->g_ R
 |0=>λ_ _ _ _ _ _ _ _ _ _ _=>aj
 |n+1=>r2 N (l2 N k0 k1 n) k0 k1
def b(N:aF)(kr:aW->az R)(a:aw)(d e f h:aQ)(i:aw)(j l:aQ)(m:aw):az R:=l2 N (λo _ _ _ _ _ _ _ _ _ _=>kr o) (λ_ _ _ o p q r s _ _ _=>bif jx.c p q r s then bif jx.v p q r s then kr (decide ((o.length:aw)=bJ ((p.length:aw)+(q.length:aw))))else kr ak else aj) N ak 0 a d e f h i j l m
def vo:=b Lib.cZ λr0=>ah r0
def c:=λa d e f h i j l m=>(vo a d e f h i j l m).isSome
def v:=λa d e f h i j l m=>(vo a d e f h i j l m).getD ak
theorem out{x}:∀a d e f h i j l m,vo a d e f h i j l m=ah x->c a d e f h i j l m=ai/\v a d e f h i j l m=x:=λ_ _ _ _ _ _ _ _ _=>Lib.de
end nN

namespace m9
def r5(N:aF)(g k0 k1:lF R)(a:aw)(d:aW)(e f:aw)(h i j l:aQ)(m:aw)(o p:aQ)(q:aw)(r s:aq)(t u w:aw):az R:=bif decide (e<a)then bif decide (0<=e)&&decide (e<(o.length:aw))then bif bZ (bu (ar o e.toNat 0)).toList (aC r)then bif decide (0<=e)&&decide (e<(o.length:aw))then bif decide (bE (ar o e.toNat 2)=1)then bif decide (t=1)then k0 a ak e f h i j l m o p q r s t u w else g a d (bJ (e+1)) f h i j l m o p q r s t u w else g a d (bJ (e+1)) f h i j l m o p q r s t u w else aj else g a d (bJ (e+1)) f h i j l m o p q r s t u w else aj else k1 a d e f h i j l m o p q r s t u w
def l5(N:aF)(k0 k1:lF R):aF->lF R
 |0=>λ_ _ _ _ _ _ _ _ _ _ _ _ _ _ _ _ _=>aj
 |n+1=>r5 N (l5 N k0 k1 n) k0 k1
def b(N:aF)(kr:aW->az R)(a:aw)(d e f h:aQ)(i:aw)(j l:aQ)(m o:aw):az R:=bif decide (0<=o)&&decide (o<(j.length:aw))then bif !sV.v (bu (ar j o.toNat 0))then kr ak else bif decide (((bu (ar j o.toNat 1)).size:aw)>400)then kr ak else bif !kl.v (bE (ar j o.toNat (1+1))) 1 3 then kr ak else bif !kl.v (bE (ar j o.toNat (1+1+1))) 0 999999 then kr ak else bif !kl.v (bE (ar j o.toNat (1+1+1+1))) 0 a then kr ak else l5 N (λ_ p _ _ _ _ _ _ _ _ _ _ _ _ _ _ _=>kr p) (λ_ _ _ _ _ _ _ _ _ _ _ _ _ _ _ _ _=>kr ai) N o ak 0 a d e f h i j l m (bu (ar j o.toNat 0)) (bu (ar j o.toNat 1)) (bE (ar j o.toNat (1+1))) (bE (ar j o.toNat (1+1+1))) (bE (ar j o.toNat (1+1+1+1)))else aj
def vo:=b Lib.cZ λr0=>ah r0
def c:=λa d e f h i j l m o=>(vo a d e f h i j l m o).isSome
def v:=λa d e f h i j l m o=>(vo a d e f h i j l m o).getD ak
theorem out{x}:∀a d e f h i j l m o,vo a d e f h i j l m o=ah x->c a d e f h i j l m o=ai/\v a d e f h i j l m o=x:=λ_ _ _ _ _ _ _ _ _ _=>Lib.de
end m9

namespace qi
def r9(N:aF)(g k0 k1:g_ R)(a:aW)(d e:aw)(f h i j:aQ)(l:aw)(m o:aQ)(p:aw):az R:=bif decide (d<(o.length:aw))then bif decide (0<=d)&&decide (d<(o.length:aw))then bif !kl.v (bE (ar o d.toNat 0)) 1 9 then k0 ak d e f h i j l m o p else bif decide (d>0)then bif decide (0<=bJ (d-1))&&decide (bJ (d-1)<(o.length:aw))then bif decide (bE (ar o (bJ (d-1)).toNat 0)≥bE (ar o d.toNat 0))then k0 ak d e f h i j l m o p else bif !sV.v (bu (ar o d.toNat 1))then k0 ak d e f h i j l m o p else bif !kl.v (bE (ar o d.toNat (1+1+1+1))) 1 3 then k0 ak d e f h i j l m o p else bif !kl.v (bE (ar o d.toNat (1+1))) 0 (m.length:aw)then k0 ak d e f h i j l m o p else bif decide (((bu (ar o d.toNat (1+1+1+1+1))).size:aw)>400)then k0 ak d e f h i j l m o p else bif !kl.v (bE (ar o d.toNat (1+1+1))) 0 e then k0 ak d e f h i j l m o p else bif decide (bE (ar o d.toNat (1+1+1+1+1+1))<0)then k0 ak d e f h i j l m o p else g a (bJ (d+1)) e f h i j l m o p else aj else bif !sV.v (bu (ar o d.toNat 1))then k0 ak d e f h i j l m o p else bif !kl.v (bE (ar o d.toNat (1+1+1+1))) 1 3 then k0 ak d e f h i j l m o p else bif !kl.v (bE (ar o d.toNat (1+1))) 0 (m.length:aw)then k0 ak d e f h i j l m o p else bif decide (((bu (ar o d.toNat (1+1+1+1+1))).size:aw)>400)then k0 ak d e f h i j l m o p else bif !kl.v (bE (ar o d.toNat (1+1+1))) 0 e then k0 ak d e f h i j l m o p else bif decide (bE (ar o d.toNat (1+1+1+1+1+1))<0)then k0 ak d e f h i j l m o p else g a (bJ (d+1)) e f h i j l m o p else aj else k1 a d e f h i j l m o p
def l9(N:aF)(k0 k1:g_ R):aF->g_ R
 |0=>λ_ _ _ _ _ _ _ _ _ _ _=>aj
 |n+1=>r9 N (l9 N k0 k1 n) k0 k1
def r4(N:aF)(g k0 k1:g_ R)(a:aW)(d e:aw)(f h i j:aQ)(l:aw)(m o:aQ)(p:aw):az R:=bif decide (d<(m.length:aw))then bif m9.c e f h i j l m o p d then bif !m9.v e f h i j l m o p d then k0 ak d e f h i j l m o p else g a (bJ (d+1)) e f h i j l m o p else aj else k1 a d e f h i j l m o p
def l4(N:aF)(k0 k1:g_ R):aF->g_ R
 |0=>λ_ _ _ _ _ _ _ _ _ _ _=>aj
 |n+1=>r4 N (l4 N k0 k1 n) k0 k1
def b(N:aF)(kr:aW->az R)(a:aw)(d e f h:aQ)(i:aw)(j l:aQ)(m:aw):az R:=bif !kl.v a 1 1000000000 then kr ak else bif nN.c a d e f h i j l m then bif !nN.v a d e f h i j l m then kr ak else bif decide ((j.length:aw)>20)then kr ak else bif decide ((l.length:aw)>6)then kr ak else bif !kl.v m 0 1000000000 then kr ak else l4 N (λo _ _ _ _ _ _ _ _ _ _=>kr o) (λo _ p q r s t u w y z=>l9 N (λα _ _ _ _ _ _ _ _ _ _=>kr α) (λ_ _ _ _ _ _ _ _ _ _ _=>kr ai) N o 0 p q r s t u w y z) N ak 0 a d e f h i j l m else aj
def vo:=b Lib.cZ λr0=>ah r0
def c:=λa d e f h i j l m=>(vo a d e f h i j l m).isSome
def v:=λa d e f h i j l m=>(vo a d e f h i j l m).getD ak
theorem out{x}:∀a d e f h i j l m,vo a d e f h i j l m=ah x->c a d e f h i j l m=ai/\v a d e f h i j l m=x:=λ_ _ _ _ _ _ _ _ _=>Lib.de
end qi

namespace wJ
def r2(N:aF)(g k0 k1:mi R)(a:aq)(d:aW)(e f:aw)(h i j l:aQ)(m:aw)(o p:aQ)(q:aw)(r:aq)(s t:aw)(u:aq):az R:=bif decide (e<(h.length:aw))then bif decide (0<=e)&&decide (e<(h.length:aw))then bif bZ (bu (ar h e.toNat 0)).toList (aC a)then bif decide (0<=e)&&decide (e<(h.length:aw))then k0 a ai e f h i j l m o p q (bu (ar h e.toNat 0)) (bE (ar h e.toNat 1)) (bE (ar h e.toNat (1+1))) (bu (ar h e.toNat (1+1+1)))else aj else g a d (bJ (e+1)) f h i j l m o p q r s t u else aj else k1 a d e f h i j l m o p q r s t u
def l2(N:aF)(k0 k1:mi R):aF->mi R
 |0=>λ_ _ _ _ _ _ _ _ _ _ _ _ _ _ _ _=>aj
 |n+1=>r2 N (l2 N k0 k1 n) k0 k1
def b(N:aF)(kr:wx R)(a:aw)(d e f h:aQ)(i:aw)(j l:aQ)(m:aw)(o:aq):az R:=l2 N (λ_ p _ _ _ _ _ _ _ _ _ _ q r s t=>kr q r s t p) (λ_ _ _ _ _ _ _ _ _ _ _ _ _ _ _ _=>kr ⟨#[]⟩ 0 0 ⟨#[]⟩ ak) N o ak 0 a d e f h i j l m ⟨#[]⟩ 0 0 ⟨#[]⟩
def vo:=b Lib.cZ λr0 r1 r2 r3 r4=>ah (r0,r1,r2,r3,r4)
def c:=λa d e f h i j l m o=>(vo a d e f h i j l m o).isSome
def v:=λa d e f h i j l m o=>(vo a d e f h i j l m o).getD (⟨#[]⟩,0,0,⟨#[]⟩,ak)
theorem out{x}:∀a d e f h i j l m o,vo a d e f h i j l m o=ah x->c a d e f h i j l m o=ai/\v a d e f h i j l m o=x:=λ_ _ _ _ _ _ _ _ _ _=>Lib.de
end wJ

namespace Dg
def b(kr:aW->az R)(a:aq)(d e:aw)(f:aq)(h:aw):az R:=bif m8.v a d e f then bif kl.v h d 1000000000 then kr (decide (bJ (h-d)<e))else kr ak else kr ak
def v(a0:aq)(a1 a2:aw)(a3:aq)(a4:aw):aW:=bif m8.v a0 a1 a2 a3 then bif kl.v a4 a1 1000000000 then decide (bJ (a4-a1)<a2)else ak else ak
theorem eu(kr:aW->az R)(a0:aq)(a1 a2:aw)(a3:aq)(a4:aw):b kr a0 a1 a2 a3 a4=kr (v a0 a1 a2 a3 a4):=by first|rfl|(unfold b v;simp only[cK];(repeat' split)<;>rfl)
end Dg

namespace jP
def r6(N:aF)(g k0:yC R)(a:aw)(d:aq)(e f:aw):az R:=bif decide (f<8)then bif decide (cO a 2=1)then g (bF eC (↑(dV (mf (b_ 32 (bF eC (cQ a 2))) (b_ 32 3558460437))):aw)) d e (bJ (f+1))else g (bF eC (cQ a 2)) d e (bJ (f+1))else k0 a d e f
def l6(N:aF)(k0:yC R):aF->yC R
 |0=>λ_ _ _ _=>aj
 |n+1=>r6 N (l6 N k0 n) k0
def r2(N:aF)(g k0:Ea R)(a:aw)(d:aq)(e:aw):az R:=bif decide (e<(d.size:aw))then bif decide (0<=e)&&decide (e<(d.size:aw))then l6 N (λf h i _=>g f h (bJ (i+1))) N (bF eC (↑(dV (mf (b_ 32 a) (b_ 32 (bF eC (↑(gM d e.toNat):aw))))):aw)) d e 0 else aj else k0 a d e
def l2(N:aF)(k0:Ea R):aF->Ea R
 |0=>λ_ _ _=>aj
 |n+1=>r2 N (l2 N k0 n) k0
def b(N:aF)(kr:aw->az R)(a:aw)(d:aq):az R:=l2 N (λe _ _=>kr e) N a d 0
def vo:=b Lib.cZ λr0=>ah r0
def c:=λa d=>(vo a d).isSome
def v:=λa d=>(vo a d).getD (0)
theorem out{x}:∀a d,vo a d=ah x->c a d=ai/\v a d=x:=λ_ _=>Lib.de
end jP

namespace vM
def b(kr:aw->az R)(a:aq):az R:=bif jP.c 4294967295 a then kr (jP.v 4294967295 a)else aj
def vo:=b λr0=>ah r0
def c:=λa=>(vo a).isSome
def v:=λa=>(vo a).getD (0)
theorem out{x}:∀a,vo a=ah x->c a=ai/\v a=x:=λ_=>Lib.de
end vM

namespace gj
def b(kr:aw->az R)(a:aw)(d:aq):az R:=bif decide (d.size+(bytesOf (aD (aP [Ck.i bf] 1) 0 [CV.i bf (bF bf a)])).size<=4611686018427387904)then bif vM.c (d++bytesOf (aD (aP [Ck.i bf] 1) 0 [CV.i bf (bF bf a)]))then kr (bJ (cO (vM.v (d++bytesOf (aD (aP [Ck.i bf] 1) 0 [CV.i bf (bF bf a)]))) 16))else aj else aj
def vo:=b λr0=>ah r0
def c:=λa d=>(vo a d).isSome
def v:=λa d=>(vo a d).getD (0)
theorem out{x}:∀a d,vo a d=ah x->c a d=ai/\v a d=x:=λ_ _=>Lib.de
end gj

namespace du
def r17(N:aF)(g k0:ua R)(a d e f:aw)(h:aQ):az R:=bif decide (0<=a)&&decide (a<(h.length:aw))then bif decide (d<((jv (ar h a.toNat 0)).length:aw))then bif decide (0<=a)&&decide (a<(h.length:aw))then bif decide (0<=a)&&decide (a<(h.length:aw))then bif decide (0<=d)&&decide (d<((jv (ar h a.toNat 0)).length:aw))then bif decide (0<=d)&&decide (d<((jv (ar h a.toNat 0)).length:aw))then g a (bJ (d+1)) e f (eD h a.toNat 0 [CV.l 3 (eD (jv (ar h a.toNat 0)) d.toNat 0 [.i .i64 (bJ (cQ (bE (ar (jv (ar h a.toNat 0)) d.toNat 0)) 2))])])else aj else aj else aj else aj else k0 a d e f h else aj
def l17(N:aF)(k0:ua R):aF->ua R
 |0=>λ_ _ _ _ _=>aj
 |n+1=>r17 N (l17 N k0 n) k0
def r14(N:aF)(g k0:jF R)(a d e:aw)(f:aQ):az R:=bif decide (a<(f.length:aw))then l17 N (λh _ i j l=>g (bJ (h+1)) i j l) N a 0 d e f else k0 a d e f
def l14(N:aF)(k0:jF R):aF->jF R
 |0=>λ_ _ _ _=>aj
 |n+1=>r14 N (l14 N k0 n) k0
def r5(N:aF)(g k0:Fs R)(a:aq)(d e f:aw)(h:aQ):az R:=bif decide (d<(h.length:aw))then bif gj.c d a then bif decide (0<=d)&&decide (d<(h.length:aw))then bif decide (0<=gj.v d a)&&decide (gj.v d a<((jv (ar h d.toNat 0)).length:aw))then bif decide (bE (ar (jv (ar h d.toNat 0)) (gj.v d a).toNat 0)<15)then bif decide (0<=d)&&decide (d<(h.length:aw))then bif decide (0<=gj.v d a)&&decide (gj.v d a<((jv (ar h d.toNat 0)).length:aw))then bif decide (0<=gj.v d a)&&decide (gj.v d a<((jv (ar h d.toNat 0)).length:aw))then g a (bJ (d+1)) e f (eD h d.toNat 0 [CV.l 3 (eD (jv (ar h d.toNat 0)) (gj.v d a).toNat 0 [.i .i64 (bJ (bE (ar (jv (ar h d.toNat 0)) (gj.v d a).toNat 0)+1))])])else aj else aj else aj else g a (bJ (d+1)) e f h else aj else aj else aj else k0 a d e f h
def l5(N:aF)(k0:Fs R):aF->Fs R
 |0=>λ_ _ _ _ _=>aj
 |n+1=>r5 N (l5 N k0 n) k0
def b(N:aF)(kr:Dq R)(a:aQ)(d:aw)(e:aq):az R:=bif n6.c a d then bif fD.c a d then bif !fD.v a d then kr (n6.v a d).1 (n6.v a d).2 else l5 N (λ_ _ f h i=>bif decide (bJ (h+1)=64)then l14 N (λ_ _ j l=>kr l j) N 0 f 0 i else kr i (bJ (h+1))) N e 0 0 (n6.v a d).2 (n6.v a d).1 else aj else aj
def vo:=b Lib.cZ λr0 r1=>ah (r0,r1)
def c:=λa d e=>(vo a d e).isSome
def v:=λa d e=>(vo a d e).getD ([],0)
theorem out{x}:∀a d e,vo a d e=ah x->c a d e=ai/\v a d e=x:=λ_ _ _=>Lib.de
end du

namespace o9
def r3(N:aF)(g k0:yF R)(a:aQ)(d:aq)(e:aw)(f:aQ):az R:=bif decide (e<(a.length:aw))then bif decide (0<=e)&&decide (e<(a.length:aw))then bif !List.beq (bu (ar a e.toNat 0)).toList (aC d)then bif decide (0<=e)&&decide (e<(a.length:aw))then bif cC (f.length+(aD (aP [.s] 1) 0 [.s (bu (ar a e.toNat 0))]).length) 16 then g a d (bJ (e+1)) (f++aD (aP [.s] 1) 0 [.s (bu (ar a e.toNat 0))])else aj else aj else g a d (bJ (e+1)) f else aj else k0 a d e f
def l3(N:aF)(k0:yF R):aF->yF R
 |0=>λ_ _ _ _=>aj
 |n+1=>r3 N (l3 N k0 n) k0
def b(N:aF)(kr:aQ->az R)(a:aQ)(d:aq):az R:=l3 N (λ_ _ _ e=>kr e) N a d 0 (aP [.s] 0)
def vo:=b Lib.cZ λr0=>ah r0
def c:=λa d=>(vo a d).isSome
def v:=λa d=>(vo a d).getD ([])
theorem out{x}:∀a d,vo a d=ah x->c a d=ai/\v a d=x:=λ_ _=>Lib.de
end o9

namespace mG
def r5(N:aF)(g k0:Ft R)(a:aq)(d e:aw)(f:aQ)(h:aw):az R:=bif decide (e<(f.length:aw))then bif decide (0<=e)&&decide (e<(f.length:aw))then bif gj.c e a then bif decide (0<=gj.v e a)&&decide (gj.v e a<((jv (ar f e.toNat 0)).length:aw))then bif decide (bE (ar (jv (ar f e.toNat 0)) (gj.v e a).toNat 0)<d)then g a (bE (ar (jv (ar f e.toNat 0)) (gj.v e a).toNat 0)) (bJ (e+1)) f h else g a d (bJ (e+1)) f h else aj else aj else aj else k0 a d e f h
def l5(N:aF)(k0:Ft R):aF->Ft R
 |0=>λ_ _ _ _ _=>aj
 |n+1=>r5 N (l5 N k0 n) k0
def b(N:aF)(kr:aw->az R)(a:aQ)(d:aw)(e:aq):az R:=bif fD.c a d then bif !fD.v a d then kr 0 else l5 N (λ_ f _ _ _=>kr f) N e 15 0 a d else aj
def vo:=b Lib.cZ λr0=>ah r0
def c:=λa d e=>(vo a d e).isSome
def v:=λa d e=>(vo a d e).getD (0)
theorem out{x}:∀a d e,vo a d e=ah x->c a d e=ai/\v a d e=x:=λ_ _ _=>Lib.de
end mG

namespace eZ
def b(kr:L7 R)(a d e:aQ)(f:aw)(h:aq):az R:=bif fY.c a d e f then bif jx.c a d e f then bif !jx.v a d e f then kr (fY.v a d e f).1 (fY.v a d e f).2.1 (fY.v a d e f).2.2.1 (fY.v a d e f).2.2.2 ⟨#[]⟩else bif !sV.v h then kr (fY.v a d e f).1 (fY.v a d e f).2.1 (fY.v a d e f).2.2.1 (fY.v a d e f).2.2.2 ⟨#[]⟩else bif du.c e f h then bif fc.c a h then bif fc.v a h then bif o9.c a h then bif cC ((o9.v a h).length+(aD (aP [.s] 1) 0 [.s h]).length) 16 then kr (o9.v a h++aD (aP [.s] 1) 0 [.s h]) (fY.v a d e f).2.1 (du.v e f h).1 (du.v e f h).2 ⟨#[]⟩else aj else aj else bif fc.c d h then bif fc.v d h then bif o9.c d h then bif cC ((o9.v d h).length+(aD (aP [.s] 1) 0 [.s h]).length) 16 then kr (fY.v a d e f).1 (o9.v d h++aD (aP [.s] 1) 0 [.s h]) (du.v e f h).1 (du.v e f h).2 ⟨#[]⟩else aj else aj else bif cC ((fY.v a d e f).1.length+(aD (aP [.s] 1) 0 [.s h]).length) 16 then bif decide ((((fY.v a d e f).1++aD (aP [.s] 1) 0 [.s h]).length:aw)<=2)then kr ((fY.v a d e f).1++aD (aP [.s] 1) 0 [.s h]) (fY.v a d e f).2.1 (du.v e f h).1 (du.v e f h).2 ⟨#[]⟩else bif decide (0<(((fY.v a d e f).1++aD (aP [.s] 1) 0 [.s h]).length:aw))then bif g9 1 (((fY.v a d e f).1++aD (aP [.s] 1) 0 [.s h]).length:aw) (((fY.v a d e f).1++aD (aP [.s] 1) 0 [.s h]).length:aw)then bif cC ((aP [.s] 0).length+(e8 ((fY.v a d e f).1++aD (aP [.s] 1) 0 [.s h]) (aY 1) (((fY.v a d e f).1++aD (aP [.s] 1) 0 [.s h]).length:aw).toNat).length) 16 then bif decide (((fY.v a d e f).2.1.length:aw)<4)then bif cC ((fY.v a d e f).2.1.length+(aD (aP [.s] 1) 0 [.s (bu (ar ((fY.v a d e f).1++aD (aP [.s] 1) 0 [.s h]) (aY 0) 0))]).length) 16 then kr (aP [.s] 0++e8 ((fY.v a d e f).1++aD (aP [.s] 1) 0 [.s h]) (aY 1) (((fY.v a d e f).1++aD (aP [.s] 1) 0 [.s h]).length:aw).toNat) ((fY.v a d e f).2.1++aD (aP [.s] 1) 0 [.s (bu (ar ((fY.v a d e f).1++aD (aP [.s] 1) 0 [.s h]) (aY 0) 0))]) (du.v e f h).1 (du.v e f h).2 ⟨#[]⟩else aj else bif mG.c (du.v e f h).1 (du.v e f h).2 (bu (ar ((fY.v a d e f).1++aD (aP [.s] 1) 0 [.s h]) (aY 0) 0))then bif decide (0<((fY.v a d e f).2.1.length:aw))then bif mG.c (du.v e f h).1 (du.v e f h).2 (bu (ar (fY.v a d e f).2.1 (aY 0) 0))then bif decide (mG.v (du.v e f h).1 (du.v e f h).2 (bu (ar ((fY.v a d e f).1++aD (aP [.s] 1) 0 [.s h]) (aY 0) 0))>mG.v (du.v e f h).1 (du.v e f h).2 (bu (ar (fY.v a d e f).2.1 (aY 0) 0)))then bif decide (0<((fY.v a d e f).2.1.length:aw))then bif g9 1 ((fY.v a d e f).2.1.length:aw) ((fY.v a d e f).2.1.length:aw)then bif cC ((aP [.s] 0).length+(e8 (fY.v a d e f).2.1 (aY 1) ((fY.v a d e f).2.1.length:aw).toNat).length) 16 then bif cC ((aP [.s] 0++e8 (fY.v a d e f).2.1 (aY 1) ((fY.v a d e f).2.1.length:aw).toNat).length+(aD (aP [.s] 1) 0 [.s (bu (ar ((fY.v a d e f).1++aD (aP [.s] 1) 0 [.s h]) (aY 0) 0))]).length) 16 then kr (aP [.s] 0++e8 ((fY.v a d e f).1++aD (aP [.s] 1) 0 [.s h]) (aY 1) (((fY.v a d e f).1++aD (aP [.s] 1) 0 [.s h]).length:aw).toNat) (aP [.s] 0++e8 (fY.v a d e f).2.1 (aY 1) ((fY.v a d e f).2.1.length:aw).toNat++aD (aP [.s] 1) 0 [.s (bu (ar ((fY.v a d e f).1++aD (aP [.s] 1) 0 [.s h]) (aY 0) 0))]) (du.v e f h).1 (du.v e f h).2 (bu (ar (fY.v a d e f).2.1 (aY 0) 0))else aj else aj else aj else aj else kr (aP [.s] 0++e8 ((fY.v a d e f).1++aD (aP [.s] 1) 0 [.s h]) (aY 1) (((fY.v a d e f).1++aD (aP [.s] 1) 0 [.s h]).length:aw).toNat) (fY.v a d e f).2.1 (du.v e f h).1 (du.v e f h).2 (bu (ar ((fY.v a d e f).1++aD (aP [.s] 1) 0 [.s h]) (aY 0) 0))else aj else aj else aj else aj else aj else aj else aj else aj else aj else aj else aj else aj
def vo:=b λr0 r1 r2 r3 r4=>ah (r0,r1,r2,r3,r4)
def c:=λa d e f h=>(vo a d e f h).isSome
def v:=λa d e f h=>(vo a d e f h).getD ([],[],[],0,⟨#[]⟩)
theorem out{x}:∀a d e f h,vo a d e f h=ah x->c a d e f h=ai/\v a d e f h=x:=λ_ _ _ _ _=>Lib.de
end eZ

namespace lQ
def r9(N:aF)(g k0:kX R)(a:aQ)(d e:aw)(f:aq)(h i j:aw)(l:aq)(m:aw)(o:aQ):az R:=bif decide (d<(a.length:aw))then bif decide (0<=d)&&decide (d<(a.length:aw))then bif decide (bE (ar a d.toNat 0)>e)then bif decide (0<=d)&&decide (d<(a.length:aw))then bif cC (o.length+(aD (aP [Ck.i ao,Ck.s,Ck.i ao,Ck.i ao,Ck.i ao,Ck.s,Ck.i ao] 1) 0 [.i .i64 (bE (ar a d.toNat 0)), .s (bu (ar a d.toNat 1)), .i .i64 (bE (ar a d.toNat (1+1))), .i .i64 (bE (ar a d.toNat (1+1+1))), .i .i64 (bE (ar a d.toNat (1+1+1+1))), .s (bu (ar a d.toNat (1+1+1+1+1))), .i .i64 (bE (ar a d.toNat (1+1+1+1+1+1)))]).length) 72 then g a (bJ (d+1)) e f h i j l m (o++aD (aP [Ck.i ao,Ck.s,Ck.i ao,Ck.i ao,Ck.i ao,Ck.s,Ck.i ao] 1) 0 [.i .i64 (bE (ar a d.toNat 0)), .s (bu (ar a d.toNat 1)), .i .i64 (bE (ar a d.toNat (1+1))), .i .i64 (bE (ar a d.toNat (1+1+1))), .i .i64 (bE (ar a d.toNat (1+1+1+1))), .s (bu (ar a d.toNat (1+1+1+1+1))), .i .i64 (bE (ar a d.toNat (1+1+1+1+1+1)))])else aj else aj else g a (bJ (d+1)) e f h i j l m o else aj else k0 a d e f h i j l m o
def l9(N:aF)(k0:kX R):aF->kX R
 |0=>λ_ _ _ _ _ _ _ _ _ _=>aj
 |n+1=>r9 N (l9 N k0 n) k0
def r3(N:aF)(g k0:kX R)(a:aQ)(d e:aw)(f:aq)(h i j:aw)(l:aq)(m:aw)(o:aQ):az R:=bif decide (d<(a.length:aw))then bif decide (0<=d)&&decide (d<(a.length:aw))then bif decide (bE (ar a d.toNat 0)<e)then bif decide (0<=d)&&decide (d<(a.length:aw))then bif cC (o.length+(aD (aP [Ck.i ao,Ck.s,Ck.i ao,Ck.i ao,Ck.i ao,Ck.s,Ck.i ao] 1) 0 [.i .i64 (bE (ar a d.toNat 0)), .s (bu (ar a d.toNat 1)), .i .i64 (bE (ar a d.toNat (1+1))), .i .i64 (bE (ar a d.toNat (1+1+1))), .i .i64 (bE (ar a d.toNat (1+1+1+1))), .s (bu (ar a d.toNat (1+1+1+1+1))), .i .i64 (bE (ar a d.toNat (1+1+1+1+1+1)))]).length) 72 then g a (bJ (d+1)) e f h i j l m (o++aD (aP [Ck.i ao,Ck.s,Ck.i ao,Ck.i ao,Ck.i ao,Ck.s,Ck.i ao] 1) 0 [.i .i64 (bE (ar a d.toNat 0)), .s (bu (ar a d.toNat 1)), .i .i64 (bE (ar a d.toNat (1+1))), .i .i64 (bE (ar a d.toNat (1+1+1))), .i .i64 (bE (ar a d.toNat (1+1+1+1))), .s (bu (ar a d.toNat (1+1+1+1+1))), .i .i64 (bE (ar a d.toNat (1+1+1+1+1+1)))])else aj else aj else g a (bJ (d+1)) e f h i j l m o else aj else k0 a d e f h i j l m o
def l3(N:aF)(k0:kX R):aF->kX R
 |0=>λ_ _ _ _ _ _ _ _ _ _=>aj
 |n+1=>r3 N (l3 N k0 n) k0
def b(N:aF)(kr:aQ->az R)(a:aQ)(d:aw)(e:aq)(f h i:aw)(j:aq)(l:aw):az R:=l3 N (λm _ o p q r s t u w=>bif cC (w.length+(aD (aP [Ck.i ao,Ck.s,Ck.i ao,Ck.i ao,Ck.i ao,Ck.s,Ck.i ao] 1) 0 [.i .i64 o, .s p, .i .i64 q, .i .i64 r, .i .i64 s, .s t, .i .i64 u]).length) 72 then l9 N (λ_ _ _ _ _ _ _ _ _ y=>kr y) N m 0 o p q r s t u (w++aD (aP [Ck.i ao,Ck.s,Ck.i ao,Ck.i ao,Ck.i ao,Ck.s,Ck.i ao] 1) 0 [.i .i64 o, .s p, .i .i64 q, .i .i64 r, .i .i64 s, .s t, .i .i64 u])else aj) N a 0 d e f h i j l (aP [Ck.i ao,Ck.s,Ck.i ao,Ck.i ao,Ck.i ao,Ck.s,Ck.i ao] 0)
def vo:=b Lib.cZ λr0=>ah r0
def c:=λa d e f h i j l=>(vo a d e f h i j l).isSome
def v:=λa d e f h i j l=>(vo a d e f h i j l).getD ([])
theorem out{x}:∀a d e f h i j l,vo a d e f h i j l=ah x->c a d e f h i j l=ai/\v a d e f h i j l=x:=λ_ _ _ _ _ _ _ _=>Lib.de
end lQ

namespace qg
def r3(N:aF)(g k0:yF R)(a:aQ)(d:aq)(e:aw)(f:aQ):az R:=bif decide (e<(a.length:aw))then bif decide (0<=e)&&decide (e<(a.length:aw))then bif !List.beq (bu (ar a e.toNat 0)).toList (aC d)then bif decide (0<=e)&&decide (e<(a.length:aw))then bif cC (f.length+(aD (aP [Ck.s,Ck.i ao,Ck.i ao,Ck.s] 1) 0 [.s (bu (ar a e.toNat 0)), .i .i64 (bE (ar a e.toNat 1)), .i .i64 (bE (ar a e.toNat (1+1))), .s (bu (ar a e.toNat (1+1+1)))]).length) 48 then g a d (bJ (e+1)) (f++aD (aP [Ck.s,Ck.i ao,Ck.i ao,Ck.s] 1) 0 [.s (bu (ar a e.toNat 0)), .i .i64 (bE (ar a e.toNat 1)), .i .i64 (bE (ar a e.toNat (1+1))), .s (bu (ar a e.toNat (1+1+1)))])else aj else aj else g a d (bJ (e+1)) f else aj else k0 a d e f
def l3(N:aF)(k0:yF R):aF->yF R
 |0=>λ_ _ _ _=>aj
 |n+1=>r3 N (l3 N k0 n) k0
def b(N:aF)(kr:aQ->az R)(a:aQ)(d:aq):az R:=l3 N (λ_ _ _ e=>kr e) N a d 0 (aP [Ck.s,Ck.i ao,Ck.i ao,Ck.s] 0)
def vo:=b Lib.cZ λr0=>ah r0
def c:=λa d=>(vo a d).isSome
def v:=λa d=>(vo a d).getD ([])
theorem out{x}:∀a d,vo a d=ah x->c a d=ai/\v a d=x:=λ_ _=>Lib.de
end qg

namespace uW
def b(kr:sS R)(a d e:aQ)(f:aw)(h:aq):az R:=bif o9.c a h then bif o9.c d h then bif n6.c e f then kr (o9.v a h) (o9.v d h) (n6.v e f).1 (n6.v e f).2 else aj else aj else aj
def vo:=b λr0 r1 r2 r3=>ah (r0,r1,r2,r3)
def c:=λa d e f h=>(vo a d e f h).isSome
def v:=λa d e f h=>(vo a d e f h).getD ([],[],[],0)
theorem out{x}:∀a d e f h,vo a d e f h=ah x->c a d e f h=ai/\v a d e f h=x:=λ_ _ _ _ _=>Lib.de
end uW

namespace wF
def r22(N:aF)(g k0:gp R)(a:aq)(d:aW)(e f:aw)(h i j l:aQ)(m:aw)(o p:aQ)(q r s t u w y z:aw)(α:aq)(xa xb xc:aw)(xd:aq)(xe:aw)(xf xg xh xi xj xk:aQ):az R:=bif decide (e<(o.length:aw))then bif decide (0<=e)&&decide (e<(o.length:aw))then bif bZ (bu (ar o e.toNat 0)).toList (aC a)then bif decide (0<=e)&&decide (e<(o.length:aw))then bif decide (bE (ar o e.toNat 2)=1)then bif decide (0<=e)&&decide (e<(o.length:aw))then g a d (bJ (e+1)) f h i j l m o p q r s t u w y z α (bJ (e+1)) xb xc (bu (ar o e.toNat 1)) xe xf xg xh xi xj xk else aj else g a d (bJ (e+1)) f h i j l m o p q r s t u w y z α xa xb xc xd xe xf xg xh xi xj xk else aj else g a d (bJ (e+1)) f h i j l m o p q r s t u w y z α xa xb xc xd xe xf xg xh xi xj xk else aj else k0 a d e f h i j l m o p q r s t u w y z α xa xb xc xd xe xf xg xh xi xj xk
def XS(N:aF)(k0:gp R):aF->gp R
 |0=>λ_ _ _ _ _ _ _ _ _ _ _ _ _ _ _ _ _ _ _ _ _ _ _ _ _ _ _ _ _ _ _=>aj
 |n+1=>r22 N (XS N k0 n) k0
def r5(N:aF)(g k0 k1:iK R)(a:aw)(d:aq)(e f h:aw)(i j l m:aQ)(o:aw)(p q:aQ)(r s t u w y z:aw)(α xa xb xc xd xe:aQ):az R:=bif decide (f<(q.length:aw))then bif decide (0<=f)&&decide (f<(q.length:aw))then bif decide (bE (ar q f.toNat 0)=a)then k0 a d 1 f h i j l m o p q r w y z w y z α xa xb xc xd xe else g a d e (bJ (f+1)) h i j l m o p q r s t u w y z α xa xb xc xd xe else aj else k1 a d e f h i j l m o p q r s t u w y z α xa xb xc xd xe
def l5(N:aF)(k0 k1:iK R):aF->iK R
 |0=>λ_ _ _ _ _ _ _ _ _ _ _ _ _ _ _ _ _ _ _ _ _ _ _ _ _=>aj
 |n+1=>r5 N (l5 N k0 k1 n) k0 k1
def b(N:aF)(kr:wv R)(a:aw)(d e f h:aQ)(i:aw)(j l:aQ)(m o:aw)(p:aq):az R:=bif fN.c a d e f h i j l m then Lib.lt (fN.v a d e f h i j l m) λq=>bif qi.c a d e f h i j l m then Lib.lt (qi.v a d e f h i j l m) λr=>bif !r then kr q.1 q.2.1 q.2.2.1 q.2.2.2.1 q.2.2.2.2.1 q.2.2.2.2.2.1 q.2.2.2.2.2.2.1 q.2.2.2.2.2.2.2.1 q.2.2.2.2.2.2.2.2 1 else bif !kl.v o 1 9 then kr q.1 q.2.1 q.2.2.1 q.2.2.2.1 q.2.2.2.2.1 q.2.2.2.2.2.1 q.2.2.2.2.2.2.1 q.2.2.2.2.2.2.2.1 q.2.2.2.2.2.2.2.2 1 else bif !sV.v p then kr q.1 q.2.1 q.2.2.1 q.2.2.2.1 q.2.2.2.2.1 q.2.2.2.2.2.1 q.2.2.2.2.2.2.1 q.2.2.2.2.2.2.2.1 q.2.2.2.2.2.2.2.2 1 else bif decide ((l.length:aw)≥6)then kr q.1 q.2.1 q.2.2.1 q.2.2.2.1 q.2.2.2.2.1 q.2.2.2.2.2.1 q.2.2.2.2.2.2.1 q.2.2.2.2.2.2.2.1 q.2.2.2.2.2.2.2.2 1 else l5 N (λ_ _ s _ _ _ _ _ _ _ _ _ _ t u w _ _ _ y z α xa xb xc=>kr t y z α xa u xb xc w s) (λs t _ _ u w y z α xa xb xc xd xe xf xg xh xi xj xk xl xm xn xo xp=>bif wJ.c u w y z α xa xb xc xd t then Lib.lt (wJ.v u w y z α xa xb xc xd t) λxq=>bif xq.2.2.2.2 then bif Dg.v xq.1 xq.2.1 xq.2.2.1 xq.2.2.2.1 u then bif eZ.c y z α xa t then Lib.lt (eZ.v y z α xa t) λxr=>bif decide (xj<1000000000)then bif lQ.c xp s t 0 xq.2.1 2 xq.2.2.2.1 (bJ (u-xq.2.1))then Lib.lt (lQ.v xp s t 0 xq.2.1 2 xq.2.2.2.1 (bJ (u-xq.2.1))) λxs=>kr xh xk xr.1 xr.2.1 xr.2.2.1 xr.2.2.2.1 xo xs (bJ (xj+1)) 0 else aj else bif lQ.c xp s t 0 xq.2.1 2 xq.2.2.2.1 (bJ (u-xq.2.1))then Lib.lt (lQ.v xp s t 0 xq.2.1 2 xq.2.2.2.1 (bJ (u-xq.2.1))) λxs=>kr xh xk xr.1 xr.2.1 xr.2.2.1 xr.2.2.2.1 xo xs xj 0 else aj else aj else XS N (λxr xs _ _ _ _ _ _ _ xt _ _ _ _ _ xu xv xw xx xy xz ya yb yc yd ye yf yg yh yi yj=>bif decide (xz=0)then bif decide ((xt.length:aw)≥20)then kr xu ye yf yg yh xv yi yj xw 2 else bif cC (yi.length+(aD (aP [Ck.s,Ck.s,Ck.i ao,Ck.i ao,Ck.i ao] 1) 0 [.s xr, .s ⟨#[]⟩, .i .i64 1, .i .i64 0, .i .i64 0]).length) 56 then bif xs then bif qg.c ye xr then Lib.lt (qg.v ye xr) λyk=>bif uW.c yf yg yh xv xr then Lib.lt (uW.v yf yg yh xv xr) λyl=>bif du.c yl.2.2.1 yl.2.2.2 xr then Lib.lt (du.v yl.2.2.1 yl.2.2.2 xr) λym=>bif lQ.c yj xx xy ((yi++aD (aP [Ck.s,Ck.s,Ck.i ao,Ck.i ao,Ck.i ao] 1) 0 [.s xr, .s ⟨#[]⟩, .i .i64 1, .i .i64 0, .i .i64 0]).length:aw) ya yb yc yd then Lib.lt (lQ.v yj xx xy ((yi++aD (aP [Ck.s,Ck.s,Ck.i ao,Ck.i ao,Ck.i ao] 1) 0 [.s xr, .s ⟨#[]⟩, .i .i64 1, .i .i64 0, .i .i64 0]).length:aw) ya yb yc yd) λyn=>kr xu yk yl.1 yl.2.1 ym.1 ym.2 (yi++aD (aP [Ck.s,Ck.s,Ck.i ao,Ck.i ao,Ck.i ao] 1) 0 [.s xr, .s ⟨#[]⟩, .i .i64 1, .i .i64 0, .i .i64 0]) yn xw 0 else aj else aj else aj else aj else bif du.c yh xv xr then Lib.lt (du.v yh xv xr) λyk=>bif lQ.c yj xx xy ((yi++aD (aP [Ck.s,Ck.s,Ck.i ao,Ck.i ao,Ck.i ao] 1) 0 [.s xr, .s ⟨#[]⟩, .i .i64 1, .i .i64 0, .i .i64 0]).length:aw) ya yb yc yd then Lib.lt (lQ.v yj xx xy ((yi++aD (aP [Ck.s,Ck.s,Ck.i ao,Ck.i ao,Ck.i ao] 1) 0 [.s xr, .s ⟨#[]⟩, .i .i64 1, .i .i64 0, .i .i64 0]).length:aw) ya yb yc yd) λyl=>kr xu ye yf yg yk.1 yk.2 (yi++aD (aP [Ck.s,Ck.s,Ck.i ao,Ck.i ao,Ck.i ao] 1) 0 [.s xr, .s ⟨#[]⟩, .i .i64 1, .i .i64 0, .i .i64 0]) yl xw 0 else aj else aj else aj else bif xs then bif qg.c ye xr then Lib.lt (qg.v ye xr) λyk=>bif uW.c yf yg yh xv xr then Lib.lt (uW.v yf yg yh xv xr) λyl=>bif du.c yl.2.2.1 yl.2.2.2 xr then Lib.lt (du.v yl.2.2.1 yl.2.2.2 xr) λym=>bif lQ.c yj xx xy xz ya yb yc yd then Lib.lt (lQ.v yj xx xy xz ya yb yc yd) λyn=>kr xu yk yl.1 yl.2.1 ym.1 ym.2 yi yn xw 0 else aj else aj else aj else aj else bif du.c yh xv xr then Lib.lt (du.v yh xv xr) λyk=>bif lQ.c yj xx xy xz ya yb yc yd then Lib.lt (lQ.v yj xx xy xz ya yb yc yd) λyl=>kr xu ye yf yg yk.1 yk.2 yi yl xw 0 else aj else aj) N t xq.2.2.2.2 0 u w y z α xa xb xc xd xe xf xg xh xi xj s t 0 0 1 ⟨#[]⟩ 0 xk xl xm xn xo xp else XS N (λxr xs _ _ _ _ _ _ _ xt _ _ _ _ _ xu xv xw xx xy xz ya yb yc yd ye yf yg yh yi yj=>bif decide (xz=0)then bif decide ((xt.length:aw)≥20)then kr xu ye yf yg yh xv yi yj xw 2 else bif cC (yi.length+(aD (aP [Ck.s,Ck.s,Ck.i ao,Ck.i ao,Ck.i ao] 1) 0 [.s xr, .s ⟨#[]⟩, .i .i64 1, .i .i64 0, .i .i64 0]).length) 56 then bif xs then bif qg.c ye xr then Lib.lt (qg.v ye xr) λyk=>bif uW.c yf yg yh xv xr then Lib.lt (uW.v yf yg yh xv xr) λyl=>bif du.c yl.2.2.1 yl.2.2.2 xr then Lib.lt (du.v yl.2.2.1 yl.2.2.2 xr) λym=>bif lQ.c yj xx xy ((yi++aD (aP [Ck.s,Ck.s,Ck.i ao,Ck.i ao,Ck.i ao] 1) 0 [.s xr, .s ⟨#[]⟩, .i .i64 1, .i .i64 0, .i .i64 0]).length:aw) ya yb yc yd then Lib.lt (lQ.v yj xx xy ((yi++aD (aP [Ck.s,Ck.s,Ck.i ao,Ck.i ao,Ck.i ao] 1) 0 [.s xr, .s ⟨#[]⟩, .i .i64 1, .i .i64 0, .i .i64 0]).length:aw) ya yb yc yd) λyn=>kr xu yk yl.1 yl.2.1 ym.1 ym.2 (yi++aD (aP [Ck.s,Ck.s,Ck.i ao,Ck.i ao,Ck.i ao] 1) 0 [.s xr, .s ⟨#[]⟩, .i .i64 1, .i .i64 0, .i .i64 0]) yn xw 0 else aj else aj else aj else aj else bif du.c yh xv xr then Lib.lt (du.v yh xv xr) λyk=>bif lQ.c yj xx xy ((yi++aD (aP [Ck.s,Ck.s,Ck.i ao,Ck.i ao,Ck.i ao] 1) 0 [.s xr, .s ⟨#[]⟩, .i .i64 1, .i .i64 0, .i .i64 0]).length:aw) ya yb yc yd then Lib.lt (lQ.v yj xx xy ((yi++aD (aP [Ck.s,Ck.s,Ck.i ao,Ck.i ao,Ck.i ao] 1) 0 [.s xr, .s ⟨#[]⟩, .i .i64 1, .i .i64 0, .i .i64 0]).length:aw) ya yb yc yd) λyl=>kr xu ye yf yg yk.1 yk.2 (yi++aD (aP [Ck.s,Ck.s,Ck.i ao,Ck.i ao,Ck.i ao] 1) 0 [.s xr, .s ⟨#[]⟩, .i .i64 1, .i .i64 0, .i .i64 0]) yl xw 0 else aj else aj else aj else bif xs then bif qg.c ye xr then Lib.lt (qg.v ye xr) λyk=>bif uW.c yf yg yh xv xr then Lib.lt (uW.v yf yg yh xv xr) λyl=>bif du.c yl.2.2.1 yl.2.2.2 xr then Lib.lt (du.v yl.2.2.1 yl.2.2.2 xr) λym=>bif lQ.c yj xx xy xz ya yb yc yd then Lib.lt (lQ.v yj xx xy xz ya yb yc yd) λyn=>kr xu yk yl.1 yl.2.1 ym.1 ym.2 yi yn xw 0 else aj else aj else aj else aj else bif du.c yh xv xr then Lib.lt (du.v yh xv xr) λyk=>bif lQ.c yj xx xy xz ya yb yc yd then Lib.lt (lQ.v yj xx xy xz ya yb yc yd) λyl=>kr xu ye yf yg yk.1 yk.2 yi yl xw 0 else aj else aj) N t xq.2.2.2.2 0 u w y z α xa xb xc xd xe xf xg xh xi xj s t 0 0 1 ⟨#[]⟩ 0 xk xl xm xn xo xp else aj) N o p 0 0 a d e f h i j l m 0 0 0 q.1 q.2.2.2.2.2.1 q.2.2.2.2.2.2.2.2 q.2.1 q.2.2.1 q.2.2.2.1 q.2.2.2.2.1 q.2.2.2.2.2.2.1 q.2.2.2.2.2.2.2.1 else aj else aj
def vo:=b Lib.cZ λr0 r1 r2 r3 r4 r5 r6 r7 r8 r9=>ah (r0,r1,r2,r3,r4,r5,r6,r7,r8,r9)
def c:=λa d e f h i j l m o p=>(vo a d e f h i j l m o p).isSome
def v:=λa d e f h i j l m o p=>(vo a d e f h i j l m o p).getD (0,[],[],[],[],0,[],[],0,0)
theorem out{x}:∀a d e f h i j l m o p,vo a d e f h i j l m o p=ah x->c a d e f h i j l m o p=ai/\v a d e f h i j l m o p=x:=λ_ _ _ _ _ _ _ _ _ _ _=>Lib.de
end wF

namespace uX
def b(kr:aW->az R)(a:aw)(d e f h:aQ)(i:aw)(j l:aQ)(m o:aw):az R:=bif qi.c a d e f h i j l m then bif qi.v a d e f h i j l m then bif kl.v o 0 (bJ ((j.length:aw)-1))then bif decide (0<=o)&&decide (o<(j.length:aw))then kr (decide (bE (ar j o.toNat 2)=1))else aj else kr ak else kr ak else aj
def vo:=b λr0=>ah r0
def c:=λa d e f h i j l m o=>(vo a d e f h i j l m o).isSome
def v:=λa d e f h i j l m o=>(vo a d e f h i j l m o).getD ak
theorem out{x}:∀a d e f h i j l m o,vo a d e f h i j l m o=ah x->c a d e f h i j l m o=ai/\v a d e f h i j l m o=x:=λ_ _ _ _ _ _ _ _ _ _=>Lib.de
end uX

namespace Kk
def b(kr:L5 R)(a:aw)(d:aq)(e:aQ):az R:=bif cC ((aP [Ck.i ao,Ck.i ao] 0).length+e.length) 16 then kr a d (aP [Ck.i ao,Ck.i ao] 0++e)else aj
def v(fV:aw)(e6:aq)(dF:aQ):aw×aq×aQ:=(fV,e6,dF)
def c(fV:aw)(e6:aq)(dF:aQ):aW:=decide (dF.length<=4294967296)
theorem eu(kr:L5 R)(fV:aw)(e6:aq)(dF:aQ)(hc:c fV e6 dF=ai):b kr fV e6 dF=kr (v fV e6 dF).1 (v fV e6 dF).2.1 (v fV e6 dF).2.2:=by have h:dF.length<=4294967296:=cm hc;unfold b;rw[show bS (aP [Ck.i ao,Ck.i ao] 0)+dF.length=dF.length by simp[aP],Lib.cq (by omega) (by omega)];rfl
end Kk

namespace lJ
def r2(N:aF)(g k0 k1:Fk R)(a:aW)(d e:aw)(f:aq)(h:aQ):az R:=bif decide (d<(h.length:aw))then bif decide (0<=d)&&decide (d<(h.length:aw))then bif !kl.v (bE (ar h d.toNat 0)) 1 9 then k0 ak d e f h else bif decide (d>0)then bif decide (0<=bJ (d-1))&&decide (bJ (d-1)<(h.length:aw))then bif decide (bE (ar h (bJ (d-1)).toNat 0)≥bE (ar h d.toNat 0))then k0 ak d e f h else bif !kl.v (bE (ar h d.toNat 1)) 0 (f.size:aw)then k0 ak d e f h else g a (bJ (d+1)) e f h else aj else bif !kl.v (bE (ar h d.toNat 1)) 0 (f.size:aw)then k0 ak d e f h else g a (bJ (d+1)) e f h else aj else k1 a d e f h
def l2(N:aF)(k0 k1:Fk R):aF->Fk R
 |0=>λ_ _ _ _ _=>aj
 |n+1=>r2 N (l2 N k0 k1 n) k0 k1
def b(N:aF)(kr:aW->az R)(a:aw)(d:aq)(e:aQ):az R:=l2 N (λf _ _ _ _=>kr f) (λ_ _ f h i=>bif kl.v f 1 3 then bif decide ((h.size:aw)<=400)then kr (decide ((i.length:aw)<=6))else kr ak else kr ak) N ak 0 a d e
def el(t:aq)(rs:aQ)(i:aF):aW:=decide (1<=bE (ar rs i 0)/\bE (ar rs i 0)<=9)&&(decide (0<=bE (ar rs i 1)/\bE (ar rs i 1)<=t.size)&&(i==0||decide (bE (ar rs (i-1) 0)<bE (ar rs i 0))))
def rest(st:aw)(t:aq)(rs:aQ):aW:=decide (1<=st/\st<=3)&&(decide (t.size<=400)&&decide (rs.length<=6))
def v(fV:aw)(e6:aq)(dF:aQ):aW:=(cw dF.length).all (el e6 dF)&&rest fV e6 dF
theorem mW(n a b:aw):kl.v n a b=decide (a<=n/\n<=b):=by unfold kl.v;by_cases h:a<=n<;>by_cases h2:n<=b<;>simp[h,h2]
theorem NH(st:aw)(t:aq)(rs:aQ){R:Type}(kr:aW->az R):(bif kl.v st 1 3 then bif decide ((t.size:aw)<=400)then kr (decide ((rs.length:aw)<=6))else kr ak else kr ak)=kr (rest st t rs):=by
 unfold rest;rw[mW];have e1:decide ((t.size:aw)<=400)=decide (t.size<=400):=by rw[ca];omega
 have e2:decide ((rs.length:aw)<=6)=decide (rs.length<=6):=by rw[ca];omega
 rw[e1,e2];cases decide (1<=st/\st<=3)<;>cases decide (t.size<=400)<;>rfl
theorem C7{i:aF}(h:0<i)(hn:i<=9223372036854775807):bJ ((i:aw)-1)=((i-1:aF):aw):=by rw[iE (by omega) (by omega)];omega
theorem Ic(p:aF->aW){i n:aF}(h:i<n):(mm i (n-i)).all p=(p i&&(mm (i+1) (n-(i+1))).all p):=by rw[show n-i=(n-(i+1))+1 by omega,List.range'_succ,sU]
theorem eu(kr:aW->az R)(fV:aw)(e6:aq)(dF:aQ)(f0:DX e6)(f1:vC dF):∃N,b N kr fV e6 dF=kr (v fV e6 dF):=by
 refine⟨dF.length+1, ?_⟩
 unfold b;simp only[NH]
 have:=Lib.gV (λn (i:aF)=>l2 (dF.length+1) (λy5 y6 y7 y8 y9=>kr y5) (λJ4 wg LZ HA HQ=>kr (rest LZ HA HQ)) n ak i fV e6 dF) (λi=>dF.length-i) (λi=>i<=dF.length)
  (λi=>kr ((mm i (dF.length-i)).all (el e6 dF)&&rest fV e6 dF)) (λn i hi=>by
  simp only[l2,r2,Lib.dq,Lib.cF,Lib.dZ,bh,mW]
  by_cases h:i<dF.length
  ·rw[Ic _ h];simp only[h,aN,au,Lib.c6 h f1.1];cases h1:decide (1<=bE (ar dF i 0)/\bE (ar dF i 0)<=9)with
   |false=>left;simp[el,h1]
   |true=>
    simp only[a_,ax];by_cases hz:0<i
    ·have e0:decide ((i:aw)>0)=true:=by simp;omega
     have hp:i-1<dF.length:=by omega
     have hi0:(i==0)=false:=by simp;omega
     simp only[e0,au,C7 hz (by have:=f1.1;omega),Lib.cF,Lib.dq,Lib.dZ,hp,aN,aM];cases h2:decide (bE (ar dF (i-1) 0)≥bE (ar dF i 0))with
     |true=>
      left;have e3:decide (bE (ar dF (i-1) 0)<bE (ar dF i 0))=false:=by simp at h2⊢;omega
      simp[el,e3,hi0]
     |false=>
      have e3:decide (bE (ar dF (i-1) 0)<bE (ar dF i 0))=true:=by simp at h2⊢;omega
      cases h3:decide (0<=bE (ar dF i 1)/\bE (ar dF i 1)<=e6.size)with
      |false=>left;simp[el,h3]
      |true=>right;exact⟨i+1,h,by omega,by simp only[el,h1,h3,e3,J8,bh],rfl⟩
    ·have hz:i=0:=by omega
     subst hz;simp only[show decide (((0:aF):aw)>0)=ak from rfl,ax];cases h3:decide (0<=bE (ar dF 0 1)/\bE (ar dF 0 1)<=e6.size)with
     |false=>left;simp[el,h3]
     |true=>right;exact⟨1,h,by omega,by simp only[el,h1,h3,bh];rfl,rfl⟩
  ·left;have h0:dF.length-i=0:=by omega
   simp only[h,bj,ax,h0,RJ,List.all_nil,bh]) (dF.length+1) 0 (by omega) (by omega)
 refine this.trans ?_;unfold v;rw[yv,<-RK]
end lJ

namespace Gj
def b(kr:Fm R)(a:aw)(d:aq)(e:aQ)(f:aq):az R:=bif Kk.c a d e then bif !lJ.v a d e then kr a d e ak else bif a !=1 then kr a d e ak else bif !kl.v (f.size:aw) 1 40 then kr a d e ak else bif decide (bJ ((d.size:aw)+(f.size:aw))>400)then kr a d e ak else bif decide (d.size+f.size<=4611686018427387904)then kr a (d++f) e ai else aj else aj
def v(fV:aw)(e6:aq)(dF:aQ)(gk:aq):aw×aq×aQ×aW:=
 if lJ.v fV e6 dF=ai/\fV=1/\1<=gk.size/\gk.size<=40/\e6.size+gk.size<=400 then(fV,e6++gk,dF,ai)else(fV,e6,dF,ak)
def c(fV:aw)(e6:aq)(dF:aQ)(gk:aq):aW:=decide (dF.length<=4294967296)
theorem eu(kr:Fm R)(fV:aw)(e6:aq)(dF:aQ)(gk:aq)(hc:c fV e6 dF gk=ai)(f0:DX e6)(f1:vC dF)(f2:DX gk):b kr fV e6 dF gk=kr (v fV e6 dF gk).1 (v fV e6 dF gk).2.1 (v fV e6 dF gk).2.2.1 (v fV e6 dF gk).2.2.2:=by
 have hs1:e6.size<=4611686018427387904:=f0;have Nc:gk.size<=4611686018427387904:=f2;have e1:Kk.c fV e6 dF=true:=hc;have e2:∀a b c,lJ.v a b c=lJ.v a b c:=λ_ _ _=>rfl;have e3:∀n a b,kl.v n a b=decide (a<=n/\n<=b):=lJ.mW;unfold b v;rw[e1,e2,e3,au];cases h1:lJ.v fV e6 dF with
 |false=>simp
 |true=>
  by_cases h2:fV=1
  ·by_cases h3:1<=(gk.size:aw)/\(gk.size:aw)<=40
   ·have e4:bJ ((e6.size:aw)+(gk.size:aw))=e6.size+gk.size:=iE (by omega) (by omega);rw[e4,aE h3];by_cases h4:(e6.size:aw)+(gk.size:aw)>400
    ·rw[Lib.zY h4,bH (by omega)];simp[h2]
    ·rw[Lib.Iw h4,bz (by refine⟨rfl,h2, ?_, ?_, ?_⟩<;>omega),Lib.zY (show e6.size+gk.size<=4611686018427387904 by omega)];simp[h2]
   ·rw[aK h3,bH (by omega)];simp
  ·have iw:(fV !=1)=true:=bne_iff_ne.mpr h2;rw[bH (by simp[h2]),iw];rfl
end Gj

namespace sD
def r1(N:aF)(g k0:jE R)(a d e f h i:aw)(j l m o p q:aQ):az R:=bif decide (e<(q.length:aw))then bif decide (0<=e)&&decide (e<(q.length:aw))then bif decide (bE (ar q e.toNat 2)=bJ (a+1))then bif decide (0<=e)&&decide (e<(q.length:aw))then bif decide (bE (ar q e.toNat 4)=1)then bif decide (0<=a)&&decide (a<(p.length:aw))then bif decide (0<=e)&&decide (e<(q.length:aw))then bif decide (0<=e)&&decide (e<((eD q e.toNat 5 [.s (bu (ar p a.toNat 1))]).length:aw))then g a d (bJ (e+1)) f h i j l m o p (eD (eD q e.toNat 5 [.s (bu (ar p a.toNat 1))]) e.toNat 4 [.i .i64 d])else aj else aj else aj else g a d (bJ (e+1)) f h i j l m o p q else aj else g a d (bJ (e+1)) f h i j l m o p q else aj else k0 a d e f h i j l m o p q
def l1(N:aF)(k0:jE R):aF->jE R
 |0=>λ_ _ _ _ _ _ _ _ _ _ _ _=>aj
 |n+1=>r1 N (l1 N k0 n) k0
def b(N:aF)(kr:eN R)(a:aw)(d e f h:aQ)(i:aw)(j l:aQ)(m o p:aw):az R:=l1 N (λ_ _ _ q r s t u w y z α=>kr q t u w y r z α s) N o p 0 a i m d e f h j l
def vo:=b Lib.cZ λr0 r1 r2 r3 r4 r5 r6 r7 r8=>ah (r0,r1,r2,r3,r4,r5,r6,r7,r8)
def c:=λa d e f h i j l m o p=>(vo a d e f h i j l m o p).isSome
def v:=λa d e f h i j l m o p=>(vo a d e f h i j l m o p).getD (0,[],[],[],[],0,[],[],0)
theorem out{x}:∀a d e f h i j l m o p,vo a d e f h i j l m o p=ah x->c a d e f h i j l m o p=ai/\v a d e f h i j l m o p=x:=λ_ _ _ _ _ _ _ _ _ _ _=>Lib.de
end sD

namespace DB
def b(kr:kV R)(a:aw)(d e f h:aQ)(i:aw)(j l:aQ)(m o:aw)(p:aq):az R:=bif fN.c a d e f h i j l m then Lib.lt (fN.v a d e f h i j l m) λq=>bif uX.c a d e f h i j l m o then Lib.lt (uX.v a d e f h i j l m o) λr=>bif !r then kr q.1 q.2.1 q.2.2.1 q.2.2.2.1 q.2.2.2.2.1 q.2.2.2.2.2.1 q.2.2.2.2.2.2.1 q.2.2.2.2.2.2.2.1 q.2.2.2.2.2.2.2.2 ak else bif decide (0<=o)&&decide (o<(j.length:aw))then bif !(Gj.v 1 (bu (ar j o.toNat 1)) [] p).2.2.2 then kr q.1 q.2.1 q.2.2.1 q.2.2.2.1 q.2.2.2.2.1 q.2.2.2.2.2.1 q.2.2.2.2.2.2.1 q.2.2.2.2.2.2.2.1 q.2.2.2.2.2.2.2.2 ak else bif decide (0<=o)&&decide (o<(q.2.2.2.2.2.2.1.length:aw))then bif sD.c q.1 q.2.1 q.2.2.1 q.2.2.2.1 q.2.2.2.2.1 q.2.2.2.2.2.1 (eD q.2.2.2.2.2.2.1 o.toNat 1 [.s (Gj.v 1 (bu (ar j o.toNat 1)) [] p).2.1]) q.2.2.2.2.2.2.2.1 q.2.2.2.2.2.2.2.2 o 1 then Lib.lt (sD.v q.1 q.2.1 q.2.2.1 q.2.2.2.1 q.2.2.2.2.1 q.2.2.2.2.2.1 (eD q.2.2.2.2.2.2.1 o.toNat 1 [.s (Gj.v 1 (bu (ar j o.toNat 1)) [] p).2.1]) q.2.2.2.2.2.2.2.1 q.2.2.2.2.2.2.2.2 o 1) λs=>kr s.1 s.2.1 s.2.2.1 s.2.2.2.1 s.2.2.2.2.1 s.2.2.2.2.2.1 s.2.2.2.2.2.2.1 s.2.2.2.2.2.2.2.1 s.2.2.2.2.2.2.2.2 ai else aj else aj else aj else aj else aj
def vo:=b λr0 r1 r2 r3 r4 r5 r6 r7 r8 r9=>ah (r0,r1,r2,r3,r4,r5,r6,r7,r8,r9)
def c:=λa d e f h i j l m o p=>(vo a d e f h i j l m o p).isSome
def v:=λa d e f h i j l m o p=>(vo a d e f h i j l m o p).getD (0,[],[],[],[],0,[],[],0,ak)
theorem out{x}:∀a d e f h i j l m o p,vo a d e f h i j l m o p=ah x->c a d e f h i j l m o p=ai/\v a d e f h i j l m o p=x:=λ_ _ _ _ _ _ _ _ _ _ _=>Lib.de
end DB

namespace lL
def r9(N:aF)(g k0:oN R)(a:aQ)(d:aw)(e:aq)(f h:aw)(i:aq)(j:aQ):az R:=bif decide (d<(a.length:aw))then bif decide (0<=d)&&decide (d<(a.length:aw))then bif !(b7 (bu (ar a d.toNat 0)).toList (aC e)||List.beq (bu (ar a d.toNat 0)).toList (aC e))then bif decide (0<=d)&&decide (d<(a.length:aw))then bif cC (j.length+(aD (aP [Ck.s,Ck.i ao,Ck.i ao,Ck.s] 1) 0 [.s (bu (ar a d.toNat 0)), .i .i64 (bE (ar a d.toNat 1)), .i .i64 (bE (ar a d.toNat (1+1))), .s (bu (ar a d.toNat (1+1+1)))]).length) 48 then g a (bJ (d+1)) e f h i (j++aD (aP [Ck.s,Ck.i ao,Ck.i ao,Ck.s] 1) 0 [.s (bu (ar a d.toNat 0)), .i .i64 (bE (ar a d.toNat 1)), .i .i64 (bE (ar a d.toNat (1+1))), .s (bu (ar a d.toNat (1+1+1)))])else aj else aj else g a (bJ (d+1)) e f h i j else aj else k0 a d e f h i j
def l9(N:aF)(k0:oN R):aF->oN R
 |0=>λ_ _ _ _ _ _ _=>aj
 |n+1=>r9 N (l9 N k0 n) k0
def r3(N:aF)(g k0:oN R)(a:aQ)(d:aw)(e:aq)(f h:aw)(i:aq)(j:aQ):az R:=bif decide (d<(a.length:aw))then bif decide (0<=d)&&decide (d<(a.length:aw))then bif b7 (bu (ar a d.toNat 0)).toList (aC e)then bif decide (0<=d)&&decide (d<(a.length:aw))then bif cC (j.length+(aD (aP [Ck.s,Ck.i ao,Ck.i ao,Ck.s] 1) 0 [.s (bu (ar a d.toNat 0)), .i .i64 (bE (ar a d.toNat 1)), .i .i64 (bE (ar a d.toNat (1+1))), .s (bu (ar a d.toNat (1+1+1)))]).length) 48 then g a (bJ (d+1)) e f h i (j++aD (aP [Ck.s,Ck.i ao,Ck.i ao,Ck.s] 1) 0 [.s (bu (ar a d.toNat 0)), .i .i64 (bE (ar a d.toNat 1)), .i .i64 (bE (ar a d.toNat (1+1))), .s (bu (ar a d.toNat (1+1+1)))])else aj else aj else g a (bJ (d+1)) e f h i j else aj else k0 a d e f h i j
def l3(N:aF)(k0:oN R):aF->oN R
 |0=>λ_ _ _ _ _ _ _=>aj
 |n+1=>r3 N (l3 N k0 n) k0
def b(N:aF)(kr:aQ->az R)(a:aQ)(d:aq)(e f:aw)(h:aq):az R:=l3 N (λi _ j l m o p=>bif cC (p.length+(aD (aP [Ck.s,Ck.i ao,Ck.i ao,Ck.s] 1) 0 [.s j, .i .i64 l, .i .i64 m, .s o]).length) 48 then l9 N (λ_ _ _ _ _ _ q=>kr q) N i 0 j l m o (p++aD (aP [Ck.s,Ck.i ao,Ck.i ao,Ck.s] 1) 0 [.s j, .i .i64 l, .i .i64 m, .s o])else aj) N a 0 d e f h (aP [Ck.s,Ck.i ao,Ck.i ao,Ck.s] 0)
def vo:=b Lib.cZ λr0=>ah r0
def c:=λa d e f h=>(vo a d e f h).isSome
def v:=λa d e f h=>(vo a d e f h).getD ([])
theorem out{x}:∀a d e f h,vo a d e f h=ah x->c a d e f h=ai/\v a d e f h=x:=λ_ _ _ _ _=>Lib.de
end lL

namespace Oy
def b(kr:eN R)(a:aw)(d e f h:aQ)(i:aw)(j l:aQ)(m:aw)(o:aq)(p q:aw)(r:aq):az R:=bif eZ.c e f h i o then Lib.lt (eZ.v e f h i o) λs=>bif !List.beq (aC s.2.2.2.2) (aC ⟨#[]⟩)then bif qg.c d s.2.2.2.2 then Lib.lt (qg.v d s.2.2.2.2) λt=>bif sW.c s.1 s.2.1 s.2.2.1 s.2.2.2.1 o then Lib.lt (sW.v s.1 s.2.1 s.2.2.1 s.2.2.2.1 o) λu=>bif u then bif lL.c t o p q r then Lib.lt (lL.v t o p q r) λw=>kr a w s.1 s.2.1 s.2.2.1 s.2.2.2.1 j l m else aj else kr a t s.1 s.2.1 s.2.2.1 s.2.2.2.1 j l m else aj else aj else bif sW.c s.1 s.2.1 s.2.2.1 s.2.2.2.1 o then Lib.lt (sW.v s.1 s.2.1 s.2.2.1 s.2.2.2.1 o) λt=>bif t then bif lL.c d o p q r then Lib.lt (lL.v d o p q r) λu=>kr a u s.1 s.2.1 s.2.2.1 s.2.2.2.1 j l m else aj else kr a d s.1 s.2.1 s.2.2.1 s.2.2.2.1 j l m else aj else aj
def vo:=b λr0 r1 r2 r3 r4 r5 r6 r7 r8=>ah (r0,r1,r2,r3,r4,r5,r6,r7,r8)
def c:=λa d e f h i j l m o p q r=>(vo a d e f h i j l m o p q r).isSome
def v:=λa d e f h i j l m o p q r=>(vo a d e f h i j l m o p q r).getD (0,[],[],[],[],0,[],[],0)
theorem out{x}:∀a d e f h i j l m o p q r,vo a d e f h i j l m o p q r=ah x->c a d e f h i j l m o p q r=ai/\v a d e f h i j l m o p q r=x:=λ_ _ _ _ _ _ _ _ _ _ _ _ _=>Lib.de
end Oy

namespace DF
def b(kr:kV R)(a:aw)(d e f h:aQ)(i:aw)(j l:aQ)(m o p:aw):az R:=bif fN.c a d e f h i j l m then Lib.lt (fN.v a d e f h i j l m) λq=>bif uX.c a d e f h i j l m o then Lib.lt (uX.v a d e f h i j l m o) λr=>bif !r then kr q.1 q.2.1 q.2.2.1 q.2.2.2.1 q.2.2.2.2.1 q.2.2.2.2.2.1 q.2.2.2.2.2.2.1 q.2.2.2.2.2.2.2.1 q.2.2.2.2.2.2.2.2 ak else bif !kl.v p 0 999999 then kr q.1 q.2.1 q.2.2.1 q.2.2.2.1 q.2.2.2.2.1 q.2.2.2.2.2.1 q.2.2.2.2.2.2.1 q.2.2.2.2.2.2.2.1 q.2.2.2.2.2.2.2.2 ak else bif decide (0<=o)&&decide (o<(j.length:aw))then bif decide (0<=o)&&decide (o<(q.2.2.2.2.2.2.1.length:aw))then bif sD.c q.1 q.2.1 q.2.2.1 q.2.2.2.1 q.2.2.2.2.1 q.2.2.2.2.2.1 (eD q.2.2.2.2.2.2.1 o.toNat 0 [.s (bu (ar j o.toNat 0)), .s (bu (ar j o.toNat 1)), .i .i64 2, .i .i64 p, .i .i64 a]) q.2.2.2.2.2.2.2.1 q.2.2.2.2.2.2.2.2 o 2 then Lib.lt (sD.v q.1 q.2.1 q.2.2.1 q.2.2.2.1 q.2.2.2.2.1 q.2.2.2.2.2.1 (eD q.2.2.2.2.2.2.1 o.toNat 0 [.s (bu (ar j o.toNat 0)), .s (bu (ar j o.toNat 1)), .i .i64 2, .i .i64 p, .i .i64 a]) q.2.2.2.2.2.2.2.1 q.2.2.2.2.2.2.2.2 o 2) λs=>bif decide (p>0)then bif Oy.c s.1 s.2.1 s.2.2.1 s.2.2.2.1 s.2.2.2.2.1 s.2.2.2.2.2.1 s.2.2.2.2.2.2.1 s.2.2.2.2.2.2.2.1 s.2.2.2.2.2.2.2.2 (bu (ar j o.toNat 0)) a p (bu (ar j o.toNat 1))then Lib.lt (Oy.v s.1 s.2.1 s.2.2.1 s.2.2.2.1 s.2.2.2.2.1 s.2.2.2.2.2.1 s.2.2.2.2.2.2.1 s.2.2.2.2.2.2.2.1 s.2.2.2.2.2.2.2.2 (bu (ar j o.toNat 0)) a p (bu (ar j o.toNat 1))) λt=>kr t.1 t.2.1 t.2.2.1 t.2.2.2.1 t.2.2.2.2.1 t.2.2.2.2.2.1 t.2.2.2.2.2.2.1 t.2.2.2.2.2.2.2.1 t.2.2.2.2.2.2.2.2 ai else aj else kr s.1 s.2.1 s.2.2.1 s.2.2.2.1 s.2.2.2.2.1 s.2.2.2.2.2.1 s.2.2.2.2.2.2.1 s.2.2.2.2.2.2.2.1 s.2.2.2.2.2.2.2.2 ai else aj else aj else aj else aj else aj
def vo:=b λr0 r1 r2 r3 r4 r5 r6 r7 r8 r9=>ah (r0,r1,r2,r3,r4,r5,r6,r7,r8,r9)
def c:=λa d e f h i j l m o p=>(vo a d e f h i j l m o p).isSome
def v:=λa d e f h i j l m o p=>(vo a d e f h i j l m o p).getD (0,[],[],[],[],0,[],[],0,ak)
theorem out{x}:∀a d e f h i j l m o p,vo a d e f h i j l m o p=ah x->c a d e f h i j l m o p=ai/\v a d e f h i j l m o p=x:=λ_ _ _ _ _ _ _ _ _ _ _=>Lib.de
end DF

namespace kA
def r2(N:aF)(g k0:Oj R)(a:aw)(d:aQ):az R:=bif decide (a>127)then bif cC (d.length+(aD (aP [Ck.i bf] 1) 0 [CV.i bf (bF bf (bJ (cO a 128+128)))]).length) 1 then g (bJ (cQ a 128)) (d++aD (aP [Ck.i bf] 1) 0 [CV.i bf (bF bf (bJ (cO a 128+128)))])else aj else k0 a d
def l2(N:aF)(k0:Oj R):aF->Oj R
 |0=>λ_ _=>aj
 |n+1=>r2 N (l2 N k0 n) k0
def b(N:aF)(kr:aq->az R)(a:aw):az R:=l2 N (λd e=>bif cC (e.length+(aD (aP [Ck.i bf] 1) 0 [CV.i bf (bF bf d)]).length) 1 then bif decide ((e++aD (aP [Ck.i bf] 1) 0 [CV.i bf (bF bf d)]).length<=4611686018427387904)then kr (bytesOf (e++aD (aP [Ck.i bf] 1) 0 [CV.i bf (bF bf d)]))else aj else aj) N a (aP [Ck.i bf] 0)
def v(n0:aw):aq:=bytesOf (Lib.vb n0)
def c(n0:aw):aW:=decide (n0<=9223372036854775807)
theorem eu(kr:aq->az R)(n0:aw)(hc:c n0=ai):∃N,b N kr n0=kr (v n0):=by
 refine⟨n0.toNat+1, ?_⟩
 refine Lib.N3 (λn x acc=>l2 (n0.toNat+1) _ n x acc) kr (λn x acc h hl=> ?_) (λn x acc h hl=> ?_) n0 (cm hc)
 ·simp only[l2,r2,h,aN,au,Lib.iX,show acc.length+bS [[CV.i bf (bF bf (bJ (cO x 128+128)))]]=acc.length+1 from rfl,Lib.Hi (show acc.length+1<=140737488355328 by omega),show decide ((128:aw)=0)=ak from rfl,wm,bR]
 ·simp only[l2,r2,h,bj,ax,Lib.iX,show acc.length+bS [[CV.i bf (bF bf x)]]=acc.length+1 from rfl,Lib.Hi (show acc.length+1<=140737488355328 by omega),au];exact Lib.tc (Lib.zY (by rw[bT,bA];omega))
end kA

namespace jI
def b(kr:yG R)(a:aq)(d e:aw)(f:aq):az R:=bif !m8.v a d e f then kr ⟨#[]⟩ ak else bif kA.c (a.size:aw)then bif decide ((kA.v (a.size:aw)).size+a.size<=4611686018427387904)then bif kA.c d then bif decide ((kA.v (a.size:aw)++a).size+(kA.v d).size<=4611686018427387904)then bif kA.c e then bif decide ((kA.v (a.size:aw)++a++kA.v d).size+(kA.v e).size<=4611686018427387904)then bif decide ((kA.v (a.size:aw)++a++kA.v d++kA.v e).size+f.size<=4611686018427387904)then kr (kA.v (a.size:aw)++a++kA.v d++kA.v e++f) ai else aj else aj else aj else aj else aj else aj else aj
def sL(k:aq)(s l:aw)(b:aq):aq:=bytesOf (Lib.vb k.size)++k++bytesOf (Lib.vb s)++bytesOf (Lib.vb l)++b
def v(oG:aq)(pf:aw)(ph:aw)(u0:aq):aq×aW:=if m8.v oG pf ph u0=ai then(sL oG pf ph u0,ai)else(⟨#[]⟩,ak)
theorem eu(kr:yG R)(oG:aq)(pf:aw)(ph:aw)(u0:aq):b kr oG pf ph u0=kr (v oG pf ph u0).1 (v oG pf ph u0).2:=by
 unfold b v;cases h:m8.v oG pf ph u0 with
 |false=>rfl
 |true=>have hr:=m8.D0 h;have cc:∀x:aw,x<=9223372036854775807->kA.c x=true:=λx hx=>aE hx;have z1:(kA.v (oG.size:aw)).size<=64:=Lib.jM (x:=(oG.size:aw)) (by omega);have z2:(kA.v pf).size<=64:=Lib.jM (x:=pf) (by omega);have z3:(kA.v ph).size<=64:=Lib.jM (x:=ph) (by omega);simp(disch:=omega) only[a_,ax,cc _ (show(oG.size:aw)<=9223372036854775807 by omega),cc pf (by omega),cc ph (by omega),au,if_true,Lib.j9,Lib.Sd];rfl
end jI

namespace o7
def b(kr:aq->az R)(a:aw):az R:=kr (bytesOf (aD (aD (aD (aD (aP [Ck.i bf] 4) 0 [CV.i bf (bF bf (ly a (gZ 2 (if aY 24<=32 then aY 24 else 32))))]) 1 [CV.i bf (bF bf (ly a (gZ 2 (if aY 16<=32 then aY 16 else 32))))]) 2 [CV.i bf (bF bf (ly a (gZ 2 (if aY 8<=32 then aY 8 else 32))))]) 3 [CV.i bf (bF bf a)]))
def v(a0:aw):aq:=(bytesOf (aD (aD (aD (aD (aP [Ck.i bf] 4) 0 [CV.i bf (bF bf (ly a0 (gZ 2 (if aY 24<=32 then aY 24 else 32))))]) 1 [CV.i bf (bF bf (ly a0 (gZ 2 (if aY 16<=32 then aY 16 else 32))))]) 2 [CV.i bf (bF bf (ly a0 (gZ 2 (if aY 8<=32 then aY 8 else 32))))]) 3 [CV.i bf (bF bf a0)]))
theorem eu(kr:aq->az R)(a0:aw):b kr a0=kr (v a0):=by first|rfl|(unfold b v;simp only[cK];(repeat' split)<;>rfl)
end o7

namespace fH
def b(kr:yG R)(a:aq):az R:=bif !kl.v (a.size:aw) 1 9000 then kr ⟨#[]⟩ ak else bif kA.c (a.size:aw)then bif vM.c a then bif decide ((kA.v (a.size:aw)).size+(o7.v (vM.v a)).size<=4611686018427387904)then bif decide ((kA.v (a.size:aw)++o7.v (vM.v a)).size+a.size<=4611686018427387904)then kr (kA.v (a.size:aw)++o7.v (vM.v a)++a) ai else aj else aj else aj else aj
def vo:=b λr0 r1=>ah (r0,r1)
def c:=λa=>(vo a).isSome
def v:=λa=>(vo a).getD (⟨#[]⟩,ak)
theorem out{x}:∀a,vo a=ah x->c a=ai/\v a=x:=λ_=>Lib.de
end fH

namespace DG
def b(kr:HV R)(a:aq)(d e:aw)(f:aq):az R:=bif fH.c (jI.v a d e f).1 then bif !(jI.v a d e f).2 then kr (aP [Ck.i ao,Ck.s,Ck.s,Ck.s] 0) ak else bif !(fH.v (jI.v a d e f).1).2 then kr (aP [Ck.i ao,Ck.s,Ck.s,Ck.s] 0) ak else kr (aD (aD (aP [Ck.i ao,Ck.s,Ck.s,Ck.s] 2) 0 [.i .i64 1, .s {data:= #[ay 107,ay 101,ay 112,ay 116]}, .s (fH.v (jI.v a d e f).1).1, .s ⟨#[]⟩]) 1 [.i .i64 2, .s {data:= #[ay 107,ay 101,ay 112,ay 116]}, .s ⟨#[]⟩, .s ⟨#[]⟩]) ai else aj
def vo:=b λr0 r1=>ah (r0,r1)
def c:=λa d e f=>(vo a d e f).isSome
def v:=λa d e f=>(vo a d e f).getD ([],ak)
theorem out{x}:∀a d e f,vo a d e f=ah x->c a d e f=ai/\v a d e f=x:=λ_ _ _ _=>Lib.de
end DG

namespace qd
def b(kr:aW->az R)(a:aq):az R:=kr (kl.v (a.size:aw) 1 8)
def v(a0:aq):aW:=(kl.v (a0.size:aw) 1 8)
theorem eu(kr:aW->az R)(a0:aq):b kr a0=kr (v a0):=by first|rfl|(unfold b v;simp only[cK];(repeat' split)<;>rfl)
end qd

namespace gK
def r4(N:aF)(g k0 k1:QD R)(a:aW)(d:aw)(e:aQ):az R:=bif decide (d<(e.length:aw))then bif decide (0<=d)&&decide (d<(e.length:aw))then bif !qd.v (bu (ar e d.toNat 0))then k0 ak d e else bif decide (((bu (ar e d.toNat 1)).size:aw)>20000)then k0 ak d e else bif !kl.v (bE (ar e d.toNat (1+1))) 0 ((bu (ar e d.toNat 1)).size:aw)then k0 ak d e else bif decide (d>0)then bif decide (0<=bJ (d-1))&&decide (bJ (d-1)<(e.length:aw))then bif !Op.bytesLess (bu (ar e (bJ (d-1)).toNat 0)).toList (bu (ar e d.toNat 0)).toList then k0 ak d e else g a (bJ (d+1)) e else aj else g a (bJ (d+1)) e else aj else k1 a d e
def l4(N:aF)(k0 k1:QD R):aF->QD R
 |0=>λ_ _ _=>aj
 |n+1=>r4 N (l4 N k0 k1 n) k0 k1
def b(N:aF)(kr:aW->az R)(a:aQ):az R:=bif decide ((a.length:aw)>30)then kr ak else l4 N (λd _ _=>kr d) (λ_ _ _=>kr ai) N ak 0 a
def vo:=b Lib.cZ λr0=>ah r0
def c:=λa=>(vo a).isSome
def v:=λa=>(vo a).getD ak
theorem out{x}:∀a,vo a=ah x->c a=ai/\v a=x:=λ_=>Lib.de
end gK

namespace jw
def r2(N:aF)(g k0 k1:mj R)(a:aq)(d e:aw)(f:aQ):az R:=bif decide (e<(f.length:aw))then bif decide (0<=e)&&decide (e<(f.length:aw))then bif bZ (bu (ar f e.toNat 0)).toList (aC a)then k0 a e e f else g a d (bJ (e+1)) f else aj else k1 a d e f
def l2(N:aF)(k0 k1:mj R):aF->mj R
 |0=>λ_ _ _ _=>aj
 |n+1=>r2 N (l2 N k0 k1 n) k0 k1
def b(N:aF)(kr:aw->az R)(a:aQ)(d:aq):az R:=l2 N (λ_ e _ _=>kr e) (λ_ _ _ _=>kr (-1)) N d 0 0 a
def vo:=b Lib.cZ λr0=>ah r0
def c:=λa d=>(vo a d).isSome
def v:=λa d=>(vo a d).getD (0)
theorem out{x}:∀a d,vo a d=ah x->c a d=ai/\v a d=x:=λ_ _=>Lib.de
end jw

namespace eg
def r9(N:aF)(g k0:lO R)(a:aw)(d:aQ)(e f:aq)(h:aw)(i:aQ):az R:=bif decide (a<(d.length:aw))then bif decide (0<=a)&&decide (a<(d.length:aw))then bif !(b7 (bu (ar d a.toNat 0)).toList (aC e)||List.beq (bu (ar d a.toNat 0)).toList (aC e))then bif decide (0<=a)&&decide (a<(d.length:aw))then bif cC (i.length+(aD (aP [Ck.s,Ck.s,Ck.i ao] 1) 0 [.s (bu (ar d a.toNat 0)), .s (bu (ar d a.toNat 1)), .i .i64 (bE (ar d a.toNat (1+1)))]).length) 40 then g (bJ (a+1)) d e f h (i++aD (aP [Ck.s,Ck.s,Ck.i ao] 1) 0 [.s (bu (ar d a.toNat 0)), .s (bu (ar d a.toNat 1)), .i .i64 (bE (ar d a.toNat (1+1)))])else aj else aj else g (bJ (a+1)) d e f h i else aj else k0 a d e f h i
def l9(N:aF)(k0:lO R):aF->lO R
 |0=>λ_ _ _ _ _ _=>aj
 |n+1=>r9 N (l9 N k0 n) k0
def r3(N:aF)(g:rh R)(g1:lO R)(k0:rh R)(k1:lO R)(a:aw)(d:aQ)(e f:aq)(h:aw):az R:=bif decide (a<(d.length:aw))then bif decide (0<=a)&&decide (a<(d.length:aw))then bif b7 (bu (ar d a.toNat 0)).toList (aC e)then bif decide (0<=a)&&decide (a<(d.length:aw))then g1 (bJ (a+1)) d e f h ([]++aD (aP [Ck.s,Ck.s,Ck.i ao] 1) 0 [.s (bu (ar d a.toNat 0)), .s (bu (ar d a.toNat 1)), .i .i64 (bE (ar d a.toNat (1+1)))])else aj else g (bJ (a+1)) d e f h else aj else k0 a d e f h
def zG(N:aF)(g:rh R)(g1:lO R)(k0:rh R)(k1:lO R)(a:aw)(d:aQ)(e f:aq)(h:aw)(i:aQ):az R:=bif decide (a<(d.length:aw))then bif decide (0<=a)&&decide (a<(d.length:aw))then bif b7 (bu (ar d a.toNat 0)).toList (aC e)then bif decide (0<=a)&&decide (a<(d.length:aw))then bif cC (i.length+(aD (aP [Ck.s,Ck.s,Ck.i ao] 1) 0 [.s (bu (ar d a.toNat 0)), .s (bu (ar d a.toNat 1)), .i .i64 (bE (ar d a.toNat (1+1)))]).length) 40 then g1 (bJ (a+1)) d e f h (i++aD (aP [Ck.s,Ck.s,Ck.i ao] 1) 0 [.s (bu (ar d a.toNat 0)), .s (bu (ar d a.toNat 1)), .i .i64 (bE (ar d a.toNat (1+1)))])else aj else aj else g1 (bJ (a+1)) d e f h i else aj else k1 a d e f h i
def sG(N:aF)(k0:rh R)(k1:lO R):aF->lO R
 |0=>λ_ _ _ _ _ _=>aj
 |n+1=>zG N (λx0 x1 x2 x3 x4=>aj) (sG N k0 k1 n) k0 k1
def l3(N:aF)(k0:rh R)(k1:lO R):aF->rh R
 |0=>λ_ _ _ _ _=>aj
 |n+1=>r3 N (l3 N k0 k1 n) (sG N k0 k1 n) k0 k1
def b(N:aF)(kr:aQ->az R)(a:aQ)(d e:aq)(f:aw):az R:=l3 N (λ_ h i j l=>l9 N (λ_ _ _ _ _ m=>kr m) N 0 h i j l ([]++aD (aP [Ck.s,Ck.s,Ck.i ao] 1) 0 [.s i, .s j, .i .i64 l])) (λ_ h i j l m=>bif cC (m.length+(aD (aP [Ck.s,Ck.s,Ck.i ao] 1) 0 [.s i, .s j, .i .i64 l]).length) 40 then l9 N (λ_ _ _ _ _ o=>kr o) N 0 h i j l (m++aD (aP [Ck.s,Ck.s,Ck.i ao] 1) 0 [.s i, .s j, .i .i64 l])else aj) N 0 a d e f
def vo:=b Lib.cZ λr0=>ah r0
def c:=λa d e f=>(vo a d e f).isSome
def v:=λa d e f=>(vo a d e f).getD ([])
theorem out{x}:∀a d e f,vo a d e f=ah x->c a d e f=ai/\v a d e f=x:=λ_ _ _ _=>Lib.de
end eg

namespace eP
def r3(N:aF)(g:u6 R)(g1:vB R)(k0:u6 R)(k1:vB R)(a:aq)(d:aw)(e:aQ):az R:=bif decide (d<(e.length:aw))then bif decide (0<=d)&&decide (d<(e.length:aw))then bif !List.beq (bu (ar e d.toNat 0)).toList (aC a)then bif decide (0<=d)&&decide (d<(e.length:aw))then g1 a (bJ (d+1)) e ([]++aD (aP [Ck.s,Ck.s,Ck.i ao] 1) 0 [.s (bu (ar e d.toNat 0)), .s (bu (ar e d.toNat 1)), .i .i64 (bE (ar e d.toNat (1+1)))])else aj else g a (bJ (d+1)) e else aj else k0 a d e
def zG(N:aF)(g:u6 R)(g1:vB R)(k0:u6 R)(k1:vB R)(a:aq)(d:aw)(e f:aQ):az R:=bif decide (d<(e.length:aw))then bif decide (0<=d)&&decide (d<(e.length:aw))then bif !List.beq (bu (ar e d.toNat 0)).toList (aC a)then bif decide (0<=d)&&decide (d<(e.length:aw))then bif cC (f.length+(aD (aP [Ck.s,Ck.s,Ck.i ao] 1) 0 [.s (bu (ar e d.toNat 0)), .s (bu (ar e d.toNat 1)), .i .i64 (bE (ar e d.toNat (1+1)))]).length) 40 then g1 a (bJ (d+1)) e (f++aD (aP [Ck.s,Ck.s,Ck.i ao] 1) 0 [.s (bu (ar e d.toNat 0)), .s (bu (ar e d.toNat 1)), .i .i64 (bE (ar e d.toNat (1+1)))])else aj else aj else g1 a (bJ (d+1)) e f else aj else k1 a d e f
def sG(N:aF)(k0:u6 R)(k1:vB R):aF->vB R
 |0=>λ_ _ _ _=>aj
 |n+1=>zG N (λx0 x1 x2=>aj) (sG N k0 k1 n) k0 k1
def l3(N:aF)(k0:u6 R)(k1:vB R):aF->u6 R
 |0=>λ_ _ _=>aj
 |n+1=>r3 N (l3 N k0 k1 n) (sG N k0 k1 n) k0 k1
def b(N:aF)(kr:aQ->az R)(a:aQ)(d:aq):az R:=l3 N (λ_ _ _=>kr []) (λ_ _ _ e=>kr e) N d 0 a
def vo:=b Lib.cZ λr0=>ah r0
def c:=λa d=>(vo a d).isSome
def v:=λa d=>(vo a d).getD ([])
theorem out{x}:∀a d,vo a d=ah x->c a d=ai/\v a d=x:=λ_ _=>Lib.de
end eP

namespace BL
def b(kr:HV R)(a:aQ)(d:aw)(e f h:aq):az R:=bif gK.c a then bif !gK.v a then kr [] ak else bif !qd.v e then kr [] ak else bif d !=3 then bif !List.beq (aC h) (aC ⟨#[]⟩)then kr [] ak else bif d !=1 then bif !List.beq (aC f) (aC ⟨#[]⟩)then kr [] ak else bif jw.c a e then Lib.lt (jw.v a e) λi=>bif decide (i≥0)then bif decide (0<=i)&&decide (i<(a.length:aw))then bif decide (d=1)then bif decide ((bu (ar a i.toNat 1)).size+f.size<=4611686018427387904)then bif eg.c a (bu (ar a i.toNat 0)) (bu (ar a i.toNat 1)++f) (bE (ar a i.toNat (1+1)))then Lib.lt (eg.v a (bu (ar a i.toNat 0)) (bu (ar a i.toNat 1)++f) (bE (ar a i.toNat (1+1)))) λj=>bif gK.c j then bif !gK.v j then kr [] ak else kr j ai else aj else aj else aj else bif decide (i<0)then kr [] ak else bif decide (d=2)then bif eg.c a (bu (ar a i.toNat 0)) (bu (ar a i.toNat 1)) ((bu (ar a i.toNat 1)).size:aw)then Lib.lt (eg.v a (bu (ar a i.toNat 0)) (bu (ar a i.toNat 1)) ((bu (ar a i.toNat 1)).size:aw)) λj=>bif gK.c j then bif !gK.v j then kr [] ak else kr j ai else aj else aj else bif decide (d=3)then bif decide (bE (ar a i.toNat (1+1))<((bu (ar a i.toNat 1)).size:aw))then kr [] ak else bif bZ (aC h) (aC e)then kr [] ak else bif !qd.v h then kr [] ak else bif eP.c a e then bif eg.c (eP.v a e) h (bu (ar a i.toNat 1)) (bE (ar a i.toNat (1+1)))then bif gK.c (eg.v (eP.v a e) h (bu (ar a i.toNat 1)) (bE (ar a i.toNat (1+1))))then bif !gK.v (eg.v (eP.v a e) h (bu (ar a i.toNat 1)) (bE (ar a i.toNat (1+1))))then kr [] ak else kr (eg.v (eP.v a e) h (bu (ar a i.toNat 1)) (bE (ar a i.toNat (1+1)))) ai else aj else aj else aj else bif decide (d=4)then bif eP.c a e then bif gK.c (eP.v a e)then bif !gK.v (eP.v a e)then kr [] ak else kr (eP.v a e) ai else aj else aj else kr [] ak else aj else bif decide (d=1)then bif decide (cj ⟨#[]⟩+f.size<=4611686018427387904)then bif eg.c a e ({data:= #[]}++f) 0 then bif gK.c (eg.v a e ({data:= #[]}++f) 0)then bif !gK.v (eg.v a e ({data:= #[]}++f) 0)then kr [] ak else kr (eg.v a e ({data:= #[]}++f) 0) ai else aj else aj else aj else bif decide (i<0)then kr [] ak else bif decide (d=2)then bif eg.c a e ⟨#[]⟩ (cj ⟨#[]⟩:aw)then bif gK.c (eg.v a e ⟨#[]⟩ (cj ⟨#[]⟩:aw))then bif !gK.v (eg.v a e ⟨#[]⟩ (cj ⟨#[]⟩:aw))then kr [] ak else kr (eg.v a e ⟨#[]⟩ (cj ⟨#[]⟩:aw)) ai else aj else aj else bif decide (d=3)then bif bZ (aC h) (aC e)then kr [] ak else bif !qd.v h then kr [] ak else bif eP.c a e then bif eg.c (eP.v a e) h ⟨#[]⟩ 0 then bif gK.c (eg.v (eP.v a e) h ⟨#[]⟩ 0)then bif !gK.v (eg.v (eP.v a e) h ⟨#[]⟩ 0)then kr [] ak else kr (eg.v (eP.v a e) h ⟨#[]⟩ 0) ai else aj else aj else aj else bif decide (d=4)then bif eP.c a e then bif gK.c (eP.v a e)then bif !gK.v (eP.v a e)then kr [] ak else kr (eP.v a e) ai else aj else aj else kr [] ak else aj else bif jw.c a e then Lib.lt (jw.v a e) λi=>bif decide (i≥0)then bif decide (0<=i)&&decide (i<(a.length:aw))then bif decide (d=1)then bif decide ((bu (ar a i.toNat 1)).size+f.size<=4611686018427387904)then bif eg.c a (bu (ar a i.toNat 0)) (bu (ar a i.toNat 1)++f) (bE (ar a i.toNat (1+1)))then Lib.lt (eg.v a (bu (ar a i.toNat 0)) (bu (ar a i.toNat 1)++f) (bE (ar a i.toNat (1+1)))) λj=>bif gK.c j then bif !gK.v j then kr [] ak else kr j ai else aj else aj else aj else bif decide (i<0)then kr [] ak else bif decide (d=2)then bif eg.c a (bu (ar a i.toNat 0)) (bu (ar a i.toNat 1)) ((bu (ar a i.toNat 1)).size:aw)then Lib.lt (eg.v a (bu (ar a i.toNat 0)) (bu (ar a i.toNat 1)) ((bu (ar a i.toNat 1)).size:aw)) λj=>bif gK.c j then bif !gK.v j then kr [] ak else kr j ai else aj else aj else bif decide (d=3)then bif decide (bE (ar a i.toNat (1+1))<((bu (ar a i.toNat 1)).size:aw))then kr [] ak else bif bZ (aC h) (aC e)then kr [] ak else bif !qd.v h then kr [] ak else bif eP.c a e then bif eg.c (eP.v a e) h (bu (ar a i.toNat 1)) (bE (ar a i.toNat (1+1)))then bif gK.c (eg.v (eP.v a e) h (bu (ar a i.toNat 1)) (bE (ar a i.toNat (1+1))))then bif !gK.v (eg.v (eP.v a e) h (bu (ar a i.toNat 1)) (bE (ar a i.toNat (1+1))))then kr [] ak else kr (eg.v (eP.v a e) h (bu (ar a i.toNat 1)) (bE (ar a i.toNat (1+1)))) ai else aj else aj else aj else bif decide (d=4)then bif eP.c a e then bif gK.c (eP.v a e)then bif !gK.v (eP.v a e)then kr [] ak else kr (eP.v a e) ai else aj else aj else kr [] ak else aj else bif decide (d=1)then bif decide (cj ⟨#[]⟩+f.size<=4611686018427387904)then bif eg.c a e ({data:= #[]}++f) 0 then bif gK.c (eg.v a e ({data:= #[]}++f) 0)then bif !gK.v (eg.v a e ({data:= #[]}++f) 0)then kr [] ak else kr (eg.v a e ({data:= #[]}++f) 0) ai else aj else aj else aj else bif decide (i<0)then kr [] ak else bif decide (d=2)then bif eg.c a e ⟨#[]⟩ (cj ⟨#[]⟩:aw)then bif gK.c (eg.v a e ⟨#[]⟩ (cj ⟨#[]⟩:aw))then bif !gK.v (eg.v a e ⟨#[]⟩ (cj ⟨#[]⟩:aw))then kr [] ak else kr (eg.v a e ⟨#[]⟩ (cj ⟨#[]⟩:aw)) ai else aj else aj else bif decide (d=3)then bif bZ (aC h) (aC e)then kr [] ak else bif !qd.v h then kr [] ak else bif eP.c a e then bif eg.c (eP.v a e) h ⟨#[]⟩ 0 then bif gK.c (eg.v (eP.v a e) h ⟨#[]⟩ 0)then bif !gK.v (eg.v (eP.v a e) h ⟨#[]⟩ 0)then kr [] ak else kr (eg.v (eP.v a e) h ⟨#[]⟩ 0) ai else aj else aj else aj else bif decide (d=4)then bif eP.c a e then bif gK.c (eP.v a e)then bif !gK.v (eP.v a e)then kr [] ak else kr (eP.v a e) ai else aj else aj else kr [] ak else aj else bif d !=1 then bif !List.beq (aC f) (aC ⟨#[]⟩)then kr [] ak else bif jw.c a e then Lib.lt (jw.v a e) λi=>bif decide (i≥0)then bif decide (0<=i)&&decide (i<(a.length:aw))then bif decide (d=1)then bif decide ((bu (ar a i.toNat 1)).size+f.size<=4611686018427387904)then bif eg.c a (bu (ar a i.toNat 0)) (bu (ar a i.toNat 1)++f) (bE (ar a i.toNat (1+1)))then Lib.lt (eg.v a (bu (ar a i.toNat 0)) (bu (ar a i.toNat 1)++f) (bE (ar a i.toNat (1+1)))) λj=>bif gK.c j then bif !gK.v j then kr [] ak else kr j ai else aj else aj else aj else bif decide (i<0)then kr [] ak else bif decide (d=2)then bif eg.c a (bu (ar a i.toNat 0)) (bu (ar a i.toNat 1)) ((bu (ar a i.toNat 1)).size:aw)then Lib.lt (eg.v a (bu (ar a i.toNat 0)) (bu (ar a i.toNat 1)) ((bu (ar a i.toNat 1)).size:aw)) λj=>bif gK.c j then bif !gK.v j then kr [] ak else kr j ai else aj else aj else bif decide (d=3)then bif decide (bE (ar a i.toNat (1+1))<((bu (ar a i.toNat 1)).size:aw))then kr [] ak else bif bZ (aC h) (aC e)then kr [] ak else bif !qd.v h then kr [] ak else bif eP.c a e then bif eg.c (eP.v a e) h (bu (ar a i.toNat 1)) (bE (ar a i.toNat (1+1)))then bif gK.c (eg.v (eP.v a e) h (bu (ar a i.toNat 1)) (bE (ar a i.toNat (1+1))))then bif !gK.v (eg.v (eP.v a e) h (bu (ar a i.toNat 1)) (bE (ar a i.toNat (1+1))))then kr [] ak else kr (eg.v (eP.v a e) h (bu (ar a i.toNat 1)) (bE (ar a i.toNat (1+1)))) ai else aj else aj else aj else bif decide (d=4)then bif eP.c a e then bif gK.c (eP.v a e)then bif !gK.v (eP.v a e)then kr [] ak else kr (eP.v a e) ai else aj else aj else kr [] ak else aj else bif decide (d=1)then bif decide (cj ⟨#[]⟩+f.size<=4611686018427387904)then bif eg.c a e ({data:= #[]}++f) 0 then bif gK.c (eg.v a e ({data:= #[]}++f) 0)then bif !gK.v (eg.v a e ({data:= #[]}++f) 0)then kr [] ak else kr (eg.v a e ({data:= #[]}++f) 0) ai else aj else aj else aj else bif decide (i<0)then kr [] ak else bif decide (d=2)then bif eg.c a e ⟨#[]⟩ (cj ⟨#[]⟩:aw)then bif gK.c (eg.v a e ⟨#[]⟩ (cj ⟨#[]⟩:aw))then bif !gK.v (eg.v a e ⟨#[]⟩ (cj ⟨#[]⟩:aw))then kr [] ak else kr (eg.v a e ⟨#[]⟩ (cj ⟨#[]⟩:aw)) ai else aj else aj else bif decide (d=3)then bif bZ (aC h) (aC e)then kr [] ak else bif !qd.v h then kr [] ak else bif eP.c a e then bif eg.c (eP.v a e) h ⟨#[]⟩ 0 then bif gK.c (eg.v (eP.v a e) h ⟨#[]⟩ 0)then bif !gK.v (eg.v (eP.v a e) h ⟨#[]⟩ 0)then kr [] ak else kr (eg.v (eP.v a e) h ⟨#[]⟩ 0) ai else aj else aj else aj else bif decide (d=4)then bif eP.c a e then bif gK.c (eP.v a e)then bif !gK.v (eP.v a e)then kr [] ak else kr (eP.v a e) ai else aj else aj else kr [] ak else aj else bif jw.c a e then Lib.lt (jw.v a e) λi=>bif decide (i≥0)then bif decide (0<=i)&&decide (i<(a.length:aw))then bif decide (d=1)then bif decide ((bu (ar a i.toNat 1)).size+f.size<=4611686018427387904)then bif eg.c a (bu (ar a i.toNat 0)) (bu (ar a i.toNat 1)++f) (bE (ar a i.toNat (1+1)))then Lib.lt (eg.v a (bu (ar a i.toNat 0)) (bu (ar a i.toNat 1)++f) (bE (ar a i.toNat (1+1)))) λj=>bif gK.c j then bif !gK.v j then kr [] ak else kr j ai else aj else aj else aj else bif decide (i<0)then kr [] ak else bif decide (d=2)then bif eg.c a (bu (ar a i.toNat 0)) (bu (ar a i.toNat 1)) ((bu (ar a i.toNat 1)).size:aw)then Lib.lt (eg.v a (bu (ar a i.toNat 0)) (bu (ar a i.toNat 1)) ((bu (ar a i.toNat 1)).size:aw)) λj=>bif gK.c j then bif !gK.v j then kr [] ak else kr j ai else aj else aj else bif decide (d=3)then bif decide (bE (ar a i.toNat (1+1))<((bu (ar a i.toNat 1)).size:aw))then kr [] ak else bif bZ (aC h) (aC e)then kr [] ak else bif !qd.v h then kr [] ak else bif eP.c a e then bif eg.c (eP.v a e) h (bu (ar a i.toNat 1)) (bE (ar a i.toNat (1+1)))then bif gK.c (eg.v (eP.v a e) h (bu (ar a i.toNat 1)) (bE (ar a i.toNat (1+1))))then bif !gK.v (eg.v (eP.v a e) h (bu (ar a i.toNat 1)) (bE (ar a i.toNat (1+1))))then kr [] ak else kr (eg.v (eP.v a e) h (bu (ar a i.toNat 1)) (bE (ar a i.toNat (1+1)))) ai else aj else aj else aj else bif decide (d=4)then bif eP.c a e then bif gK.c (eP.v a e)then bif !gK.v (eP.v a e)then kr [] ak else kr (eP.v a e) ai else aj else aj else kr [] ak else aj else bif decide (d=1)then bif decide (cj ⟨#[]⟩+f.size<=4611686018427387904)then bif eg.c a e ({data:= #[]}++f) 0 then bif gK.c (eg.v a e ({data:= #[]}++f) 0)then bif !gK.v (eg.v a e ({data:= #[]}++f) 0)then kr [] ak else kr (eg.v a e ({data:= #[]}++f) 0) ai else aj else aj else aj else bif decide (i<0)then kr [] ak else bif decide (d=2)then bif eg.c a e ⟨#[]⟩ (cj ⟨#[]⟩:aw)then bif gK.c (eg.v a e ⟨#[]⟩ (cj ⟨#[]⟩:aw))then bif !gK.v (eg.v a e ⟨#[]⟩ (cj ⟨#[]⟩:aw))then kr [] ak else kr (eg.v a e ⟨#[]⟩ (cj ⟨#[]⟩:aw)) ai else aj else aj else bif decide (d=3)then bif bZ (aC h) (aC e)then kr [] ak else bif !qd.v h then kr [] ak else bif eP.c a e then bif eg.c (eP.v a e) h ⟨#[]⟩ 0 then bif gK.c (eg.v (eP.v a e) h ⟨#[]⟩ 0)then bif !gK.v (eg.v (eP.v a e) h ⟨#[]⟩ 0)then kr [] ak else kr (eg.v (eP.v a e) h ⟨#[]⟩ 0) ai else aj else aj else aj else bif decide (d=4)then bif eP.c a e then bif gK.c (eP.v a e)then bif !gK.v (eP.v a e)then kr [] ak else kr (eP.v a e) ai else aj else aj else kr [] ak else aj else aj
def vo:=b λr0 r1=>ah (r0,r1)
def c:=λa d e f h=>(vo a d e f h).isSome
def v:=λa d e f h=>(vo a d e f h).getD ([],ak)
theorem out{x}:∀a d e f h,vo a d e f h=ah x->c a d e f h=ai/\v a d e f h=x:=λ_ _ _ _ _=>Lib.de
end BL

namespace qh
def r3(N:aF)(g k0 k1:yE R)(a:aQ)(d e:aw)(f:aQ):az R:=bif decide (e<(a.length:aw))then bif decide (0<=e)&&decide (e<(a.length:aw))then bif BL.c f (bE (ar a e.toNat 0)) (bu (ar a e.toNat 1)) (bu (ar a e.toNat (1+1))) (bu (ar a e.toNat (1+1+1)))then bif !(BL.v f (bE (ar a e.toNat 0)) (bu (ar a e.toNat 1)) (bu (ar a e.toNat (1+1))) (bu (ar a e.toNat (1+1+1)))).2 then k0 a e e f else g a d (bJ (e+1)) (BL.v f (bE (ar a e.toNat 0)) (bu (ar a e.toNat 1)) (bu (ar a e.toNat (1+1))) (bu (ar a e.toNat (1+1+1)))).1 else aj else aj else k1 a d e f
def l3(N:aF)(k0 k1:yE R):aF->yE R
 |0=>λ_ _ _ _=>aj
 |n+1=>r3 N (l3 N k0 k1 n) k0 k1
def b(N:aF)(kr:Dq R)(a d:aQ):az R:=bif cC ((aP [Ck.s,Ck.s,Ck.i ao] 0).length+a.length) 40 then l3 N (λ_ e _ f=>kr f e) (λe _ _ f=>kr f (e.length:aw)) N d 0 0 (aP [Ck.s,Ck.s,Ck.i ao] 0++a)else aj
def vo:=b Lib.cZ λr0 r1=>ah (r0,r1)
def c:=λa d=>(vo a d).isSome
def v:=λa d=>(vo a d).getD ([],0)
theorem out{x}:∀a d,vo a d=ah x->c a d=ai/\v a d=x:=λ_ _=>Lib.de
end qh

namespace AD
def b(kr:aw->az R)(a:aW):az R:=bif a then kr 0 else kr 1
def v(a0:aW):aw:=bif a0 then 0 else 1
theorem eu(kr:aw->az R)(a0:aW):b kr a0=kr (v a0):=by first|rfl|(unfold b v;simp only[cK];(repeat' split)<;>rfl)
end AD

namespace DC
def b(kr:nZ R)(a:aw)(d e f h:aQ)(i:aw)(j l:aQ)(m:aw)(o p q:aQ)(r s:aw)(t:aq)(u:aw)(w:aQ):az R:=bif DF.c a d e f h i j l m s (cO u 1000000)then Lib.lt (DF.v a d e f h i j l m s (cO u 1000000)) λy=>bif y.2.2.2.2.2.2.2.2.2 then bif decide (cO u 1000000>0)then bif decide (0<=s)&&decide (s<(y.2.2.2.2.2.2.1.length:aw))then bif cC ((aP [Ck.s,Ck.i ao,Ck.i ao,Ck.s] 0).length+q.length) 48 then bif cC ((aP [Ck.s,Ck.i ao,Ck.i ao,Ck.s] 0++q).length+(aD (aP [Ck.s,Ck.i ao,Ck.i ao,Ck.s] 1) 0 [.s (bu (ar y.2.2.2.2.2.2.1 s.toNat 0)), .i .i64 (bE (ar y.2.2.2.2.2.2.1 s.toNat (1+1+1+1))), .i .i64 (bE (ar y.2.2.2.2.2.2.1 s.toNat (1+1+1))), .s (bu (ar y.2.2.2.2.2.2.1 s.toNat 1))]).length) 48 then bif DG.c (bu (ar y.2.2.2.2.2.2.1 s.toNat 0)) (bE (ar y.2.2.2.2.2.2.1 s.toNat (1+1+1+1))) (bE (ar y.2.2.2.2.2.2.1 s.toNat (1+1+1))) (bu (ar y.2.2.2.2.2.2.1 s.toNat 1))then Lib.lt (DG.v (bu (ar y.2.2.2.2.2.2.1 s.toNat 0)) (bE (ar y.2.2.2.2.2.2.1 s.toNat (1+1+1+1))) (bE (ar y.2.2.2.2.2.2.1 s.toNat (1+1+1))) (bu (ar y.2.2.2.2.2.2.1 s.toNat 1))) λz=>bif z.2 then bif qh.c o z.1 then Lib.lt (qh.v o z.1) λα=>kr (AD.v y.2.2.2.2.2.2.2.2.2) y.1 y.2.1 y.2.2.1 y.2.2.2.1 y.2.2.2.2.1 y.2.2.2.2.2.1 y.2.2.2.2.2.2.1 y.2.2.2.2.2.2.2.1 y.2.2.2.2.2.2.2.2.1 α.1 p (aP [Ck.s,Ck.i ao,Ck.i ao,Ck.s] 0++q++aD (aP [Ck.s,Ck.i ao,Ck.i ao,Ck.s] 1) 0 [.s (bu (ar y.2.2.2.2.2.2.1 s.toNat 0)), .i .i64 (bE (ar y.2.2.2.2.2.2.1 s.toNat (1+1+1+1))), .i .i64 (bE (ar y.2.2.2.2.2.2.1 s.toNat (1+1+1))), .s (bu (ar y.2.2.2.2.2.2.1 s.toNat 1))])else aj else kr (AD.v y.2.2.2.2.2.2.2.2.2) y.1 y.2.1 y.2.2.1 y.2.2.2.1 y.2.2.2.2.1 y.2.2.2.2.2.1 y.2.2.2.2.2.2.1 y.2.2.2.2.2.2.2.1 y.2.2.2.2.2.2.2.2.1 o p (aP [Ck.s,Ck.i ao,Ck.i ao,Ck.s] 0++q++aD (aP [Ck.s,Ck.i ao,Ck.i ao,Ck.s] 1) 0 [.s (bu (ar y.2.2.2.2.2.2.1 s.toNat 0)), .i .i64 (bE (ar y.2.2.2.2.2.2.1 s.toNat (1+1+1+1))), .i .i64 (bE (ar y.2.2.2.2.2.2.1 s.toNat (1+1+1))), .s (bu (ar y.2.2.2.2.2.2.1 s.toNat 1))])else aj else aj else aj else aj else kr (AD.v y.2.2.2.2.2.2.2.2.2) y.1 y.2.1 y.2.2.1 y.2.2.2.1 y.2.2.2.2.1 y.2.2.2.2.2.1 y.2.2.2.2.2.2.1 y.2.2.2.2.2.2.2.1 y.2.2.2.2.2.2.2.2.1 o p q else kr (AD.v y.2.2.2.2.2.2.2.2.2) y.1 y.2.1 y.2.2.1 y.2.2.2.1 y.2.2.2.2.1 y.2.2.2.2.2.1 y.2.2.2.2.2.2.1 y.2.2.2.2.2.2.2.1 y.2.2.2.2.2.2.2.2.1 o p q else aj
def vo:=b λr0 r1 r2 r3 r4 r5 r6 r7 r8 r9 Jw Ag Uw=>ah (r0,r1,r2,r3,r4,r5,r6,r7,r8,r9,Jw,Ag,Uw)
def c:=λa d e f h i j l m o p q r s t u w=>(vo a d e f h i j l m o p q r s t u w).isSome
def v:=λa d e f h i j l m o p q r s t u w=>(vo a d e f h i j l m o p q r s t u w).getD (0,0,[],[],[],[],0,[],[],0,[],[],[])
theorem out{x}:∀a d e f h i j l m o p q r s t u w,vo a d e f h i j l m o p q r s t u w=ah x->c a d e f h i j l m o p q r s t u w=ai/\v a d e f h i j l m o p q r s t u w=x:=λ_ _ _ _ _ _ _ _ _ _ _ _ _ _ _ _ _=>Lib.de
end DC

namespace DD
def b(kr:kV R)(a:aw)(d e f h:aQ)(i:aw)(j l:aQ)(m o:aw):az R:=bif fN.c a d e f h i j l m then Lib.lt (fN.v a d e f h i j l m) λp=>bif uX.c a d e f h i j l m o then Lib.lt (uX.v a d e f h i j l m o) λq=>bif !q then kr p.1 p.2.1 p.2.2.1 p.2.2.2.1 p.2.2.2.2.1 p.2.2.2.2.2.1 p.2.2.2.2.2.2.1 p.2.2.2.2.2.2.2.1 p.2.2.2.2.2.2.2.2 ak else bif decide (0<=o)&&decide (o<(p.2.2.2.2.2.2.1.length:aw))then bif sD.c p.1 p.2.1 p.2.2.1 p.2.2.2.1 p.2.2.2.2.1 p.2.2.2.2.2.1 (eD p.2.2.2.2.2.2.1 o.toNat 2 [.i .i64 3]) p.2.2.2.2.2.2.2.1 p.2.2.2.2.2.2.2.2 o 3 then Lib.lt (sD.v p.1 p.2.1 p.2.2.1 p.2.2.2.1 p.2.2.2.2.1 p.2.2.2.2.2.1 (eD p.2.2.2.2.2.2.1 o.toNat 2 [.i .i64 3]) p.2.2.2.2.2.2.2.1 p.2.2.2.2.2.2.2.2 o 3) λr=>kr r.1 r.2.1 r.2.2.1 r.2.2.2.1 r.2.2.2.2.1 r.2.2.2.2.2.1 r.2.2.2.2.2.2.1 r.2.2.2.2.2.2.2.1 r.2.2.2.2.2.2.2.2 ai else aj else aj else aj else aj
def vo:=b λr0 r1 r2 r3 r4 r5 r6 r7 r8 r9=>ah (r0,r1,r2,r3,r4,r5,r6,r7,r8,r9)
def c:=λa d e f h i j l m o=>(vo a d e f h i j l m o).isSome
def v:=λa d e f h i j l m o=>(vo a d e f h i j l m o).getD (0,[],[],[],[],0,[],[],0,ak)
theorem out{x}:∀a d e f h i j l m o,vo a d e f h i j l m o=ah x->c a d e f h i j l m o=ai/\v a d e f h i j l m o=x:=λ_ _ _ _ _ _ _ _ _ _=>Lib.de
end DD

namespace qF
def b(kr:eN R)(a:aw)(d e f h:aQ)(i:aw)(j l:aQ)(m o:aw):az R:=bif fN.c a d e f h i j l m then bif decide (cO o 1000<0)then bif decide ((fN.v a d e f h i j l m).1>bJ (1000000000-bJ (cO o 1000+1000)))then kr 1000000000 (fN.v a d e f h i j l m).2.1 (fN.v a d e f h i j l m).2.2.1 (fN.v a d e f h i j l m).2.2.2.1 (fN.v a d e f h i j l m).2.2.2.2.1 (fN.v a d e f h i j l m).2.2.2.2.2.1 (fN.v a d e f h i j l m).2.2.2.2.2.2.1 (fN.v a d e f h i j l m).2.2.2.2.2.2.2.1 (fN.v a d e f h i j l m).2.2.2.2.2.2.2.2 else kr (bJ ((fN.v a d e f h i j l m).1+bJ (cO o 1000+1000))) (fN.v a d e f h i j l m).2.1 (fN.v a d e f h i j l m).2.2.1 (fN.v a d e f h i j l m).2.2.2.1 (fN.v a d e f h i j l m).2.2.2.2.1 (fN.v a d e f h i j l m).2.2.2.2.2.1 (fN.v a d e f h i j l m).2.2.2.2.2.2.1 (fN.v a d e f h i j l m).2.2.2.2.2.2.2.1 (fN.v a d e f h i j l m).2.2.2.2.2.2.2.2 else bif decide ((fN.v a d e f h i j l m).1>bJ (1000000000-cO o 1000))then kr 1000000000 (fN.v a d e f h i j l m).2.1 (fN.v a d e f h i j l m).2.2.1 (fN.v a d e f h i j l m).2.2.2.1 (fN.v a d e f h i j l m).2.2.2.2.1 (fN.v a d e f h i j l m).2.2.2.2.2.1 (fN.v a d e f h i j l m).2.2.2.2.2.2.1 (fN.v a d e f h i j l m).2.2.2.2.2.2.2.1 (fN.v a d e f h i j l m).2.2.2.2.2.2.2.2 else kr (bJ ((fN.v a d e f h i j l m).1+cO o 1000)) (fN.v a d e f h i j l m).2.1 (fN.v a d e f h i j l m).2.2.1 (fN.v a d e f h i j l m).2.2.2.1 (fN.v a d e f h i j l m).2.2.2.2.1 (fN.v a d e f h i j l m).2.2.2.2.2.1 (fN.v a d e f h i j l m).2.2.2.2.2.2.1 (fN.v a d e f h i j l m).2.2.2.2.2.2.2.1 (fN.v a d e f h i j l m).2.2.2.2.2.2.2.2 else aj
def vo:=b λr0 r1 r2 r3 r4 r5 r6 r7 r8=>ah (r0,r1,r2,r3,r4,r5,r6,r7,r8)
def c:=λa d e f h i j l m o=>(vo a d e f h i j l m o).isSome
def v:=λa d e f h i j l m o=>(vo a d e f h i j l m o).getD (0,[],[],[],[],0,[],[],0)
theorem out{x}:∀a d e f h i j l m o,vo a d e f h i j l m o=ah x->c a d e f h i j l m o=ai/\v a d e f h i j l m o=x:=λ_ _ _ _ _ _ _ _ _ _=>Lib.de
end qF

namespace sZ
def r4(N:aF)(g k0:jb R)(a d e:aw)(f h i j:aQ)(l:aw)(m o:aQ)(p q r s t u w:aw)(y z α xa xb xc:aQ):az R:=bif decide (d<(o.length:aw))then bif decide (0<=d)&&decide (d<(o.length:aw))then bif bE (ar o d.toNat 0) !=a then bif decide (0<=d)&&decide (d<(o.length:aw))then bif cC (xc.length+(aD (aP [Ck.i ao,Ck.s,Ck.i ao,Ck.i ao,Ck.i ao,Ck.s,Ck.i ao] 1) 0 [.i .i64 (bE (ar o d.toNat 0)), .s (bu (ar o d.toNat 1)), .i .i64 (bE (ar o d.toNat (1+1))), .i .i64 (bE (ar o d.toNat (1+1+1))), .i .i64 (bE (ar o d.toNat (1+1+1+1))), .s (bu (ar o d.toNat (1+1+1+1+1))), .i .i64 (bE (ar o d.toNat (1+1+1+1+1+1)))]).length) 72 then g a (bJ (d+1)) e f h i j l m o p q r s t u w y z α xa xb (xc++aD (aP [Ck.i ao,Ck.s,Ck.i ao,Ck.i ao,Ck.i ao,Ck.s,Ck.i ao] 1) 0 [.i .i64 (bE (ar o d.toNat 0)), .s (bu (ar o d.toNat 1)), .i .i64 (bE (ar o d.toNat (1+1))), .i .i64 (bE (ar o d.toNat (1+1+1))), .i .i64 (bE (ar o d.toNat (1+1+1+1))), .s (bu (ar o d.toNat (1+1+1+1+1))), .i .i64 (bE (ar o d.toNat (1+1+1+1+1+1)))])else aj else aj else g a (bJ (d+1)) e f h i j l m o p q r s t u w y z α xa xb xc else aj else k0 a d e f h i j l m o p q r s t u w y z α xa xb xc
def l4(N:aF)(k0:jb R):aF->jb R
 |0=>λ_ _ _ _ _ _ _ _ _ _ _ _ _ _ _ _ _ _ _ _ _ _ _=>aj
 |n+1=>r4 N (l4 N k0 n) k0
def b(N:aF)(kr:eN R)(a:aw)(d e f h:aQ)(i:aw)(j l:aQ)(m o:aw):az R:=bif fN.c a d e f h i j l m then l4 N (λ_ _ _ _ _ _ _ _ _ _ _ _ _ _ p q r s t u w y z=>kr p s t u w q y z r) N o 0 a d e f h i j l m 0 0 0 (fN.v a d e f h i j l m).1 (fN.v a d e f h i j l m).2.2.2.2.2.1 (fN.v a d e f h i j l m).2.2.2.2.2.2.2.2 (fN.v a d e f h i j l m).2.1 (fN.v a d e f h i j l m).2.2.1 (fN.v a d e f h i j l m).2.2.2.1 (fN.v a d e f h i j l m).2.2.2.2.1 (fN.v a d e f h i j l m).2.2.2.2.2.2.1 (aP [Ck.i ao,Ck.s,Ck.i ao,Ck.i ao,Ck.i ao,Ck.s,Ck.i ao] 0)else aj
def vo:=b Lib.cZ λr0 r1 r2 r3 r4 r5 r6 r7 r8=>ah (r0,r1,r2,r3,r4,r5,r6,r7,r8)
def c:=λa d e f h i j l m o=>(vo a d e f h i j l m o).isSome
def v:=λa d e f h i j l m o=>(vo a d e f h i j l m o).getD (0,[],[],[],[],0,[],[],0)
theorem out{x}:∀a d e f h i j l m o,vo a d e f h i j l m o=ah x->c a d e f h i j l m o=ai/\v a d e f h i j l m o=x:=λ_ _ _ _ _ _ _ _ _ _=>Lib.de
end sZ

namespace wK
def r5(N:aF)(g:BA R)(g1:vx R)(k0:BA R)(k1:vx R)(a:aQ)(d:aw)(e:aQ):az R:=bif decide (d<(e.length:aw))then bif decide (0<=d)&&decide (d<(e.length:aw))then bif decide (d<(a.length:aw))then bif decide (0<=d)&&decide (d<(a.length:aw))then bif decide (bE (ar a d.toNat 0)>((bu (ar e d.toNat 1)).size:aw))then bif decide (((bu (ar e d.toNat 1)).size:aw)<bE (ar e d.toNat (1+1)))then bif g9 0 (bE (ar e d.toNat (1+1))) ((bu (ar e d.toNat 1)).size:aw)then g1 a (bJ (d+1)) e ([]++aD (aP [Ck.s,Ck.s,Ck.i ao] 1) 0 [.s (bu (ar e d.toNat 0)), .s (bK (bu (ar e d.toNat 1)) (aY 0) (bE (ar e d.toNat (1+1))).toNat), .i .i64 (bE (ar e d.toNat (1+1)))])else aj else bif g9 0 ((bu (ar e d.toNat 1)).size:aw) ((bu (ar e d.toNat 1)).size:aw)then g1 a (bJ (d+1)) e ([]++aD (aP [Ck.s,Ck.s,Ck.i ao] 1) 0 [.s (bu (ar e d.toNat 0)), .s (bK (bu (ar e d.toNat 1)) (aY 0) ((bu (ar e d.toNat 1)).size:aw).toNat), .i .i64 ((bu (ar e d.toNat 1)).size:aw)])else aj else bif decide (bE (ar a d.toNat 0)<bE (ar e d.toNat (1+1)))then bif g9 0 (bE (ar e d.toNat (1+1))) ((bu (ar e d.toNat 1)).size:aw)then g1 a (bJ (d+1)) e ([]++aD (aP [Ck.s,Ck.s,Ck.i ao] 1) 0 [.s (bu (ar e d.toNat 0)), .s (bK (bu (ar e d.toNat 1)) (aY 0) (bE (ar e d.toNat (1+1))).toNat), .i .i64 (bE (ar e d.toNat (1+1)))])else aj else bif g9 0 (bE (ar a d.toNat 0)) ((bu (ar e d.toNat 1)).size:aw)then g1 a (bJ (d+1)) e ([]++aD (aP [Ck.s,Ck.s,Ck.i ao] 1) 0 [.s (bu (ar e d.toNat 0)), .s (bK (bu (ar e d.toNat 1)) (aY 0) (bE (ar a d.toNat 0)).toNat), .i .i64 (bE (ar a d.toNat 0))])else aj else aj else bif decide (0<bE (ar e d.toNat (1+1)))then bif g9 0 (bE (ar e d.toNat (1+1))) ((bu (ar e d.toNat 1)).size:aw)then g1 a (bJ (d+1)) e ([]++aD (aP [Ck.s,Ck.s,Ck.i ao] 1) 0 [.s (bu (ar e d.toNat 0)), .s (bK (bu (ar e d.toNat 1)) (aY 0) (bE (ar e d.toNat (1+1))).toNat), .i .i64 (bE (ar e d.toNat (1+1)))])else aj else g1 a (bJ (d+1)) e ([]++aD (aP [Ck.s,Ck.s,Ck.i ao] 1) 0 [.s (bu (ar e d.toNat 0)), .s (bK (bu (ar e d.toNat 1)) (aY 0) (aY 0)), .i .i64 0])else aj else k0 a d e
def r5a(N:aF)(g:BA R)(g1:vx R)(k0:BA R)(k1:vx R)(a:aQ)(d:aw)(e f:aQ):az R:=bif decide (d<(e.length:aw))then bif decide (0<=d)&&decide (d<(e.length:aw))then bif decide (d<(a.length:aw))then bif decide (0<=d)&&decide (d<(a.length:aw))then bif decide (bE (ar a d.toNat 0)>((bu (ar e d.toNat 1)).size:aw))then bif decide (((bu (ar e d.toNat 1)).size:aw)<bE (ar e d.toNat (1+1)))then bif g9 0 (bE (ar e d.toNat (1+1))) ((bu (ar e d.toNat 1)).size:aw)then bif cC (f.length+(aD (aP [Ck.s,Ck.s,Ck.i ao] 1) 0 [.s (bu (ar e d.toNat 0)), .s (bK (bu (ar e d.toNat 1)) (aY 0) (bE (ar e d.toNat (1+1))).toNat), .i .i64 (bE (ar e d.toNat (1+1)))]).length) 40 then g1 a (bJ (d+1)) e (f++aD (aP [Ck.s,Ck.s,Ck.i ao] 1) 0 [.s (bu (ar e d.toNat 0)), .s (bK (bu (ar e d.toNat 1)) (aY 0) (bE (ar e d.toNat (1+1))).toNat), .i .i64 (bE (ar e d.toNat (1+1)))])else aj else aj else bif g9 0 ((bu (ar e d.toNat 1)).size:aw) ((bu (ar e d.toNat 1)).size:aw)then bif cC (f.length+(aD (aP [Ck.s,Ck.s,Ck.i ao] 1) 0 [.s (bu (ar e d.toNat 0)), .s (bK (bu (ar e d.toNat 1)) (aY 0) ((bu (ar e d.toNat 1)).size:aw).toNat), .i .i64 ((bu (ar e d.toNat 1)).size:aw)]).length) 40 then g1 a (bJ (d+1)) e (f++aD (aP [Ck.s,Ck.s,Ck.i ao] 1) 0 [.s (bu (ar e d.toNat 0)), .s (bK (bu (ar e d.toNat 1)) (aY 0) ((bu (ar e d.toNat 1)).size:aw).toNat), .i .i64 ((bu (ar e d.toNat 1)).size:aw)])else aj else aj else bif decide (bE (ar a d.toNat 0)<bE (ar e d.toNat (1+1)))then bif g9 0 (bE (ar e d.toNat (1+1))) ((bu (ar e d.toNat 1)).size:aw)then bif cC (f.length+(aD (aP [Ck.s,Ck.s,Ck.i ao] 1) 0 [.s (bu (ar e d.toNat 0)), .s (bK (bu (ar e d.toNat 1)) (aY 0) (bE (ar e d.toNat (1+1))).toNat), .i .i64 (bE (ar e d.toNat (1+1)))]).length) 40 then g1 a (bJ (d+1)) e (f++aD (aP [Ck.s,Ck.s,Ck.i ao] 1) 0 [.s (bu (ar e d.toNat 0)), .s (bK (bu (ar e d.toNat 1)) (aY 0) (bE (ar e d.toNat (1+1))).toNat), .i .i64 (bE (ar e d.toNat (1+1)))])else aj else aj else bif g9 0 (bE (ar a d.toNat 0)) ((bu (ar e d.toNat 1)).size:aw)then bif cC (f.length+(aD (aP [Ck.s,Ck.s,Ck.i ao] 1) 0 [.s (bu (ar e d.toNat 0)), .s (bK (bu (ar e d.toNat 1)) (aY 0) (bE (ar a d.toNat 0)).toNat), .i .i64 (bE (ar a d.toNat 0))]).length) 40 then g1 a (bJ (d+1)) e (f++aD (aP [Ck.s,Ck.s,Ck.i ao] 1) 0 [.s (bu (ar e d.toNat 0)), .s (bK (bu (ar e d.toNat 1)) (aY 0) (bE (ar a d.toNat 0)).toNat), .i .i64 (bE (ar a d.toNat 0))])else aj else aj else aj else bif decide (0<bE (ar e d.toNat (1+1)))then bif g9 0 (bE (ar e d.toNat (1+1))) ((bu (ar e d.toNat 1)).size:aw)then bif cC (f.length+(aD (aP [Ck.s,Ck.s,Ck.i ao] 1) 0 [.s (bu (ar e d.toNat 0)), .s (bK (bu (ar e d.toNat 1)) (aY 0) (bE (ar e d.toNat (1+1))).toNat), .i .i64 (bE (ar e d.toNat (1+1)))]).length) 40 then g1 a (bJ (d+1)) e (f++aD (aP [Ck.s,Ck.s,Ck.i ao] 1) 0 [.s (bu (ar e d.toNat 0)), .s (bK (bu (ar e d.toNat 1)) (aY 0) (bE (ar e d.toNat (1+1))).toNat), .i .i64 (bE (ar e d.toNat (1+1)))])else aj else aj else bif cC (f.length+(aD (aP [Ck.s,Ck.s,Ck.i ao] 1) 0 [.s (bu (ar e d.toNat 0)), .s (bK (bu (ar e d.toNat 1)) (aY 0) (aY 0)), .i .i64 0]).length) 40 then g1 a (bJ (d+1)) e (f++aD (aP [Ck.s,Ck.s,Ck.i ao] 1) 0 [.s (bu (ar e d.toNat 0)), .s (bK (bu (ar e d.toNat 1)) (aY 0) (aY 0)), .i .i64 0])else aj else aj else k1 a d e f
def l5a(N:aF)(k0:BA R)(k1:vx R):aF->vx R
 |0=>λ_ _ _ _=>aj
 |n+1=>r5a N (λx0 x1 x2=>aj) (l5a N k0 k1 n) k0 k1
def l5(N:aF)(k0:BA R)(k1:vx R):aF->BA R
 |0=>λ_ _ _=>aj
 |n+1=>r5 N (l5 N k0 k1 n) (l5a N k0 k1 n) k0 k1
def b(N:aF)(kr:HV R)(a d:aQ):az R:=bif gK.c a then bif !gK.v a then kr [] ak else l5 N (λ_ _ _=>kr [] ai) (λ_ _ _ e=>kr e ai) N d 0 a else aj
def vo:=b Lib.cZ λr0 r1=>ah (r0,r1)
def c:=λa d=>(vo a d).isSome
def v:=λa d=>(vo a d).getD ([],ak)
theorem out{x}:∀a d,vo a d=ah x->c a d=ai/\v a d=x:=λ_ _=>Lib.de
end wK

namespace vP
def b(kr:yG R)(a:aQ)(d:aq):az R:=bif jw.c a d then bif decide (jw.v a d<0)then kr ⟨#[]⟩ ak else bif decide (0<=jw.v a d)&&decide (jw.v a d<(a.length:aw))then kr (bu (ar a (jw.v a d).toNat 1)) ai else aj else aj
def vo:=b λr0 r1=>ah (r0,r1)
def c:=λa d=>(vo a d).isSome
def v:=λa d=>(vo a d).getD (⟨#[]⟩,ak)
theorem out{x}:∀a d,vo a d=ah x->c a d=ai/\v a d=x:=λ_ _=>Lib.de
end vP

namespace fM
def r6(N:aF)(g k0 k1:vA R)(a:aq)(d e f:aw)(h:aW)(i j l:aw):az R:=bif decide (l<(a.size:aw))then bif decide (l<bJ (d+5))then bif decide (0<=l)&&decide (l<(a.size:aw))then bif decide (0<=l)&&decide (l<(a.size:aw))then bif decide ((↑(gM a l.toNat):aw)<128)then bif decide (bJ (i+bJ (cO (bJ (↑(gM a l.toNat):aw)) 128*j))>1000000000)then k0 a d 0 0 ak (bJ (i+bJ (cO (bJ (↑(gM a l.toNat):aw)) 128*j))) (bJ (j*128)) l else bif kA.c (bJ (i+bJ (cO (bJ (↑(gM a l.toNat):aw)) 128*j)))then bif g9 d (bJ (l+1)) (a.size:aw)then bif !List.beq (kA.v (bJ (i+bJ (cO (bJ (↑(gM a l.toNat):aw)) 128*j)))).toList (bK a d.toNat (bJ (l+1)).toNat).toList then k0 a d 0 0 ak (bJ (i+bJ (cO (bJ (↑(gM a l.toNat):aw)) 128*j))) (bJ (j*128)) l else k0 a d (bJ (i+bJ (cO (bJ (↑(gM a l.toNat):aw)) 128*j))) (bJ (l+1)) ai (bJ (i+bJ (cO (bJ (↑(gM a l.toNat):aw)) 128*j))) (bJ (j*128)) l else aj else aj else g a d e f h (bJ (i+bJ (cO (bJ (↑(gM a l.toNat):aw)) 128*j))) (bJ (j*128)) (bJ (l+1))else aj else aj else k1 a d e f h i j l else k1 a d e f h i j l
def l6(N:aF)(k0 k1:vA R):aF->vA R
 |0=>λ_ _ _ _ _ _ _ _=>aj
 |n+1=>r6 N (l6 N k0 k1 n) k0 k1
def b(N:aF)(kr:L4 R)(a:aq)(d:aw):az R:=bif !kl.v d 0 (a.size:aw)then kr 0 0 ak else l6 N (λ_ _ e f h _ _ _=>kr e f h) (λ_ _ _ _ _ _ _ _=>kr 0 0 ak) N a d 0 0 ak 0 1 d
def v(cW:aq)(gL:aw):aw×aw×aW:=if 0<=gL/\gL<=cW.size then Lib.rv cW gL.toNat 5 0 0 else(0,0,ak)
theorem eu(kr:L4 R)(cW:aq)(gL:aw)(f0:DX cW):∃N,b N kr cW gL=kr (v cW gL).1 (v cW gL).2.1 (v cW gL).2.2:=by
 refine⟨6, ?_⟩
 unfold b v;by_cases hn:0<=gL/\gL<=cW.size
 ·have e:kl.v gL 0 (cW.size:aw)=true:=by simp[kl.v,hn]
  obtain⟨a,rfl⟩:∃a:aF,gL=(a:aw):=⟨gL.toNat,by omega⟩
  have ha:a<=cW.size:=by omega
  rw[e,bz hn,Lib.dZ];have hs:cW.size<=4611686018427387904:=f0;simp only[a_,ax]
  have:=Lib.gV (λm (s:aF×aw)=>l6 6 (λy8 y9 J4 wg LZ HA HQ Wn=>kr J4 wg LZ) (λQt Dl Fc D7 wh J5 J6 VI=>kr 0 0 ak) m cW a 0 0 ak s.2 (128^s.1) ((a+s.1:aF):aw)) (λs=>5-s.1) (λs=>s.1<=5/\s.2=Lib.num cW a s.1/\∀i,i<s.1->128<=gM cW (a+i))
   (λs=>kr (Lib.rv cW a (5-s.1) s.1 s.2).1 (Lib.rv cW a (5-s.1) s.1 s.2).2.1 (Lib.rv cW a (5-s.1) s.1 s.2).2.2) (λm s hs5=>by
   obtain⟨j,n⟩:=s
   obtain⟨hj,aeM,hge⟩:=hs5
   dsimp only at hj aeM hge⊢
   have hb:=Lib.Gv cW (a+j)
   have e5:bJ ((a:aw)+5)=((a+5:aF):aw):=by rw[iE (by omega) (by omega)];omega
   by_cases gq:a+j<cW.size
   ·by_cases hj5:j<5
    ·have eb:bJ (gM cW (a+j):aw)=(gM cW (a+j):aw):=iE (by omega) (by omega);have em:cO (gM cW (a+j):aw) 128=(gM cW (a+j):aw)%128:=ig (by omega);have hp:(128:aw)^j<=268435456/\(1:aw)<=128^j/\(128:aw)^(j+1)=128^j*128:=by
      obtain rfl|rfl|rfl|rfl|rfl:j=0\/j=1\/j=2\/j=3\/j=4:=by omega
      all_goals decide
     have hrg:=Lib.Bk cW j a;rw[<-aeM]at hrg;have hm0:0<=(gM cW (a+j):aw)%128/\(gM cW (a+j):aw)%128<=127:=by omega
     have hq:0<=(gM cW (a+j):aw)%128*128^j/\(gM cW (a+j):aw)%128*128^j<=127*128^j:=
      ⟨Int.mul_nonneg hm0.1 (by omega),Ds hm0.2 (by omega)⟩
     have eq1:bJ ((gM cW (a+j):aw)%128*128^j)=(gM cW (a+j):aw)%128*128^j:=iE (by omega) (by omega);have eq2:bJ (n+(gM cW (a+j):aw)%128*128^j)=n+(gM cW (a+j):aw)%128*128^j:=iE (by omega) (by omega);have eq3:bJ ((128:aw)^j*128)=128^(j+1):=by rw[hp.2.2];exact iE (by omega) (by omega)
     have ef:5-j=(5-(j+1))+1:=by omega
     have Xz:n+(gM cW (a+j):aw)%128*128^j=Lib.num cW a (j+1):=by rw[Lib.xI,<-aeM]
     have en:bJ (((a+j:aF):aw)+1)=((a+(j+1):aF):aw):=Lib.c6 gq (by omega);have c2:decide (((a+j:aF):aw)<((a+5:aF):aw))=true:=Lib.MU (by omega)
     have Xy:Lib.rv cW a (5-j) j n=(if(gM cW (a+j):aw)>127 then Lib.rv cW a (5-(j+1)) (j+1) (n+(gM cW (a+j):aw)%128*128^j)
       else if(j>0/\gM cW (a+j)=0)\/n+(gM cW (a+j):aw)%128*128^j>1000000000 then(0,0,ak)
       else(n+(gM cW (a+j):aw)%128*128^j,((a+j+1:aF):aw),ai)):=by
      rw[ef];simp only[Lib.rv];rw[bz gq]
     simp only[l6,r6,Lib.MU gq,e5,c2,Lib.cF,Lib.dZ,eb,em,eq1,eq2,eq3,en,au,aM];by_cases hc:(gM cW (a+j):aw)<128
     ·left;rw[aE hc,au,Xy,bH (by omega)];by_cases tv:n+(gM cW (a+j):aw)%128*128^j>1000000000
      ·rw[aE tv,bz (.inr tv)];rfl
      ·have ec:kA.c (n+(gM cW (a+j):aw)%128*128^j)=true:=aE (by omega);have ein:g9 (a:aw) ((a+(j+1):aF):aw) (cW.size:aw)=true:=by simp[g9];omega
       rw[aK tv,ax,ec,au,ein,au,Xz];have aq8:=Lib.canon cW j a (by omega) hge (by omega) (by rw[<-Xz];omega);unfold kA.v;rw[aq8];by_cases hz:j>0/\gM cW (a+j)=0
       ·rw[aE hz,bz (.inl hz)];rfl
       ·rw[aK hz,bH (by rw[Xz]at tv;omega)];rfl
     ·right;rw[aK hc];refine⟨(j+1,n+(gM cW (a+j):aw)%128*128^j),⟨by dsimp only;omega,Xz,λi hi=> ?_⟩,by dsimp only;omega,by dsimp only;rw[Xy,bz (by omega)],rfl⟩
      by_cases OZ:i<j
      ·exact hge i OZ
      ·have:i=j:=by dsimp only at hi;omega
       subst this;omega
    ·left;have JX:j=5:=by omega
     subst JX;simp only[l6,r6,Lib.MU gq,e5,Lib.Sb (bm (a+5)),au,ax];rfl
   ·left;have Xy:Lib.rv cW a (5-j) j n=(0,0,ak):=by
     by_cases hj5:j<5
     ·have ef:5-j=(5-(j+1))+1:=by omega
      rw[ef];simp only[Lib.rv];rw[bH gq]
     ·rw[show 5-j=0 by omega];rfl
    simp only[l6,r6,Lib.Sb gq,ax,Xy]) 6 (0,0) ⟨by dsimp only;omega,rfl,λi hi=>by dsimp only at hi;omega⟩ (by dsimp only;omega)
  exact this
 ·have e:kl.v gL 0 (cW.size:aw)=false:=by simp[kl.v];omega
  rw[e,bH hn];rfl
end fM

namespace HH
def r5(N:aF)(g k0 k1:mj R)(a:aq)(d e:aw)(f:aQ):az R:=bif decide (e<(a.size:aw))then bif !(fM.v a e).2.2 then k0 a e e f else bif decide ((fM.v a e).1>bJ (bJ ((a.size:aw)-(fM.v a e).2.1)-4))then k0 a e e f else bif g9 (bJ ((fM.v a e).2.1+4)) (bJ (bJ ((fM.v a e).2.1+4)+(fM.v a e).1)) (a.size:aw)then bif fH.c (bK a (bJ ((fM.v a e).2.1+4)).toNat (bJ (bJ ((fM.v a e).2.1+4)+(fM.v a e).1)).toNat)then bif !(fH.v (bK a (bJ ((fM.v a e).2.1+4)).toNat (bJ (bJ ((fM.v a e).2.1+4)+(fM.v a e).1)).toNat)).2 then k0 a e e f else bif g9 e (bJ (bJ ((fM.v a e).2.1+4)+(fM.v a e).1)) (a.size:aw)then bif !List.beq (fH.v (bK a (bJ ((fM.v a e).2.1+4)).toNat (bJ (bJ ((fM.v a e).2.1+4)+(fM.v a e).1)).toNat)).1.toList (bK a e.toNat (bJ (bJ ((fM.v a e).2.1+4)+(fM.v a e).1)).toNat).toList then k0 a e e f else bif cC (f.length+(aD (aP [.s] 1) 0 [.s (bK a (bJ ((fM.v a e).2.1+4)).toNat (bJ (bJ ((fM.v a e).2.1+4)+(fM.v a e).1)).toNat)]).length) 16 then g a d (bJ (bJ ((fM.v a e).2.1+4)+(fM.v a e).1)) (f++aD (aP [.s] 1) 0 [.s (bK a (bJ ((fM.v a e).2.1+4)).toNat (bJ (bJ ((fM.v a e).2.1+4)+(fM.v a e).1)).toNat)])else aj else aj else aj else aj else k1 a d e f
def l5(N:aF)(k0 k1:mj R):aF->mj R
 |0=>λ_ _ _ _=>aj
 |n+1=>r5 N (l5 N k0 k1 n) k0 k1
def b(N:aF)(kr:Dq R)(a:aq):az R:=bif decide ((a.size:aw)>20000)then kr (aP [.s] 0) 0 else l5 N (λ_ d _ e=>kr e d) (λ_ _ d e=>kr e d) N a 0 0 (aP [.s] 0)
def vo:=b Lib.cZ λr0 r1=>ah (r0,r1)
def c:=λa=>(vo a).isSome
def v:=λa=>(vo a).getD ([],0)
theorem out{x}:∀a,vo a=ah x->c a=ai/\v a=x:=λ_=>Lib.de
end HH

namespace qf
def b(kr:L8 R)(a:aq)(d:aw):az R:=bif !(fM.v a d).2.2 then kr ⟨#[]⟩ 0 ak else bif decide ((fM.v a d).1>20000)then kr ⟨#[]⟩ 0 ak else bif decide ((fM.v a d).1>bJ ((a.size:aw)-(fM.v a d).2.1))then kr ⟨#[]⟩ 0 ak else bif g9 (fM.v a d).2.1 (bJ ((fM.v a d).2.1+(fM.v a d).1)) (a.size:aw)then kr (bK a (fM.v a d).2.1.toNat (bJ ((fM.v a d).2.1+(fM.v a d).1)).toNat) (bJ ((fM.v a d).2.1+(fM.v a d).1)) ai else aj
def v(cW:aq)(gL:aw):aq×aw×aW:=Lib.g6 cW gL
theorem eu(kr:L8 R)(cW:aq)(gL:aw)(f0:DX cW):b kr cW gL=kr (v cW gL).1 (v cW gL).2.1 (v cW gL).2.2:=Lib.vm f0 gL kr
end qf

namespace rG
def b(kr:wx R)(a:aq):az R:=bif !(qf.v a 0).2.2 then kr ⟨#[]⟩ 0 0 ⟨#[]⟩ ak else bif !(fM.v a (qf.v a 0).2.1).2.2 then kr ⟨#[]⟩ 0 0 ⟨#[]⟩ ak else bif !(fM.v a (fM.v a (qf.v a 0).2.1).2.1).2.2 then kr ⟨#[]⟩ 0 0 ⟨#[]⟩ ak else bif g9 (fM.v a (fM.v a (qf.v a 0).2.1).2.1).2.1 (a.size:aw) (a.size:aw)then bif !(jI.v (qf.v a 0).1 (fM.v a (qf.v a 0).2.1).1 (fM.v a (fM.v a (qf.v a 0).2.1).2.1).1 (bK a (fM.v a (fM.v a (qf.v a 0).2.1).2.1).2.1.toNat (a.size:aw).toNat)).2 then kr ⟨#[]⟩ 0 0 ⟨#[]⟩ ak else bif !List.beq (jI.v (qf.v a 0).1 (fM.v a (qf.v a 0).2.1).1 (fM.v a (fM.v a (qf.v a 0).2.1).2.1).1 (bK a (fM.v a (fM.v a (qf.v a 0).2.1).2.1).2.1.toNat (a.size:aw).toNat)).1.toList (aC a)then kr ⟨#[]⟩ 0 0 ⟨#[]⟩ ak else kr (qf.v a 0).1 (fM.v a (qf.v a 0).2.1).1 (fM.v a (fM.v a (qf.v a 0).2.1).2.1).1 (bK a (fM.v a (fM.v a (qf.v a 0).2.1).2.1).2.1.toNat (a.size:aw).toNat) ai else aj
def no:aq×aw×aw×aq×aW:=(⟨#[]⟩,0,0,⟨#[]⟩,ak)
def v(t0:aq):aq×aw×aw×aq×aW:=
 match Lib.g6 t0 0 with
 |(k,a,ai)=>(match Lib.er t0 a with
  |(s,x,ai)=>(match Lib.er t0 x with
   |(l,y,ai)=>if m8.v k s l (t0.extract y.toNat t0.size)=ai then(k,s,l,t0.extract y.toNat t0.size,ai)else no
   |_=>no)
  |_=>no)
 |_=>no
theorem eu(kr:wx R)(t0:aq)(f0:DX t0):b kr t0=kr (v t0).1 (v t0).2.1 (v t0).2.2.1 (v t0).2.2.2.1 (v t0).2.2.2.2:=by
 have e1:qf.v=Lib.g6:=rfl;have e2:fM.v=Lib.er:=rfl;unfold b v;simp only[e1,e2,Lib.dZ];cases h1:Lib.g6 t0 0 with
 |mk k r1=>
  obtain⟨a,ok1⟩:=r1;cases ok1 with
  |false=>rfl
  |true=>
   dsimp only;cases h2:Lib.er t0 a with
   |mk s r2=>
    obtain⟨x,ok2⟩:=r2;cases ok2 with
    |false=>rfl
    |true=>
     dsimp only;cases h3:Lib.er t0 x with
     |mk l r3=>
      obtain⟨y,ok3⟩:=r3;cases ok3 with
      |false=>rfl
      |true=>
       obtain⟨p1,p2,p3,p4,p5⟩:=Lib.Hh h1;obtain⟨q1,q2,q3,q4,q5,q6⟩:=Lib.jX h2;obtain⟨r1,r2,r3,r4,r5,r6⟩:=Lib.jX h3;dsimp only;simp only[a_,ax];rw[Lib.tc (show g9 y (t0.size:aw) (t0.size:aw)=ai by simp[g9];omega)];unfold jI.v;cases hE:m8.v k s l (t0.extract y.toNat t0.size)with
       |false=>rfl
       |true=>
        have ht:jI.sL k s l (t0.extract y.toNat t0.size)=t0:=by unfold jI.sL;rw[p5,q6,Lib.wX t0 (by omega) (by omega),r6,Lib.wX t0 (by omega) (by omega),Lib.wX t0 (by omega) (by omega)];exact Lib.GF t0
        simp only[if_true,a_,ax,ht,Lib.pb]
end rG

namespace HG
def r7(N:aF)(g k0:QF R)(a:aw)(d e:aQ):az R:=bif decide (a<(e.length:aw))then bif decide (0<=a)&&decide (a<(e.length:aw))then bif(rG.v (bu (ar e a.toNat 0))).2.2.2.2 then bif lL.c d (rG.v (bu (ar e a.toNat 0))).1 (rG.v (bu (ar e a.toNat 0))).2.1 (rG.v (bu (ar e a.toNat 0))).2.2.1 (rG.v (bu (ar e a.toNat 0))).2.2.2.1 then g (bJ (a+1)) (lL.v d (rG.v (bu (ar e a.toNat 0))).1 (rG.v (bu (ar e a.toNat 0))).2.1 (rG.v (bu (ar e a.toNat 0))).2.2.1 (rG.v (bu (ar e a.toNat 0))).2.2.2.1) e else aj else g (bJ (a+1)) d e else aj else k0 a d e
def l7(N:aF)(k0:QF R):aF->QF R
 |0=>λ_ _ _=>aj
 |n+1=>r7 N (l7 N k0 n) k0
def b(N:aF)(kr:aQ->az R)(a:aQ):az R:=bif gK.c a then bif !gK.v a then kr (aP [Ck.s,Ck.i ao,Ck.i ao,Ck.s] 0)else bif vP.c a {data:= #[ay 107,ay 101,ay 112,ay 116]}then bif HH.c (vP.v a {data:= #[ay 107,ay 101,ay 112,ay 116]}).1 then l7 N (λ_ d _=>kr d) N 0 (aP [Ck.s,Ck.i ao,Ck.i ao,Ck.s] 0) (HH.v (vP.v a {data:= #[ay 107,ay 101,ay 112,ay 116]}).1).1 else aj else aj else aj
def vo:=b Lib.cZ λr0=>ah r0
def c:=λa=>(vo a).isSome
def v:=λa=>(vo a).getD ([])
theorem out{x}:∀a,vo a=ah x->c a=ai/\v a=x:=λ_=>Lib.de
end HG

namespace jJ
def r9(N:aF)(g:AR R)(k0:HW R)(k1:AR R)(a:aQ)(d:aW)(e:aq)(f:aw)(h:aQ):az R:=bif decide (f<(a.length:aw))then bif decide (0<=f)&&decide (f<(a.length:aw))then bif fH.c (jI.v (bu (ar a f.toNat 0)) (bE (ar a f.toNat 1)) (bE (ar a f.toNat (1+1))) (bu (ar a f.toNat (1+1+1)))).1 then bif !(jI.v (bu (ar a f.toNat 0)) (bE (ar a f.toNat 1)) (bE (ar a f.toNat (1+1))) (bu (ar a f.toNat (1+1+1)))).2 then k0 a ak e f (aP [Ck.i ao,Ck.s,Ck.s,Ck.s] 0) h else bif !(fH.v (jI.v (bu (ar a f.toNat 0)) (bE (ar a f.toNat 1)) (bE (ar a f.toNat (1+1))) (bu (ar a f.toNat (1+1+1)))).1).2 then k0 a ak e f (aP [Ck.i ao,Ck.s,Ck.s,Ck.s] 0) h else bif decide (e.size+(fH.v (jI.v (bu (ar a f.toNat 0)) (bE (ar a f.toNat 1)) (bE (ar a f.toNat (1+1))) (bu (ar a f.toNat (1+1+1)))).1).1.size<=4611686018427387904)then g a d (e++(fH.v (jI.v (bu (ar a f.toNat 0)) (bE (ar a f.toNat 1)) (bE (ar a f.toNat (1+1))) (bu (ar a f.toNat (1+1+1)))).1).1) (bJ (f+1)) h else aj else aj else aj else k1 a d e f h
def l9(N:aF)(k0:HW R)(k1:AR R):aF->AR R
 |0=>λ_ _ _ _ _=>aj
 |n+1=>r9 N (l9 N k0 k1 n) k0 k1
def b(N:aF)(kr:HV R)(a d:aQ):az R:=bif gK.c a then bif !gK.v a then kr (aP [Ck.i ao,Ck.s,Ck.s,Ck.s] 0) ak else bif vP.c a {data:= #[ay 110,ay 101,ay 119]}then bif(vP.v a {data:= #[ay 110,ay 101,ay 119]}).2 then l9 N (λ_ e _ _ f _=>kr f e) (λ_ _ e _ f=>bif cC (f.length+(aD (aD (aD (aP [Ck.i ao,Ck.s,Ck.s,Ck.s] 3) 0 [.i .i64 1, .s {data:= #[ay 110,ay 101,ay 119]}, .s e, .s ⟨#[]⟩]) 1 [.i .i64 2, .s {data:= #[ay 110,ay 101,ay 119]}, .s ⟨#[]⟩, .s ⟨#[]⟩]) 2 [.i .i64 3, .s {data:= #[ay 110,ay 101,ay 119]}, .s ⟨#[]⟩, .s {data:= #[ay 107,ay 101,ay 112,ay 116]}]).length) 56 then kr (f++aD (aD (aD (aP [Ck.i ao,Ck.s,Ck.s,Ck.s] 3) 0 [.i .i64 1, .s {data:= #[ay 110,ay 101,ay 119]}, .s e, .s ⟨#[]⟩]) 1 [.i .i64 2, .s {data:= #[ay 110,ay 101,ay 119]}, .s ⟨#[]⟩, .s ⟨#[]⟩]) 2 [.i .i64 3, .s {data:= #[ay 110,ay 101,ay 119]}, .s ⟨#[]⟩, .s {data:= #[ay 107,ay 101,ay 112,ay 116]}]) ai else aj) N d ak ⟨#[]⟩ 0 (aP [Ck.i ao,Ck.s,Ck.s,Ck.s] 0++aD (aP [Ck.i ao,Ck.s,Ck.s,Ck.s] 1) 0 [.i .i64 4, .s {data:= #[ay 110,ay 101,ay 119]}, .s ⟨#[]⟩, .s ⟨#[]⟩])else l9 N (λ_ e _ _ f _=>kr f e) (λ_ _ e _ f=>bif cC (f.length+(aD (aD (aD (aP [Ck.i ao,Ck.s,Ck.s,Ck.s] 3) 0 [.i .i64 1, .s {data:= #[ay 110,ay 101,ay 119]}, .s e, .s ⟨#[]⟩]) 1 [.i .i64 2, .s {data:= #[ay 110,ay 101,ay 119]}, .s ⟨#[]⟩, .s ⟨#[]⟩]) 2 [.i .i64 3, .s {data:= #[ay 110,ay 101,ay 119]}, .s ⟨#[]⟩, .s {data:= #[ay 107,ay 101,ay 112,ay 116]}]).length) 56 then kr (f++aD (aD (aD (aP [Ck.i ao,Ck.s,Ck.s,Ck.s] 3) 0 [.i .i64 1, .s {data:= #[ay 110,ay 101,ay 119]}, .s e, .s ⟨#[]⟩]) 1 [.i .i64 2, .s {data:= #[ay 110,ay 101,ay 119]}, .s ⟨#[]⟩, .s ⟨#[]⟩]) 2 [.i .i64 3, .s {data:= #[ay 110,ay 101,ay 119]}, .s ⟨#[]⟩, .s {data:= #[ay 107,ay 101,ay 112,ay 116]}]) ai else aj) N d ak ⟨#[]⟩ 0 (aP [Ck.i ao,Ck.s,Ck.s,Ck.s] 0)else aj else aj
def vo:=b Lib.cZ λr0 r1=>ah (r0,r1)
def c:=λa d=>(vo a d).isSome
def v:=λa d=>(vo a d).getD ([],ak)
theorem out{x}:∀a d,vo a d=ah x->c a d=ai/\v a d=x:=λ_ _=>Lib.de
end jJ

namespace zV
def r4(N:aF)(g k0:mM R)(a:aw)(d:aQ)(e f h i j l m:aw)(o p q r s t:aQ):az R:=bif decide (e<(d.length:aw))then bif decide (0<=e)&&decide (e<(d.length:aw))then bif m8.v (bu (ar d e.toNat 0)) (bE (ar d e.toNat 1)) (bE (ar d e.toNat (1+1))) (bu (ar d e.toNat (1+1+1)))then bif decide (0<=e)&&decide (e<(d.length:aw))then bif Dg.v (bu (ar d e.toNat 0)) (bE (ar d e.toNat 1)) (bE (ar d e.toNat (1+1))) (bu (ar d e.toNat (1+1+1))) a then bif decide (0<=e)&&decide (e<(d.length:aw))then bif Oy.c j o p q r l s t m (bu (ar d e.toNat 0)) (bE (ar d e.toNat 1)) (bE (ar d e.toNat (1+1))) (bu (ar d e.toNat (1+1+1)))then Lib.lt (Oy.v j o p q r l s t m (bu (ar d e.toNat 0)) (bE (ar d e.toNat 1)) (bE (ar d e.toNat (1+1))) (bu (ar d e.toNat (1+1+1)))) λu=>g a d (bJ (e+1)) f h i u.1 u.2.2.2.2.2.1 u.2.2.2.2.2.2.2.2 u.2.1 u.2.2.1 u.2.2.2.1 u.2.2.2.2.1 u.2.2.2.2.2.2.1 u.2.2.2.2.2.2.2.1 else aj else aj else g a d (bJ (e+1)) f h i j l m o p q r s t else aj else g a d (bJ (e+1)) f h i j l m o p q r s t else aj else k0 a d e f h i j l m o p q r s t
def l4(N:aF)(k0:mM R):aF->mM R
 |0=>λ_ _ _ _ _ _ _ _ _ _ _ _ _ _ _=>aj
 |n+1=>r4 N (l4 N k0 n) k0
def b(N:aF)(kr:eN R)(a:aw)(d:aQ):az R:=l4 N (λ_ _ _ _ _ _ e f h i j l m o p=>kr e i j l m f o p h) N a d 0 0 0 0 a 0 0 [] [] [] ([]++aD (aP [Ck.l 3] 1) 0 [CV.l 3 (aP [Ck.i ao] (aY 16))]++aD (aP [Ck.l 3] 1) 0 [CV.l 3 (aP [Ck.i ao] (aY 16))]++aD (aP [Ck.l 3] 1) 0 [CV.l 3 (aP [Ck.i ao] (aY 16))]) [] []
def vo:=b Lib.cZ λr0 r1 r2 r3 r4 r5 r6 r7 r8=>ah (r0,r1,r2,r3,r4,r5,r6,r7,r8)
def c:=λa d=>(vo a d).isSome
def v:=λa d=>(vo a d).getD (0,[],[],[],[],0,[],[],0)
theorem out{x}:∀a d,vo a d=ah x->c a d=ai/\v a d=x:=λ_ _=>Lib.de
end zV

namespace wG
def r7(N:aF)(g g1 k0 k1:ix R)(a d e f:aw)(h i j l m o p q r s t:aQ):az R:=bif decide (a<(h.length:aw))then bif decide (0<=a)&&decide (a<(h.length:aw))then bif Dg.v (bu (ar h a.toNat 0)) (bE (ar h a.toNat 1)) (bE (ar h a.toNat (1+1))) (bu (ar h a.toNat (1+1+1))) d then bif decide (0<=a)&&decide (a<(h.length:aw))then bif cC (i.length+(aD (aP [Ck.s,Ck.i ao,Ck.i ao,Ck.s] 1) 0 [.s (bu (ar h a.toNat 0)), .i .i64 (bE (ar h a.toNat 1)), .i .i64 (bE (ar h a.toNat (1+1))), .s (bu (ar h a.toNat (1+1+1)))]).length) 48 then g (bJ (a+1)) d e f h (i++aD (aP [Ck.s,Ck.i ao,Ck.i ao,Ck.s] 1) 0 [.s (bu (ar h a.toNat 0)), .i .i64 (bE (ar h a.toNat 1)), .i .i64 (bE (ar h a.toNat (1+1))), .s (bu (ar h a.toNat (1+1+1)))]) j l m o p q r s t else aj else aj else g (bJ (a+1)) d e f h i j l m o p q r s t else aj else k0 a d e f h i j l m o p q r s t
def r7a(N:aF)(g g1 k0 k1:ix R)(a d e f:aw)(h i j l m o p q r s t:aQ):az R:=bif decide (a<(h.length:aw))then bif decide (0<=a)&&decide (a<(h.length:aw))then bif Dg.v (bu (ar h a.toNat 0)) (bE (ar h a.toNat 1)) (bE (ar h a.toNat (1+1))) (bu (ar h a.toNat (1+1+1))) d then bif decide (0<=a)&&decide (a<(h.length:aw))then bif cC (i.length+(aD (aP [Ck.s,Ck.i ao,Ck.i ao,Ck.s] 1) 0 [.s (bu (ar h a.toNat 0)), .i .i64 (bE (ar h a.toNat 1)), .i .i64 (bE (ar h a.toNat (1+1))), .s (bu (ar h a.toNat (1+1+1)))]).length) 48 then g1 (bJ (a+1)) d e f h (i++aD (aP [Ck.s,Ck.i ao,Ck.i ao,Ck.s] 1) 0 [.s (bu (ar h a.toNat 0)), .i .i64 (bE (ar h a.toNat 1)), .i .i64 (bE (ar h a.toNat (1+1))), .s (bu (ar h a.toNat (1+1+1)))]) j l m o p q r s t else aj else aj else g1 (bJ (a+1)) d e f h i j l m o p q r s t else aj else k1 a d e f h i j l m o p q r s t
def l7a(N:aF)(k0 k1:ix R):aF->ix R
 |0=>λ_ _ _ _ _ _ _ _ _ _ _ _ _ _ _=>aj
 |n+1=>r7a N (λx2 x3 x4 x5 x6 x7 x8 x9 VD VE Fb VF x14 x15 VG=>aj) (l7a N k0 k1 n) k0 k1
def l7(N:aF)(k0 k1:ix R):aF->ix R
 |0=>λ_ _ _ _ _ _ _ _ _ _ _ _ _ _ _=>aj
 |n+1=>r7 N (l7 N k0 k1 n) (l7a N k0 k1 n) k0 k1
def b(N:aF)(kr:oX R)(a:aw)(d e f h:aQ)(i:aw)(j l:aQ)(m:aw)(o p q:aQ)(r s:aw)(t:aq)(u:aw)(w:aQ):az R:=bif wK.c o w then Lib.lt (wK.v o w) λy=>bif y.2 then bif HG.c y.1 then Lib.lt (HG.v y.1) λz=>l7 N (λ_ α _ _ _ xa _ _ _ _ _ _ xb xc xd=>bif jJ.c xb xa then Lib.lt (jJ.v xb xa) λxe=>bif xe.2 then bif qh.c xb xe.1 then Lib.lt (qh.v xb xe.1) λxf=>bif zV.c α xa then Lib.lt (zV.v α xa) λxg=>kr xg.1 xg.2.1 xg.2.2.1 xg.2.2.2.1 xg.2.2.2.2.1 xg.2.2.2.2.2.1 xg.2.2.2.2.2.2.1 xg.2.2.2.2.2.2.2.1 xg.2.2.2.2.2.2.2.2 xf.1 xc xd else aj else aj else bif zV.c α xa then Lib.lt (zV.v α xa) λxf=>kr xf.1 xf.2.1 xf.2.2.1 xf.2.2.2.1 xf.2.2.2.2.1 xf.2.2.2.2.2.1 xf.2.2.2.2.2.2.1 xf.2.2.2.2.2.2.2.1 xf.2.2.2.2.2.2.2.2 xb xc xd else aj else aj) (λ_ α _ _ _ xa _ _ _ _ _ _ xb xc xd=>bif jJ.c xb xa then Lib.lt (jJ.v xb xa) λxe=>bif xe.2 then bif qh.c xb xe.1 then Lib.lt (qh.v xb xe.1) λxf=>bif zV.c α xa then Lib.lt (zV.v α xa) λxg=>kr xg.1 xg.2.1 xg.2.2.1 xg.2.2.2.1 xg.2.2.2.2.1 xg.2.2.2.2.2.1 xg.2.2.2.2.2.2.1 xg.2.2.2.2.2.2.2.1 xg.2.2.2.2.2.2.2.2 xf.1 xc xd else aj else aj else bif zV.c α xa then Lib.lt (zV.v α xa) λxf=>kr xf.1 xf.2.1 xf.2.2.1 xf.2.2.2.1 xf.2.2.2.2.1 xf.2.2.2.2.2.1 xf.2.2.2.2.2.2.1 xf.2.2.2.2.2.2.2.1 xf.2.2.2.2.2.2.2.2 xb xc xd else aj else aj) N 0 a i m z (aP [Ck.s,Ck.i ao,Ck.i ao,Ck.s] 0) d e f h j l y.1 p q else aj else bif HG.c o then Lib.lt (HG.v o) λz=>l7a N (λ_ α _ _ _ xa _ _ _ _ _ _ xb xc xd=>bif jJ.c xb xa then Lib.lt (jJ.v xb xa) λxe=>bif xe.2 then bif qh.c xb xe.1 then Lib.lt (qh.v xb xe.1) λxf=>bif zV.c α xa then Lib.lt (zV.v α xa) λxg=>kr xg.1 xg.2.1 xg.2.2.1 xg.2.2.2.1 xg.2.2.2.2.1 xg.2.2.2.2.2.1 xg.2.2.2.2.2.2.1 xg.2.2.2.2.2.2.2.1 xg.2.2.2.2.2.2.2.2 xf.1 xc xd else aj else aj else bif zV.c α xa then Lib.lt (zV.v α xa) λxf=>kr xf.1 xf.2.1 xf.2.2.1 xf.2.2.2.1 xf.2.2.2.2.1 xf.2.2.2.2.2.1 xf.2.2.2.2.2.2.1 xf.2.2.2.2.2.2.2.1 xf.2.2.2.2.2.2.2.2 xb xc xd else aj else aj) (λ_ α _ _ _ xa _ _ _ _ _ _ xb xc xd=>bif jJ.c xb xa then Lib.lt (jJ.v xb xa) λxe=>bif xe.2 then bif qh.c xb xe.1 then Lib.lt (qh.v xb xe.1) λxf=>bif zV.c α xa then Lib.lt (zV.v α xa) λxg=>kr xg.1 xg.2.1 xg.2.2.1 xg.2.2.2.1 xg.2.2.2.2.1 xg.2.2.2.2.2.1 xg.2.2.2.2.2.2.1 xg.2.2.2.2.2.2.2.1 xg.2.2.2.2.2.2.2.2 xf.1 xc xd else aj else aj else bif zV.c α xa then Lib.lt (zV.v α xa) λxf=>kr xf.1 xf.2.1 xf.2.2.1 xf.2.2.2.1 xf.2.2.2.2.1 xf.2.2.2.2.2.1 xf.2.2.2.2.2.2.1 xf.2.2.2.2.2.2.2.1 xf.2.2.2.2.2.2.2.2 xb xc xd else aj else aj) N 0 a i m z (aP [Ck.s,Ck.i ao,Ck.i ao,Ck.s] 0) d e f h j l o p q else aj else aj
def vo:=b Lib.cZ λr0 r1 r2 r3 r4 r5 r6 r7 r8 r9 Jw Ag=>ah (r0,r1,r2,r3,r4,r5,r6,r7,r8,r9,Jw,Ag)
def c:=λa d e f h i j l m o p q r s t u w=>(vo a d e f h i j l m o p q r s t u w).isSome
def v:=λa d e f h i j l m o p q r s t u w=>(vo a d e f h i j l m o p q r s t u w).getD (0,[],[],[],[],0,[],[],0,[],[],[])
theorem out{x}:∀a d e f h i j l m o p q r s t u w,vo a d e f h i j l m o p q r s t u w=ah x->c a d e f h i j l m o p q r s t u w=ai/\v a d e f h i j l m o p q r s t u w=x:=λ_ _ _ _ _ _ _ _ _ _ _ _ _ _ _ _ _=>Lib.de
end wG

namespace Dx
def b(kr:nZ R)(a:aw)(d e f h:aQ)(i:aw)(j l:aQ)(m:aw)(o p q:aQ)(r s:aw)(t:aq)(u:aw)(w:aQ):az R:=bif decide (r=1)then bif wF.c a d e f h i j l m s t then Lib.lt (wF.v a d e f h i j l m s t) λy=>kr y.2.2.2.2.2.2.2.2.2 y.1 y.2.1 y.2.2.1 y.2.2.2.1 y.2.2.2.2.1 y.2.2.2.2.2.1 y.2.2.2.2.2.2.1 y.2.2.2.2.2.2.2.1 y.2.2.2.2.2.2.2.2.1 o p q else aj else bif decide (r=2)then bif DB.c a d e f h i j l m s t then Lib.lt (DB.v a d e f h i j l m s t) λy=>kr (AD.v y.2.2.2.2.2.2.2.2.2) y.1 y.2.1 y.2.2.1 y.2.2.2.1 y.2.2.2.2.1 y.2.2.2.2.2.1 y.2.2.2.2.2.2.1 y.2.2.2.2.2.2.2.1 y.2.2.2.2.2.2.2.2.1 o p q else aj else bif decide (r=3)then bif DC.c a d e f h i j l m o p q r s t u w then Lib.lt (DC.v a d e f h i j l m o p q r s t u w) λy=>kr y.1 y.2.1 y.2.2.1 y.2.2.2.1 y.2.2.2.2.1 y.2.2.2.2.2.1 y.2.2.2.2.2.2.1 y.2.2.2.2.2.2.2.1 y.2.2.2.2.2.2.2.2.1 y.2.2.2.2.2.2.2.2.2.1 y.2.2.2.2.2.2.2.2.2.2.1 y.2.2.2.2.2.2.2.2.2.2.2.1 y.2.2.2.2.2.2.2.2.2.2.2.2 else aj else bif decide (r=4)then bif DD.c a d e f h i j l m s then Lib.lt (DD.v a d e f h i j l m s) λy=>kr (AD.v y.2.2.2.2.2.2.2.2.2) y.1 y.2.1 y.2.2.1 y.2.2.2.1 y.2.2.2.2.1 y.2.2.2.2.2.1 y.2.2.2.2.2.2.1 y.2.2.2.2.2.2.2.1 y.2.2.2.2.2.2.2.2.1 o p q else aj else bif decide (r=5)then bif qF.c a d e f h i j l m u then Lib.lt (qF.v a d e f h i j l m u) λy=>kr 0 y.1 y.2.1 y.2.2.1 y.2.2.2.1 y.2.2.2.2.1 y.2.2.2.2.2.1 y.2.2.2.2.2.2.1 y.2.2.2.2.2.2.2.1 y.2.2.2.2.2.2.2.2 o p q else aj else bif decide (r=6)then bif sZ.c a d e f h i j l m s then Lib.lt (sZ.v a d e f h i j l m s) λy=>kr (AD.v (decide ((y.2.2.2.2.2.2.2.1.length:aw)<(l.length:aw)))) y.1 y.2.1 y.2.2.1 y.2.2.2.1 y.2.2.2.2.1 y.2.2.2.2.2.1 y.2.2.2.2.2.2.1 y.2.2.2.2.2.2.2.1 y.2.2.2.2.2.2.2.2 o p q else aj else bif decide (r=7)then bif wG.c a d e f h i j l m o p q r s t u w then Lib.lt (wG.v a d e f h i j l m o p q r s t u w) λy=>kr 0 y.1 y.2.1 y.2.2.1 y.2.2.2.1 y.2.2.2.2.1 y.2.2.2.2.2.1 y.2.2.2.2.2.2.1 y.2.2.2.2.2.2.2.1 y.2.2.2.2.2.2.2.2.1 y.2.2.2.2.2.2.2.2.2.1 y.2.2.2.2.2.2.2.2.2.2.1 y.2.2.2.2.2.2.2.2.2.2.2 else aj else kr 0 a d e f h i j l m o p q
def vo:=b λr0 r1 r2 r3 r4 r5 r6 r7 r8 r9 Jw Ag Uw=>ah (r0,r1,r2,r3,r4,r5,r6,r7,r8,r9,Jw,Ag,Uw)
def c:=λa d e f h i j l m o p q r s t u w=>(vo a d e f h i j l m o p q r s t u w).isSome
def v:=λa d e f h i j l m o p q r s t u w=>(vo a d e f h i j l m o p q r s t u w).getD (0,0,[],[],[],[],0,[],[],0,[],[],[])
theorem out{x}:∀a d e f h i j l m o p q r s t u w,vo a d e f h i j l m o p q r s t u w=ah x->c a d e f h i j l m o p q r s t u w=ai/\v a d e f h i j l m o p q r s t u w=x:=λ_ _ _ _ _ _ _ _ _ _ _ _ _ _ _ _ _=>Lib.de
end Dx

namespace JU
def b(kr:oX R)(a:aw)(d e f h:aQ)(i:aw)(j l:aQ)(m:aw)(o p q:aQ)(r s:aw)(t:aq)(u:aw)(w:aQ):az R:=bif Dx.c a d e f h i j l m o p q r s t u w then Lib.lt (Dx.v a d e f h i j l m o p q r s t u w) λy=>bif cC ((aP [Ck.i ao] 0).length+y.2.2.2.2.2.2.2.2.2.2.2.1.length) 8 then bif cC ((aP [Ck.i ao] 0++y.2.2.2.2.2.2.2.2.2.2.2.1).length+(aD (aP [Ck.i ao] 1) 0 [.i .i64 y.1]).length) 8 then kr y.2.1 y.2.2.1 y.2.2.2.1 y.2.2.2.2.1 y.2.2.2.2.2.1 y.2.2.2.2.2.2.1 y.2.2.2.2.2.2.2.1 y.2.2.2.2.2.2.2.2.1 y.2.2.2.2.2.2.2.2.2.1 y.2.2.2.2.2.2.2.2.2.2.1 (aP [Ck.i ao] 0++y.2.2.2.2.2.2.2.2.2.2.2.1++aD (aP [Ck.i ao] 1) 0 [.i .i64 y.1]) y.2.2.2.2.2.2.2.2.2.2.2.2 else aj else aj else aj
def vo:=b λr0 r1 r2 r3 r4 r5 r6 r7 r8 r9 Jw Ag=>ah (r0,r1,r2,r3,r4,r5,r6,r7,r8,r9,Jw,Ag)
def c:=λa d e f h i j l m o p q r s t u w=>(vo a d e f h i j l m o p q r s t u w).isSome
def v:=λa d e f h i j l m o p q r s t u w=>(vo a d e f h i j l m o p q r s t u w).getD (0,[],[],[],[],0,[],[],0,[],[],[])
theorem out{x}:∀a d e f h i j l m o p q r s t u w,vo a d e f h i j l m o p q r s t u w=ah x->c a d e f h i j l m o p q r s t u w=ai/\v a d e f h i j l m o p q r s t u w=x:=λ_ _ _ _ _ _ _ _ _ _ _ _ _ _ _ _ _=>Lib.de
end JU

namespace Qc
def r7(N:aF)(g k0:kE R)(a d:aw)(e:aQ)(f h i j l:aw)(m o p q r s t u w y:aQ):az R:=bif decide (d<a)then bif Km.c e f h i o p q r j s t l u w y then Lib.lt (Km.v e f h i o p q r j s t l u w y) λz=>bif HI.c z.2.2.2.2.2.1 z.2.2.2.2.2.2.1 z.2.2.2.2.2.2.2.1 24 then Lib.lt (HI.v z.2.2.2.2.2.1 z.2.2.2.2.2.2.1 z.2.2.2.2.2.2.2.1 24) λα=>bif α.1 then bif nX.c α.2.1 α.2.2.1 α.2.2.2 60 then Lib.lt (nX.v α.2.1 α.2.2.1 α.2.2.2 60) λxa=>bif JU.c i z.2.2.2.2.2.2.2.2.1 z.2.2.2.2.2.2.2.2.2.1 z.2.2.2.2.2.2.2.2.2.2.1 z.2.2.2.2.2.2.2.2.2.2.2.1 j z.2.2.2.2.2.2.2.2.2.2.2.2.1 z.2.2.2.2.2.2.2.2.2.2.2.2.2.1 l z.2.2.2.2.2.2.2.2.2.2.2.2.2.2.1 z.2.2.2.2.2.2.2.2.2.2.2.2.2.2.2.1 z.2.2.2.2.2.2.2.2.2.2.2.2.2.2.2.2 7 0 ⟨#[]⟩ 0 (aD (aP [Ck.i ao] 1) 0 [.i .i64 xa.1])then Lib.lt (JU.v i z.2.2.2.2.2.2.2.2.1 z.2.2.2.2.2.2.2.2.2.1 z.2.2.2.2.2.2.2.2.2.2.1 z.2.2.2.2.2.2.2.2.2.2.2.1 j z.2.2.2.2.2.2.2.2.2.2.2.2.1 z.2.2.2.2.2.2.2.2.2.2.2.2.2.1 l z.2.2.2.2.2.2.2.2.2.2.2.2.2.2.1 z.2.2.2.2.2.2.2.2.2.2.2.2.2.2.2.1 z.2.2.2.2.2.2.2.2.2.2.2.2.2.2.2.2 7 0 ⟨#[]⟩ 0 (aD (aP [Ck.i ao] 1) 0 [.i .i64 xa.1])) λxb=>bif cC (m.length+(aD (aP [Ck.i ao,Ck.i ao,Ck.s,Ck.i ao,Ck.l 3] 1) 0 [.i .i64 7, .i .i64 0, .s ⟨#[]⟩, .i .i64 0,CV.l 3 (aD (aP [Ck.i ao] 1) 0 [.i .i64 xa.1])]).length) 64 then g a (bJ (d+1)) xa.2.1 xa.2.2.1 xa.2.2.2 xb.1 xb.2.2.2.2.2.1 xb.2.2.2.2.2.2.2.2.1 (m++aD (aP [Ck.i ao,Ck.i ao,Ck.s,Ck.i ao,Ck.l 3] 1) 0 [.i .i64 7, .i .i64 0, .s ⟨#[]⟩, .i .i64 0,CV.l 3 (aD (aP [Ck.i ao] 1) 0 [.i .i64 xa.1])]) xb.2.1 xb.2.2.1 xb.2.2.2.1 xb.2.2.2.2.1 xb.2.2.2.2.2.2.1 xb.2.2.2.2.2.2.2.1 xb.2.2.2.2.2.2.2.2.2.1 xb.2.2.2.2.2.2.2.2.2.2.1 xb.2.2.2.2.2.2.2.2.2.2.2 else aj else aj else aj else bif JU.c i z.2.2.2.2.2.2.2.2.1 z.2.2.2.2.2.2.2.2.2.1 z.2.2.2.2.2.2.2.2.2.2.1 z.2.2.2.2.2.2.2.2.2.2.2.1 j z.2.2.2.2.2.2.2.2.2.2.2.2.1 z.2.2.2.2.2.2.2.2.2.2.2.2.2.1 l z.2.2.2.2.2.2.2.2.2.2.2.2.2.2.1 z.2.2.2.2.2.2.2.2.2.2.2.2.2.2.2.1 z.2.2.2.2.2.2.2.2.2.2.2.2.2.2.2.2 z.1 z.2.1 z.2.2.1 z.2.2.2.1 z.2.2.2.2.1 then Lib.lt (JU.v i z.2.2.2.2.2.2.2.2.1 z.2.2.2.2.2.2.2.2.2.1 z.2.2.2.2.2.2.2.2.2.2.1 z.2.2.2.2.2.2.2.2.2.2.2.1 j z.2.2.2.2.2.2.2.2.2.2.2.2.1 z.2.2.2.2.2.2.2.2.2.2.2.2.2.1 l z.2.2.2.2.2.2.2.2.2.2.2.2.2.2.1 z.2.2.2.2.2.2.2.2.2.2.2.2.2.2.2.1 z.2.2.2.2.2.2.2.2.2.2.2.2.2.2.2.2 z.1 z.2.1 z.2.2.1 z.2.2.2.1 z.2.2.2.2.1) λxa=>bif cC (m.length+(aD (aP [Ck.i ao,Ck.i ao,Ck.s,Ck.i ao,Ck.l 3] 1) 0 [.i .i64 z.1, .i .i64 z.2.1, .s z.2.2.1, .i .i64 z.2.2.2.1,CV.l 3 z.2.2.2.2.1]).length) 64 then g a (bJ (d+1)) α.2.1 α.2.2.1 α.2.2.2 xa.1 xa.2.2.2.2.2.1 xa.2.2.2.2.2.2.2.2.1 (m++aD (aP [Ck.i ao,Ck.i ao,Ck.s,Ck.i ao,Ck.l 3] 1) 0 [.i .i64 z.1, .i .i64 z.2.1, .s z.2.2.1, .i .i64 z.2.2.2.1,CV.l 3 z.2.2.2.2.1]) xa.2.1 xa.2.2.1 xa.2.2.2.1 xa.2.2.2.2.1 xa.2.2.2.2.2.2.1 xa.2.2.2.2.2.2.2.1 xa.2.2.2.2.2.2.2.2.2.1 xa.2.2.2.2.2.2.2.2.2.2.1 xa.2.2.2.2.2.2.2.2.2.2.2 else aj else aj else aj else aj else k0 a d e f h i j l m o p q r s t u w y
def l7(N:aF)(k0:kE R):aF->kE R
 |0=>λ_ _ _ _ _ _ _ _ _ _ _ _ _ _ _ _ _ _=>aj
 |n+1=>r7 N (l7 N k0 n) k0
def b(N:aF)(kr:adM R)(a:aQ)(d e:aw)(f:aQ):az R:=bif decide (bJ (20+bJ (cQ (f.length:aw) 6))>65)then l7 N (λ_ _ h i j _ _ _ l _ _ _ _ _ _ _ _ _=>kr l h i j) N 65 0 a d e 1 0 0 (aP [Ck.i ao,Ck.i ao,Ck.s,Ck.i ao,Ck.l 3] 0) [] [] [] ([]++aD (aP [Ck.l 3] 1) 0 [CV.l 3 (aP [Ck.i ao] (aY 16))]++aD (aP [Ck.l 3] 1) 0 [CV.l 3 (aP [Ck.i ao] (aY 16))]++aD (aP [Ck.l 3] 1) 0 [CV.l 3 (aP [Ck.i ao] (aY 16))]) [] [] [] [] []else l7 N (λ_ _ h i j _ _ _ l _ _ _ _ _ _ _ _ _=>kr l h i j) N (bJ (20+bJ (cQ (f.length:aw) 6))) 0 a d e 1 0 0 (aP [Ck.i ao,Ck.i ao,Ck.s,Ck.i ao,Ck.l 3] 0) [] [] [] ([]++aD (aP [Ck.l 3] 1) 0 [CV.l 3 (aP [Ck.i ao] (aY 16))]++aD (aP [Ck.l 3] 1) 0 [CV.l 3 (aP [Ck.i ao] (aY 16))]++aD (aP [Ck.l 3] 1) 0 [CV.l 3 (aP [Ck.i ao] (aY 16))]) [] [] [] [] []
def vo:=b Lib.cZ λr0 r1 r2 r3=>ah (r0,r1,r2,r3)
def c:=λa d e f=>(vo a d e f).isSome
def v:=λa d e f=>(vo a d e f).getD ([],[],0,0)
theorem out{x}:∀a d e f,vo a d e f=ah x->c a d e f=ai/\v a d e f=x:=λ_ _ _ _=>Lib.de
end Qc

namespace U9
def b(kr:aQ->az R)(a:aQ):az R:=bif Qd.c a then Lib.lt (Qd.v a) λd=>bif Qc.c d.1 d.2.1 d.2.2 a then Lib.lt (Qc.v d.1 d.2.1 d.2.2 a) λe=>kr e.1 else aj else aj
def vo:=b λr0=>ah r0
def c:=λa=>(vo a).isSome
def v:=λa=>(vo a).getD ([])
theorem out{x}:∀a,vo a=ah x->c a=ai/\v a=x:=λ_=>Lib.de
end U9

namespace lz
def b(kr:aW->az R)(a d e:aw):az R:=bif decide (a≥d)then kr (decide (a<=e))else kr ak
def v(a0 a1 a2:aw):aW:=bif decide (a0≥a1)then decide (a0<=a2)else ak
theorem eu(kr:aW->az R)(a0 a1 a2:aw):b kr a0 a1 a2=kr (v a0 a1 a2):=by first|rfl|(unfold b v;simp only[cK];(repeat' split)<;>rfl)
end lz

namespace U31
def b(kr:aW->az R)(a d:aw)(e:aq)(f:aw)(h:aQ):az R:=bif lz.v a 1 7 then bif lz.v d 0 30 then bif decide ((e.size:aw)<=60)then bif decide (f≥0)then kr (decide ((h.length:aw)<=4))else kr ak else kr ak else kr ak else kr ak
def v(a0 a1:aw)(a2:aq)(a3:aw)(a4:aQ):aW:=bif lz.v a0 1 7 then bif lz.v a1 0 30 then bif decide ((a2.size:aw)<=60)then bif decide (a3≥0)then decide ((a4.length:aw)<=4)else ak else ak else ak else ak
theorem eu(kr:aW->az R)(a0 a1:aw)(a2:aq)(a3:aw)(a4:aQ):b kr a0 a1 a2 a3 a4=kr (v a0 a1 a2 a3 a4):=by first|rfl|(unfold b v;simp only[cK];(repeat' split)<;>rfl)
end U31

namespace Gh
def r3(N:aF)(g:pO R)(g1:jF R)(k0:pO R)(k1:jF R)(a d e:aw):az R:=bif decide (a<3)then g1 (bJ (a+1)) d e ([]++aD (aP [Ck.l 3] 1) 0 [CV.l 3 (aP [Ck.i ao] (aY 16))])else k0 a d e
def zG(N:aF)(g:pO R)(g1:jF R)(k0:pO R)(k1:jF R)(a d e:aw)(f:aQ):az R:=bif decide (a<3)then bif cC (f.length+(aD (aP [Ck.l 3] 1) 0 [CV.l 3 (aP [Ck.i ao] (aY 16))]).length) 24 then g1 (bJ (a+1)) d e (f++aD (aP [Ck.l 3] 1) 0 [CV.l 3 (aP [Ck.i ao] (aY 16))])else aj else k1 a d e f
def sG(N:aF)(k0:pO R)(k1:jF R):aF->jF R
 |0=>λ_ _ _ _=>aj
 |n+1=>zG N (λx0 x1 x2=>aj) (sG N k0 k1 n) k0 k1
def l3(N:aF)(k0:pO R)(k1:jF R):aF->pO R
 |0=>λ_ _ _=>aj
 |n+1=>r3 N (l3 N k0 k1 n) (sG N k0 k1 n) k0 k1
def b(N:aF)(kr:Dq R):az R:=l3 N (λ_ _ a=>kr [] a) (λ_ _ a d=>kr d a) N 0 0 0
def vo:=b Lib.cZ λr0 r1=>ah (r0,r1)
def c:=vo.isSome
def v:=vo.getD ([],0)
end Gh

namespace U95
def b(kr:sS R):az R:=kr [] [] ([]++aD (aP [Ck.l 3] 1) 0 [CV.l 3 (aP [Ck.i ao] (aY 16))]++aD (aP [Ck.l 3] 1) 0 [CV.l 3 (aP [Ck.i ao] (aY 16))]++aD (aP [Ck.l 3] 1) 0 [CV.l 3 (aP [Ck.i ao] (aY 16))]) 0
def v:aQ×aQ×aQ×aw:=([],[],[]++aD (aP [Ck.l 3] 1) 0 [CV.l 3 (aP [Ck.i ao] (aY 16))]++aD (aP [Ck.l 3] 1) 0 [CV.l 3 (aP [Ck.i ao] (aY 16))]++aD (aP [Ck.l 3] 1) 0 [CV.l 3 (aP [Ck.i ao] (aY 16))],0)
theorem eu(kr:sS R):b kr=kr v.1 v.2.1 v.2.2.1 v.2.2.2:=by first|rfl|(unfold b v;simp only[cK];(repeat' split)<;>rfl)
end U95

namespace U42
def b(kr:eN R):az R:=kr 1 [] [] [] ([]++aD (aP [Ck.l 3] 1) 0 [CV.l 3 (aP [Ck.i ao] (aY 16))]++aD (aP [Ck.l 3] 1) 0 [CV.l 3 (aP [Ck.i ao] (aY 16))]++aD (aP [Ck.l 3] 1) 0 [CV.l 3 (aP [Ck.i ao] (aY 16))]) 0 [] [] 0
def v:aw×aQ×aQ×aQ×aQ×aw×aQ×aQ×aw:=(1,[],[],[],[]++aD (aP [Ck.l 3] 1) 0 [CV.l 3 (aP [Ck.i ao] (aY 16))]++aD (aP [Ck.l 3] 1) 0 [CV.l 3 (aP [Ck.i ao] (aY 16))]++aD (aP [Ck.l 3] 1) 0 [CV.l 3 (aP [Ck.i ao] (aY 16))],0,[],[],0)
theorem eu(kr:eN R):b kr=kr v.1 v.2.1 v.2.2.1 v.2.2.2.1 v.2.2.2.2.1 v.2.2.2.2.2.1 v.2.2.2.2.2.2.1 v.2.2.2.2.2.2.2.1 v.2.2.2.2.2.2.2.2:=by first|rfl|(unfold b v;simp only[cK];(repeat' split)<;>rfl)
end U42

namespace wI
def b(kr:aQ->az R)(a:aQ):az R:=bif cC ((aP [Ck.s,Ck.i ao,Ck.i ao,Ck.s] 0).length+a.length) 48 then kr (aP [Ck.s,Ck.i ao,Ck.i ao,Ck.s] 0++a)else aj
def vo:=b λr0=>ah r0
def c:=λa=>(vo a).isSome
def v:=λa=>(vo a).getD ([])
theorem out{x}:∀a,vo a=ah x->c a=ai/\v a=x:=λ_=>Lib.de
end wI

namespace s7
def b(kr:aQ->az R)(a:aQ):az R:=bif cC ((aP [.s] 0).length+a.length) 16 then kr (aP [.s] 0++a)else aj
def vo:=b λr0=>ah r0
def c:=λa=>(vo a).isSome
def v:=λa=>(vo a).getD ([])
theorem out{x}:∀a,vo a=ah x->c a=ai/\v a=x:=λ_=>Lib.de
end s7

namespace vO
def b(kr:aQ->az R)(a:aQ):az R:=bif cC ((aP [Ck.i ao] 0).length+a.length) 8 then kr (aP [Ck.i ao] 0++a)else aj
def vo:=b λr0=>ah r0
def c:=λa=>(vo a).isSome
def v:=λa=>(vo a).getD ([])
theorem out{x}:∀a,vo a=ah x->c a=ai/\v a=x:=λ_=>Lib.de
end vO

namespace jk
def r3(N:aF)(g:kW R)(g1:oY R)(k0:kW R)(k1:oY R)(a:aQ)(d e f h:aw):az R:=bif decide (e<d)then bif decide (0<=e)&&decide (e<(a.length:aw))then bif vO.c (jv (ar a e.toNat 0))then g1 a d (bJ (e+1)) f h ([]++aD (aP [Ck.l 3] 1) 0 [CV.l 3 (vO.v (jv (ar a e.toNat 0)))])else aj else aj else k0 a d e f h
def zG(N:aF)(g:kW R)(g1:oY R)(k0:kW R)(k1:oY R)(a:aQ)(d e f h:aw)(i:aQ):az R:=bif decide (e<d)then bif decide (0<=e)&&decide (e<(a.length:aw))then bif vO.c (jv (ar a e.toNat 0))then bif cC (i.length+(aD (aP [Ck.l 3] 1) 0 [CV.l 3 (vO.v (jv (ar a e.toNat 0)))]).length) 24 then g1 a d (bJ (e+1)) f h (i++aD (aP [Ck.l 3] 1) 0 [CV.l 3 (vO.v (jv (ar a e.toNat 0)))])else aj else aj else aj else k1 a d e f h i
def sG(N:aF)(k0:kW R)(k1:oY R):aF->oY R
 |0=>λ_ _ _ _ _ _=>aj
 |n+1=>zG N (λx0 x1 x2 x3 x4=>aj) (sG N k0 k1 n) k0 k1
def l3(N:aF)(k0:kW R)(k1:oY R):aF->kW R
 |0=>λ_ _ _ _ _=>aj
 |n+1=>r3 N (l3 N k0 k1 n) (sG N k0 k1 n) k0 k1
def b(N:aF)(kr:Dq R)(a:aQ)(d:aw):az R:=l3 N (λ_ _ _ _ e=>kr [] e) (λ_ _ _ _ e f=>kr f e) N a (a.length:aw) 0 0 d
def vo:=b Lib.cZ λr0 r1=>ah (r0,r1)
def c:=λa d=>(vo a d).isSome
def v:=λa d=>(vo a d).getD ([],0)
theorem out{x}:∀a d,vo a d=ah x->c a d=ai/\v a d=x:=λ_ _=>Lib.de
end jk

namespace js
def b(kr:sS R)(a d e:aQ)(f:aw):az R:=bif s7.c a then bif s7.c d then bif jk.c e f then kr (s7.v a) (s7.v d) (jk.v e f).1 (jk.v e f).2 else aj else aj else aj
def vo:=b λr0 r1 r2 r3=>ah (r0,r1,r2,r3)
def c:=λa d e f=>(vo a d e f).isSome
def v:=λa d e f=>(vo a d e f).getD ([],[],[],0)
theorem out{x}:∀a d e f,vo a d e f=ah x->c a d e f=ai/\v a d e f=x:=λ_ _ _ _=>Lib.de
end js

namespace iL
def b(kr:eN R)(a:aw)(d e f h:aQ)(i:aw)(j l:aQ)(m:aw):az R:=bif wI.c d then bif js.c e f h i then bif cC ((aP [Ck.s,Ck.s,Ck.i ao,Ck.i ao,Ck.i ao] 0).length+j.length) 56 then bif cC ((aP [Ck.i ao,Ck.s,Ck.i ao,Ck.i ao,Ck.i ao,Ck.s,Ck.i ao] 0).length+l.length) 72 then kr a (wI.v d) (js.v e f h i).1 (js.v e f h i).2.1 (js.v e f h i).2.2.1 (js.v e f h i).2.2.2 (aP [Ck.s,Ck.s,Ck.i ao,Ck.i ao,Ck.i ao] 0++j) (aP [Ck.i ao,Ck.s,Ck.i ao,Ck.i ao,Ck.i ao,Ck.s,Ck.i ao] 0++l) m else aj else aj else aj else aj
def vo:=b λr0 r1 r2 r3 r4 r5 r6 r7 r8=>ah (r0,r1,r2,r3,r4,r5,r6,r7,r8)
def c:=λa d e f h i j l m=>(vo a d e f h i j l m).isSome
def v:=λa d e f h i j l m=>(vo a d e f h i j l m).getD (0,[],[],[],[],0,[],[],0)
theorem out{x}:∀a d e f h i j l m,vo a d e f h i j l m=ah x->c a d e f h i j l m=ai/\v a d e f h i j l m=x:=λ_ _ _ _ _ _ _ _ _=>Lib.de
end iL

namespace zi
def b(kr:aW->az R)(a:aq):az R:=kr (lz.v (a.size:aw) 1 30)
def v(a0:aq):aW:=(lz.v (a0.size:aw) 1 30)
theorem eu(kr:aW->az R)(a0:aq):b kr a0=kr (v a0):=by first|rfl|(unfold b v;simp only[cK];(repeat' split)<;>rfl)
end zi

namespace RR
def b(kr:aW->az R)(a:aw):az R:=kr (lz.v a 0 1000000000)
def v(a0:aw):aW:=(lz.v a0 0 1000000000)
theorem eu(kr:aW->az R)(a0:aw):b kr a0=kr (v a0):=by first|rfl|(unfold b v;simp only[cK];(repeat' split)<;>rfl)
end RR

namespace wC
def b(kr:aW->az R)(a:aq)(d e:aw)(f:aq):az R:=bif zi.v a then bif RR.v d then bif lz.v e 1 999999 then kr (decide ((f.size:aw)<=400))else kr ak else kr ak else kr ak
def v(a0:aq)(a1 a2:aw)(a3:aq):aW:=bif zi.v a0 then bif RR.v a1 then bif lz.v a2 1 999999 then decide ((a3.size:aw)<=400)else ak else ak else ak
theorem eu(kr:aW->az R)(a0:aq)(a1 a2:aw)(a3:aq):b kr a0 a1 a2 a3=kr (v a0 a1 a2 a3):=by first|rfl|(unfold b v;simp only[cK];(repeat' split)<;>rfl)
end wC

namespace DH
def b(kr:aQ->az R)(a:aw):az R:=bif decide (a<0)then aj else bif decide (bJ (a-bJ (0-0))>0)then bif decide (0<=bJ (a-bJ (0-0)))&&cC (([]:aQ).length+(bJ (a-bJ (0-0))).toNat) 16&&decide (bJ (a-bJ (0-0))<=9223372036854775807)then kr (e8 ([]++aP [.s] (bJ (a-bJ (0-0))).toNat) (aY 0) (aY 0))else aj else kr []
def vo:=b λr0=>ah r0
def c:=λa=>(vo a).isSome
def v:=λa=>(vo a).getD ([])
theorem out{x}:∀a,vo a=ah x->c a=ai/\v a=x:=λ_=>Lib.de
end DH

namespace wH
def Ag(N:aF)(g k0:yE R)(a:aQ)(d e:aw)(f:aQ):az R:=bif decide (e<d)then bif decide (0<=e)&&decide (e<(a.length:aw))then bif cC (f.length+(jv (ar a e.toNat 0)).length) 16 then g a d (bJ (e+1)) (f++jv (ar a e.toNat 0))else aj else aj else k0 a d e f
def Pc(N:aF)(k0:yE R):aF->yE R
 |0=>λ_ _ _ _=>aj
 |n+1=>Ag N (Pc N k0 n) k0
def r3(N:aF)(g k0:Fp R)(a:aQ)(d:aw)(e:aQ)(f h:aw):az R:=bif decide (h<f)then bif decide (0<=h)&&decide (h<(e.length:aw))then bif decide (bJ (d+((jv (ar e h.toNat 0)).length:aw))<0)then aj else g a (bJ (d+((jv (ar e h.toNat 0)).length:aw))) e f (bJ (h+1))else aj else k0 a d e f h
def l3(N:aF)(k0:Fp R):aF->Fp R
 |0=>λ_ _ _ _ _=>aj
 |n+1=>r3 N (l3 N k0 n) k0
def b(N:aF)(kr:aQ->az R)(a:aQ):az R:=l3 N (λd e _ _ _=>bif DH.c e then Pc N (λ_ _ _ f=>kr f) N d (d.length:aw) 0 (DH.v e)else aj) N a 0 a (a.length:aw) 0
def vo:=b Lib.cZ λr0=>ah r0
def c:=λa=>(vo a).isSome
def v:=λa=>(vo a).getD ([])
theorem out{x}:∀a,vo a=ah x->c a=ai/\v a=x:=λ_=>Lib.de
end wH

namespace qC
def b(kr:aQ->az R)(a d e:aQ)(f:aw):az R:=bif wH.c (aD (aD (aP [Ck.l 9] 2) 0 [CV.l 9 a]) 1 [CV.l 9 d])then kr (wH.v (aD (aD (aP [Ck.l 9] 2) 0 [CV.l 9 a]) 1 [CV.l 9 d]))else aj
def vo:=b λr0=>ah r0
def c:=λa d e f=>(vo a d e f).isSome
def v:=λa d e f=>(vo a d e f).getD ([])
theorem out{x}:∀a d e f,vo a d e f=ah x->c a d e f=ai/\v a d e f=x:=λ_ _ _ _=>Lib.de
end qC

namespace AF
def r2(N:aF)(g k0 k1:hZ R)(a:aQ)(d:aq)(e f h:aw):az R:=bif decide (h<f)then bif decide (0<=h)&&decide (h<(a.length:aw))then bif bZ (aC d) (bu (ar a h.toNat 0)).toList then k0 a d h f h else g a d e f (bJ (h+1))else aj else k1 a d e f h
def l2(N:aF)(k0 k1:hZ R):aF->hZ R
 |0=>λ_ _ _ _ _=>aj
 |n+1=>r2 N (l2 N k0 k1 n) k0 k1
def b(N:aF)(kr:aw->az R)(a:aQ)(d:aq):az R:=l2 N (λ_ _ e _ _=>kr e) (λ_ _ _ _ _=>kr (-1)) N a d 0 (a.length:aw) 0
def vo:=b Lib.cZ λr0=>ah r0
def c:=λa d=>(vo a d).isSome
def v:=λa d=>(vo a d).getD (0)
theorem out{x}:∀a d,vo a d=ah x->c a d=ai/\v a d=x:=λ_ _=>Lib.de
end AF

namespace sC
def b(kr:aW->az R)(a:aQ)(d:aq):az R:=bif AF.c a d then kr (decide (AF.v a d≥0))else aj
def vo:=b λr0=>ah r0
def c:=λa d=>(vo a d).isSome
def v:=λa d=>(vo a d).getD ak
theorem out{x}:∀a d,vo a d=ah x->c a d=ai/\v a d=x:=λ_ _=>Lib.de
end sC

namespace sB
def b(kr:aW->az R)(a d e:aQ)(f:aw)(h:aq):az R:=bif qC.c a d e f then bif sC.c (qC.v a d e f) h then kr (sC.v (qC.v a d e f) h)else aj else aj
def vo:=b λr0=>ah r0
def c:=λa d e f h=>(vo a d e f h).isSome
def v:=λa d e f h=>(vo a d e f h).getD ak
theorem out{x}:∀a d e f h,vo a d e f h=ah x->c a d e f h=ai/\v a d e f h=x:=λ_ _ _ _ _=>Lib.de
end sB

namespace pK
def r5(N:aF)(g k0 k1:qZ R)(a:aW)(d e:aQ)(f h:aw)(i:aQ)(j l:aw)(m:aQ)(o:aw):az R:=bif decide (l<j)then bif decide (0<=l)&&decide (l<(i.length:aw))then bif !lz.v (bE (ar i l.toNat 0)) 0 15 then k0 ak d e f h i j l m o else g a d e f h i j (bJ (l+1)) m o else aj else k1 a d e f h i j l m o
def l5(N:aF)(k0 k1:qZ R):aF->qZ R
 |0=>λ_ _ _ _ _ _ _ _ _ _=>aj
 |n+1=>r5 N (l5 N k0 k1 n) k0 k1
def r2(N:aF)(g k0 k1:Bw R)(a:aW)(d:aQ)(e f:aw)(h:aQ)(i:aw):az R:=bif decide (f<e)then bif decide (0<=f)&&decide (f<(d.length:aw))then l5 N (λj _ l m o _ _ _ p q=>k0 j l m o p q) (λj l m o p _ _ _ q r=>bif(l.length:aw) !=16 then k0 ak m o p q r else g j m o (bJ (p+1)) q r) N a (jv (ar d f.toNat 0)) d e f (jv (ar d f.toNat 0)) ((jv (ar d f.toNat 0)).length:aw) 0 h i else aj else k1 a d e f h i
def l2(N:aF)(k0 k1:Bw R):aF->Bw R
 |0=>λ_ _ _ _ _ _=>aj
 |n+1=>r2 N (l2 N k0 k1 n) k0 k1
def b(N:aF)(kr:aW->az R)(a:aQ)(d:aw):az R:=l2 N (λe _ _ _ _ _=>kr e) (λ_ _ _ _ e f=>bif decide ((e.length:aw)=3)then kr (lz.v f 0 63)else kr ak) N ak a (a.length:aw) 0 a d
def vo:=b Lib.cZ λr0=>ah r0
def c:=λa d=>(vo a d).isSome
def v:=λa d=>(vo a d).getD ak
theorem out{x}:∀a d,vo a d=ah x->c a d=ai/\v a d=x:=λ_ _=>Lib.de
end pK

namespace o6
def r3(N:aF)(g k0 k1:vq R)(a:aW)(d e:aw)(f h i:aQ)(j:aw)(l:aQ):az R:=bif decide (e<d)then bif decide (0<=e)&&decide (e<(l.length:aw))then bif !zi.v (bu (ar l e.toNat 0))then k0 ak d e f h i j l else bif g9 0 e (l.length:aw)then bif sC.c (e8 l (aY 0) e.toNat) (bu (ar l e.toNat 0))then bif sC.v (e8 l (aY 0) e.toNat) (bu (ar l e.toNat 0))then k0 ak d e f h i j l else g a d (bJ (e+1)) f h i j l else aj else aj else aj else k1 a d e f h i j l
def l3(N:aF)(k0 k1:vq R):aF->vq R
 |0=>λ_ _ _ _ _ _ _ _=>aj
 |n+1=>r3 N (l3 N k0 k1 n) k0 k1
def b(N:aF)(kr:aW->az R)(a d e:aQ)(f:aw):az R:=bif qC.c a d e f then l3 N (λh _ _ _ _ _ _ _=>kr h) (λ_ _ _ h i j l _=>bif decide ((h.length:aw)<=2)then bif decide ((i.length:aw)<=4)then bif pK.c j l then kr (pK.v j l)else aj else kr ak else kr ak) N ak ((qC.v a d e f).length:aw) 0 a d e f (qC.v a d e f)else aj
def vo:=b Lib.cZ λr0=>ah r0
def c:=λa d e f=>(vo a d e f).isSome
def v:=λa d e f=>(vo a d e f).getD ak
theorem out{x}:∀a d e f,vo a d e f=ah x->c a d e f=ai/\v a d e f=x:=λ_ _ _ _=>Lib.de
end o6

namespace Qe
def r2(N:aF)(g k0 k1:eR R)(a:aW)(d:aQ)(e f h:aw)(i j l m:aQ)(o:aw)(p q:aQ)(r:aw):az R:=bif decide (f<e)then bif decide (0<=f)&&decide (f<(d.length:aw))then bif !wC.v (bu (ar d f.toNat 0)) (bE (ar d f.toNat 1)) (bE (ar d f.toNat (1+1))) (bu (ar d f.toNat (1+1+1)))then k0 ak d e f h i j l m o p q r else bif decide (f>0)then bif decide (0<=bJ (f-1))&&decide (bJ (f-1)<(i.length:aw))then bif !Op.bytesLess (bu (ar i (bJ (f-1)).toNat 0)).toList (bu (ar d f.toNat 0)).toList then k0 ak d e f h i j l m o p q r else bif sB.c j l m o (bu (ar d f.toNat 0))then bif !sB.v j l m o (bu (ar d f.toNat 0))then k0 ak d e f h i j l m o p q r else g a d e (bJ (f+1)) h i j l m o p q r else aj else aj else bif sB.c j l m o (bu (ar d f.toNat 0))then bif !sB.v j l m o (bu (ar d f.toNat 0))then k0 ak d e f h i j l m o p q r else g a d e (bJ (f+1)) h i j l m o p q r else aj else aj else k1 a d e f h i j l m o p q r
def l2(N:aF)(k0 k1:eR R):aF->eR R
 |0=>λ_ _ _ _ _ _ _ _ _ _ _ _ _=>aj
 |n+1=>r2 N (l2 N k0 k1 n) k0 k1
def b(N:aF)(kr:aW->az R)(a:aw)(d e f h:aQ)(i:aw)(j l:aQ)(m:aw):az R:=l2 N (λo _ _ _ _ _ _ _ _ _ _ _ _=>kr o) (λ_ _ _ _ _ o p q r s _ _ _=>bif o6.c p q r s then bif o6.v p q r s then bif qC.c p q r s then kr (decide (((qC.v p q r s).length:aw)=(o.length:aw)))else aj else kr ak else aj) N ak d (d.length:aw) 0 a d e f h i j l m
def vo:=b Lib.cZ λr0=>ah r0
def c:=λa d e f h i j l m=>(vo a d e f h i j l m).isSome
def v:=λa d e f h i j l m=>(vo a d e f h i j l m).getD ak
theorem out{x}:∀a d e f h i j l m,vo a d e f h i j l m=ah x->c a d e f h i j l m=ai/\v a d e f h i j l m=x:=λ_ _ _ _ _ _ _ _ _=>Lib.de
end Qe

namespace H4
def b(kr:aW->az R)(a d:aq)(e f h:aw)(gJ:aq):az R:=bif bZ (aC a) (aC gJ)then kr (decide (e=1))else kr ak
def v(a0 a1:aq)(a2 a3 a4:aw)(gJ:aq):aW:=bif bZ (aC a0) (aC gJ)then decide (a2=1)else ak
theorem eu(kr:aW->az R)(a0 a1:aq)(a2 a3 a4:aw)(gJ:aq):b kr a0 a1 a2 a3 a4 gJ=kr (v a0 a1 a2 a3 a4 gJ):=by first|rfl|(unfold b v;simp only[cK];(repeat' split)<;>rfl)
end H4

namespace qD
def r2(N:aF)(g k0 k1:hZ R)(a:aQ)(d:aq)(e f h:aw):az R:=bif decide (h<f)then bif decide (0<=h)&&decide (h<(a.length:aw))then bif H4.v (bu (ar a h.toNat 0)) (bu (ar a h.toNat 1)) (bE (ar a h.toNat (1+1))) (bE (ar a h.toNat (1+1+1))) (bE (ar a h.toNat (1+1+1+1))) d then k0 a d h f h else g a d e f (bJ (h+1))else aj else k1 a d e f h
def l2(N:aF)(k0 k1:hZ R):aF->hZ R
 |0=>λ_ _ _ _ _=>aj
 |n+1=>r2 N (l2 N k0 k1 n) k0 k1
def b(N:aF)(kr:aw->az R)(a:aQ)(gJ:aq):az R:=l2 N (λ_ _ d _ _=>kr d) (λ_ _ _ _ _=>kr (-1)) N a gJ 0 (a.length:aw) 0
def vo:=b Lib.cZ λr0=>ah r0
def c:=λa d=>(vo a d).isSome
def v:=λa d=>(vo a d).getD (0)
theorem out{x}:∀a d,vo a d=ah x->c a d=ai/\v a d=x:=λ_ _=>Lib.de
end qD

namespace Kl
def b(kr:aw->az R)(a:aw)(d e f h:aQ)(i:aw)(j l:aQ)(m:aw)(o:aq):az R:=bif qD.c j o then kr (qD.v j o)else aj
def vo:=b λr0=>ah r0
def c:=λa d e f h i j l m o=>(vo a d e f h i j l m o).isSome
def v:=λa d e f h i j l m o=>(vo a d e f h i j l m o).getD (0)
theorem out{x}:∀a d e f h i j l m o,vo a d e f h i j l m o=ah x->c a d e f h i j l m o=ai/\v a d e f h i j l m o=x:=λ_ _ _ _ _ _ _ _ _ _=>Lib.de
end Kl

namespace H6
def r2(N:aF)(g k0 k1:eR R)(a:aW)(d:aQ)(e f h:aw)(i j l m:aQ)(o:aw)(p q:aQ)(r:aw):az R:=bif decide (f<e)then bif decide (0<=f)&&decide (f<(d.length:aw))then bif decide (bE (ar d f.toNat (1+1))=1)then bif Kl.c h i j l m o p q r (bu (ar d f.toNat 0))then bif Kl.v h i j l m o p q r (bu (ar d f.toNat 0)) !=f then k0 ak d e f h i j l m o p q r else g a d e (bJ (f+1)) h i j l m o p q r else aj else g a d e (bJ (f+1)) h i j l m o p q r else aj else k1 a d e f h i j l m o p q r
def l2(N:aF)(k0 k1:eR R):aF->eR R
 |0=>λ_ _ _ _ _ _ _ _ _ _ _ _ _=>aj
 |n+1=>r2 N (l2 N k0 k1 n) k0 k1
def b(N:aF)(kr:aW->az R)(a:aw)(d e f h:aQ)(i:aw)(j l:aQ)(m:aw):az R:=l2 N (λo _ _ _ _ _ _ _ _ _ _ _ _=>kr o) (λ_ _ _ _ _ _ _ _ _ _ _ _ _=>kr ai) N ak j (j.length:aw) 0 a d e f h i j l m
def vo:=b Lib.cZ λr0=>ah r0
def c:=λa d e f h i j l m=>(vo a d e f h i j l m).isSome
def v:=λa d e f h i j l m=>(vo a d e f h i j l m).getD ak
theorem out{x}:∀a d e f h i j l m,vo a d e f h i j l m=ah x->c a d e f h i j l m=ai/\v a d e f h i j l m=x:=λ_ _ _ _ _ _ _ _ _=>Lib.de
end H6

namespace Ow
def r2(N:aF)(g k0 k1:eR R)(a:aW)(d:aQ)(e f h:aw)(i j l m:aQ)(o:aw)(p q:aQ)(r:aw):az R:=bif decide (f<e)then bif decide (0<=f)&&decide (f<(d.length:aw))then bif !zi.v (bu (ar d f.toNat 0))then k0 ak d e f h i j l m o p q r else bif decide (((bu (ar d f.toNat 1)).size:aw)>400)then k0 ak d e f h i j l m o p q r else bif !lz.v (bE (ar d f.toNat (1+1))) 1 3 then k0 ak d e f h i j l m o p q r else bif !lz.v (bE (ar d f.toNat (1+1+1))) 0 999999 then k0 ak d e f h i j l m o p q r else bif !lz.v (bE (ar d f.toNat (1+1+1+1))) 0 h then k0 ak d e f h i j l m o p q r else g a d e (bJ (f+1)) h i j l m o p q r else aj else k1 a d e f h i j l m o p q r
def l2(N:aF)(k0 k1:eR R):aF->eR R
 |0=>λ_ _ _ _ _ _ _ _ _ _ _ _ _=>aj
 |n+1=>r2 N (l2 N k0 k1 n) k0 k1
def b(N:aF)(kr:aW->az R)(a:aw)(d e f h:aQ)(i:aw)(j l:aQ)(m:aw):az R:=l2 N (λo _ _ _ _ _ _ _ _ _ _ _ _=>kr o) (λ_ _ _ _ o p q r s t u w y=>bif decide ((u.length:aw)<=20)then bif H6.c o p q r s t u w y then kr (H6.v o p q r s t u w y)else aj else kr ak) N ak j (j.length:aw) 0 a d e f h i j l m
def vo:=b Lib.cZ λr0=>ah r0
def c:=λa d e f h i j l m=>(vo a d e f h i j l m).isSome
def v:=λa d e f h i j l m=>(vo a d e f h i j l m).getD ak
theorem out{x}:∀a d e f h i j l m,vo a d e f h i j l m=ah x->c a d e f h i j l m=ai/\v a d e f h i j l m=x:=λ_ _ _ _ _ _ _ _ _=>Lib.de
end Ow

namespace Qf
def r2(N:aF)(g k0 k1:eR R)(a:aW)(d:aQ)(e f h:aw)(i j l m:aQ)(o:aw)(p q:aQ)(r:aw):az R:=bif decide (f<e)then bif decide (0<=f)&&decide (f<(d.length:aw))then bif !lz.v (bE (ar d f.toNat 0)) 1 9 then k0 ak d e f h i j l m o p q r else bif decide (f>0)then bif decide (0<=bJ (f-1))&&decide (bJ (f-1)<(q.length:aw))then bif decide (bE (ar q (bJ (f-1)).toNat 0)≥bE (ar d f.toNat 0))then k0 ak d e f h i j l m o p q r else bif !zi.v (bu (ar d f.toNat 1))then k0 ak d e f h i j l m o p q r else bif !lz.v (bE (ar d f.toNat (1+1+1+1))) 1 3 then k0 ak d e f h i j l m o p q r else bif !lz.v (bE (ar d f.toNat (1+1))) 0 (p.length:aw)then k0 ak d e f h i j l m o p q r else bif decide (((bu (ar d f.toNat (1+1+1+1+1))).size:aw)>400)then k0 ak d e f h i j l m o p q r else bif !lz.v (bE (ar d f.toNat (1+1+1))) 0 h then k0 ak d e f h i j l m o p q r else bif decide (bE (ar d f.toNat (1+1+1+1+1+1))<0)then k0 ak d e f h i j l m o p q r else g a d e (bJ (f+1)) h i j l m o p q r else aj else bif !zi.v (bu (ar d f.toNat 1))then k0 ak d e f h i j l m o p q r else bif !lz.v (bE (ar d f.toNat (1+1+1+1))) 1 3 then k0 ak d e f h i j l m o p q r else bif !lz.v (bE (ar d f.toNat (1+1))) 0 (p.length:aw)then k0 ak d e f h i j l m o p q r else bif decide (((bu (ar d f.toNat (1+1+1+1+1))).size:aw)>400)then k0 ak d e f h i j l m o p q r else bif !lz.v (bE (ar d f.toNat (1+1+1))) 0 h then k0 ak d e f h i j l m o p q r else bif decide (bE (ar d f.toNat (1+1+1+1+1+1))<0)then k0 ak d e f h i j l m o p q r else g a d e (bJ (f+1)) h i j l m o p q r else aj else k1 a d e f h i j l m o p q r
def l2(N:aF)(k0 k1:eR R):aF->eR R
 |0=>λ_ _ _ _ _ _ _ _ _ _ _ _ _=>aj
 |n+1=>r2 N (l2 N k0 k1 n) k0 k1
def b(N:aF)(kr:aW->az R)(a:aw)(d e f h:aQ)(i:aw)(j l:aQ)(m:aw):az R:=l2 N (λo _ _ _ _ _ _ _ _ _ _ _ _=>kr o) (λ_ _ _ _ _ _ _ _ _ _ _ o _=>kr (decide ((o.length:aw)<=6))) N ak l (l.length:aw) 0 a d e f h i j l m
def vo:=b Lib.cZ λr0=>ah r0
def c:=λa d e f h i j l m=>(vo a d e f h i j l m).isSome
def v:=λa d e f h i j l m=>(vo a d e f h i j l m).getD ak
theorem out{x}:∀a d e f h i j l m,vo a d e f h i j l m=ah x->c a d e f h i j l m=ai/\v a d e f h i j l m=x:=λ_ _ _ _ _ _ _ _ _=>Lib.de
end Qf

namespace Ov
def b(kr:aW->az R)(a:aw)(d e f h:aQ)(i:aw)(j l:aQ)(m:aw):az R:=bif lz.v a 1 1000000000 then bif Qe.c a d e f h i j l m then bif Qe.v a d e f h i j l m then bif Ow.c a d e f h i j l m then bif Ow.v a d e f h i j l m then bif Qf.c a d e f h i j l m then bif Qf.v a d e f h i j l m then kr (RR.v m)else kr ak else aj else kr ak else aj else kr ak else aj else kr ak
def vo:=b λr0=>ah r0
def c:=λa d e f h i j l m=>(vo a d e f h i j l m).isSome
def v:=λa d e f h i j l m=>(vo a d e f h i j l m).getD ak
theorem out{x}:∀a d e f h i j l m,vo a d e f h i j l m=ah x->c a d e f h i j l m=ai/\v a d e f h i j l m=x:=λ_ _ _ _ _ _ _ _ _=>Lib.de
end Ov

namespace Kg
def b(kr:aW->az R)(a:aw)(d:aq)(e f h:aw)(i:aq)(j Cn:aw):az R:=kr (decide (a=Cn))
def v(a0:aw)(a1:aq)(a2 a3 a4:aw)(a5:aq)(a6 Cn:aw):aW:=(decide (a0=Cn))
theorem eu(kr:aW->az R)(a0:aw)(a1:aq)(a2 a3 a4:aw)(a5:aq)(a6 Cn:aw):b kr a0 a1 a2 a3 a4 a5 a6 Cn=kr (v a0 a1 a2 a3 a4 a5 a6 Cn):=by first|rfl|(unfold b v;simp only[cK];(repeat' split)<;>rfl)
end Kg

namespace qE
def r2(N:aF)(g k0 k1:kW R)(a:aQ)(d e f h:aw):az R:=bif decide (h<f)then bif decide (0<=h)&&decide (h<(a.length:aw))then bif Kg.v (bE (ar a h.toNat 0)) (bu (ar a h.toNat 1)) (bE (ar a h.toNat (1+1))) (bE (ar a h.toNat (1+1+1))) (bE (ar a h.toNat (1+1+1+1))) (bu (ar a h.toNat (1+1+1+1+1))) (bE (ar a h.toNat (1+1+1+1+1+1))) d then k0 a d h f h else g a d e f (bJ (h+1))else aj else k1 a d e f h
def l2(N:aF)(k0 k1:kW R):aF->kW R
 |0=>λ_ _ _ _ _=>aj
 |n+1=>r2 N (l2 N k0 k1 n) k0 k1
def b(N:aF)(kr:aw->az R)(a:aQ)(Cn:aw):az R:=l2 N (λ_ _ d _ _=>kr d) (λ_ _ _ _ _=>kr (-1)) N a Cn 0 (a.length:aw) 0
def vo:=b Lib.cZ λr0=>ah r0
def c:=λa d=>(vo a d).isSome
def v:=λa d=>(vo a d).getD (0)
theorem out{x}:∀a d,vo a d=ah x->c a d=ai/\v a d=x:=λ_ _=>Lib.de
end qE

namespace Az
def b(kr:aW->az R)(a:aw)(d:aq)(e f h:aw)(i:aq)(j Cn:aw):az R:=kr (decide (a=Cn))
def v(a0:aw)(a1:aq)(a2 a3 a4:aw)(a5:aq)(a6 Cn:aw):aW:=(decide (a0=Cn))
theorem eu(kr:aW->az R)(a0:aw)(a1:aq)(a2 a3 a4:aw)(a5:aq)(a6 Cn:aw):b kr a0 a1 a2 a3 a4 a5 a6 Cn=kr (v a0 a1 a2 a3 a4 a5 a6 Cn):=by first|rfl|(unfold b v;simp only[cK];(repeat' split)<;>rfl)
end Az

namespace nh
def r2(N:aF)(g k0 k1:kW R)(a:aQ)(d e f h:aw):az R:=bif decide (h<f)then bif decide (0<=h)&&decide (h<(a.length:aw))then bif Az.v (bE (ar a h.toNat 0)) (bu (ar a h.toNat 1)) (bE (ar a h.toNat (1+1))) (bE (ar a h.toNat (1+1+1))) (bE (ar a h.toNat (1+1+1+1))) (bu (ar a h.toNat (1+1+1+1+1))) (bE (ar a h.toNat (1+1+1+1+1+1))) d then k0 a d h f h else g a d e f (bJ (h+1))else aj else k1 a d e f h
def l2(N:aF)(k0 k1:kW R):aF->kW R
 |0=>λ_ _ _ _ _=>aj
 |n+1=>r2 N (l2 N k0 k1 n) k0 k1
def b(N:aF)(kr:aw->az R)(a:aQ)(Cn:aw):az R:=l2 N (λ_ _ d _ _=>kr d) (λ_ _ _ _ _=>kr (-1)) N a Cn 0 (a.length:aw) 0
def vo:=b Lib.cZ λr0=>ah r0
def c:=λa d=>(vo a d).isSome
def v:=λa d=>(vo a d).getD (0)
theorem out{x}:∀a d,vo a d=ah x->c a d=ai/\v a d=x:=λ_ _=>Lib.de
end nh

namespace zh
def b(kr:aw->az R)(a:aw)(d e f h:aQ)(i:aw)(j l:aQ)(m o:aw):az R:=bif qE.c l o then kr (qE.v l o)else aj
def vo:=b λr0=>ah r0
def c:=λa d e f h i j l m o=>(vo a d e f h i j l m o).isSome
def v:=λa d e f h i j l m o=>(vo a d e f h i j l m o).getD (0)
theorem out{x}:∀a d e f h i j l m o,vo a d e f h i j l m o=ah x->c a d e f h i j l m o=ai/\v a d e f h i j l m o=x:=λ_ _ _ _ _ _ _ _ _ _=>Lib.de
end zh

namespace Kf
def b(kr:aW->az R)(a:aq)(d e:aw)(f gJ:aq):az R:=kr (bZ (aC a) (aC gJ))
def v(a0:aq)(a1 a2:aw)(a3 gJ:aq):aW:=(bZ (aC a0) (aC gJ))
theorem eu(kr:aW->az R)(a0:aq)(a1 a2:aw)(a3 gJ:aq):b kr a0 a1 a2 a3 gJ=kr (v a0 a1 a2 a3 gJ):=by first|rfl|(unfold b v;simp only[cK];(repeat' split)<;>rfl)
end Kf

namespace pR
def r2(N:aF)(g k0 k1:hZ R)(a:aQ)(d:aq)(e f h:aw):az R:=bif decide (h<f)then bif decide (0<=h)&&decide (h<(a.length:aw))then bif Kf.v (bu (ar a h.toNat 0)) (bE (ar a h.toNat 1)) (bE (ar a h.toNat (1+1))) (bu (ar a h.toNat (1+1+1))) d then k0 a d h f h else g a d e f (bJ (h+1))else aj else k1 a d e f h
def l2(N:aF)(k0 k1:hZ R):aF->hZ R
 |0=>λ_ _ _ _ _=>aj
 |n+1=>r2 N (l2 N k0 k1 n) k0 k1
def b(N:aF)(kr:aw->az R)(a:aQ)(gJ:aq):az R:=l2 N (λ_ _ d _ _=>kr d) (λ_ _ _ _ _=>kr (-1)) N a gJ 0 (a.length:aw) 0
def vo:=b Lib.cZ λr0=>ah r0
def c:=λa d=>(vo a d).isSome
def v:=λa d=>(vo a d).getD (0)
theorem out{x}:∀a d,vo a d=ah x->c a d=ai/\v a d=x:=λ_ _=>Lib.de
end pR

namespace AE
def b(kr:aW->az R)(a:aq)(d e:aw)(f gJ:aq):az R:=kr (bZ (aC a) (aC gJ))
def v(a0:aq)(a1 a2:aw)(a3 gJ:aq):aW:=(bZ (aC a0) (aC gJ))
theorem eu(kr:aW->az R)(a0:aq)(a1 a2:aw)(a3 gJ:aq):b kr a0 a1 a2 a3 gJ=kr (v a0 a1 a2 a3 gJ):=by first|rfl|(unfold b v;simp only[cK];(repeat' split)<;>rfl)
end AE

namespace ng
def r2(N:aF)(g k0 k1:hZ R)(a:aQ)(d:aq)(e f h:aw):az R:=bif decide (h<f)then bif decide (0<=h)&&decide (h<(a.length:aw))then bif AE.v (bu (ar a h.toNat 0)) (bE (ar a h.toNat 1)) (bE (ar a h.toNat (1+1))) (bu (ar a h.toNat (1+1+1))) d then k0 a d h f h else g a d e f (bJ (h+1))else aj else k1 a d e f h
def l2(N:aF)(k0 k1:hZ R):aF->hZ R
 |0=>λ_ _ _ _ _=>aj
 |n+1=>r2 N (l2 N k0 k1 n) k0 k1
def b(N:aF)(kr:aw->az R)(a:aQ)(gJ:aq):az R:=l2 N (λ_ _ d _ _=>kr d) (λ_ _ _ _ _=>kr (-1)) N a gJ 0 (a.length:aw) 0
def vo:=b Lib.cZ λr0=>ah r0
def c:=λa d=>(vo a d).isSome
def v:=λa d=>(vo a d).getD (0)
theorem out{x}:∀a d,vo a d=ah x->c a d=ai/\v a d=x:=λ_ _=>Lib.de
end ng

namespace WQ
def b(kr:aW->az R)(a:aq)(d e:aw)(f:aq)(Gw:aw)(BW:aq)(Gx BX Gy:aw)(BZ:aq)(B0:aw):az R:=bif bZ (aC a) (aC BW)then bif decide (d=BX)then bif bZ (aC f) (aC BZ)then kr (decide (e>B0))else kr ak else kr ak else kr ak
def v(a0:aq)(a1 a2:aw)(a3:aq)(Gw:aw)(BW:aq)(Gx BX Gy:aw)(BZ:aq)(B0:aw):aW:=bif bZ (aC a0) (aC BW)then bif decide (a1=BX)then bif bZ (aC a3) (aC BZ)then decide (a2>B0)else ak else ak else ak
theorem eu(kr:aW->az R)(a0:aq)(a1 a2:aw)(a3:aq)(Gw:aw)(BW:aq)(Gx BX Gy:aw)(BZ:aq)(B0:aw):b kr a0 a1 a2 a3 Gw BW Gx BX Gy BZ B0=kr (v a0 a1 a2 a3 Gw BW Gx BX Gy BZ B0):=by first|rfl|(unfold b v;simp only[cK];(repeat' split)<;>rfl)
end WQ

namespace sb
def r2(N:aF)(g k0 k1:p_ R)(a:aQ)(d:aw)(e:aq)(f h i:aw)(j:aq)(l m o p:aw):az R:=bif decide (p<o)then bif decide (0<=p)&&decide (p<(a.length:aw))then bif WQ.v (bu (ar a p.toNat 0)) (bE (ar a p.toNat 1)) (bE (ar a p.toNat (1+1))) (bu (ar a p.toNat (1+1+1))) d e f h i j l then k0 a d e f h i j l p o p else g a d e f h i j l m o (bJ (p+1))else aj else k1 a d e f h i j l m o p
def l2(N:aF)(k0 k1:p_ R):aF->p_ R
 |0=>λ_ _ _ _ _ _ _ _ _ _ _=>aj
 |n+1=>r2 N (l2 N k0 k1 n) k0 k1
def b(N:aF)(kr:aw->az R)(a:aQ)(Gw:aw)(BW:aq)(Gx BX Gy:aw)(BZ:aq)(B0:aw):az R:=l2 N (λ_ _ _ _ _ _ _ _ d _ _=>kr d) (λ_ _ _ _ _ _ _ _ _ _ _=>kr (-1)) N a Gw BW Gx BX Gy BZ B0 0 (a.length:aw) 0
def vo:=b Lib.cZ λr0=>ah r0
def c:=λa d e f h i j l=>(vo a d e f h i j l).isSome
def v:=λa d e f h i j l=>(vo a d e f h i j l).getD (0)
theorem out{x}:∀a d e f h i j l,vo a d e f h i j l=ah x->c a d e f h i j l=ai/\v a d e f h i j l=x:=λ_ _ _ _ _ _ _ _=>Lib.de
end sb

namespace Gl
def b(kr:aW->az R)(a:aq)(d e:aw)(f:aq)(h:aw):az R:=bif wC.v a d e f then bif RR.v h then kr (lz.v h d (bJ (bJ (d+e)-1)))else kr ak else kr ak
def v(a0:aq)(a1 a2:aw)(a3:aq)(a4:aw):aW:=bif wC.v a0 a1 a2 a3 then bif RR.v a4 then lz.v a4 a1 (bJ (bJ (a1+a2)-1))else ak else ak
theorem eu(kr:aW->az R)(a0:aq)(a1 a2:aw)(a3:aq)(a4:aw):b kr a0 a1 a2 a3 a4=kr (v a0 a1 a2 a3 a4):=by first|rfl|(unfold b v;simp only[cK];(repeat' split)<;>rfl)
end Gl

namespace wM
def r6(N:aF)(g k0:yC R)(a:aw)(d:aq)(e f:aw):az R:=bif decide (f<8)then bif decide (cO a 2=1)then g (bF eC (↑(dV (mf (b_ 32 (bF eC (cQ a 2))) (b_ 32 3558460437))):aw)) d e (bJ (f+1))else g (bF eC (cQ a 2)) d e (bJ (f+1))else k0 a d e f
def l6(N:aF)(k0:yC R):aF->yC R
 |0=>λ_ _ _ _=>aj
 |n+1=>r6 N (l6 N k0 n) k0
def r2(N:aF)(g k0:Ea R)(a:aw)(d:aq)(e:aw):az R:=bif decide (e<(d.size:aw))then bif decide (0<=e)&&decide (e<(d.size:aw))then l6 N (λf h i _=>g f h (bJ (i+1))) N (bF eC (↑(dV (mf (b_ 32 a) (b_ 32 (bF eC (↑(gM d e.toNat):aw))))):aw)) d e 0 else aj else k0 a d e
def l2(N:aF)(k0:Ea R):aF->Ea R
 |0=>λ_ _ _=>aj
 |n+1=>r2 N (l2 N k0 n) k0
def b(N:aF)(kr:aw->az R)(a:aw)(d:aq):az R:=l2 N (λe _ _=>kr e) N a d 0
def vo:=b Lib.cZ λr0=>ah r0
def c:=λa d=>(vo a d).isSome
def v:=λa d=>(vo a d).getD (0)
theorem out{x}:∀a d,vo a d=ah x->c a d=ai/\v a d=x:=λ_ _=>Lib.de
end wM

namespace uY
def b(kr:aw->az R)(a:aq):az R:=bif wM.c 4294967295 a then kr (wM.v 4294967295 a)else aj
def vo:=b λr0=>ah r0
def c:=λa=>(vo a).isSome
def v:=λa=>(vo a).getD (0)
theorem out{x}:∀a,vo a=ah x->c a=ai/\v a=x:=λ_=>Lib.de
end uY

namespace qG
def b(kr:aw->az R)(a:aw)(d:aq):az R:=bif decide (d.size+(bytesOf (aD (aP [Ck.i bf] 1) 0 [CV.i bf (bF bf (bJ (↑(dV (jq (b_ 64 a) (b_ 64 255))):aw)))])).size<=4611686018427387904)then bif uY.c (d++bytesOf (aD (aP [Ck.i bf] 1) 0 [CV.i bf (bF bf (bJ (↑(dV (jq (b_ 64 a) (b_ 64 255))):aw)))]))then kr (cO (bJ (uY.v (d++bytesOf (aD (aP [Ck.i bf] 1) 0 [CV.i bf (bF bf (bJ (↑(dV (jq (b_ 64 a) (b_ 64 255))):aw)))])))) 16)else aj else aj
def vo:=b λr0=>ah r0
def c:=λa d=>(vo a d).isSome
def v:=λa d=>(vo a d).getD (0)
theorem out{x}:∀a d,vo a d=ah x->c a d=ai/\v a d=x:=λ_ _=>Lib.de
end qG

namespace iI
def r18(N:aF)(g k0:vt R)(a:aF)(d e f h i j:aw)(l:aQ):az R:=bif decide (h<f)then bif decide (0<=h)&&decide (h<((jv (ar l a 0)).length:aw))then bif decide (0<=h)&&decide (h<((jv (ar l a 0)).length:aw))then g a d e f (bJ (h+1)) i j (eD l a 0 [CV.l 3 (eD (jv (ar l a 0)) h.toNat 0 [.i .i64 (bJ (cQ (bE (ar (jv (ar l a 0)) h.toNat 0)) 2))])])else aj else aj else k0 a d e f h i j l
def l18(N:aF)(k0:vt R):aF->vt R
 |0=>λ_ _ _ _ _ _ _ _=>aj
 |n+1=>r18 N (l18 N k0 n) k0
def r15(N:aF)(g k0:ua R)(a d e f:aw)(h:aQ):az R:=bif decide (d<a)then bif decide (0<=d)&&decide (d<(h.length:aw))then l18 N (λ_ i j _ _ l m o=>g i (bJ (j+1)) l m o) N d.toNat a d ((jv (ar h d.toNat 0)).length:aw) 0 e f h else aj else k0 a d e f h
def l15(N:aF)(k0:ua R):aF->ua R
 |0=>λ_ _ _ _ _=>aj
 |n+1=>r15 N (l15 N k0 n) k0
def r5(N:aF)(g k0:BC R)(a:aq)(d e f h:aw)(i:aQ):az R:=bif decide (e<d)then bif decide (0<=e)&&decide (e<(i.length:aw))then bif qG.c e a then bif decide (0<=qG.v e a)&&decide (qG.v e a<((jv (ar i e.toNat 0)).length:aw))then bif decide (0<=qG.v e a)&&decide (qG.v e a<((jv (ar i e.toNat 0)).length:aw))then g a d (bJ (e+1)) f h (eD i e.toNat 0 [CV.l 3 (eD (jv (ar i e.toNat 0)) (qG.v e a).toNat 0 [.i .i64 (im ak (bJ (bE (ar (jv (ar i e.toNat 0)) (qG.v e a).toNat 0)+1)) 15)])])else aj else aj else aj else aj else k0 a d e f h i
def l5(N:aF)(k0:BC R):aF->BC R
 |0=>λ_ _ _ _ _ _=>aj
 |n+1=>r5 N (l5 N k0 n) k0
def b(N:aF)(kr:Dq R)(a:aQ)(d:aw)(e:aq):az R:=bif jk.c a d then bif pK.c a d then bif !pK.v a d then kr (jk.v a d).1 (jk.v a d).2 else l5 N (λ_ _ _ f h i=>bif decide (bJ (h+1)<64)then kr i (bJ (h+1))else l15 N (λ_ _ _ j l=>kr l j) N (i.length:aw) 0 f 0 i) N e ((jk.v a d).1.length:aw) 0 0 (jk.v a d).2 (jk.v a d).1 else aj else aj
def vo:=b Lib.cZ λr0 r1=>ah (r0,r1)
def c:=λa d e=>(vo a d e).isSome
def v:=λa d e=>(vo a d e).getD ([],0)
theorem out{x}:∀a d e,vo a d e=ah x->c a d e=ai/\v a d e=x:=λ_ _ _=>Lib.de
end iI

namespace AG
def b(kr:aW->az R)(a gJ:aq):az R:=kr (bZ (aC a) (aC gJ))
def v(a0 gJ:aq):aW:=(bZ (aC a0) (aC gJ))
theorem eu(kr:aW->az R)(a0 gJ:aq):b kr a0 gJ=kr (v a0 gJ):=by first|rfl|(unfold b v;simp only[cK];(repeat' split)<;>rfl)
end AG

namespace sE
def r2(N:aF)(g k0 k1:hZ R)(a:aQ)(d:aq)(e f h:aw):az R:=bif decide (h<f)then bif decide (0<=h)&&decide (h<(a.length:aw))then bif AG.v (bu (ar a h.toNat 0)) d then k0 a d h f h else g a d e f (bJ (h+1))else aj else k1 a d e f h
def l2(N:aF)(k0 k1:hZ R):aF->hZ R
 |0=>λ_ _ _ _ _=>aj
 |n+1=>r2 N (l2 N k0 k1 n) k0 k1
def b(N:aF)(kr:aw->az R)(a:aQ)(gJ:aq):az R:=l2 N (λ_ _ d _ _=>kr d) (λ_ _ _ _ _=>kr (-1)) N a gJ 0 (a.length:aw) 0
def vo:=b Lib.cZ λr0=>ah r0
def c:=λa d=>(vo a d).isSome
def v:=λa d=>(vo a d).getD (0)
theorem out{x}:∀a d,vo a d=ah x->c a d=ai/\v a d=x:=λ_ _=>Lib.de
end sE

namespace wL
def r5(N:aF)(g k0:mj R)(a:aq)(d e:aw)(f:aQ):az R:=bif decide (e<(f.length:aw))then bif decide (0<=e)&&decide (e<(f.length:aw))then bif !AG.v (bu (ar f e.toNat 0)) a then bif decide (0<=d)&&decide (d<(f.length:aw))then g a (bJ (d+1)) (bJ (e+1)) (eD f d.toNat 0 [.s (bu (ar f e.toNat 0))])else aj else g a d (bJ (e+1)) f else aj else k0 a d e f
def l5(N:aF)(k0:mj R):aF->mj R
 |0=>λ_ _ _ _=>aj
 |n+1=>r5 N (l5 N k0 n) k0
def b(N:aF)(kr:aQ->az R)(a:aQ)(gJ:aq):az R:=bif sE.c a gJ then bif decide (sE.v a gJ=Kc 1)then kr a else l5 N (λ_ d _ e=>bif g9 d (e.length:aw) (e.length:aw)then bif g9 0 d ((gW d.toNat e++aP [.s] ((e.length:aw).toNat-d.toNat)++nb (e.length:aw).toNat e).length:aw)then kr (e8 (gW d.toNat e++aP [.s] ((e.length:aw).toNat-d.toNat)++nb (e.length:aw).toNat e) (aY 0) d.toNat)else aj else aj) N gJ (sE.v a gJ) (bJ (sE.v a gJ+1)) a else aj
def vo:=b Lib.cZ λr0=>ah r0
def c:=λa d=>(vo a d).isSome
def v:=λa d=>(vo a d).getD ([])
theorem out{x}:∀a d,vo a d=ah x->c a d=ai/\v a d=x:=λ_ _=>Lib.de
end wL

namespace j6
def b(kr:aQ->az R)(a:aQ)(d:aq):az R:=bif s7.c a then bif wL.c (s7.v a) d then kr (wL.v (s7.v a) d)else aj else aj
def vo:=b λr0=>ah r0
def c:=λa d=>(vo a d).isSome
def v:=λa d=>(vo a d).getD ([])
theorem out{x}:∀a d,vo a d=ah x->c a d=ai/\v a d=x:=λ_ _=>Lib.de
end j6

namespace vN
def r5(N:aF)(g k0:Fu R)(a:aq)(d:aw)(e:aQ)(f h:aw):az R:=bif decide (h<f)then bif decide (0<=h)&&decide (h<(e.length:aw))then bif qG.c h a then bif decide (0<=qG.v h a)&&decide (qG.v h a<((jv (ar e h.toNat 0)).length:aw))then g a (im ak d (bE (ar (jv (ar e h.toNat 0)) (qG.v h a).toNat 0))) e f (bJ (h+1))else aj else aj else aj else k0 a d e f h
def l5(N:aF)(k0:Fu R):aF->Fu R
 |0=>λ_ _ _ _ _=>aj
 |n+1=>r5 N (l5 N k0 n) k0
def b(N:aF)(kr:aw->az R)(a:aQ)(d:aw)(e:aq):az R:=bif pK.c a d then bif !pK.v a d then kr 0 else l5 N (λ_ f _ _ _=>kr f) N e 15 a (a.length:aw) 0 else aj
def vo:=b Lib.cZ λr0=>ah r0
def c:=λa d e=>(vo a d e).isSome
def v:=λa d e=>(vo a d e).getD (0)
theorem out{x}:∀a d e,vo a d e=ah x->c a d e=ai/\v a d e=x:=λ_ _ _=>Lib.de
end vN

namespace zj
def b(kr:L7 R)(a d e:aQ)(f:aw)(h:aq):az R:=bif js.c a d e f then bif o6.c a d e f then bif !o6.v a d e f then kr (js.v a d e f).1 (js.v a d e f).2.1 (js.v a d e f).2.2.1 (js.v a d e f).2.2.2 ⟨#[]⟩else bif !zi.v h then kr (js.v a d e f).1 (js.v a d e f).2.1 (js.v a d e f).2.2.1 (js.v a d e f).2.2.2 ⟨#[]⟩else bif iI.c e f h then bif sC.c d h then bif sC.v d h then bif j6.c d h then bif cC ((j6.v d h).length+(aD (aP [.s] 1) 0 [.s h]).length) 16 then kr (js.v a d e f).1 (j6.v d h++aD (aP [.s] 1) 0 [.s h]) (iI.v e f h).1 (iI.v e f h).2 ⟨#[]⟩else aj else aj else bif j6.c a h then bif cC ((j6.v a h).length+(aD (aP [.s] 1) 0 [.s h]).length) 16 then bif decide (((j6.v a h++aD (aP [.s] 1) 0 [.s h]).length:aw)<=2)then kr (j6.v a h++aD (aP [.s] 1) 0 [.s h]) (js.v a d e f).2.1 (iI.v e f h).1 (iI.v e f h).2 ⟨#[]⟩else bif decide (0<((j6.v a h++aD (aP [.s] 1) 0 [.s h]).length:aw))then bif g9 1 ((j6.v a h++aD (aP [.s] 1) 0 [.s h]).length:aw) ((j6.v a h++aD (aP [.s] 1) 0 [.s h]).length:aw)then bif decide (((js.v a d e f).2.1.length:aw)<4)then bif cC ((js.v a d e f).2.1.length+(aD (aP [.s] 1) 0 [.s (bu (ar (j6.v a h++aD (aP [.s] 1) 0 [.s h]) (aY 0) 0))]).length) 16 then kr (e8 (j6.v a h++aD (aP [.s] 1) 0 [.s h]) (aY 1) ((j6.v a h++aD (aP [.s] 1) 0 [.s h]).length:aw).toNat) ((js.v a d e f).2.1++aD (aP [.s] 1) 0 [.s (bu (ar (j6.v a h++aD (aP [.s] 1) 0 [.s h]) (aY 0) 0))]) (iI.v e f h).1 (iI.v e f h).2 ⟨#[]⟩else aj else bif decide (0<((js.v a d e f).2.1.length:aw))then bif vN.c (iI.v e f h).1 (iI.v e f h).2 (bu (ar (j6.v a h++aD (aP [.s] 1) 0 [.s h]) (aY 0) 0))then bif vN.c (iI.v e f h).1 (iI.v e f h).2 (bu (ar (js.v a d e f).2.1 (aY 0) 0))then bif decide (vN.v (iI.v e f h).1 (iI.v e f h).2 (bu (ar (j6.v a h++aD (aP [.s] 1) 0 [.s h]) (aY 0) 0))>vN.v (iI.v e f h).1 (iI.v e f h).2 (bu (ar (js.v a d e f).2.1 (aY 0) 0)))then bif g9 1 ((js.v a d e f).2.1.length:aw) ((js.v a d e f).2.1.length:aw)then bif cC ((e8 (js.v a d e f).2.1 (aY 1) ((js.v a d e f).2.1.length:aw).toNat).length+(aD (aP [.s] 1) 0 [.s (bu (ar (j6.v a h++aD (aP [.s] 1) 0 [.s h]) (aY 0) 0))]).length) 16 then kr (e8 (j6.v a h++aD (aP [.s] 1) 0 [.s h]) (aY 1) ((j6.v a h++aD (aP [.s] 1) 0 [.s h]).length:aw).toNat) (e8 (js.v a d e f).2.1 (aY 1) ((js.v a d e f).2.1.length:aw).toNat++aD (aP [.s] 1) 0 [.s (bu (ar (j6.v a h++aD (aP [.s] 1) 0 [.s h]) (aY 0) 0))]) (iI.v e f h).1 (iI.v e f h).2 (bu (ar (js.v a d e f).2.1 (aY 0) 0))else aj else aj else kr (e8 (j6.v a h++aD (aP [.s] 1) 0 [.s h]) (aY 1) ((j6.v a h++aD (aP [.s] 1) 0 [.s h]).length:aw).toNat) (js.v a d e f).2.1 (iI.v e f h).1 (iI.v e f h).2 (bu (ar (j6.v a h++aD (aP [.s] 1) 0 [.s h]) (aY 0) 0))else aj else aj else aj else aj else aj else aj else aj else aj else aj else aj else aj
def vo:=b λr0 r1 r2 r3 r4=>ah (r0,r1,r2,r3,r4)
def c:=λa d e f h=>(vo a d e f h).isSome
def v:=λa d e f h=>(vo a d e f h).getD ([],[],[],0,⟨#[]⟩)
theorem out{x}:∀a d e f h,vo a d e f h=ah x->c a d e f h=ai/\v a d e f h=x:=λ_ _ _ _ _=>Lib.de
end zj


namespace jj
def r2(N:aF)(g k0:lG R)(a d e f h:aw)(i:aq)(j l m:aw)(o:aq)(p:aw)(q r s t u w:aQ):az R:=bif decide (a<(w.length:aw))then bif decide (0<=a)&&decide (a<(w.length:aw))then bif decide (bE (ar w a.toNat 0)<h)then g (bJ (a+1)) d e f h i j l m o p q r s t u w else k0 a d e f h i j l m o p q r s t u w else aj else k0 a d e f h i j l m o p q r s t u w
def l2(N:aF)(k0:lG R):aF->lG R
 |0=>λ_ _ _ _ _ _ _ _ _ _ _ _ _ _ _ _ _=>aj
 |n+1=>r2 N (l2 N k0 n) k0
def b(N:aF)(kr:eN R)(a:aw)(d e f h:aQ)(i:aw)(j l:aQ)(m o:aw)(p:aq)(q r s:aw)(t:aq)(u:aw):az R:=l2 N (λw y z α xa xb xc xd xe xf xg xh xi xj xk xl xm=>bif decide (0<=w)&&decide (w<=(xm.length:aw))&&cC (xm.length+(aD (aP [Ck.i ao,Ck.s,Ck.i ao,Ck.i ao,Ck.i ao,Ck.s,Ck.i ao] 1) 0 [.i .i64 xa, .s xb, .i .i64 xc, .i .i64 xd, .i .i64 xe, .s xf, .i .i64 xg]).length) 72 then kr y xh xi xj xk z xl (Pu.tB xm w.toNat (aD (aP [Ck.i ao,Ck.s,Ck.i ao,Ck.i ao,Ck.i ao,Ck.s,Ck.i ao] 1) 0 [.i .i64 xa, .s xb, .i .i64 xc, .i .i64 xd, .i .i64 xe, .s xf, .i .i64 xg])) α else aj) N 0 a i m o p q r s t u d e f h j l
def vo:=b Lib.cZ λr0 r1 r2 r3 r4 r5 r6 r7 r8=>ah (r0,r1,r2,r3,r4,r5,r6,r7,r8)
def c:=λa d e f h i j l m o p q r s t u=>(vo a d e f h i j l m o p q r s t u).isSome
def v:=λa d e f h i j l m o p q r s t u=>(vo a d e f h i j l m o p q r s t u).getD (0,[],[],[],[],0,[],[],0)
theorem out{x}:∀a d e f h i j l m o p q r s t u,vo a d e f h i j l m o p q r s t u=ah x->c a d e f h i j l m o p q r s t u=ai/\v a d e f h i j l m o p q r s t u=x:=λ_ _ _ _ _ _ _ _ _ _ _ _ _ _ _ _=>Lib.de
end jj

namespace o8
def r5(N:aF)(g k0:mj R)(a:aq)(d e:aw)(f:aQ):az R:=bif decide (e<(f.length:aw))then bif decide (0<=e)&&decide (e<(f.length:aw))then bif !AE.v (bu (ar f e.toNat 0)) (bE (ar f e.toNat 1)) (bE (ar f e.toNat (1+1))) (bu (ar f e.toNat (1+1+1))) a then bif decide (0<=d)&&decide (d<(f.length:aw))then g a (bJ (d+1)) (bJ (e+1)) (eD f d.toNat 0 [.s (bu (ar f e.toNat 0)), .i .i64 (bE (ar f e.toNat 1)), .i .i64 (bE (ar f e.toNat (1+1))), .s (bu (ar f e.toNat (1+1+1)))])else aj else g a d (bJ (e+1)) f else aj else k0 a d e f
def l5(N:aF)(k0:mj R):aF->mj R
 |0=>λ_ _ _ _=>aj
 |n+1=>r5 N (l5 N k0 n) k0
def b(N:aF)(kr:aQ->az R)(a:aQ)(gJ:aq):az R:=bif ng.c a gJ then bif decide (ng.v a gJ=Kc 1)then kr a else l5 N (λ_ d _ e=>bif g9 d (e.length:aw) (e.length:aw)then bif g9 0 d ((gW d.toNat e++aP [Ck.s,Ck.i ao,Ck.i ao,Ck.s] ((e.length:aw).toNat-d.toNat)++nb (e.length:aw).toNat e).length:aw)then kr (e8 (gW d.toNat e++aP [Ck.s,Ck.i ao,Ck.i ao,Ck.s] ((e.length:aw).toNat-d.toNat)++nb (e.length:aw).toNat e) (aY 0) d.toNat)else aj else aj) N gJ (ng.v a gJ) (bJ (ng.v a gJ+1)) a else aj
def vo:=b Lib.cZ λr0=>ah r0
def c:=λa d=>(vo a d).isSome
def v:=λa d=>(vo a d).getD ([])
theorem out{x}:∀a d,vo a d=ah x->c a d=ai/\v a d=x:=λ_ _=>Lib.de
end o8

namespace pJ
def b(kr:aQ->az R)(a:aQ)(d:aq):az R:=bif wI.c a then bif o8.c (wI.v a) d then kr (o8.v (wI.v a) d)else aj else aj
def vo:=b λr0=>ah r0
def c:=λa d=>(vo a d).isSome
def v:=λa d=>(vo a d).getD ([])
theorem out{x}:∀a d,vo a d=ah x->c a d=ai/\v a d=x:=λ_ _=>Lib.de
end pJ

namespace uS
def b(kr:sS R)(a d e:aQ)(f:aw)(h:aq):az R:=bif js.c a d e f then bif j6.c a h then bif j6.c d h then kr (j6.v a h) (j6.v d h) (js.v a d e f).2.2.1 (js.v a d e f).2.2.2 else aj else aj else aj
def vo:=b λr0 r1 r2 r3=>ah (r0,r1,r2,r3)
def c:=λa d e f h=>(vo a d e f h).isSome
def v:=λa d e f h=>(vo a d e f h).getD ([],[],[],0)
theorem out{x}:∀a d e f h,vo a d e f h=ah x->c a d e f h=ai/\v a d e f h=x:=λ_ _ _ _ _=>Lib.de
end uS

namespace RS
def b(kr:wv R)(a:aw)(d e f h:aQ)(i:aw)(j l:aQ)(m o:aw)(p:aq):az R:=bif iL.c a d e f h i j l m then Lib.lt (iL.v a d e f h i j l m) λq=>bif Ov.c a d e f h i j l m then Lib.lt (Ov.v a d e f h i j l m) λr=>bif !r then kr q.1 q.2.1 q.2.2.1 q.2.2.2.1 q.2.2.2.2.1 q.2.2.2.2.2.1 q.2.2.2.2.2.2.1 q.2.2.2.2.2.2.2.1 q.2.2.2.2.2.2.2.2 1 else bif !lz.v o 1 9 then kr q.1 q.2.1 q.2.2.1 q.2.2.2.1 q.2.2.2.2.1 q.2.2.2.2.2.1 q.2.2.2.2.2.2.1 q.2.2.2.2.2.2.2.1 q.2.2.2.2.2.2.2.2 1 else bif !zi.v p then kr q.1 q.2.1 q.2.2.1 q.2.2.2.1 q.2.2.2.2.1 q.2.2.2.2.2.1 q.2.2.2.2.2.2.1 q.2.2.2.2.2.2.2.1 q.2.2.2.2.2.2.2.2 1 else bif zh.c a d e f h i j l m o then Lib.lt (zh.v a d e f h i j l m o) λs=>bif decide (s≥0)then kr q.1 q.2.1 q.2.2.1 q.2.2.2.1 q.2.2.2.2.1 q.2.2.2.2.2.1 q.2.2.2.2.2.2.1 q.2.2.2.2.2.2.2.1 q.2.2.2.2.2.2.2.2 1 else bif decide ((l.length:aw)=6)then kr q.1 q.2.1 q.2.2.1 q.2.2.2.1 q.2.2.2.2.1 q.2.2.2.2.2.1 q.2.2.2.2.2.2.1 q.2.2.2.2.2.2.2.1 q.2.2.2.2.2.2.2.2 1 else bif pR.c d p then Lib.lt (pR.v d p) λt=>bif decide (t≥0)then bif decide (0<=t)&&decide (t<(d.length:aw))then bif Gl.v (bu (ar d t.toNat 0)) (bE (ar d t.toNat 1)) (bE (ar d t.toNat (1+1))) (bu (ar d t.toNat (1+1+1))) a then bif decide (0<=t)&&decide (t<(d.length:aw))then bif zj.c e f h i p then Lib.lt (zj.v e f h i p) λu=>bif jj.c q.1 q.2.1 u.1 u.2.1 u.2.2.1 u.2.2.2.1 q.2.2.2.2.2.2.1 q.2.2.2.2.2.2.2.1 q.2.2.2.2.2.2.2.2 o p 0 (bE (ar d t.toNat 1)) 2 (bu (ar d t.toNat (1+1+1))) (bJ (a-bE (ar d t.toNat 1)))then Lib.lt (jj.v q.1 q.2.1 u.1 u.2.1 u.2.2.1 u.2.2.2.1 q.2.2.2.2.2.2.1 q.2.2.2.2.2.2.2.1 q.2.2.2.2.2.2.2.2 o p 0 (bE (ar d t.toNat 1)) 2 (bu (ar d t.toNat (1+1+1))) (bJ (a-bE (ar d t.toNat 1)))) λw=>kr w.1 w.2.1 w.2.2.1 w.2.2.2.1 w.2.2.2.2.1 w.2.2.2.2.2.1 w.2.2.2.2.2.2.1 w.2.2.2.2.2.2.2.1 (im ak (bJ (m+1)) 1000000000) 0 else aj else aj else aj else bif Kl.c a d e f h i j l m p then Lib.lt (Kl.v a d e f h i j l m p) λu=>bif decide (u<0)then bif decide ((j.length:aw)=20)then kr q.1 q.2.1 q.2.2.1 q.2.2.2.1 q.2.2.2.2.1 q.2.2.2.2.2.1 q.2.2.2.2.2.2.1 q.2.2.2.2.2.2.2.1 q.2.2.2.2.2.2.2.2 2 else bif decide (t≥0)then bif pJ.c d p then Lib.lt (pJ.v d p) λw=>bif uS.c e f h i p then Lib.lt (uS.v e f h i p) λy=>bif iI.c h i p then Lib.lt (iI.v h i p) λz=>bif decide (u<0)then bif cC (q.2.2.2.2.2.2.1.length+(aD (aP [Ck.s,Ck.s,Ck.i ao,Ck.i ao,Ck.i ao] 1) 0 [.s p, .s ⟨#[]⟩, .i .i64 1, .i .i64 0, .i .i64 0]).length) 56 then bif decide ((j.length:aw)<((q.2.2.2.2.2.2.1++aD (aP [Ck.s,Ck.s,Ck.i ao,Ck.i ao,Ck.i ao] 1) 0 [.s p, .s ⟨#[]⟩, .i .i64 1, .i .i64 0, .i .i64 0]).length:aw))then bif jj.c q.1 w y.1 y.2.1 z.1 z.2 (q.2.2.2.2.2.2.1++aD (aP [Ck.s,Ck.s,Ck.i ao,Ck.i ao,Ck.i ao] 1) 0 [.s p, .s ⟨#[]⟩, .i .i64 1, .i .i64 0, .i .i64 0]) q.2.2.2.2.2.2.2.1 q.2.2.2.2.2.2.2.2 o p (bJ ((j.length:aw)+1)) 0 1 (bu (ar (q.2.2.2.2.2.2.1++aD (aP [Ck.s,Ck.s,Ck.i ao,Ck.i ao,Ck.i ao] 1) 0 [.s p, .s ⟨#[]⟩, .i .i64 1, .i .i64 0, .i .i64 0]) (j.length:aw).toNat 1)) 0 then Lib.lt (jj.v q.1 w y.1 y.2.1 z.1 z.2 (q.2.2.2.2.2.2.1++aD (aP [Ck.s,Ck.s,Ck.i ao,Ck.i ao,Ck.i ao] 1) 0 [.s p, .s ⟨#[]⟩, .i .i64 1, .i .i64 0, .i .i64 0]) q.2.2.2.2.2.2.2.1 q.2.2.2.2.2.2.2.2 o p (bJ ((j.length:aw)+1)) 0 1 (bu (ar (q.2.2.2.2.2.2.1++aD (aP [Ck.s,Ck.s,Ck.i ao,Ck.i ao,Ck.i ao] 1) 0 [.s p, .s ⟨#[]⟩, .i .i64 1, .i .i64 0, .i .i64 0]) (j.length:aw).toNat 1)) 0) λα=>kr α.1 α.2.1 α.2.2.1 α.2.2.2.1 α.2.2.2.2.1 α.2.2.2.2.2.1 α.2.2.2.2.2.2.1 α.2.2.2.2.2.2.2.1 α.2.2.2.2.2.2.2.2 0 else aj else aj else aj else bif decide (0<=u)&&decide (u<(q.2.2.2.2.2.2.1.length:aw))then bif jj.c q.1 w y.1 y.2.1 z.1 z.2 q.2.2.2.2.2.2.1 q.2.2.2.2.2.2.2.1 q.2.2.2.2.2.2.2.2 o p (bJ (u+1)) 0 1 (bu (ar q.2.2.2.2.2.2.1 u.toNat 1)) 0 then Lib.lt (jj.v q.1 w y.1 y.2.1 z.1 z.2 q.2.2.2.2.2.2.1 q.2.2.2.2.2.2.2.1 q.2.2.2.2.2.2.2.2 o p (bJ (u+1)) 0 1 (bu (ar q.2.2.2.2.2.2.1 u.toNat 1)) 0) λα=>kr α.1 α.2.1 α.2.2.1 α.2.2.2.1 α.2.2.2.2.1 α.2.2.2.2.2.1 α.2.2.2.2.2.2.1 α.2.2.2.2.2.2.2.1 α.2.2.2.2.2.2.2.2 0 else aj else aj else aj else aj else aj else bif iI.c h i p then Lib.lt (iI.v h i p) λw=>bif decide (u<0)then bif cC (q.2.2.2.2.2.2.1.length+(aD (aP [Ck.s,Ck.s,Ck.i ao,Ck.i ao,Ck.i ao] 1) 0 [.s p, .s ⟨#[]⟩, .i .i64 1, .i .i64 0, .i .i64 0]).length) 56 then bif decide ((j.length:aw)<((q.2.2.2.2.2.2.1++aD (aP [Ck.s,Ck.s,Ck.i ao,Ck.i ao,Ck.i ao] 1) 0 [.s p, .s ⟨#[]⟩, .i .i64 1, .i .i64 0, .i .i64 0]).length:aw))then bif jj.c q.1 q.2.1 q.2.2.1 q.2.2.2.1 w.1 w.2 (q.2.2.2.2.2.2.1++aD (aP [Ck.s,Ck.s,Ck.i ao,Ck.i ao,Ck.i ao] 1) 0 [.s p, .s ⟨#[]⟩, .i .i64 1, .i .i64 0, .i .i64 0]) q.2.2.2.2.2.2.2.1 q.2.2.2.2.2.2.2.2 o p (bJ ((j.length:aw)+1)) 0 1 (bu (ar (q.2.2.2.2.2.2.1++aD (aP [Ck.s,Ck.s,Ck.i ao,Ck.i ao,Ck.i ao] 1) 0 [.s p, .s ⟨#[]⟩, .i .i64 1, .i .i64 0, .i .i64 0]) (j.length:aw).toNat 1)) 0 then Lib.lt (jj.v q.1 q.2.1 q.2.2.1 q.2.2.2.1 w.1 w.2 (q.2.2.2.2.2.2.1++aD (aP [Ck.s,Ck.s,Ck.i ao,Ck.i ao,Ck.i ao] 1) 0 [.s p, .s ⟨#[]⟩, .i .i64 1, .i .i64 0, .i .i64 0]) q.2.2.2.2.2.2.2.1 q.2.2.2.2.2.2.2.2 o p (bJ ((j.length:aw)+1)) 0 1 (bu (ar (q.2.2.2.2.2.2.1++aD (aP [Ck.s,Ck.s,Ck.i ao,Ck.i ao,Ck.i ao] 1) 0 [.s p, .s ⟨#[]⟩, .i .i64 1, .i .i64 0, .i .i64 0]) (j.length:aw).toNat 1)) 0) λy=>kr y.1 y.2.1 y.2.2.1 y.2.2.2.1 y.2.2.2.2.1 y.2.2.2.2.2.1 y.2.2.2.2.2.2.1 y.2.2.2.2.2.2.2.1 y.2.2.2.2.2.2.2.2 0 else aj else aj else aj else bif decide (0<=u)&&decide (u<(q.2.2.2.2.2.2.1.length:aw))then bif jj.c q.1 q.2.1 q.2.2.1 q.2.2.2.1 w.1 w.2 q.2.2.2.2.2.2.1 q.2.2.2.2.2.2.2.1 q.2.2.2.2.2.2.2.2 o p (bJ (u+1)) 0 1 (bu (ar q.2.2.2.2.2.2.1 u.toNat 1)) 0 then Lib.lt (jj.v q.1 q.2.1 q.2.2.1 q.2.2.2.1 w.1 w.2 q.2.2.2.2.2.2.1 q.2.2.2.2.2.2.2.1 q.2.2.2.2.2.2.2.2 o p (bJ (u+1)) 0 1 (bu (ar q.2.2.2.2.2.2.1 u.toNat 1)) 0) λy=>kr y.1 y.2.1 y.2.2.1 y.2.2.2.1 y.2.2.2.2.1 y.2.2.2.2.2.1 y.2.2.2.2.2.2.1 y.2.2.2.2.2.2.2.1 y.2.2.2.2.2.2.2.2 0 else aj else aj else aj else bif decide (t≥0)then bif pJ.c d p then Lib.lt (pJ.v d p) λw=>bif uS.c e f h i p then Lib.lt (uS.v e f h i p) λy=>bif iI.c h i p then Lib.lt (iI.v h i p) λz=>bif decide (u<0)then bif cC (q.2.2.2.2.2.2.1.length+(aD (aP [Ck.s,Ck.s,Ck.i ao,Ck.i ao,Ck.i ao] 1) 0 [.s p, .s ⟨#[]⟩, .i .i64 1, .i .i64 0, .i .i64 0]).length) 56 then bif decide ((j.length:aw)<((q.2.2.2.2.2.2.1++aD (aP [Ck.s,Ck.s,Ck.i ao,Ck.i ao,Ck.i ao] 1) 0 [.s p, .s ⟨#[]⟩, .i .i64 1, .i .i64 0, .i .i64 0]).length:aw))then bif jj.c q.1 w y.1 y.2.1 z.1 z.2 (q.2.2.2.2.2.2.1++aD (aP [Ck.s,Ck.s,Ck.i ao,Ck.i ao,Ck.i ao] 1) 0 [.s p, .s ⟨#[]⟩, .i .i64 1, .i .i64 0, .i .i64 0]) q.2.2.2.2.2.2.2.1 q.2.2.2.2.2.2.2.2 o p (bJ ((j.length:aw)+1)) 0 1 (bu (ar (q.2.2.2.2.2.2.1++aD (aP [Ck.s,Ck.s,Ck.i ao,Ck.i ao,Ck.i ao] 1) 0 [.s p, .s ⟨#[]⟩, .i .i64 1, .i .i64 0, .i .i64 0]) (j.length:aw).toNat 1)) 0 then Lib.lt (jj.v q.1 w y.1 y.2.1 z.1 z.2 (q.2.2.2.2.2.2.1++aD (aP [Ck.s,Ck.s,Ck.i ao,Ck.i ao,Ck.i ao] 1) 0 [.s p, .s ⟨#[]⟩, .i .i64 1, .i .i64 0, .i .i64 0]) q.2.2.2.2.2.2.2.1 q.2.2.2.2.2.2.2.2 o p (bJ ((j.length:aw)+1)) 0 1 (bu (ar (q.2.2.2.2.2.2.1++aD (aP [Ck.s,Ck.s,Ck.i ao,Ck.i ao,Ck.i ao] 1) 0 [.s p, .s ⟨#[]⟩, .i .i64 1, .i .i64 0, .i .i64 0]) (j.length:aw).toNat 1)) 0) λα=>kr α.1 α.2.1 α.2.2.1 α.2.2.2.1 α.2.2.2.2.1 α.2.2.2.2.2.1 α.2.2.2.2.2.2.1 α.2.2.2.2.2.2.2.1 α.2.2.2.2.2.2.2.2 0 else aj else aj else aj else bif decide (0<=u)&&decide (u<(q.2.2.2.2.2.2.1.length:aw))then bif jj.c q.1 w y.1 y.2.1 z.1 z.2 q.2.2.2.2.2.2.1 q.2.2.2.2.2.2.2.1 q.2.2.2.2.2.2.2.2 o p (bJ (u+1)) 0 1 (bu (ar q.2.2.2.2.2.2.1 u.toNat 1)) 0 then Lib.lt (jj.v q.1 w y.1 y.2.1 z.1 z.2 q.2.2.2.2.2.2.1 q.2.2.2.2.2.2.2.1 q.2.2.2.2.2.2.2.2 o p (bJ (u+1)) 0 1 (bu (ar q.2.2.2.2.2.2.1 u.toNat 1)) 0) λα=>kr α.1 α.2.1 α.2.2.1 α.2.2.2.1 α.2.2.2.2.1 α.2.2.2.2.2.1 α.2.2.2.2.2.2.1 α.2.2.2.2.2.2.2.1 α.2.2.2.2.2.2.2.2 0 else aj else aj else aj else aj else aj else bif iI.c h i p then Lib.lt (iI.v h i p) λw=>bif decide (u<0)then bif cC (q.2.2.2.2.2.2.1.length+(aD (aP [Ck.s,Ck.s,Ck.i ao,Ck.i ao,Ck.i ao] 1) 0 [.s p, .s ⟨#[]⟩, .i .i64 1, .i .i64 0, .i .i64 0]).length) 56 then bif decide ((j.length:aw)<((q.2.2.2.2.2.2.1++aD (aP [Ck.s,Ck.s,Ck.i ao,Ck.i ao,Ck.i ao] 1) 0 [.s p, .s ⟨#[]⟩, .i .i64 1, .i .i64 0, .i .i64 0]).length:aw))then bif jj.c q.1 q.2.1 q.2.2.1 q.2.2.2.1 w.1 w.2 (q.2.2.2.2.2.2.1++aD (aP [Ck.s,Ck.s,Ck.i ao,Ck.i ao,Ck.i ao] 1) 0 [.s p, .s ⟨#[]⟩, .i .i64 1, .i .i64 0, .i .i64 0]) q.2.2.2.2.2.2.2.1 q.2.2.2.2.2.2.2.2 o p (bJ ((j.length:aw)+1)) 0 1 (bu (ar (q.2.2.2.2.2.2.1++aD (aP [Ck.s,Ck.s,Ck.i ao,Ck.i ao,Ck.i ao] 1) 0 [.s p, .s ⟨#[]⟩, .i .i64 1, .i .i64 0, .i .i64 0]) (j.length:aw).toNat 1)) 0 then Lib.lt (jj.v q.1 q.2.1 q.2.2.1 q.2.2.2.1 w.1 w.2 (q.2.2.2.2.2.2.1++aD (aP [Ck.s,Ck.s,Ck.i ao,Ck.i ao,Ck.i ao] 1) 0 [.s p, .s ⟨#[]⟩, .i .i64 1, .i .i64 0, .i .i64 0]) q.2.2.2.2.2.2.2.1 q.2.2.2.2.2.2.2.2 o p (bJ ((j.length:aw)+1)) 0 1 (bu (ar (q.2.2.2.2.2.2.1++aD (aP [Ck.s,Ck.s,Ck.i ao,Ck.i ao,Ck.i ao] 1) 0 [.s p, .s ⟨#[]⟩, .i .i64 1, .i .i64 0, .i .i64 0]) (j.length:aw).toNat 1)) 0) λy=>kr y.1 y.2.1 y.2.2.1 y.2.2.2.1 y.2.2.2.2.1 y.2.2.2.2.2.1 y.2.2.2.2.2.2.1 y.2.2.2.2.2.2.2.1 y.2.2.2.2.2.2.2.2 0 else aj else aj else aj else bif decide (0<=u)&&decide (u<(q.2.2.2.2.2.2.1.length:aw))then bif jj.c q.1 q.2.1 q.2.2.1 q.2.2.2.1 w.1 w.2 q.2.2.2.2.2.2.1 q.2.2.2.2.2.2.2.1 q.2.2.2.2.2.2.2.2 o p (bJ (u+1)) 0 1 (bu (ar q.2.2.2.2.2.2.1 u.toNat 1)) 0 then Lib.lt (jj.v q.1 q.2.1 q.2.2.1 q.2.2.2.1 w.1 w.2 q.2.2.2.2.2.2.1 q.2.2.2.2.2.2.2.1 q.2.2.2.2.2.2.2.2 o p (bJ (u+1)) 0 1 (bu (ar q.2.2.2.2.2.2.1 u.toNat 1)) 0) λy=>kr y.1 y.2.1 y.2.2.1 y.2.2.2.1 y.2.2.2.2.1 y.2.2.2.2.2.1 y.2.2.2.2.2.2.1 y.2.2.2.2.2.2.2.1 y.2.2.2.2.2.2.2.2 0 else aj else aj else aj else aj else aj else bif Kl.c a d e f h i j l m p then Lib.lt (Kl.v a d e f h i j l m p) λu=>bif decide (u<0)then bif decide ((j.length:aw)=20)then kr q.1 q.2.1 q.2.2.1 q.2.2.2.1 q.2.2.2.2.1 q.2.2.2.2.2.1 q.2.2.2.2.2.2.1 q.2.2.2.2.2.2.2.1 q.2.2.2.2.2.2.2.2 2 else bif decide (t≥0)then bif pJ.c d p then Lib.lt (pJ.v d p) λw=>bif uS.c e f h i p then Lib.lt (uS.v e f h i p) λy=>bif iI.c h i p then Lib.lt (iI.v h i p) λz=>bif decide (u<0)then bif cC (q.2.2.2.2.2.2.1.length+(aD (aP [Ck.s,Ck.s,Ck.i ao,Ck.i ao,Ck.i ao] 1) 0 [.s p, .s ⟨#[]⟩, .i .i64 1, .i .i64 0, .i .i64 0]).length) 56 then bif decide ((j.length:aw)<((q.2.2.2.2.2.2.1++aD (aP [Ck.s,Ck.s,Ck.i ao,Ck.i ao,Ck.i ao] 1) 0 [.s p, .s ⟨#[]⟩, .i .i64 1, .i .i64 0, .i .i64 0]).length:aw))then bif jj.c q.1 w y.1 y.2.1 z.1 z.2 (q.2.2.2.2.2.2.1++aD (aP [Ck.s,Ck.s,Ck.i ao,Ck.i ao,Ck.i ao] 1) 0 [.s p, .s ⟨#[]⟩, .i .i64 1, .i .i64 0, .i .i64 0]) q.2.2.2.2.2.2.2.1 q.2.2.2.2.2.2.2.2 o p (bJ ((j.length:aw)+1)) 0 1 (bu (ar (q.2.2.2.2.2.2.1++aD (aP [Ck.s,Ck.s,Ck.i ao,Ck.i ao,Ck.i ao] 1) 0 [.s p, .s ⟨#[]⟩, .i .i64 1, .i .i64 0, .i .i64 0]) (j.length:aw).toNat 1)) 0 then Lib.lt (jj.v q.1 w y.1 y.2.1 z.1 z.2 (q.2.2.2.2.2.2.1++aD (aP [Ck.s,Ck.s,Ck.i ao,Ck.i ao,Ck.i ao] 1) 0 [.s p, .s ⟨#[]⟩, .i .i64 1, .i .i64 0, .i .i64 0]) q.2.2.2.2.2.2.2.1 q.2.2.2.2.2.2.2.2 o p (bJ ((j.length:aw)+1)) 0 1 (bu (ar (q.2.2.2.2.2.2.1++aD (aP [Ck.s,Ck.s,Ck.i ao,Ck.i ao,Ck.i ao] 1) 0 [.s p, .s ⟨#[]⟩, .i .i64 1, .i .i64 0, .i .i64 0]) (j.length:aw).toNat 1)) 0) λα=>kr α.1 α.2.1 α.2.2.1 α.2.2.2.1 α.2.2.2.2.1 α.2.2.2.2.2.1 α.2.2.2.2.2.2.1 α.2.2.2.2.2.2.2.1 α.2.2.2.2.2.2.2.2 0 else aj else aj else aj else bif decide (0<=u)&&decide (u<(q.2.2.2.2.2.2.1.length:aw))then bif jj.c q.1 w y.1 y.2.1 z.1 z.2 q.2.2.2.2.2.2.1 q.2.2.2.2.2.2.2.1 q.2.2.2.2.2.2.2.2 o p (bJ (u+1)) 0 1 (bu (ar q.2.2.2.2.2.2.1 u.toNat 1)) 0 then Lib.lt (jj.v q.1 w y.1 y.2.1 z.1 z.2 q.2.2.2.2.2.2.1 q.2.2.2.2.2.2.2.1 q.2.2.2.2.2.2.2.2 o p (bJ (u+1)) 0 1 (bu (ar q.2.2.2.2.2.2.1 u.toNat 1)) 0) λα=>kr α.1 α.2.1 α.2.2.1 α.2.2.2.1 α.2.2.2.2.1 α.2.2.2.2.2.1 α.2.2.2.2.2.2.1 α.2.2.2.2.2.2.2.1 α.2.2.2.2.2.2.2.2 0 else aj else aj else aj else aj else aj else bif iI.c h i p then Lib.lt (iI.v h i p) λw=>bif decide (u<0)then bif cC (q.2.2.2.2.2.2.1.length+(aD (aP [Ck.s,Ck.s,Ck.i ao,Ck.i ao,Ck.i ao] 1) 0 [.s p, .s ⟨#[]⟩, .i .i64 1, .i .i64 0, .i .i64 0]).length) 56 then bif decide ((j.length:aw)<((q.2.2.2.2.2.2.1++aD (aP [Ck.s,Ck.s,Ck.i ao,Ck.i ao,Ck.i ao] 1) 0 [.s p, .s ⟨#[]⟩, .i .i64 1, .i .i64 0, .i .i64 0]).length:aw))then bif jj.c q.1 q.2.1 q.2.2.1 q.2.2.2.1 w.1 w.2 (q.2.2.2.2.2.2.1++aD (aP [Ck.s,Ck.s,Ck.i ao,Ck.i ao,Ck.i ao] 1) 0 [.s p, .s ⟨#[]⟩, .i .i64 1, .i .i64 0, .i .i64 0]) q.2.2.2.2.2.2.2.1 q.2.2.2.2.2.2.2.2 o p (bJ ((j.length:aw)+1)) 0 1 (bu (ar (q.2.2.2.2.2.2.1++aD (aP [Ck.s,Ck.s,Ck.i ao,Ck.i ao,Ck.i ao] 1) 0 [.s p, .s ⟨#[]⟩, .i .i64 1, .i .i64 0, .i .i64 0]) (j.length:aw).toNat 1)) 0 then Lib.lt (jj.v q.1 q.2.1 q.2.2.1 q.2.2.2.1 w.1 w.2 (q.2.2.2.2.2.2.1++aD (aP [Ck.s,Ck.s,Ck.i ao,Ck.i ao,Ck.i ao] 1) 0 [.s p, .s ⟨#[]⟩, .i .i64 1, .i .i64 0, .i .i64 0]) q.2.2.2.2.2.2.2.1 q.2.2.2.2.2.2.2.2 o p (bJ ((j.length:aw)+1)) 0 1 (bu (ar (q.2.2.2.2.2.2.1++aD (aP [Ck.s,Ck.s,Ck.i ao,Ck.i ao,Ck.i ao] 1) 0 [.s p, .s ⟨#[]⟩, .i .i64 1, .i .i64 0, .i .i64 0]) (j.length:aw).toNat 1)) 0) λy=>kr y.1 y.2.1 y.2.2.1 y.2.2.2.1 y.2.2.2.2.1 y.2.2.2.2.2.1 y.2.2.2.2.2.2.1 y.2.2.2.2.2.2.2.1 y.2.2.2.2.2.2.2.2 0 else aj else aj else aj else bif decide (0<=u)&&decide (u<(q.2.2.2.2.2.2.1.length:aw))then bif jj.c q.1 q.2.1 q.2.2.1 q.2.2.2.1 w.1 w.2 q.2.2.2.2.2.2.1 q.2.2.2.2.2.2.2.1 q.2.2.2.2.2.2.2.2 o p (bJ (u+1)) 0 1 (bu (ar q.2.2.2.2.2.2.1 u.toNat 1)) 0 then Lib.lt (jj.v q.1 q.2.1 q.2.2.1 q.2.2.2.1 w.1 w.2 q.2.2.2.2.2.2.1 q.2.2.2.2.2.2.2.1 q.2.2.2.2.2.2.2.2 o p (bJ (u+1)) 0 1 (bu (ar q.2.2.2.2.2.2.1 u.toNat 1)) 0) λy=>kr y.1 y.2.1 y.2.2.1 y.2.2.2.1 y.2.2.2.2.1 y.2.2.2.2.2.1 y.2.2.2.2.2.2.1 y.2.2.2.2.2.2.2.1 y.2.2.2.2.2.2.2.2 0 else aj else aj else aj else bif decide (t≥0)then bif pJ.c d p then Lib.lt (pJ.v d p) λw=>bif uS.c e f h i p then Lib.lt (uS.v e f h i p) λy=>bif iI.c h i p then Lib.lt (iI.v h i p) λz=>bif decide (u<0)then bif cC (q.2.2.2.2.2.2.1.length+(aD (aP [Ck.s,Ck.s,Ck.i ao,Ck.i ao,Ck.i ao] 1) 0 [.s p, .s ⟨#[]⟩, .i .i64 1, .i .i64 0, .i .i64 0]).length) 56 then bif decide ((j.length:aw)<((q.2.2.2.2.2.2.1++aD (aP [Ck.s,Ck.s,Ck.i ao,Ck.i ao,Ck.i ao] 1) 0 [.s p, .s ⟨#[]⟩, .i .i64 1, .i .i64 0, .i .i64 0]).length:aw))then bif jj.c q.1 w y.1 y.2.1 z.1 z.2 (q.2.2.2.2.2.2.1++aD (aP [Ck.s,Ck.s,Ck.i ao,Ck.i ao,Ck.i ao] 1) 0 [.s p, .s ⟨#[]⟩, .i .i64 1, .i .i64 0, .i .i64 0]) q.2.2.2.2.2.2.2.1 q.2.2.2.2.2.2.2.2 o p (bJ ((j.length:aw)+1)) 0 1 (bu (ar (q.2.2.2.2.2.2.1++aD (aP [Ck.s,Ck.s,Ck.i ao,Ck.i ao,Ck.i ao] 1) 0 [.s p, .s ⟨#[]⟩, .i .i64 1, .i .i64 0, .i .i64 0]) (j.length:aw).toNat 1)) 0 then Lib.lt (jj.v q.1 w y.1 y.2.1 z.1 z.2 (q.2.2.2.2.2.2.1++aD (aP [Ck.s,Ck.s,Ck.i ao,Ck.i ao,Ck.i ao] 1) 0 [.s p, .s ⟨#[]⟩, .i .i64 1, .i .i64 0, .i .i64 0]) q.2.2.2.2.2.2.2.1 q.2.2.2.2.2.2.2.2 o p (bJ ((j.length:aw)+1)) 0 1 (bu (ar (q.2.2.2.2.2.2.1++aD (aP [Ck.s,Ck.s,Ck.i ao,Ck.i ao,Ck.i ao] 1) 0 [.s p, .s ⟨#[]⟩, .i .i64 1, .i .i64 0, .i .i64 0]) (j.length:aw).toNat 1)) 0) λα=>kr α.1 α.2.1 α.2.2.1 α.2.2.2.1 α.2.2.2.2.1 α.2.2.2.2.2.1 α.2.2.2.2.2.2.1 α.2.2.2.2.2.2.2.1 α.2.2.2.2.2.2.2.2 0 else aj else aj else aj else bif decide (0<=u)&&decide (u<(q.2.2.2.2.2.2.1.length:aw))then bif jj.c q.1 w y.1 y.2.1 z.1 z.2 q.2.2.2.2.2.2.1 q.2.2.2.2.2.2.2.1 q.2.2.2.2.2.2.2.2 o p (bJ (u+1)) 0 1 (bu (ar q.2.2.2.2.2.2.1 u.toNat 1)) 0 then Lib.lt (jj.v q.1 w y.1 y.2.1 z.1 z.2 q.2.2.2.2.2.2.1 q.2.2.2.2.2.2.2.1 q.2.2.2.2.2.2.2.2 o p (bJ (u+1)) 0 1 (bu (ar q.2.2.2.2.2.2.1 u.toNat 1)) 0) λα=>kr α.1 α.2.1 α.2.2.1 α.2.2.2.1 α.2.2.2.2.1 α.2.2.2.2.2.1 α.2.2.2.2.2.2.1 α.2.2.2.2.2.2.2.1 α.2.2.2.2.2.2.2.2 0 else aj else aj else aj else aj else aj else bif iI.c h i p then Lib.lt (iI.v h i p) λw=>bif decide (u<0)then bif cC (q.2.2.2.2.2.2.1.length+(aD (aP [Ck.s,Ck.s,Ck.i ao,Ck.i ao,Ck.i ao] 1) 0 [.s p, .s ⟨#[]⟩, .i .i64 1, .i .i64 0, .i .i64 0]).length) 56 then bif decide ((j.length:aw)<((q.2.2.2.2.2.2.1++aD (aP [Ck.s,Ck.s,Ck.i ao,Ck.i ao,Ck.i ao] 1) 0 [.s p, .s ⟨#[]⟩, .i .i64 1, .i .i64 0, .i .i64 0]).length:aw))then bif jj.c q.1 q.2.1 q.2.2.1 q.2.2.2.1 w.1 w.2 (q.2.2.2.2.2.2.1++aD (aP [Ck.s,Ck.s,Ck.i ao,Ck.i ao,Ck.i ao] 1) 0 [.s p, .s ⟨#[]⟩, .i .i64 1, .i .i64 0, .i .i64 0]) q.2.2.2.2.2.2.2.1 q.2.2.2.2.2.2.2.2 o p (bJ ((j.length:aw)+1)) 0 1 (bu (ar (q.2.2.2.2.2.2.1++aD (aP [Ck.s,Ck.s,Ck.i ao,Ck.i ao,Ck.i ao] 1) 0 [.s p, .s ⟨#[]⟩, .i .i64 1, .i .i64 0, .i .i64 0]) (j.length:aw).toNat 1)) 0 then Lib.lt (jj.v q.1 q.2.1 q.2.2.1 q.2.2.2.1 w.1 w.2 (q.2.2.2.2.2.2.1++aD (aP [Ck.s,Ck.s,Ck.i ao,Ck.i ao,Ck.i ao] 1) 0 [.s p, .s ⟨#[]⟩, .i .i64 1, .i .i64 0, .i .i64 0]) q.2.2.2.2.2.2.2.1 q.2.2.2.2.2.2.2.2 o p (bJ ((j.length:aw)+1)) 0 1 (bu (ar (q.2.2.2.2.2.2.1++aD (aP [Ck.s,Ck.s,Ck.i ao,Ck.i ao,Ck.i ao] 1) 0 [.s p, .s ⟨#[]⟩, .i .i64 1, .i .i64 0, .i .i64 0]) (j.length:aw).toNat 1)) 0) λy=>kr y.1 y.2.1 y.2.2.1 y.2.2.2.1 y.2.2.2.2.1 y.2.2.2.2.2.1 y.2.2.2.2.2.2.1 y.2.2.2.2.2.2.2.1 y.2.2.2.2.2.2.2.2 0 else aj else aj else aj else bif decide (0<=u)&&decide (u<(q.2.2.2.2.2.2.1.length:aw))then bif jj.c q.1 q.2.1 q.2.2.1 q.2.2.2.1 w.1 w.2 q.2.2.2.2.2.2.1 q.2.2.2.2.2.2.2.1 q.2.2.2.2.2.2.2.2 o p (bJ (u+1)) 0 1 (bu (ar q.2.2.2.2.2.2.1 u.toNat 1)) 0 then Lib.lt (jj.v q.1 q.2.1 q.2.2.1 q.2.2.2.1 w.1 w.2 q.2.2.2.2.2.2.1 q.2.2.2.2.2.2.2.1 q.2.2.2.2.2.2.2.2 o p (bJ (u+1)) 0 1 (bu (ar q.2.2.2.2.2.2.1 u.toNat 1)) 0) λy=>kr y.1 y.2.1 y.2.2.1 y.2.2.2.1 y.2.2.2.2.1 y.2.2.2.2.2.1 y.2.2.2.2.2.2.1 y.2.2.2.2.2.2.2.1 y.2.2.2.2.2.2.2.2 0 else aj else aj else aj else aj else aj else aj else aj else aj
def vo:=b λr0 r1 r2 r3 r4 r5 r6 r7 r8 r9=>ah (r0,r1,r2,r3,r4,r5,r6,r7,r8,r9)
def c:=λa d e f h i j l m o p=>(vo a d e f h i j l m o p).isSome
def v:=λa d e f h i j l m o p=>(vo a d e f h i j l m o p).getD (0,[],[],[],[],0,[],[],0,0)
theorem out{x}:∀a d e f h i j l m o p,vo a d e f h i j l m o p=ah x->c a d e f h i j l m o p=ai/\v a d e f h i j l m o p=x:=λ_ _ _ _ _ _ _ _ _ _ _=>Lib.de
end RS

namespace uT
def b(kr:aW->az R)(a:aw)(d e f h:aQ)(i:aw)(j l:aQ)(m o:aw):az R:=bif Ov.c a d e f h i j l m then bif Ov.v a d e f h i j l m then kr (lz.v o 0 (bJ ((j.length:aw)-1)))else kr ak else aj
def vo:=b λr0=>ah r0
def c:=λa d e f h i j l m o=>(vo a d e f h i j l m o).isSome
def v:=λa d e f h i j l m o=>(vo a d e f h i j l m o).getD ak
theorem out{x}:∀a d e f h i j l m o,vo a d e f h i j l m o=ah x->c a d e f h i j l m o=ai/\v a d e f h i j l m o=x:=λ_ _ _ _ _ _ _ _ _ _=>Lib.de
end uT

namespace Kh
def b(kr:L5 R)(a:aw)(d:aq)(e:aQ):az R:=bif cC ((aP [Ck.i ao,Ck.i ao] 0).length+e.length) 16 then kr a d (aP [Ck.i ao,Ck.i ao] 0++e)else aj
def v(fV:aw)(e6:aq)(dF:aQ):aw×aq×aQ:=(fV,e6,dF)
def c(fV:aw)(e6:aq)(dF:aQ):aW:=decide (dF.length<=4294967296)
theorem eu(kr:L5 R)(fV:aw)(e6:aq)(dF:aQ)(hc:c fV e6 dF=ai):b kr fV e6 dF=kr (v fV e6 dF).1 (v fV e6 dF).2.1 (v fV e6 dF).2.2:=by have h:dF.length<=4294967296:=cm hc;unfold b;rw[show bS (aP [Ck.i ao,Ck.i ao] 0)+dF.length=dF.length by simp[aP],Lib.cq (by omega) (by omega)];rfl
end Kh

namespace H5
def r2(N:aF)(g k0 k1:yB R)(a:aW)(d:aQ)(e f h:aw)(i:aq)(j:aQ):az R:=bif decide (f<e)then bif decide (0<=f)&&decide (f<(d.length:aw))then bif !lz.v (bE (ar d f.toNat 0)) 1 9 then k0 ak d e f h i j else bif !lz.v (bE (ar d f.toNat 1)) 0 (i.size:aw)then k0 ak d e f h i j else bif decide (f>0)then bif decide (0<=bJ (f-1))&&decide (bJ (f-1)<(j.length:aw))then bif decide (bE (ar j (bJ (f-1)).toNat 0)≥bE (ar d f.toNat 0))then k0 ak d e f h i j else g a d e (bJ (f+1)) h i j else aj else g a d e (bJ (f+1)) h i j else aj else k1 a d e f h i j
def l2(N:aF)(k0 k1:yB R):aF->yB R
 |0=>λ_ _ _ _ _ _ _=>aj
 |n+1=>r2 N (l2 N k0 k1 n) k0 k1
def b(N:aF)(kr:aW->az R)(a:aw)(d:aq)(e:aQ):az R:=l2 N (λf _ _ _ _ _ _=>kr f) (λ_ _ _ _ f h i=>bif lz.v f 1 3 then bif decide ((h.size:aw)<=400)then kr (decide ((i.length:aw)<=6))else kr ak else kr ak) N ak e (e.length:aw) 0 a d e
def v(fV:aw)(e6:aq)(dF:aQ):aW:=(cw dF.length).all (lJ.el e6 dF)&&lJ.rest fV e6 dF
theorem eu(kr:aW->az R)(fV:aw)(e6:aq)(dF:aQ)(f0:DX e6)(f1:vC dF):∃N,b N kr fV e6 dF=kr (v fV e6 dF):=by
 refine⟨dF.length+1, ?_⟩
 unfold b;have ew:lz.v=kl.v:=rfl;simp only[ew,lJ.NH]
 have:=Lib.gV (λn (i:aF)=>l2 (dF.length+1) (λy7 y8 y9 J4 wg LZ HA=>kr y7) (λHQ Wn Qt Dl Fc D7 wh=>kr (lJ.rest Fc D7 wh)) n ak dF dF.length i fV e6 dF) (λi=>dF.length-i) (λi=>i<=dF.length)
  (λi=>kr ((mm i (dF.length-i)).all (lJ.el e6 dF)&&lJ.rest fV e6 dF)) (λn i hi=>by
  simp only[l2,r2,ew,Lib.dq,Lib.cF,Lib.dZ,bh,lJ.mW]
  by_cases h:i<dF.length
  ·rw[lJ.Ic _ h];simp only[h,aN,au,Lib.c6 h f1.1];cases h1:decide (1<=bE (ar dF i 0)/\bE (ar dF i 0)<=9)with
   |false=>left;simp[lJ.el,h1]
   |true=>
    simp only[a_,ax];cases h3:decide (0<=bE (ar dF i 1)/\bE (ar dF i 1)<=e6.size)with
    |false=>left;simp[lJ.el,h3]
    |true=>
     simp only[a_,ax];by_cases hz:0<i
     ·have e0:decide ((i:aw)>0)=true:=by simp;omega
      have hp:i-1<dF.length:=by omega
      have hi0:(i==0)=false:=by simp;omega
      simp only[e0,au,lJ.C7 hz (by have:=f1.1;omega),Lib.cF,Lib.dq,Lib.dZ,hp,aN,aM];cases h2:decide (bE (ar dF (i-1) 0)≥bE (ar dF i 0))with
      |true=>
       left;have e3:decide (bE (ar dF (i-1) 0)<bE (ar dF i 0))=false:=by simp at h2⊢;omega
       simp[lJ.el,e3,hi0]
      |false=>
       have e3:decide (bE (ar dF (i-1) 0)<bE (ar dF i 0))=true:=by simp at h2⊢;omega
       right;exact⟨i+1,h,by omega,by simp only[lJ.el,h1,h3,e3,J8,bh],rfl⟩
     ·have hz:i=0:=by omega
      subst hz;simp only[show decide (((0:aF):aw)>0)=ak from rfl,ax];right;exact⟨1,h,by omega,by simp only[lJ.el,h1,h3,bh];rfl,rfl⟩
  ·left;have h0:dF.length-i=0:=by omega
   simp only[h,bj,ax,h0,RJ,List.all_nil,bh]) (dF.length+1) 0 (by omega) (by omega)
 refine this.trans ?_;unfold v;rw[yv,<-RK]
end H5

namespace Dz
def b(kr:Fm R)(a:aw)(d:aq)(e:aQ)(f:aq):az R:=bif Kh.c a d e then bif !H5.v a d e then kr a d e ak else bif a !=1 then kr a d e ak else bif !lz.v (f.size:aw) 1 40 then kr a d e ak else bif decide (bJ ((d.size:aw)+(f.size:aw))>400)then kr a d e ak else bif decide (d.size+f.size<=4611686018427387904)then kr a (d++f) e ai else aj else aj
def v(fV:aw)(e6:aq)(dF:aQ)(gk:aq):aw×aq×aQ×aW:=
 if lJ.v fV e6 dF=ai/\fV=1/\1<=gk.size/\gk.size<=40/\e6.size+gk.size<=400 then(fV,e6++gk,dF,ai)else(fV,e6,dF,ak)
def c(fV:aw)(e6:aq)(dF:aQ)(gk:aq):aW:=decide (dF.length<=4294967296)
theorem eu(kr:Fm R)(fV:aw)(e6:aq)(dF:aQ)(gk:aq)(hc:c fV e6 dF gk=ai)(f0:DX e6)(f1:vC dF)(f2:DX gk):b kr fV e6 dF gk=kr (v fV e6 dF gk).1 (v fV e6 dF gk).2.1 (v fV e6 dF gk).2.2.1 (v fV e6 dF gk).2.2.2:=by
 have hs1:e6.size<=4611686018427387904:=f0;have Nc:gk.size<=4611686018427387904:=f2;have e1:Kh.c fV e6 dF=true:=hc;have e2:∀a b c,H5.v a b c=lJ.v a b c:=λ_ _ _=>rfl;have e3:∀n a b,lz.v n a b=decide (a<=n/\n<=b):=lJ.mW;unfold b v;rw[e1,e2,e3,au];cases h1:lJ.v fV e6 dF with
 |false=>simp
 |true=>
  by_cases h2:fV=1
  ·by_cases h3:1<=(gk.size:aw)/\(gk.size:aw)<=40
   ·have e4:bJ ((e6.size:aw)+(gk.size:aw))=e6.size+gk.size:=iE (by omega) (by omega);rw[e4,aE h3];by_cases h4:(e6.size:aw)+(gk.size:aw)>400
    ·rw[Lib.zY h4,bH (by omega)];simp[h2]
    ·rw[Lib.Iw h4,bz (by refine⟨rfl,h2, ?_, ?_, ?_⟩<;>omega),Lib.zY (show e6.size+gk.size<=4611686018427387904 by omega)];simp[h2]
   ·rw[aK h3,bH (by omega)];simp
  ·have iw:(fV !=1)=true:=bne_iff_ne.mpr h2;rw[bH (by simp[h2]),iw];rfl
end Dz

namespace Ax
def r1(N:aF)(g k0:jE R)(a d e f h i:aw)(j l m o p q:aQ):az R:=bif decide (e<d)then bif decide (0<=e)&&decide (e<(j.length:aw))then bif decide (bE (ar j e.toNat (1+1))=bJ (a+1))then bif decide (bE (ar j e.toNat (1+1+1+1))=1)then bif decide (0<=a)&&decide (a<(q.length:aw))then bif decide (0<=e)&&decide (e<(j.length:aw))then g a d (bJ (e+1)) f h i (eD j e.toNat 5 [.s (bu (ar q a.toNat 1))]) l m o p q else aj else aj else g a d (bJ (e+1)) f h i j l m o p q else g a d (bJ (e+1)) f h i j l m o p q else aj else k0 a d e f h i j l m o p q
def l1(N:aF)(k0:jE R):aF->jE R
 |0=>λ_ _ _ _ _ _ _ _ _ _ _ _=>aj
 |n+1=>r1 N (l1 N k0 n) k0
def b(N:aF)(kr:eN R)(a:aw)(d e f h:aQ)(i:aw)(j l:aQ)(m o:aw):az R:=l1 N (λ_ _ _ p q r s t u w y z=>kr p t u w y q z s r) N o (l.length:aw) 0 a i m l d e f h j
def vo:=b Lib.cZ λr0 r1 r2 r3 r4 r5 r6 r7 r8=>ah (r0,r1,r2,r3,r4,r5,r6,r7,r8)
def c:=λa d e f h i j l m o=>(vo a d e f h i j l m o).isSome
def v:=λa d e f h i j l m o=>(vo a d e f h i j l m o).getD (0,[],[],[],[],0,[],[],0)
theorem out{x}:∀a d e f h i j l m o,vo a d e f h i j l m o=ah x->c a d e f h i j l m o=ai/\v a d e f h i j l m o=x:=λ_ _ _ _ _ _ _ _ _ _=>Lib.de
end Ax

namespace V3
def b(kr:kV R)(a:aw)(d e f h:aQ)(i:aw)(j l:aQ)(m o:aw)(p:aq):az R:=bif iL.c a d e f h i j l m then Lib.lt (iL.v a d e f h i j l m) λq=>bif uT.c a d e f h i j l m o then Lib.lt (uT.v a d e f h i j l m o) λr=>bif !r then kr q.1 q.2.1 q.2.2.1 q.2.2.2.1 q.2.2.2.2.1 q.2.2.2.2.2.1 q.2.2.2.2.2.2.1 q.2.2.2.2.2.2.2.1 q.2.2.2.2.2.2.2.2 ak else bif decide (0<=o)&&decide (o<(j.length:aw))then bif decide (0<=o)&&decide (o<(j.length:aw))then bif !(Dz.v (bE (ar j o.toNat 2)) (bu (ar j o.toNat 1)) [] p).2.2.2 then kr q.1 q.2.1 q.2.2.1 q.2.2.2.1 q.2.2.2.2.1 q.2.2.2.2.2.1 q.2.2.2.2.2.2.1 q.2.2.2.2.2.2.2.1 q.2.2.2.2.2.2.2.2 ak else bif decide (0<=o)&&decide (o<(q.2.2.2.2.2.2.1.length:aw))then bif Ax.c q.1 q.2.1 q.2.2.1 q.2.2.2.1 q.2.2.2.2.1 q.2.2.2.2.2.1 (eD q.2.2.2.2.2.2.1 o.toNat 1 [.s (Dz.v (bE (ar j o.toNat 2)) (bu (ar j o.toNat 1)) [] p).2.1]) q.2.2.2.2.2.2.2.1 q.2.2.2.2.2.2.2.2 o then Lib.lt (Ax.v q.1 q.2.1 q.2.2.1 q.2.2.2.1 q.2.2.2.2.1 q.2.2.2.2.2.1 (eD q.2.2.2.2.2.2.1 o.toNat 1 [.s (Dz.v (bE (ar j o.toNat 2)) (bu (ar j o.toNat 1)) [] p).2.1]) q.2.2.2.2.2.2.2.1 q.2.2.2.2.2.2.2.2 o) λs=>kr s.1 s.2.1 s.2.2.1 s.2.2.2.1 s.2.2.2.2.1 s.2.2.2.2.2.1 s.2.2.2.2.2.2.1 s.2.2.2.2.2.2.2.1 s.2.2.2.2.2.2.2.2 ai else aj else aj else aj else aj else aj else aj
def vo:=b λr0 r1 r2 r3 r4 r5 r6 r7 r8 r9=>ah (r0,r1,r2,r3,r4,r5,r6,r7,r8,r9)
def c:=λa d e f h i j l m o p=>(vo a d e f h i j l m o p).isSome
def v:=λa d e f h i j l m o p=>(vo a d e f h i j l m o p).getD (0,[],[],[],[],0,[],[],0,ak)
theorem out{x}:∀a d e f h i j l m o p,vo a d e f h i j l m o p=ah x->c a d e f h i j l m o p=ai/\v a d e f h i j l m o p=x:=λ_ _ _ _ _ _ _ _ _ _ _=>Lib.de
end V3

namespace vL
def r1(N:aF)(g k0:nY R)(a d e f h i j:aw)(l m o p q r:aQ):az R:=bif decide (f<e)then bif decide (0<=f)&&decide (f<(l.length:aw))then bif decide (bE (ar l f.toNat (1+1))=bJ (a+1))then bif decide (bE (ar l f.toNat (1+1+1+1))=1)then bif decide (0<=a)&&decide (a<(r.length:aw))then bif decide (0<=f)&&decide (f<(l.length:aw))then bif decide (0<=f)&&decide (f<((eD l f.toNat 4 [.i .i64 d]).length:aw))then g a d e (bJ (f+1)) h i j (eD (eD l f.toNat 4 [.i .i64 d]) f.toNat 5 [.s (bu (ar r a.toNat 1))]) m o p q r else aj else aj else aj else g a d e (bJ (f+1)) h i j l m o p q r else g a d e (bJ (f+1)) h i j l m o p q r else aj else k0 a d e f h i j l m o p q r
def l1(N:aF)(k0:nY R):aF->nY R
 |0=>λ_ _ _ _ _ _ _ _ _ _ _ _ _=>aj
 |n+1=>r1 N (l1 N k0 n) k0
def b(N:aF)(kr:eN R)(a:aw)(d e f h:aQ)(i:aw)(j l:aQ)(m o p:aw):az R:=l1 N (λ_ _ _ _ q r s t u w y z α=>kr q u w y z r α t s) N o p (l.length:aw) 0 a i m l d e f h j
def vo:=b Lib.cZ λr0 r1 r2 r3 r4 r5 r6 r7 r8=>ah (r0,r1,r2,r3,r4,r5,r6,r7,r8)
def c:=λa d e f h i j l m o p=>(vo a d e f h i j l m o p).isSome
def v:=λa d e f h i j l m o p=>(vo a d e f h i j l m o p).getD (0,[],[],[],[],0,[],[],0)
theorem out{x}:∀a d e f h i j l m o p,vo a d e f h i j l m o p=ah x->c a d e f h i j l m o p=ai/\v a d e f h i j l m o p=x:=λ_ _ _ _ _ _ _ _ _ _ _=>Lib.de
end vL


namespace uQ
def r3(N:aF)(g k0:Bz R)(a:aw)(d:aq)(e f:aw)(h:aq)(i:aQ):az R:=bif decide (a<(i.length:aw))then bif decide (0<=a)&&decide (a<(i.length:aw))then bif b7 (bu (ar i a.toNat 0)).toList (aC d)then g (bJ (a+1)) d e f h i else k0 a d e f h i else aj else k0 a d e f h i
def l3(N:aF)(k0:Bz R):aF->Bz R
 |0=>λ_ _ _ _ _ _=>aj
 |n+1=>r3 N (l3 N k0 n) k0
def b(N:aF)(kr:aQ->az R)(a:aQ)(d:aq)(e f:aw)(h:aq):az R:=bif pJ.c a d then l3 N (λi j l m o p=>bif decide (0<=i)&&decide (i<=(p.length:aw))&&cC (p.length+(aD (aP [Ck.s,Ck.i ao,Ck.i ao,Ck.s] 1) 0 [.s j, .i .i64 l, .i .i64 m, .s o]).length) 48 then kr (Pu.tB p i.toNat (aD (aP [Ck.s,Ck.i ao,Ck.i ao,Ck.s] 1) 0 [.s j, .i .i64 l, .i .i64 m, .s o]))else aj) N 0 d e f h (pJ.v a d)else aj
def vo:=b Lib.cZ λr0=>ah r0
def c:=λa d e f h=>(vo a d e f h).isSome
def v:=λa d e f h=>(vo a d e f h).getD ([])
theorem out{x}:∀a d e f h,vo a d e f h=ah x->c a d e f h=ai/\v a d e f h=x:=λ_ _ _ _ _=>Lib.de
end uQ

namespace Ox
def b(kr:eN R)(a:aw)(d e f h:aQ)(i:aw)(j l:aQ)(m:aw)(o:aq)(p q:aw)(r:aq):az R:=bif zj.c e f h i o then Lib.lt (zj.v e f h i o) λs=>bif pJ.c d s.2.2.2.2 then Lib.lt (pJ.v d s.2.2.2.2) λt=>bif sB.c s.1 s.2.1 s.2.2.1 s.2.2.2.1 o then Lib.lt (sB.v s.1 s.2.1 s.2.2.1 s.2.2.2.1 o) λu=>bif u then bif uQ.c t o p q r then Lib.lt (uQ.v t o p q r) λw=>kr a w s.1 s.2.1 s.2.2.1 s.2.2.2.1 j l m else aj else kr a t s.1 s.2.1 s.2.2.1 s.2.2.2.1 j l m else aj else aj else aj
def vo:=b λr0 r1 r2 r3 r4 r5 r6 r7 r8=>ah (r0,r1,r2,r3,r4,r5,r6,r7,r8)
def c:=λa d e f h i j l m o p q r=>(vo a d e f h i j l m o p q r).isSome
def v:=λa d e f h i j l m o p q r=>(vo a d e f h i j l m o p q r).getD (0,[],[],[],[],0,[],[],0)
theorem out{x}:∀a d e f h i j l m o p q r,vo a d e f h i j l m o p q r=ah x->c a d e f h i j l m o p q r=ai/\v a d e f h i j l m o p q r=x:=λ_ _ _ _ _ _ _ _ _ _ _ _ _=>Lib.de
end Ox

namespace DA
def b(kr:kV R)(a:aw)(d e f h:aQ)(i:aw)(j l:aQ)(m o p:aw):az R:=bif iL.c a d e f h i j l m then Lib.lt (iL.v a d e f h i j l m) λq=>bif uT.c a d e f h i j l m o then Lib.lt (uT.v a d e f h i j l m o) λr=>bif !r then kr q.1 q.2.1 q.2.2.1 q.2.2.2.1 q.2.2.2.2.1 q.2.2.2.2.2.1 q.2.2.2.2.2.2.1 q.2.2.2.2.2.2.2.1 q.2.2.2.2.2.2.2.2 ak else bif decide (0<=o)&&decide (o<(j.length:aw))then bif bE (ar j o.toNat 2) !=1 then kr q.1 q.2.1 q.2.2.1 q.2.2.2.1 q.2.2.2.2.1 q.2.2.2.2.2.1 q.2.2.2.2.2.2.1 q.2.2.2.2.2.2.2.1 q.2.2.2.2.2.2.2.2 ak else bif !lz.v p 0 999999 then kr q.1 q.2.1 q.2.2.1 q.2.2.2.1 q.2.2.2.2.1 q.2.2.2.2.2.1 q.2.2.2.2.2.2.1 q.2.2.2.2.2.2.2.1 q.2.2.2.2.2.2.2.2 ak else bif decide (0<=o)&&decide (o<(q.2.2.2.2.2.2.1.length:aw))then bif vL.c q.1 q.2.1 q.2.2.1 q.2.2.2.1 q.2.2.2.2.1 q.2.2.2.2.2.1 (eD (eD (eD q.2.2.2.2.2.2.1 o.toNat 2 [.i .i64 2]) o.toNat 3 [.i .i64 p]) o.toNat 4 [.i .i64 a]) q.2.2.2.2.2.2.2.1 q.2.2.2.2.2.2.2.2 o 2 then Lib.lt (vL.v q.1 q.2.1 q.2.2.1 q.2.2.2.1 q.2.2.2.2.1 q.2.2.2.2.2.1 (eD (eD (eD q.2.2.2.2.2.2.1 o.toNat 2 [.i .i64 2]) o.toNat 3 [.i .i64 p]) o.toNat 4 [.i .i64 a]) q.2.2.2.2.2.2.2.1 q.2.2.2.2.2.2.2.2 o 2) λs=>bif decide (p>0)then bif Ox.c s.1 s.2.1 s.2.2.1 s.2.2.2.1 s.2.2.2.2.1 s.2.2.2.2.2.1 s.2.2.2.2.2.2.1 s.2.2.2.2.2.2.2.1 s.2.2.2.2.2.2.2.2 (bu (ar s.2.2.2.2.2.2.1 o.toNat 0)) a p (bu (ar s.2.2.2.2.2.2.1 o.toNat 1))then Lib.lt (Ox.v s.1 s.2.1 s.2.2.1 s.2.2.2.1 s.2.2.2.2.1 s.2.2.2.2.2.1 s.2.2.2.2.2.2.1 s.2.2.2.2.2.2.2.1 s.2.2.2.2.2.2.2.2 (bu (ar s.2.2.2.2.2.2.1 o.toNat 0)) a p (bu (ar s.2.2.2.2.2.2.1 o.toNat 1))) λt=>kr t.1 t.2.1 t.2.2.1 t.2.2.2.1 t.2.2.2.2.1 t.2.2.2.2.2.1 t.2.2.2.2.2.2.1 t.2.2.2.2.2.2.2.1 t.2.2.2.2.2.2.2.2 ai else aj else kr s.1 s.2.1 s.2.2.1 s.2.2.2.1 s.2.2.2.2.1 s.2.2.2.2.2.1 s.2.2.2.2.2.2.1 s.2.2.2.2.2.2.2.1 s.2.2.2.2.2.2.2.2 ai else aj else aj else aj else aj else aj
def vo:=b λr0 r1 r2 r3 r4 r5 r6 r7 r8 r9=>ah (r0,r1,r2,r3,r4,r5,r6,r7,r8,r9)
def c:=λa d e f h i j l m o p=>(vo a d e f h i j l m o p).isSome
def v:=λa d e f h i j l m o p=>(vo a d e f h i j l m o p).getD (0,[],[],[],[],0,[],[],0,ak)
theorem out{x}:∀a d e f h i j l m o p,vo a d e f h i j l m o p=ah x->c a d e f h i j l m o p=ai/\v a d e f h i j l m o p=x:=λ_ _ _ _ _ _ _ _ _ _ _=>Lib.de
end DA

namespace nO
def r4(N:aF)(g k0:Oj R)(a:aw)(d:aQ):az R:=bif decide (a>127)then bif cC (d.length+(aD (aP [Ck.i bf] 1) 0 [CV.i bf (bF bf (bJ (cO a 128+128)))]).length) 1 then g (bJ (cQ a 128)) (d++aD (aP [Ck.i bf] 1) 0 [CV.i bf (bF bf (bJ (cO a 128+128)))])else aj else k0 a d
def l4(N:aF)(k0:Oj R):aF->Oj R
 |0=>λ_ _=>aj
 |n+1=>r4 N (l4 N k0 n) k0
def b(N:aF)(kr:yG R)(a:aw):az R:=bif !lz.v a 0 1000000000 then kr ⟨#[]⟩ ak else l4 N (λd e=>bif cC (e.length+(aD (aP [Ck.i bf] 1) 0 [CV.i bf (bF bf d)]).length) 1 then bif decide ((e++aD (aP [Ck.i bf] 1) 0 [CV.i bf (bF bf d)]).length<=4611686018427387904)then kr (bytesOf (e++aD (aP [Ck.i bf] 1) 0 [CV.i bf (bF bf d)])) ai else aj else aj) N a (aP [Ck.i bf] 0)
def v(n0:aw):aq×aW:=if 0<=n0/\n0<=1000000000 then(bytesOf (Lib.vb n0),ai)else(⟨#[]⟩,ak)
theorem eu(kr:yG R)(n0:aw):∃N,b N kr n0=kr (v n0).1 (v n0).2:=by
 refine⟨n0.toNat+1, ?_⟩
 unfold b v;by_cases hn:0<=n0/\n0<=1000000000
 ·have e:lz.v n0 0 1000000000=true:=by simp[lz.v,hn]
  rw[e,bz hn];refine Lib.N3 (λn x acc=>l4 (n0.toNat+1) _ n x acc) (λy=>kr y ai) (λn x acc h hl=> ?_) (λn x acc h hl=> ?_) n0 (by omega)
  ·simp only[l4,r4,h,aN,au,Lib.iX,show acc.length+bS [[CV.i bf (bF bf (bJ (cO x 128+128)))]]=acc.length+1 from rfl,Lib.Hi (show acc.length+1<=140737488355328 by omega),show decide ((128:aw)=0)=ak from rfl,wm,bR]
  ·simp only[l4,r4,h,bj,ax,Lib.iX,show acc.length+bS [[CV.i bf (bF bf x)]]=acc.length+1 from rfl,Lib.Hi (show acc.length+1<=140737488355328 by omega),au];exact Lib.tc (Lib.zY (by rw[bT,bA];omega))
 ·have e:lz.v n0 0 1000000000=false:=by simp[lz.v];omega
  rw[e,bH hn];rfl
end nO

namespace DJ
def b(kr:yG R)(a:aq):az R:=bif decide ((a.size:aw)>20000)then kr ⟨#[]⟩ ak else bif decide ((nO.v (a.size:aw)).1.size+a.size<=4611686018427387904)then kr ((nO.v (a.size:aw)).1++a) ai else aj
def v(s0:aq):aq×aW:=if s0.size>20000 then(⟨#[]⟩,ak)else(bytesOf (Lib.vb s0.size)++s0,ai)
theorem eu(kr:yG R)(s0:aq):b kr s0=kr (v s0).1 (v s0).2:=by
 unfold b v;by_cases h:s0.size>20000
 ·rw[bz h,show decide ((s0.size:aw)>20000)=ai by simp;omega];rfl
 ·rw[bH h,show decide ((s0.size:aw)>20000)=ak by simp;omega];have e:nO.v (s0.size:aw)=(bytesOf (Lib.vb s0.size),ai):=by unfold nO.v;rw[bz (by omega)]
  have:=Lib.jM (x:=(s0.size:aw)) (by omega);rw[e,ax];simp(disch:=omega) only[Lib.Sd,au]
end DJ

namespace DI
def b(kr:yG R)(a:aq)(d e:aw)(f:aq):az R:=bif !wC.v a d e f then kr ⟨#[]⟩ ak else bif decide ((DJ.v a).1.size+(nO.v d).1.size<=4611686018427387904)then bif decide (((DJ.v a).1++(nO.v d).1).size+(nO.v e).1.size<=4611686018427387904)then bif decide (((DJ.v a).1++(nO.v d).1++(nO.v e).1).size+f.size<=4611686018427387904)then kr ((DJ.v a).1++(nO.v d).1++(nO.v e).1++f) ai else aj else aj else aj
def v(oG:aq)(pf:aw)(ph:aw)(u0:aq):aq×aW:=jI.v oG pf ph u0
theorem eu(kr:yG R)(oG:aq)(pf:aw)(ph:aw)(u0:aq):b kr oG pf ph u0=kr (v oG pf ph u0).1 (v oG pf ph u0).2:=by
 have ee:wC.v oG pf ph u0=m8.v oG pf ph u0:=rfl;unfold b v jI.v;rw[ee];cases h:m8.v oG pf ph u0 with
 |false=>rfl
 |true=>
  have hr:=m8.D0 h;have z1:(bytesOf (Lib.vb (oG.size:aw))).size<=64:=Lib.jM (x:=(oG.size:aw)) (by omega);have z2:(bytesOf (Lib.vb pf)).size<=64:=Lib.jM (x:=pf) (by omega);have z3:(bytesOf (Lib.vb ph)).size<=64:=Lib.jM (x:=ph) (by omega);have e1:DJ.v oG=(bytesOf (Lib.vb oG.size)++oG,ai):=by unfold DJ.v;rw[bH (by omega)]
  have e2:nO.v pf=(bytesOf (Lib.vb pf),ai):=by unfold nO.v;rw[bz (by omega)]
  have e3:nO.v ph=(bytesOf (Lib.vb ph),ai):=by unfold nO.v;rw[bz (by omega)]
  rw[e1,e2,e3];simp(disch:=omega) only[a_,ax,au,if_true,Lib.j9,Lib.Sd];rfl
end DI

namespace uV
def b(kr:aq->az R)(a:aq):az R:=bif uY.c a then kr (bytesOf (aD (aD (aD (aD (aP [Ck.i bf] 4) 0 [CV.i bf (bF bf (ly (uY.v a) (gZ 2 (if aY 24<=32 then aY 24 else 32))))]) 1 [CV.i bf (bF bf (ly (uY.v a) (gZ 2 (if aY 16<=32 then aY 16 else 32))))]) 2 [CV.i bf (bF bf (ly (uY.v a) (gZ 2 (if aY 8<=32 then aY 8 else 32))))]) 3 [CV.i bf (bF bf (uY.v a))]))else aj
def vo:=b λr0=>ah r0
def c:=λa=>(vo a).isSome
def v:=λa=>(vo a).getD (⟨#[]⟩)
theorem out{x}:∀a,vo a=ah x->c a=ai/\v a=x:=λ_=>Lib.de
end uV

namespace BK
def b(kr:yG R)(a:aq):az R:=bif !lz.v (a.size:aw) 1 9000 then kr ⟨#[]⟩ ak else bif uV.c a then bif decide ((nO.v (a.size:aw)).1.size+(uV.v a).size<=4611686018427387904)then bif decide (((nO.v (a.size:aw)).1++uV.v a).size+a.size<=4611686018427387904)then kr ((nO.v (a.size:aw)).1++uV.v a++a) ai else aj else aj else aj
def vo:=b λr0 r1=>ah (r0,r1)
def c:=λa=>(vo a).isSome
def v:=λa=>(vo a).getD (⟨#[]⟩,ak)
theorem out{x}:∀a,vo a=ah x->c a=ai/\v a=x:=λ_=>Lib.de
end BK

namespace mR
def b(kr:yG R)(a:aq)(d e:aw)(f:aq):az R:=bif !(DI.v a d e f).2 then kr ⟨#[]⟩ ak else bif BK.c (DI.v a d e f).1 then kr (BK.v (DI.v a d e f).1).1 (BK.v (DI.v a d e f).1).2 else aj
def vo:=b λr0 r1=>ah (r0,r1)
def c:=λa d e f=>(vo a d e f).isSome
def v:=λa d e f=>(vo a d e f).getD (⟨#[]⟩,ak)
theorem out{x}:∀a d e f,vo a d e f=ah x->c a d e f=ai/\v a d e f=x:=λ_ _ _ _=>Lib.de
end mR

namespace uU
def b(kr:HV R)(a:aq)(d e:aw)(f:aq):az R:=bif mR.c a d e f then bif !(mR.v a d e f).2 then kr [] ak else kr (aD (aD (aP [Ck.i ao,Ck.s,Ck.s,Ck.s] 2) 0 [.i .i64 1, .s {data:= #[ay 107,ay 101,ay 112,ay 116]}, .s (mR.v a d e f).1, .s ⟨#[]⟩]) 1 [.i .i64 2, .s {data:= #[ay 107,ay 101,ay 112,ay 116]}, .s ⟨#[]⟩, .s ⟨#[]⟩]) ai else aj
def vo:=b λr0 r1=>ah (r0,r1)
def c:=λa d e f=>(vo a d e f).isSome
def v:=λa d e f=>(vo a d e f).getD ([],ak)
theorem out{x}:∀a d e f,vo a d e f=ah x->c a d e f=ai/\v a d e f=x:=λ_ _ _ _=>Lib.de
end uU

namespace s6
def b(kr:aQ->az R)(a:aQ):az R:=bif cC ((aP [Ck.s,Ck.s,Ck.i ao] 0).length+a.length) 40 then kr (aP [Ck.s,Ck.s,Ck.i ao] 0++a)else aj
def vo:=b λr0=>ah r0
def c:=λa=>(vo a).isSome
def v:=λa=>(vo a).getD ([])
theorem out{x}:∀a,vo a=ah x->c a=ai/\v a=x:=λ_=>Lib.de
end s6

namespace Ki
def b(kr:aW->az R)(a d:aq)(e:aw)(kO:aq):az R:=kr (bZ (aC a) (aC kO))
def v(a0 a1:aq)(a2:aw)(kO:aq):aW:=(bZ (aC a0) (aC kO))
theorem eu(kr:aW->az R)(a0 a1:aq)(a2:aw)(kO:aq):b kr a0 a1 a2 kO=kr (v a0 a1 a2 kO):=by first|rfl|(unfold b v;simp only[cK];(repeat' split)<;>rfl)
end Ki

namespace sd
def r2(N:aF)(g k0 k1:hZ R)(a:aQ)(d:aq)(e f h:aw):az R:=bif decide (h<f)then bif decide (0<=h)&&decide (h<(a.length:aw))then bif Ki.v (bu (ar a h.toNat 0)) (bu (ar a h.toNat 1)) (bE (ar a h.toNat (1+1))) d then k0 a d h f h else g a d e f (bJ (h+1))else aj else k1 a d e f h
def l2(N:aF)(k0 k1:hZ R):aF->hZ R
 |0=>λ_ _ _ _ _=>aj
 |n+1=>r2 N (l2 N k0 k1 n) k0 k1
def b(N:aF)(kr:aw->az R)(a:aQ)(kO:aq):az R:=l2 N (λ_ _ d _ _=>kr d) (λ_ _ _ _ _=>kr (-1)) N a kO 0 (a.length:aw) 0
def vo:=b Lib.cZ λr0=>ah r0
def c:=λa d=>(vo a d).isSome
def v:=λa d=>(vo a d).getD (0)
theorem out{x}:∀a d,vo a d=ah x->c a d=ai/\v a d=x:=λ_ _=>Lib.de
end sd

namespace AH
def b(kr:aW->az R)(a d:aq)(e:aw)(kO:aq):az R:=kr (bZ (aC a) (aC kO))
def v(a0 a1:aq)(a2:aw)(kO:aq):aW:=(bZ (aC a0) (aC kO))
theorem eu(kr:aW->az R)(a0 a1:aq)(a2:aw)(kO:aq):b kr a0 a1 a2 kO=kr (v a0 a1 a2 kO):=by first|rfl|(unfold b v;simp only[cK];(repeat' split)<;>rfl)
end AH

namespace ni
def r2(N:aF)(g k0 k1:hZ R)(a:aQ)(d:aq)(e f h:aw):az R:=bif decide (h<f)then bif decide (0<=h)&&decide (h<(a.length:aw))then bif AH.v (bu (ar a h.toNat 0)) (bu (ar a h.toNat 1)) (bE (ar a h.toNat (1+1))) d then k0 a d h f h else g a d e f (bJ (h+1))else aj else k1 a d e f h
def l2(N:aF)(k0 k1:hZ R):aF->hZ R
 |0=>λ_ _ _ _ _=>aj
 |n+1=>r2 N (l2 N k0 k1 n) k0 k1
def b(N:aF)(kr:aw->az R)(a:aQ)(kO:aq):az R:=l2 N (λ_ _ d _ _=>kr d) (λ_ _ _ _ _=>kr (-1)) N a kO 0 (a.length:aw) 0
def vo:=b Lib.cZ λr0=>ah r0
def c:=λa d=>(vo a d).isSome
def v:=λa d=>(vo a d).getD (0)
theorem out{x}:∀a d,vo a d=ah x->c a d=ai/\v a d=x:=λ_ _=>Lib.de
end ni

namespace eh
def b(kr:aw->az R)(a:aQ)(d:aq):az R:=bif sd.c a d then kr (sd.v a d)else aj
def vo:=b λr0=>ah r0
def c:=λa d=>(vo a d).isSome
def v:=λa d=>(vo a d).getD (0)
theorem out{x}:∀a d,vo a d=ah x->c a d=ai/\v a d=x:=λ_ _=>Lib.de
end eh

namespace ia
def r2(N:aF)(g k0 k1:Fl R)(a:aW)(d:aQ)(e f:aw)(h:aQ):az R:=bif decide (f<e)then bif decide (0<=f)&&decide (f<(d.length:aw))then bif !lz.v ((bu (ar d f.toNat 0)).size:aw) 1 8 then k0 ak d e f h else bif decide (((bu (ar d f.toNat 1)).size:aw)>20000)then k0 ak d e f h else bif !lz.v (bE (ar d f.toNat (1+1))) 0 ((bu (ar d f.toNat 1)).size:aw)then k0 ak d e f h else bif decide (f>0)then bif decide (0<=bJ (f-1))&&decide (bJ (f-1)<(h.length:aw))then bif !Op.bytesLess (bu (ar h (bJ (f-1)).toNat 0)).toList (bu (ar d f.toNat 0)).toList then k0 ak d e f h else g a d e (bJ (f+1)) h else aj else g a d e (bJ (f+1)) h else aj else k1 a d e f h
def l2(N:aF)(k0 k1:Fl R):aF->Fl R
 |0=>λ_ _ _ _ _=>aj
 |n+1=>r2 N (l2 N k0 k1 n) k0 k1
def b(N:aF)(kr:aW->az R)(a:aQ):az R:=l2 N (λd _ _ _ _=>kr d) (λ_ _ _ _ d=>kr (decide ((d.length:aw)<=30))) N ak a (a.length:aw) 0 a
def vo:=b Lib.cZ λr0=>ah r0
def c:=λa=>(vo a).isSome
def v:=λa=>(vo a).getD ak
theorem out{x}:∀a,vo a=ah x->c a=ai/\v a=x:=λ_=>Lib.de
end ia

namespace Kj
def b(kr:aW->az R)(a:aw)(d e f:aq):az R:=bif lz.v a 1 4 then bif bZ (aC e) (aC ⟨#[]⟩)then bif bZ (aC f) (aC ⟨#[]⟩)then kr ai else kr (decide (a=3))else bif decide (a=1)then bif bZ (aC f) (aC ⟨#[]⟩)then kr ai else kr (decide (a=3))else kr ak else kr ak
def v(a0:aw)(a1 a2 a3:aq):aW:=bif lz.v a0 1 4 then bif bZ (aC a2) (aC {data:= #[]})then bif bZ (aC a3) (aC {data:= #[]})then ai else decide (a0=3)else bif decide (a0=1)then bif bZ (aC a3) (aC {data:= #[]})then ai else decide (a0=3)else ak else ak
theorem eu(kr:aW->az R)(a0:aw)(a1 a2 a3:aq):b kr a0 a1 a2 a3=kr (v a0 a1 a2 a3):=by first|rfl|(unfold b v;simp only[cK];(repeat' split)<;>rfl)
end Kj

namespace wN
def r5(N:aF)(g k0:mj R)(a:aq)(d e:aw)(f:aQ):az R:=bif decide (e<(f.length:aw))then bif decide (0<=e)&&decide (e<(f.length:aw))then bif !AH.v (bu (ar f e.toNat 0)) (bu (ar f e.toNat 1)) (bE (ar f e.toNat (1+1))) a then bif decide (0<=d)&&decide (d<(f.length:aw))then g a (bJ (d+1)) (bJ (e+1)) (eD f d.toNat 0 [.s (bu (ar f e.toNat 0)), .s (bu (ar f e.toNat 1)), .i .i64 (bE (ar f e.toNat (1+1)))])else aj else g a d (bJ (e+1)) f else aj else k0 a d e f
def l5(N:aF)(k0:mj R):aF->mj R
 |0=>λ_ _ _ _=>aj
 |n+1=>r5 N (l5 N k0 n) k0
def b(N:aF)(kr:aQ->az R)(a:aQ)(kO:aq):az R:=bif ni.c a kO then bif decide (ni.v a kO=Kc 1)then kr a else l5 N (λ_ d _ e=>bif g9 d (e.length:aw) (e.length:aw)then bif g9 0 d ((gW d.toNat e++aP [Ck.s,Ck.s,Ck.i ao] ((e.length:aw).toNat-d.toNat)++nb (e.length:aw).toNat e).length:aw)then kr (e8 (gW d.toNat e++aP [Ck.s,Ck.s,Ck.i ao] ((e.length:aw).toNat-d.toNat)++nb (e.length:aw).toNat e) (aY 0) d.toNat)else aj else aj) N kO (ni.v a kO) (bJ (ni.v a kO+1)) a else aj
def vo:=b Lib.cZ λr0=>ah r0
def c:=λa d=>(vo a d).isSome
def v:=λa d=>(vo a d).getD ([])
theorem out{x}:∀a d,vo a d=ah x->c a d=ai/\v a d=x:=λ_ _=>Lib.de
end wN

namespace iU
def b(kr:aQ->az R)(a:aQ)(d:aq):az R:=bif s6.c a then bif wN.c (s6.v a) d then kr (wN.v (s6.v a) d)else aj else aj
def vo:=b λr0=>ah r0
def c:=λa d=>(vo a d).isSome
def v:=λa d=>(vo a d).getD ([])
theorem out{x}:∀a d,vo a d=ah x->c a d=ai/\v a d=x:=λ_ _=>Lib.de
end iU


namespace gH
def r3(N:aF)(g k0:Fo R)(a:aw)(d e:aq)(f:aw)(h:aQ):az R:=bif decide (a<(h.length:aw))then bif decide (0<=a)&&decide (a<(h.length:aw))then bif b7 (bu (ar h a.toNat 0)).toList (aC d)then g (bJ (a+1)) d e f h else k0 a d e f h else aj else k0 a d e f h
def l3(N:aF)(k0:Fo R):aF->Fo R
 |0=>λ_ _ _ _ _=>aj
 |n+1=>r3 N (l3 N k0 n) k0
def b(N:aF)(kr:aQ->az R)(a:aQ)(d e:aq)(f:aw):az R:=bif iU.c a d then l3 N (λh i j l m=>bif decide (0<=h)&&decide (h<=(m.length:aw))&&cC (m.length+(aD (aP [Ck.s,Ck.s,Ck.i ao] 1) 0 [.s i, .s j, .i .i64 l]).length) 40 then kr (Pu.tB m h.toNat (aD (aP [Ck.s,Ck.s,Ck.i ao] 1) 0 [.s i, .s j, .i .i64 l]))else aj) N 0 d e f (iU.v a d)else aj
def vo:=b Lib.cZ λr0=>ah r0
def c:=λa d e f=>(vo a d e f).isSome
def v:=λa d e f=>(vo a d e f).getD ([])
theorem out{x}:∀a d e f,vo a d e f=ah x->c a d e f=ai/\v a d e f=x:=λ_ _ _ _=>Lib.de
end gH

namespace rF
def b(kr:HV R)(a:aQ)(d:aw)(e f h:aq):az R:=bif eh.c a e then bif ia.c a then bif !ia.v a then kr [] ak else bif !Kj.v d e f h then kr [] ak else bif decide (eh.v a e<0)then bif d !=1 then kr [] ak else bif decide (eh.v a e≥0)then bif decide (0<=eh.v a e)&&decide (eh.v a e<(a.length:aw))then bif decide (d=1)then bif decide ((bu (ar a (eh.v a e).toNat 1)).size+f.size<=4611686018427387904)then bif gH.c a (bu (ar a (eh.v a e).toNat 0)) (bu (ar a (eh.v a e).toNat 1)++f) (bE (ar a (eh.v a e).toNat (1+1)))then bif ia.c (gH.v a (bu (ar a (eh.v a e).toNat 0)) (bu (ar a (eh.v a e).toNat 1)++f) (bE (ar a (eh.v a e).toNat (1+1))))then bif !ia.v (gH.v a (bu (ar a (eh.v a e).toNat 0)) (bu (ar a (eh.v a e).toNat 1)++f) (bE (ar a (eh.v a e).toNat (1+1))))then kr [] ak else kr (gH.v a (bu (ar a (eh.v a e).toNat 0)) (bu (ar a (eh.v a e).toNat 1)++f) (bE (ar a (eh.v a e).toNat (1+1)))) ai else aj else aj else aj else bif decide (d=2)then bif gH.c a (bu (ar a (eh.v a e).toNat 0)) (bu (ar a (eh.v a e).toNat 1)) ((bu (ar a (eh.v a e).toNat 1)).size:aw)then bif ia.c (gH.v a (bu (ar a (eh.v a e).toNat 0)) (bu (ar a (eh.v a e).toNat 1)) ((bu (ar a (eh.v a e).toNat 1)).size:aw))then bif !ia.v (gH.v a (bu (ar a (eh.v a e).toNat 0)) (bu (ar a (eh.v a e).toNat 1)) ((bu (ar a (eh.v a e).toNat 1)).size:aw))then kr [] ak else kr (gH.v a (bu (ar a (eh.v a e).toNat 0)) (bu (ar a (eh.v a e).toNat 1)) ((bu (ar a (eh.v a e).toNat 1)).size:aw)) ai else aj else aj else bif decide (d=3)then bif bE (ar a (eh.v a e).toNat (1+1)) !=((bu (ar a (eh.v a e).toNat 1)).size:aw)then kr [] ak else bif bZ (aC h) (aC e)then kr [] ak else bif iU.c a e then bif gH.c (iU.v a e) h (bu (ar a (eh.v a e).toNat 1)) (bE (ar a (eh.v a e).toNat (1+1)))then bif ia.c (gH.v (iU.v a e) h (bu (ar a (eh.v a e).toNat 1)) (bE (ar a (eh.v a e).toNat (1+1))))then bif !ia.v (gH.v (iU.v a e) h (bu (ar a (eh.v a e).toNat 1)) (bE (ar a (eh.v a e).toNat (1+1))))then kr [] ak else kr (gH.v (iU.v a e) h (bu (ar a (eh.v a e).toNat 1)) (bE (ar a (eh.v a e).toNat (1+1)))) ai else aj else aj else aj else bif iU.c a e then bif ia.c (iU.v a e)then bif !ia.v (iU.v a e)then kr [] ak else kr (iU.v a e) ai else aj else aj else aj else bif decide (d=1)then bif decide (cj ⟨#[]⟩+f.size<=4611686018427387904)then bif gH.c a e ({data:= #[]}++f) 0 then bif ia.c (gH.v a e ({data:= #[]}++f) 0)then bif !ia.v (gH.v a e ({data:= #[]}++f) 0)then kr [] ak else kr (gH.v a e ({data:= #[]}++f) 0) ai else aj else aj else aj else bif decide (d=2)then bif gH.c a e ⟨#[]⟩ (cj ⟨#[]⟩:aw)then bif ia.c (gH.v a e ⟨#[]⟩ (cj ⟨#[]⟩:aw))then bif !ia.v (gH.v a e ⟨#[]⟩ (cj ⟨#[]⟩:aw))then kr [] ak else kr (gH.v a e ⟨#[]⟩ (cj ⟨#[]⟩:aw)) ai else aj else aj else bif decide (d=3)then bif bZ (aC h) (aC e)then kr [] ak else bif iU.c a e then bif gH.c (iU.v a e) h ⟨#[]⟩ 0 then bif ia.c (gH.v (iU.v a e) h ⟨#[]⟩ 0)then bif !ia.v (gH.v (iU.v a e) h ⟨#[]⟩ 0)then kr [] ak else kr (gH.v (iU.v a e) h ⟨#[]⟩ 0) ai else aj else aj else aj else bif iU.c a e then bif ia.c (iU.v a e)then bif !ia.v (iU.v a e)then kr [] ak else kr (iU.v a e) ai else aj else aj else bif decide (eh.v a e≥0)then bif decide (0<=eh.v a e)&&decide (eh.v a e<(a.length:aw))then bif decide (d=1)then bif decide ((bu (ar a (eh.v a e).toNat 1)).size+f.size<=4611686018427387904)then bif gH.c a (bu (ar a (eh.v a e).toNat 0)) (bu (ar a (eh.v a e).toNat 1)++f) (bE (ar a (eh.v a e).toNat (1+1)))then bif ia.c (gH.v a (bu (ar a (eh.v a e).toNat 0)) (bu (ar a (eh.v a e).toNat 1)++f) (bE (ar a (eh.v a e).toNat (1+1))))then bif !ia.v (gH.v a (bu (ar a (eh.v a e).toNat 0)) (bu (ar a (eh.v a e).toNat 1)++f) (bE (ar a (eh.v a e).toNat (1+1))))then kr [] ak else kr (gH.v a (bu (ar a (eh.v a e).toNat 0)) (bu (ar a (eh.v a e).toNat 1)++f) (bE (ar a (eh.v a e).toNat (1+1)))) ai else aj else aj else aj else bif decide (d=2)then bif gH.c a (bu (ar a (eh.v a e).toNat 0)) (bu (ar a (eh.v a e).toNat 1)) ((bu (ar a (eh.v a e).toNat 1)).size:aw)then bif ia.c (gH.v a (bu (ar a (eh.v a e).toNat 0)) (bu (ar a (eh.v a e).toNat 1)) ((bu (ar a (eh.v a e).toNat 1)).size:aw))then bif !ia.v (gH.v a (bu (ar a (eh.v a e).toNat 0)) (bu (ar a (eh.v a e).toNat 1)) ((bu (ar a (eh.v a e).toNat 1)).size:aw))then kr [] ak else kr (gH.v a (bu (ar a (eh.v a e).toNat 0)) (bu (ar a (eh.v a e).toNat 1)) ((bu (ar a (eh.v a e).toNat 1)).size:aw)) ai else aj else aj else bif decide (d=3)then bif bE (ar a (eh.v a e).toNat (1+1)) !=((bu (ar a (eh.v a e).toNat 1)).size:aw)then kr [] ak else bif bZ (aC h) (aC e)then kr [] ak else bif iU.c a e then bif gH.c (iU.v a e) h (bu (ar a (eh.v a e).toNat 1)) (bE (ar a (eh.v a e).toNat (1+1)))then bif ia.c (gH.v (iU.v a e) h (bu (ar a (eh.v a e).toNat 1)) (bE (ar a (eh.v a e).toNat (1+1))))then bif !ia.v (gH.v (iU.v a e) h (bu (ar a (eh.v a e).toNat 1)) (bE (ar a (eh.v a e).toNat (1+1))))then kr [] ak else kr (gH.v (iU.v a e) h (bu (ar a (eh.v a e).toNat 1)) (bE (ar a (eh.v a e).toNat (1+1)))) ai else aj else aj else aj else bif iU.c a e then bif ia.c (iU.v a e)then bif !ia.v (iU.v a e)then kr [] ak else kr (iU.v a e) ai else aj else aj else aj else bif decide (d=1)then bif decide (cj ⟨#[]⟩+f.size<=4611686018427387904)then bif gH.c a e ({data:= #[]}++f) 0 then bif ia.c (gH.v a e ({data:= #[]}++f) 0)then bif !ia.v (gH.v a e ({data:= #[]}++f) 0)then kr [] ak else kr (gH.v a e ({data:= #[]}++f) 0) ai else aj else aj else aj else bif decide (d=2)then bif gH.c a e ⟨#[]⟩ (cj ⟨#[]⟩:aw)then bif ia.c (gH.v a e ⟨#[]⟩ (cj ⟨#[]⟩:aw))then bif !ia.v (gH.v a e ⟨#[]⟩ (cj ⟨#[]⟩:aw))then kr [] ak else kr (gH.v a e ⟨#[]⟩ (cj ⟨#[]⟩:aw)) ai else aj else aj else bif decide (d=3)then bif bZ (aC h) (aC e)then kr [] ak else bif iU.c a e then bif gH.c (iU.v a e) h ⟨#[]⟩ 0 then bif ia.c (gH.v (iU.v a e) h ⟨#[]⟩ 0)then bif !ia.v (gH.v (iU.v a e) h ⟨#[]⟩ 0)then kr [] ak else kr (gH.v (iU.v a e) h ⟨#[]⟩ 0) ai else aj else aj else aj else bif iU.c a e then bif ia.c (iU.v a e)then bif !ia.v (iU.v a e)then kr [] ak else kr (iU.v a e) ai else aj else aj else aj else aj
def vo:=b λr0 r1=>ah (r0,r1)
def c:=λa d e f h=>(vo a d e f h).isSome
def v:=λa d e f h=>(vo a d e f h).getD ([],ak)
theorem out{x}:∀a d e f h,vo a d e f h=ah x->c a d e f h=ai/\v a d e f h=x:=λ_ _ _ _ _=>Lib.de
end rF

namespace vK
def r3(N:aF)(g k0 k1:BB R)(a:aQ)(d:aw)(e:aQ)(f h:aw)(i:aQ):az R:=bif decide (h<f)then bif decide (0<=h)&&decide (h<(e.length:aw))then bif rF.c i (bE (ar e h.toNat 0)) (bu (ar e h.toNat 1)) (bu (ar e h.toNat (1+1))) (bu (ar e h.toNat (1+1+1)))then bif !(rF.v i (bE (ar e h.toNat 0)) (bu (ar e h.toNat 1)) (bu (ar e h.toNat (1+1))) (bu (ar e h.toNat (1+1+1)))).2 then k0 a h e f h i else g a d e f (bJ (h+1)) (rF.v i (bE (ar e h.toNat 0)) (bu (ar e h.toNat 1)) (bu (ar e h.toNat (1+1))) (bu (ar e h.toNat (1+1+1)))).1 else aj else aj else k1 a d e f h i
def l3(N:aF)(k0 k1:BB R):aF->BB R
 |0=>λ_ _ _ _ _ _=>aj
 |n+1=>r3 N (l3 N k0 k1 n) k0 k1
def b(N:aF)(kr:Dq R)(a d:aQ):az R:=bif s6.c a then l3 N (λ_ e _ _ _ f=>kr f e) (λe _ _ _ _ f=>kr f (e.length:aw)) N d 0 d (d.length:aw) 0 (s6.v a)else aj
def vo:=b Lib.cZ λr0 r1=>ah (r0,r1)
def c:=λa d=>(vo a d).isSome
def v:=λa d=>(vo a d).getD ([],0)
theorem out{x}:∀a d,vo a d=ah x->c a d=ai/\v a d=x:=λ_ _=>Lib.de
end vK

namespace V4
def b(kr:Ao R)(a:aw)(d e f h:aQ)(i:aw)(j l:aQ)(m:aw)(o p q:aQ)(r s:aw):az R:=bif DA.c a d e f h i j l m r s then Lib.lt (DA.v a d e f h i j l m r s) λt=>bif !t.2.2.2.2.2.2.2.2.2 then kr t.2.2.2.2.2.2.2.2.2 t.1 t.2.1 t.2.2.1 t.2.2.2.1 t.2.2.2.2.1 t.2.2.2.2.2.1 t.2.2.2.2.2.2.1 t.2.2.2.2.2.2.2.1 t.2.2.2.2.2.2.2.2.1 o p q else bif decide (s=0)then kr t.2.2.2.2.2.2.2.2.2 t.1 t.2.1 t.2.2.1 t.2.2.2.1 t.2.2.2.2.1 t.2.2.2.2.2.1 t.2.2.2.2.2.2.1 t.2.2.2.2.2.2.2.1 t.2.2.2.2.2.2.2.2.1 o p q else bif decide (0<=r)&&decide (r<(t.2.2.2.2.2.2.1.length:aw))then bif sB.c t.2.2.1 t.2.2.2.1 t.2.2.2.2.1 t.2.2.2.2.2.1 (bu (ar t.2.2.2.2.2.2.1 r.toNat 0))then Lib.lt (sB.v t.2.2.1 t.2.2.2.1 t.2.2.2.2.1 t.2.2.2.2.2.1 (bu (ar t.2.2.2.2.2.2.1 r.toNat 0))) λu=>bif u then bif cC (q.length+(aD (aP [Ck.s,Ck.i ao,Ck.i ao,Ck.s] 1) 0 [.s (bu (ar t.2.2.2.2.2.2.1 r.toNat 0)), .i .i64 (bE (ar t.2.2.2.2.2.2.1 r.toNat (1+1+1+1))), .i .i64 (bE (ar t.2.2.2.2.2.2.1 r.toNat (1+1+1))), .s (bu (ar t.2.2.2.2.2.2.1 r.toNat 1))]).length) 48 then bif uU.c (bu (ar t.2.2.2.2.2.2.1 r.toNat 0)) (bE (ar t.2.2.2.2.2.2.1 r.toNat (1+1+1+1))) (bE (ar t.2.2.2.2.2.2.1 r.toNat (1+1+1))) (bu (ar t.2.2.2.2.2.2.1 r.toNat 1))then Lib.lt (uU.v (bu (ar t.2.2.2.2.2.2.1 r.toNat 0)) (bE (ar t.2.2.2.2.2.2.1 r.toNat (1+1+1+1))) (bE (ar t.2.2.2.2.2.2.1 r.toNat (1+1+1))) (bu (ar t.2.2.2.2.2.2.1 r.toNat 1))) λw=>bif vK.c o w.1 then Lib.lt (vK.v o w.1) λy=>kr ai t.1 t.2.1 t.2.2.1 t.2.2.2.1 t.2.2.2.2.1 t.2.2.2.2.2.1 t.2.2.2.2.2.2.1 t.2.2.2.2.2.2.2.1 t.2.2.2.2.2.2.2.2.1 y.1 p (q++aD (aP [Ck.s,Ck.i ao,Ck.i ao,Ck.s] 1) 0 [.s (bu (ar t.2.2.2.2.2.2.1 r.toNat 0)), .i .i64 (bE (ar t.2.2.2.2.2.2.1 r.toNat (1+1+1+1))), .i .i64 (bE (ar t.2.2.2.2.2.2.1 r.toNat (1+1+1))), .s (bu (ar t.2.2.2.2.2.2.1 r.toNat 1))])else aj else aj else aj else kr ai t.1 t.2.1 t.2.2.1 t.2.2.2.1 t.2.2.2.2.1 t.2.2.2.2.2.1 t.2.2.2.2.2.2.1 t.2.2.2.2.2.2.2.1 t.2.2.2.2.2.2.2.2.1 o p q else aj else aj else aj
def vo:=b λr0 r1 r2 r3 r4 r5 r6 r7 r8 r9 Jw Ag Uw=>ah (r0,r1,r2,r3,r4,r5,r6,r7,r8,r9,Jw,Ag,Uw)
def c:=λa d e f h i j l m o p q r s=>(vo a d e f h i j l m o p q r s).isSome
def v:=λa d e f h i j l m o p q r s=>(vo a d e f h i j l m o p q r s).getD (ak,0,[],[],[],[],0,[],[],0,[],[],[])
theorem out{x}:∀a d e f h i j l m o p q r s,vo a d e f h i j l m o p q r s=ah x->c a d e f h i j l m o p q r s=ai/\v a d e f h i j l m o p q r s=x:=λ_ _ _ _ _ _ _ _ _ _ _ _ _ _=>Lib.de
end V4

namespace V5
def b(kr:kV R)(a:aw)(d e f h:aQ)(i:aw)(j l:aQ)(m o:aw):az R:=bif iL.c a d e f h i j l m then Lib.lt (iL.v a d e f h i j l m) λp=>bif uT.c a d e f h i j l m o then Lib.lt (uT.v a d e f h i j l m o) λq=>bif !q then kr p.1 p.2.1 p.2.2.1 p.2.2.2.1 p.2.2.2.2.1 p.2.2.2.2.2.1 p.2.2.2.2.2.2.1 p.2.2.2.2.2.2.2.1 p.2.2.2.2.2.2.2.2 ak else bif decide (0<=o)&&decide (o<(j.length:aw))then bif bE (ar j o.toNat 2) !=1 then kr p.1 p.2.1 p.2.2.1 p.2.2.2.1 p.2.2.2.2.1 p.2.2.2.2.2.1 p.2.2.2.2.2.2.1 p.2.2.2.2.2.2.2.1 p.2.2.2.2.2.2.2.2 ak else bif decide (0<=o)&&decide (o<(p.2.2.2.2.2.2.1.length:aw))then bif vL.c p.1 p.2.1 p.2.2.1 p.2.2.2.1 p.2.2.2.2.1 p.2.2.2.2.2.1 (eD p.2.2.2.2.2.2.1 o.toNat 2 [.i .i64 3]) p.2.2.2.2.2.2.2.1 p.2.2.2.2.2.2.2.2 o 3 then Lib.lt (vL.v p.1 p.2.1 p.2.2.1 p.2.2.2.1 p.2.2.2.2.1 p.2.2.2.2.2.1 (eD p.2.2.2.2.2.2.1 o.toNat 2 [.i .i64 3]) p.2.2.2.2.2.2.2.1 p.2.2.2.2.2.2.2.2 o 3) λr=>kr r.1 r.2.1 r.2.2.1 r.2.2.2.1 r.2.2.2.2.1 r.2.2.2.2.2.1 r.2.2.2.2.2.2.1 r.2.2.2.2.2.2.2.1 r.2.2.2.2.2.2.2.2 ai else aj else aj else aj else aj else aj
def vo:=b λr0 r1 r2 r3 r4 r5 r6 r7 r8 r9=>ah (r0,r1,r2,r3,r4,r5,r6,r7,r8,r9)
def c:=λa d e f h i j l m o=>(vo a d e f h i j l m o).isSome
def v:=λa d e f h i j l m o=>(vo a d e f h i j l m o).getD (0,[],[],[],[],0,[],[],0,ak)
theorem out{x}:∀a d e f h i j l m o,vo a d e f h i j l m o=ah x->c a d e f h i j l m o=ai/\v a d e f h i j l m o=x:=λ_ _ _ _ _ _ _ _ _ _=>Lib.de
end V5

namespace Ay
def b(kr:aw->az R)(a d:aw):az R:=bif !decide (d=0)then bif !decide (d=0)then kr (cO (bJ (cO a d+d)) d)else aj else aj
def vo:=b λr0=>ah r0
def c:=λa d=>(vo a d).isSome
def v:=λa d=>(vo a d).getD (0)
theorem out{x}:∀a d,vo a d=ah x->c a d=ai/\v a d=x:=λ_ _=>Lib.de
end Ay

namespace Dv
def b(kr:eN R)(a:aw)(d e f h:aQ)(i:aw)(j l:aQ)(m o:aw):az R:=bif iL.c a d e f h i j l m then bif decide (a>bJ (1000000000-Ay.v o 1000))then kr 1000000000 (iL.v a d e f h i j l m).2.1 (iL.v a d e f h i j l m).2.2.1 (iL.v a d e f h i j l m).2.2.2.1 (iL.v a d e f h i j l m).2.2.2.2.1 (iL.v a d e f h i j l m).2.2.2.2.2.1 (iL.v a d e f h i j l m).2.2.2.2.2.2.1 (iL.v a d e f h i j l m).2.2.2.2.2.2.2.1 (iL.v a d e f h i j l m).2.2.2.2.2.2.2.2 else kr (bJ (a+Ay.v o 1000)) (iL.v a d e f h i j l m).2.1 (iL.v a d e f h i j l m).2.2.1 (iL.v a d e f h i j l m).2.2.2.1 (iL.v a d e f h i j l m).2.2.2.2.1 (iL.v a d e f h i j l m).2.2.2.2.2.1 (iL.v a d e f h i j l m).2.2.2.2.2.2.1 (iL.v a d e f h i j l m).2.2.2.2.2.2.2.1 (iL.v a d e f h i j l m).2.2.2.2.2.2.2.2 else aj
def vo:=b λr0 r1 r2 r3 r4 r5 r6 r7 r8=>ah (r0,r1,r2,r3,r4,r5,r6,r7,r8)
def c:=λa d e f h i j l m o=>(vo a d e f h i j l m o).isSome
def v:=λa d e f h i j l m o=>(vo a d e f h i j l m o).getD (0,[],[],[],[],0,[],[],0)
theorem out{x}:∀a d e f h i j l m o,vo a d e f h i j l m o=ah x->c a d e f h i j l m o=ai/\v a d e f h i j l m o=x:=λ_ _ _ _ _ _ _ _ _ _=>Lib.de
end Dv

namespace wD
def r5(N:aF)(g k0:jF R)(a d e:aw)(f:aQ):az R:=bif decide (e<(f.length:aw))then bif decide (0<=e)&&decide (e<(f.length:aw))then bif !Az.v (bE (ar f e.toNat 0)) (bu (ar f e.toNat 1)) (bE (ar f e.toNat (1+1))) (bE (ar f e.toNat (1+1+1))) (bE (ar f e.toNat (1+1+1+1))) (bu (ar f e.toNat (1+1+1+1+1))) (bE (ar f e.toNat (1+1+1+1+1+1))) a then bif decide (0<=d)&&decide (d<(f.length:aw))then g a (bJ (d+1)) (bJ (e+1)) (eD f d.toNat 0 [.i .i64 (bE (ar f e.toNat 0)), .s (bu (ar f e.toNat 1)), .i .i64 (bE (ar f e.toNat (1+1))), .i .i64 (bE (ar f e.toNat (1+1+1))), .i .i64 (bE (ar f e.toNat (1+1+1+1))), .s (bu (ar f e.toNat (1+1+1+1+1))), .i .i64 (bE (ar f e.toNat (1+1+1+1+1+1)))])else aj else g a d (bJ (e+1)) f else aj else k0 a d e f
def l5(N:aF)(k0:jF R):aF->jF R
 |0=>λ_ _ _ _=>aj
 |n+1=>r5 N (l5 N k0 n) k0
def b(N:aF)(kr:aQ->az R)(a:aQ)(Cn:aw):az R:=bif nh.c a Cn then bif decide (nh.v a Cn=Kc 1)then kr a else l5 N (λ_ d _ e=>bif g9 d (e.length:aw) (e.length:aw)then bif g9 0 d ((gW d.toNat e++aP [Ck.i ao,Ck.s,Ck.i ao,Ck.i ao,Ck.i ao,Ck.s,Ck.i ao] ((e.length:aw).toNat-d.toNat)++nb (e.length:aw).toNat e).length:aw)then kr (e8 (gW d.toNat e++aP [Ck.i ao,Ck.s,Ck.i ao,Ck.i ao,Ck.i ao,Ck.s,Ck.i ao] ((e.length:aw).toNat-d.toNat)++nb (e.length:aw).toNat e) (aY 0) d.toNat)else aj else aj) N Cn (nh.v a Cn) (bJ (nh.v a Cn+1)) a else aj
def vo:=b Lib.cZ λr0=>ah r0
def c:=λa d=>(vo a d).isSome
def v:=λa d=>(vo a d).getD ([])
theorem out{x}:∀a d,vo a d=ah x->c a d=ai/\v a d=x:=λ_ _=>Lib.de
end wD

namespace Dw
def b(kr:eN R)(a:aw)(d e f h:aQ)(i:aw)(j l:aQ)(m o:aw):az R:=bif iL.c a d e f h i j l m then bif wD.c (iL.v a d e f h i j l m).2.2.2.2.2.2.2.1 o then kr (iL.v a d e f h i j l m).1 (iL.v a d e f h i j l m).2.1 (iL.v a d e f h i j l m).2.2.1 (iL.v a d e f h i j l m).2.2.2.1 (iL.v a d e f h i j l m).2.2.2.2.1 (iL.v a d e f h i j l m).2.2.2.2.2.1 (iL.v a d e f h i j l m).2.2.2.2.2.2.1 (wD.v (iL.v a d e f h i j l m).2.2.2.2.2.2.2.1 o) (iL.v a d e f h i j l m).2.2.2.2.2.2.2.2 else aj else aj
def vo:=b λr0 r1 r2 r3 r4 r5 r6 r7 r8=>ah (r0,r1,r2,r3,r4,r5,r6,r7,r8)
def c:=λa d e f h i j l m o=>(vo a d e f h i j l m o).isSome
def v:=λa d e f h i j l m o=>(vo a d e f h i j l m o).getD (0,[],[],[],[],0,[],[],0)
theorem out{x}:∀a d e f h i j l m o,vo a d e f h i j l m o=ah x->c a d e f h i j l m o=ai/\v a d e f h i j l m o=x:=λ_ _ _ _ _ _ _ _ _ _=>Lib.de
end Dw

namespace wE
def r5(N:aF)(g k0:Fq R)(a d:aQ)(e f:aw)(h:aQ):az R:=bif decide (f<e)then bif decide (0<=f)&&decide (f<(d.length:aw))then bif decide (f<(a.length:aw))then bif decide (0<=f)&&decide (f<(a.length:aw))then bif g9 0 (im ai (bE (ar d f.toNat (1+1))) (im ak (bE (ar a f.toNat 0)) ((bu (ar d f.toNat 1)).size:aw))) ((bu (ar d f.toNat 1)).size:aw)then bif decide (0<=f)&&decide (f<(h.length:aw))then g a d e (bJ (f+1)) (eD h f.toNat 0 [.s (bu (ar d f.toNat 0)), .s (bK (bu (ar d f.toNat 1)) (aY 0) (im ai (bE (ar d f.toNat (1+1))) (im ak (bE (ar a f.toNat 0)) ((bu (ar d f.toNat 1)).size:aw))).toNat), .i .i64 (im ai (bE (ar d f.toNat (1+1))) (im ak (bE (ar a f.toNat 0)) ((bu (ar d f.toNat 1)).size:aw)))])else aj else aj else aj else bif g9 0 (bE (ar d f.toNat (1+1))) ((bu (ar d f.toNat 1)).size:aw)then bif decide (0<=f)&&decide (f<(h.length:aw))then g a d e (bJ (f+1)) (eD h f.toNat 0 [.s (bu (ar d f.toNat 0)), .s (bK (bu (ar d f.toNat 1)) (aY 0) (bE (ar d f.toNat (1+1))).toNat), .i .i64 (bE (ar d f.toNat (1+1)))])else aj else aj else aj else k0 a d e f h
def l5(N:aF)(k0:Fq R):aF->Fq R
 |0=>λ_ _ _ _ _=>aj
 |n+1=>r5 N (l5 N k0 n) k0
def b(N:aF)(kr:HV R)(a d:aQ):az R:=bif ia.c a then bif !ia.v a then kr [] ak else bif s6.c a then l5 N (λ_ _ _ _ e=>kr e ai) N d a (a.length:aw) 0 (s6.v a)else aj else aj
def vo:=b Lib.cZ λr0 r1=>ah (r0,r1)
def c:=λa d=>(vo a d).isSome
def v:=λa d=>(vo a d).getD ([],ak)
theorem out{x}:∀a d,vo a d=ah x->c a d=ai/\v a d=x:=λ_ _=>Lib.de
end wE

namespace uP
def b(kr:yG R)(a:aQ)(d:aq):az R:=bif eh.c a d then bif decide (eh.v a d<0)then kr ⟨#[]⟩ ak else bif decide (0<=eh.v a d)&&decide (eh.v a d<(a.length:aw))then kr (bu (ar a (eh.v a d).toNat 1)) ai else aj else aj
def vo:=b λr0 r1=>ah (r0,r1)
def c:=λa d=>(vo a d).isSome
def v:=λa d=>(vo a d).getD (⟨#[]⟩,ak)
theorem out{x}:∀a d,vo a d=ah x->c a d=ai/\v a d=x:=λ_ _=>Lib.de
end uP

namespace gi
def r5(N:aF)(g k0 k1:yH R)(a:aq)(d e f:aw)(h:aW)(i j:aw):az R:=bif decide (j<5)then bif decide (bJ (d+j)<(a.size:aw))then bif decide (0<=bJ (d+j))&&decide (bJ (d+j)<(a.size:aw))then bif decide (0<=bJ (7*j))then bif decide (bJ (↑(gM a (bJ (d+j)).toNat):aw)>127)then g a d e f h (bJ (i+bJ (cO (bJ (↑(gM a (bJ (d+j)).toNat):aw)) 128*gZ 2 (if(bJ (7*j)).toNat<=64 then(bJ (7*j)).toNat else 64)))) (bJ (j+1))else bif decide (j>0)then bif decide (bJ (↑(gM a (bJ (d+j)).toNat):aw)=0)then k0 a d 0 0 ak (bJ (i+bJ (cO (bJ (↑(gM a (bJ (d+j)).toNat):aw)) 128*gZ 2 (if(bJ (7*j)).toNat<=64 then(bJ (7*j)).toNat else 64)))) j else bif decide (bJ (i+bJ (cO (bJ (↑(gM a (bJ (d+j)).toNat):aw)) 128*gZ 2 (if(bJ (7*j)).toNat<=64 then(bJ (7*j)).toNat else 64)))>1000000000)then k0 a d 0 0 ak (bJ (i+bJ (cO (bJ (↑(gM a (bJ (d+j)).toNat):aw)) 128*gZ 2 (if(bJ (7*j)).toNat<=64 then(bJ (7*j)).toNat else 64)))) j else k0 a d (bJ (i+bJ (cO (bJ (↑(gM a (bJ (d+j)).toNat):aw)) 128*gZ 2 (if(bJ (7*j)).toNat<=64 then(bJ (7*j)).toNat else 64)))) (bJ (bJ (d+j)+1)) ai (bJ (i+bJ (cO (bJ (↑(gM a (bJ (d+j)).toNat):aw)) 128*gZ 2 (if(bJ (7*j)).toNat<=64 then(bJ (7*j)).toNat else 64)))) j else bif decide (bJ (i+bJ (cO (bJ (↑(gM a (bJ (d+j)).toNat):aw)) 128*gZ 2 (if(bJ (7*j)).toNat<=64 then(bJ (7*j)).toNat else 64)))>1000000000)then k0 a d 0 0 ak (bJ (i+bJ (cO (bJ (↑(gM a (bJ (d+j)).toNat):aw)) 128*gZ 2 (if(bJ (7*j)).toNat<=64 then(bJ (7*j)).toNat else 64)))) j else k0 a d (bJ (i+bJ (cO (bJ (↑(gM a (bJ (d+j)).toNat):aw)) 128*gZ 2 (if(bJ (7*j)).toNat<=64 then(bJ (7*j)).toNat else 64)))) (bJ (bJ (d+j)+1)) ai (bJ (i+bJ (cO (bJ (↑(gM a (bJ (d+j)).toNat):aw)) 128*gZ 2 (if(bJ (7*j)).toNat<=64 then(bJ (7*j)).toNat else 64)))) j else aj else aj else k1 a d e f h i j else k1 a d e f h i j
def l5(N:aF)(k0 k1:yH R):aF->yH R
 |0=>λ_ _ _ _ _ _ _=>aj
 |n+1=>r5 N (l5 N k0 k1 n) k0 k1
def b(N:aF)(kr:L4 R)(a:aq)(d:aw):az R:=bif !lz.v d 0 (a.size:aw)then kr 0 0 ak else l5 N (λ_ _ e f h _ _=>kr e f h) (λ_ _ _ _ _ _ _=>kr 0 0 ak) N a d 0 0 ak 0 0
def v(cW:aq)(gL:aw):aw×aw×aW:=if 0<=gL/\gL<=cW.size then Lib.rv cW gL.toNat 5 0 0 else(0,0,ak)
theorem eu(kr:L4 R)(cW:aq)(gL:aw)(f0:DX cW):∃N,b N kr cW gL=kr (v cW gL).1 (v cW gL).2.1 (v cW gL).2.2:=by
 refine⟨6, ?_⟩
 unfold b v;by_cases hn:0<=gL/\gL<=cW.size
 ·have e:lz.v gL 0 (cW.size:aw)=true:=by simp[lz.v,hn]
  obtain⟨a,rfl⟩:∃a:aF,gL=(a:aw):=⟨gL.toNat,by omega⟩
  have ha:a<=cW.size:=by omega
  rw[e,bz hn,Lib.dZ];have hs:cW.size<=4611686018427387904:=f0;simp only[a_,ax]
  have:=Lib.gV (λm (s:aF×aw)=>l5 6 (λy7 y8 y9 J4 wg LZ HA=>kr y9 J4 wg) (λHQ Wn Qt Dl Fc D7 wh=>kr 0 0 ak) m cW a 0 0 ak s.2 s.1) (λs=>5-s.1) (λs=>s.1<=5/\0<=s.2/\s.2<128^s.1)
   (λs=>kr (Lib.rv cW a (5-s.1) s.1 s.2).1 (Lib.rv cW a (5-s.1) s.1 s.2).2.1 (Lib.rv cW a (5-s.1) s.1 s.2).2.2) (λm s hs5=>by
   obtain⟨j,n⟩:=s
   obtain⟨hj,h0,jy⟩:=hs5
   dsimp only at hj h0 jy⊢
   have hb:=Lib.Gv cW (a+j)
   by_cases hj5:j<5
   ·by_cases gq:a+j<cW.size
    ·have ew:bJ ((a:aw)+(j:aw))=((a+j:aF):aw):=by rw[iE (by omega) (by omega)];omega
     have ew2:bJ ((a+j:aF):aw)=((a+j:aF):aw):=iE (by omega) (by omega);have eb:bJ (gM cW (a+j):aw)=(gM cW (a+j):aw):=iE (by omega) (by omega);have em:cO (gM cW (a+j):aw) 128=(gM cW (a+j):aw)%128:=ig (by omega);have e7:bJ (7*(j:aw))=((7*j:aF):aw):=by rw[iE (by omega) (by omega)];omega
     have ep:gZ 2 (if 7*j<=64 then 7*j else 64)=128^j:=by rw[bz (by omega)];show(2:aw)^(7*j)=128^j;rw[Int.pow_mul];rfl
     have hp:(128:aw)^j<=268435456/\(1:aw)<=128^j/\(128:aw)^(j+1)=128*128^j:=by
      obtain rfl|rfl|rfl|rfl|rfl:j=0\/j=1\/j=2\/j=3\/j=4:=by omega
      all_goals decide
     have hm0:0<=(gM cW (a+j):aw)%128/\(gM cW (a+j):aw)%128<=127:=by omega
     have hq:0<=(gM cW (a+j):aw)%128*128^j/\(gM cW (a+j):aw)%128*128^j<=127*128^j:=
      ⟨Int.mul_nonneg hm0.1 (by omega),Ds hm0.2 (by omega)⟩
     have eq1:bJ ((gM cW (a+j):aw)%128*128^j)=(gM cW (a+j):aw)%128*128^j:=iE (by omega) (by omega);have eq2:bJ (n+(gM cW (a+j):aw)%128*128^j)=n+(gM cW (a+j):aw)%128*128^j:=iE (by omega) (by omega);have ej:bJ ((j:aw)+1)=((j+1:aF):aw):=Lib.c6 hj5 (by omega);have ef:5-j=(5-(j+1))+1:=by omega
     have c1:decide ((j:aw)<5)=true:=by simp;omega
     have c2:decide (((a+j:aF):aw)<(cW.size:aw))=true:=Lib.MU gq
     have Xy:Lib.rv cW a (5-j) j n=(if(gM cW (a+j):aw)>127 then Lib.rv cW a (5-(j+1)) (j+1) (n+(gM cW (a+j):aw)%128*128^j)
       else if(j>0/\gM cW (a+j)=0)\/n+(gM cW (a+j):aw)%128*128^j>1000000000 then(0,0,ak)
       else(n+(gM cW (a+j):aw)%128*128^j,((a+j+1:aF):aw),ai)):=by
      rw[ef];simp only[Lib.rv];rw[bz gq]
     have en:bJ (((a+j:aF):aw)+1)=((a+j+1:aF):aw):=Lib.c6 gq (by omega);simp only[l5,r5,c1,ew,c2,Lib.cF,Lib.dZ,eb,em,e7,ep,eq1,eq2,ej,en,au,aM];by_cases hc:(gM cW (a+j):aw)>127
     ·right;rw[aE hc];exact⟨(j+1,n+(gM cW (a+j):aw)%128*128^j),⟨by dsimp only;omega,by dsimp only;omega,by dsimp only;omega⟩,by dsimp only;omega,by dsimp only;rw[Xy,bz hc],rfl⟩
     ·left;rw[aK hc,ax,Xy,bH hc];by_cases hj0:(j:aw)>0
      ·rw[aE hj0,au];by_cases hz:(gM cW (a+j):aw)=0
       ·rw[aE hz,bz (.inl ⟨by omega,by omega⟩)];rfl
       ·rw[aK hz,ax];by_cases tv:n+(gM cW (a+j):aw)%128*128^j>1000000000
        ·rw[aE tv,bz (.inr tv)];rfl
        ·rw[aK tv,bH (by omega)];rfl
      ·rw[aK hj0,ax];by_cases tv:n+(gM cW (a+j):aw)%128*128^j>1000000000
       ·rw[aE tv,bz (.inr tv)];rfl
       ·rw[aK tv,bH (by omega)];rfl
    ·left;have ew:bJ ((a:aw)+(j:aw))=((a+j:aF):aw):=by rw[iE (by omega) (by omega)];omega
     have ef:5-j=(5-(j+1))+1:=by omega
     have Xy:Lib.rv cW a (5-j) j n=(0,0,ak):=by rw[ef];simp only[Lib.rv];rw[bH gq]
     simp only[l5,r5,show decide ((j:aw)<5)=ai by simp;omega,ew,Lib.Sb gq,au,ax,Xy]
   ·left;have JX:j=5:=by omega
    subst JX;simp only[l5,r5,show decide (((5:aF):aw)<5)=ak from rfl,ax];rfl) 6 (0,0) ⟨by dsimp only;omega,by dsimp only;omega,by dsimp only;decide⟩ (by dsimp only;omega)
  exact this
 ·have e:lz.v gL 0 (cW.size:aw)=false:=by simp[lz.v];omega
  rw[e,bH hn];rfl
end gi

namespace U122
def r3(N:aF)(g k0:u6 R)(a:aq)(d:aw)(e:aQ):az R:=bif decide ((a.size:aw)<=20000)then bif !(gi.v a d).2.2 then k0 a d e else bif !lz.v (gi.v a d).1 1 9000 then k0 a d e else bif decide (bJ ((gi.v a d).1+4)>bJ ((a.size:aw)-(gi.v a d).2.1))then k0 a d e else bif g9 (bJ ((gi.v a d).2.1+4)) (bJ (bJ ((gi.v a d).2.1+4)+(gi.v a d).1)) (a.size:aw)then bif uV.c (bK a (bJ ((gi.v a d).2.1+4)).toNat (bJ (bJ ((gi.v a d).2.1+4)+(gi.v a d).1)).toNat)then bif g9 (gi.v a d).2.1 (bJ ((gi.v a d).2.1+4)) (a.size:aw)then bif !List.beq (uV.v (bK a (bJ ((gi.v a d).2.1+4)).toNat (bJ (bJ ((gi.v a d).2.1+4)+(gi.v a d).1)).toNat)).toList (bK a (gi.v a d).2.1.toNat (bJ ((gi.v a d).2.1+4)).toNat).toList then k0 a d e else bif cC (e.length+(aD (aP [.s] 1) 0 [.s (bK a (bJ ((gi.v a d).2.1+4)).toNat (bJ (bJ ((gi.v a d).2.1+4)+(gi.v a d).1)).toNat)]).length) 16 then g a (bJ (bJ ((gi.v a d).2.1+4)+(gi.v a d).1)) (e++aD (aP [.s] 1) 0 [.s (bK a (bJ ((gi.v a d).2.1+4)).toNat (bJ (bJ ((gi.v a d).2.1+4)+(gi.v a d).1)).toNat)])else aj else aj else aj else aj else k0 a d e
def l3(N:aF)(k0:u6 R):aF->u6 R
 |0=>λ_ _ _=>aj
 |n+1=>r3 N (l3 N k0 n) k0
def b(N:aF)(kr:Dq R)(a:aq):az R:=l3 N (λ_ d e=>kr e d) N a 0 (aP [.s] 0)
def vo:=b Lib.cZ λr0 r1=>ah (r0,r1)
def c:=λa=>(vo a).isSome
def v:=λa=>(vo a).getD ([],0)
theorem out{x}:∀a,vo a=ah x->c a=ai/\v a=x:=λ_=>Lib.de
end U122

namespace s5
def b(kr:L8 R)(a:aq)(d:aw):az R:=bif !(gi.v a d).2.2 then kr ⟨#[]⟩ 0 ak else bif decide ((gi.v a d).1>20000)then kr ⟨#[]⟩ 0 ak else bif decide ((gi.v a d).1>bJ ((a.size:aw)-(gi.v a d).2.1))then kr ⟨#[]⟩ 0 ak else bif g9 (gi.v a d).2.1 (bJ ((gi.v a d).2.1+(gi.v a d).1)) (a.size:aw)then kr (bK a (gi.v a d).2.1.toNat (bJ ((gi.v a d).2.1+(gi.v a d).1)).toNat) (bJ ((gi.v a d).2.1+(gi.v a d).1)) ai else aj
def v(cW:aq)(gL:aw):aq×aw×aW:=Lib.g6 cW gL
theorem eu(kr:L8 R)(cW:aq)(gL:aw)(f0:DX cW):b kr cW gL=kr (v cW gL).1 (v cW gL).2.1 (v cW gL).2.2:=Lib.vm f0 gL kr
end s5

namespace vJ
def b(kr:wx R)(a:aq):az R:=bif !(s5.v a 0).2.2 then kr ⟨#[]⟩ 0 0 ⟨#[]⟩ ak else bif !(gi.v a (s5.v a 0).2.1).2.2 then kr ⟨#[]⟩ 0 0 ⟨#[]⟩ ak else bif !(gi.v a (gi.v a (s5.v a 0).2.1).2.1).2.2 then kr ⟨#[]⟩ 0 0 ⟨#[]⟩ ak else bif g9 (gi.v a (gi.v a (s5.v a 0).2.1).2.1).2.1 (a.size:aw) (a.size:aw)then bif !wC.v (s5.v a 0).1 (gi.v a (s5.v a 0).2.1).1 (gi.v a (gi.v a (s5.v a 0).2.1).2.1).1 (bK a (gi.v a (gi.v a (s5.v a 0).2.1).2.1).2.1.toNat (a.size:aw).toNat)then kr ⟨#[]⟩ 0 0 ⟨#[]⟩ ak else kr (s5.v a 0).1 (gi.v a (s5.v a 0).2.1).1 (gi.v a (gi.v a (s5.v a 0).2.1).2.1).1 (bK a (gi.v a (gi.v a (s5.v a 0).2.1).2.1).2.1.toNat (a.size:aw).toNat) ai else aj
def v(t0:aq):aq×aw×aw×aq×aW:=rG.v t0
theorem eu(kr:wx R)(t0:aq)(f0:DX t0):b kr t0=kr (v t0).1 (v t0).2.1 (v t0).2.2.1 (v t0).2.2.2.1 (v t0).2.2.2.2:=by
 have e1:s5.v=Lib.g6:=rfl;have e2:gi.v=Lib.er:=rfl;have e3:∀a b c d,wC.v a b c d=m8.v a b c d:=λ_ _ _ _=>rfl;unfold b v rG.v;simp only[e1,e2,e3,Lib.dZ];cases h1:Lib.g6 t0 0 with
 |mk k r1=>
  obtain⟨a,ok1⟩:=r1;cases ok1 with
  |false=>rfl
  |true=>
   dsimp only;cases h2:Lib.er t0 a with
   |mk s r2=>
    obtain⟨x,ok2⟩:=r2;cases ok2 with
    |false=>rfl
    |true=>
     dsimp only;cases h3:Lib.er t0 x with
     |mk l r3=>
      obtain⟨y,ok3⟩:=r3;cases ok3 with
      |false=>rfl
      |true=>
       obtain⟨r1,r2,r3,r4,r5,r6⟩:=Lib.jX h3;dsimp only;simp only[a_,ax];rw[Lib.tc (show g9 y (t0.size:aw) (t0.size:aw)=ai by simp[g9];omega)];cases hE:m8.v k s l (t0.extract y.toNat t0.size)with
       |false=>rfl
       |true=>rfl
end vJ

namespace U61
def r7(N:aF)(g k0:J_ R)(a d:aw)(e f:aQ):az R:=bif decide (d<a)then bif decide (0<=d)&&decide (d<(f.length:aw))then bif(vJ.v (bu (ar f d.toNat 0))).2.2.2.2 then bif uQ.c e (vJ.v (bu (ar f d.toNat 0))).1 (vJ.v (bu (ar f d.toNat 0))).2.1 (vJ.v (bu (ar f d.toNat 0))).2.2.1 (vJ.v (bu (ar f d.toNat 0))).2.2.2.1 then g a (bJ (d+1)) (uQ.v e (vJ.v (bu (ar f d.toNat 0))).1 (vJ.v (bu (ar f d.toNat 0))).2.1 (vJ.v (bu (ar f d.toNat 0))).2.2.1 (vJ.v (bu (ar f d.toNat 0))).2.2.2.1) f else aj else g a (bJ (d+1)) e f else aj else k0 a d e f
def l7(N:aF)(k0:J_ R):aF->J_ R
 |0=>λ_ _ _ _=>aj
 |n+1=>r7 N (l7 N k0 n) k0
def b(N:aF)(kr:aQ->az R)(a:aQ):az R:=bif ia.c a then bif !ia.v a then kr (aP [Ck.s,Ck.i ao,Ck.i ao,Ck.s] 0)else bif uP.c a {data:= #[ay 107,ay 101,ay 112,ay 116]}then bif U122.c (uP.v a {data:= #[ay 107,ay 101,ay 112,ay 116]}).1 then l7 N (λ_ _ d _=>kr d) N ((U122.v (uP.v a {data:= #[ay 107,ay 101,ay 112,ay 116]}).1).1.length:aw) 0 (aP [Ck.s,Ck.i ao,Ck.i ao,Ck.s] 0) (U122.v (uP.v a {data:= #[ay 107,ay 101,ay 112,ay 116]}).1).1 else aj else aj else aj
def vo:=b Lib.cZ λr0=>ah r0
def c:=λa=>(vo a).isSome
def v:=λa=>(vo a).getD ([])
theorem out{x}:∀a,vo a=ah x->c a=ai/\v a=x:=λ_=>Lib.de
end U61

end Go.FG
