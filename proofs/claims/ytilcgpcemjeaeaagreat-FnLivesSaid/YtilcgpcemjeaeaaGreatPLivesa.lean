/- Functions of the program, told as functions of numbers, texts and lists, and what each comes to. No condition but those that each states. -/
import Derived.Test.YtilcgpcemjeaeaaGreatLib
set_option linter.unusedVariables false
set_option linter.unusedSimpArgs false
set_option maxRecDepth 100000
open BitVec renaming toNat->dW,and->jo,ofInt->b9,xor->ma
open Bool renaming cond_eq_ite->cz,true->ai,false->ak,false_eq_true->du,true_and->bh,not_true->aY,and_self->aM,or_true->JT,and_false->wh,not_false->bQ
open ByteArray renaming toList->aF,size->cj,extract->bO
open Go.IntKind renaming i64->ao,wrap->bE,u32->eD,u8->ba
open Go.Op renaming bytesLess->bY
open Int renaming toNat->aZ,fdiv->ll,pow->gY,tmod->cK,tdiv->cL,tmod_eq_emod_of_nonneg->ij,mul_le_mul_of_nonneg_right->De,neg->oS
open List renaming set->aA,beq->cF,length->bM,range->cR,range'->iP,all_cons->uI,range'_zero->Ws,range_eq_range'->Wt,length_append->bV,length_singleton->bz,take->gW,drop->m8
open Nat renaming sub_zero->rX,lt_irrefl->bm
open Option renaming none->aj,some->ah
open UInt8 renaming ofNat->aw
open _root_ renaming Int->ax,Option->az,ByteArray->aq,Bool->aW,Nat->aE,cond_true->au,cond_false->ay,of_decide_eq_true->cm,decide_eq_decide->ca,decide_true->aP,decide_false->bf,decide_eq_true->aG,if_neg->bG,if_pos->bw,decide_eq_false->aK
namespace Go.FG
variable {R:Type}
abbrev LV(R:Type):=aQ->ax->ax->az R
abbrev pI(R:Type):=ax->ax->ax->az R
abbrev iS(R:Type):=ax->ax->ax->aQ->az R
abbrev Dd(R:Type):=aQ->ax->az R
abbrev sP(R:Type):=aQ->aQ->aQ->ax->az R
abbrev eM(R:Type):=ax->aQ->aQ->aQ->aQ->ax->aQ->aQ->ax->az R
abbrev Qn(R:Type):=ax->aQ->ax->ax->az R
abbrev We(R:Type):=ax->aQ->ax->ax->aQ->az R
abbrev Wf(R:Type):=aq->aQ->ax->ax->aQ->az R
abbrev Qp(R:Type):=aq->aQ->ax->ax->az R
abbrev adD(R:Type):=aW->aQ->ax->ax->az R
abbrev gX(R:Type):=ax->ax->ax->ax->aQ->ax->ax->aQ->aQ->aQ->aQ->aQ->aQ->aQ->aQ->aQ->ax->ax->ax->ax->ax->aq->ax->ax->ax->aq->ax->aQ->az R
abbrev iG(R:Type):=ax->ax->aq->ax->aQ->aQ->ax->ax->aQ->aQ->aQ->aQ->aQ->aQ->aQ->aQ->aQ->az R
abbrev qQ(R:Type):=ax->aQ->ax->ax->ax->az R
abbrev oP(R:Type):=ax->aQ->ax->ax->ax->aQ->az R
abbrev JY(R:Type):=aQ->aq->aW->ax->az R
abbrev E3(R:Type):=aW->ax->ax->aQ->ax->az R
abbrev JV(R:Type):=aW->ax->aQ->ax->az R
abbrev yx(R:Type):=aW->ax->aQ->aQ->aQ->ax->aQ->az R
abbrev g_(R:Type):=aW->ax->ax->aQ->aQ->aQ->aQ->ax->aQ->aQ->ax->az R
abbrev lz(R:Type):=ax->aW->ax->ax->aQ->aQ->aQ->aQ->ax->aQ->aQ->ax->aq->aq->ax->ax->ax->az R
abbrev me(R:Type):=aq->aW->ax->ax->aQ->aQ->aQ->aQ->ax->aQ->aQ->ax->aq->ax->ax->aq->az R
abbrev wq(R:Type):=aq->ax->ax->aq->aW->az R
abbrev yA(R:Type):=ax->aq->ax->ax->az R
abbrev DW(R:Type):=ax->aq->ax->az R
abbrev tV(R:Type):=ax->ax->ax->ax->aQ->az R
abbrev Fc(R:Type):=aq->ax->ax->ax->aQ->az R
abbrev yC(R:Type):=aQ->aq->ax->aQ->az R
abbrev Ff(R:Type):=aq->ax->ax->aQ->ax->az R
abbrev LW(R:Type):=aQ->aQ->aQ->ax->aq->az R
abbrev kS(R:Type):=aQ->ax->ax->aq->ax->ax->ax->aq->ax->aQ->az R
abbrev gv(R:Type):=aq->aW->ax->ax->aQ->aQ->aQ->aQ->ax->aQ->aQ->ax->ax->ax->ax->ax->ax->ax->ax->aq->ax->ax->ax->aq->ax->aQ->aQ->aQ->aQ->aQ->aQ->az R
abbrev iK(R:Type):=ax->aq->ax->ax->ax->aQ->aQ->aQ->aQ->ax->aQ->aQ->ax->ax->ax->ax->ax->ax->ax->aQ->aQ->aQ->aQ->aQ->aQ->az R
abbrev wm(R:Type):=ax->aQ->aQ->aQ->aQ->ax->aQ->aQ->ax->ax->az R
abbrev LU(R:Type):=ax->aq->aQ->az R
abbrev E4(R:Type):=aW->ax->ax->aq->aQ->az R
abbrev E7(R:Type):=ax->aq->aQ->aW->az R
abbrev jC(R:Type):=ax->ax->ax->ax->ax->ax->aQ->aQ->aQ->aQ->aQ->aQ->az R
abbrev kQ(R:Type):=ax->aQ->aQ->aQ->aQ->ax->aQ->aQ->ax->aW->az R
abbrev oI(R:Type):=aQ->ax->aq->ax->ax->aq->aQ->az R
abbrev JX(R:Type):=ax->aQ->az R
abbrev yD(R:Type):=aq->aW->az R
abbrev HE(R:Type):=aQ->aW->az R
abbrev Qm(R:Type):=aW->ax->aQ->az R
abbrev mf(R:Type):=aq->ax->ax->aQ->az R
abbrev lK(R:Type):=ax->aQ->aq->aq->ax->aQ->az R
abbrev qR(R:Type):=ax->aQ->aq->aq->ax->az R
abbrev u6(R:Type):=aq->ax->aQ->az R
abbrev vx(R:Type):=aq->ax->aQ->aQ->az R
abbrev yB(R:Type):=aQ->ax->ax->aQ->az R
abbrev nS(R:Type):=ax->ax->aQ->aQ->aQ->aQ->ax->aQ->aQ->ax->aQ->aQ->aQ->az R
abbrev i_(R:Type):=ax->ax->ax->aQ->aQ->aQ->aQ->ax->aQ->aQ->ax->ax->ax->ax->ax->ax->ax->aQ->aQ->aQ->aQ->aQ->aQ->az R
abbrev Bw(R:Type):=aQ->ax->aQ->az R
abbrev vu(R:Type):=aQ->ax->aQ->aQ->az R
abbrev vv(R:Type):=aq->ax->ax->ax->aW->ax->ax->ax->az R
abbrev LS(R:Type):=ax->ax->aW->az R
abbrev LX(R:Type):=aq->ax->aW->az R
abbrev Qo(R:Type):=ax->aQ->aQ->az R
abbrev AL(R:Type):=aQ->aW->aq->ax->aQ->az R
abbrev HF(R:Type):=aQ->aW->aq->ax->aQ->aQ->az R
abbrev mI(R:Type):=ax->aQ->ax->ax->ax->ax->ax->ax->ax->aQ->aQ->aQ->aQ->aQ->aQ->az R
abbrev ix(R:Type):=ax->ax->ax->ax->aQ->aQ->aQ->aQ->aQ->aQ->aQ->aQ->aQ->aQ->aQ->az R
abbrev mJ(R:Type):=ax->aQ->aQ->aQ->aQ->ax->aQ->aQ->ax->aQ->aQ->aQ->az R
abbrev kq(R:Type):=ax->ax->aQ->ax->ax->ax->ax->ax->aQ->aQ->aQ->aQ->aQ->aQ->aQ->aQ->aQ->aQ->az R
abbrev adE(R:Type):=aQ->aQ->ax->ax->az R
abbrev kR(R:Type):=aQ->ax->ax->ax->ax->az R
abbrev oQ(R:Type):=aQ->ax->ax->ax->ax->aQ->az R
abbrev Fa(R:Type):=aQ->ax->aQ->ax->ax->az R
abbrev hZ(R:Type):=aQ->aq->ax->ax->ax->az R
abbrev qP(R:Type):=aW->aQ->aQ->ax->ax->aQ->ax->ax->aQ->ax->az R
abbrev Bs(R:Type):=aW->aQ->ax->ax->aQ->ax->az R
abbrev vp(R:Type):=aW->ax->ax->aQ->aQ->aQ->ax->aQ->az R
abbrev eP(R:Type):=aW->aQ->ax->ax->ax->aQ->aQ->aQ->aQ->ax->aQ->aQ->ax->az R
abbrev pV(R:Type):=aQ->ax->aq->ax->ax->ax->aq->ax->ax->ax->ax->az R
abbrev vq(R:Type):=aE->ax->ax->ax->ax->ax->ax->aQ->az R
abbrev Bz(R:Type):=aq->ax->ax->ax->ax->aQ->az R
abbrev Fg(R:Type):=aq->ax->aQ->ax->ax->az R
abbrev lA(R:Type):=ax->ax->ax->ax->ax->aq->ax->ax->ax->aq->ax->aQ->aQ->aQ->aQ->aQ->aQ->az R
abbrev yz(R:Type):=aW->aQ->ax->ax->ax->aq->aQ->az R
abbrev nR(R:Type):=ax->ax->ax->ax->ax->ax->ax->aQ->aQ->aQ->aQ->aQ->aQ->az R
abbrev Bu(R:Type):=ax->aq->ax->ax->aq->aQ->az R
abbrev E5(R:Type):=aW->aQ->ax->ax->aQ->az R
abbrev E_(R:Type):=ax->aq->aq->ax->aQ->az R
abbrev Bx(R:Type):=aQ->ax->aQ->ax->ax->aQ->az R
abbrev Ah(R:Type):=aW->ax->aQ->aQ->aQ->aQ->ax->aQ->aQ->ax->aQ->aQ->aQ->az R
abbrev Fb(R:Type):=aQ->aQ->ax->ax->aQ->az R
abbrev yE(R:Type):=aq->ax->ax->ax->aW->ax->ax->az R
abbrev JW(R:Type):=ax->ax->aQ->aQ->az R
abbrev Bt(R:Type):=aW->aq->aQ->ax->ax->aQ->az R
abbrev mc(R:Type):=ax->aQ->ax->ax->ax->ax->ax->ax->ax->ax->aQ->aQ->aQ->aQ->aQ->aQ->az R
abbrev mb(R:Type):=ax->ax->ax->ax->ax->aQ->aQ->aQ->aQ->aQ->aQ->aQ->aQ->aQ->aQ->aQ->az R
abbrev kA(R:Type):=aQ->ax->ax->ax->ax->ax->ax->ax->ax->aQ->aQ->aQ->aQ->aQ->aQ->aQ->aQ->aQ->az R
abbrev vt(R:Type):=aQ->aW->aQ->ax->ax->ax->ax->ax->az R
abbrev rV(R:Type):=ax->aQ->aQ->aQ->aQ->ax->aQ->aQ->ax->aQ->aQ->aQ->aW->az R
abbrev lB(R:Type):=aQ->ax->ax->ax->ax->ax->ax->ax->aQ->aQ->aQ->aQ->aQ->aQ->aQ->aQ->aQ->az R
abbrev Bv(R:Type):=aQ->aW->ax->ax->ax->ax->az R
abbrev qm(R:Type):=ax->ax->aQ->ax->ax->aQ->az R
abbrev DX(R:Type):=aq->ax->ax->aq->aQ->ax->ax->az R
abbrev qS(R:Type):=aQ->aQ->aW->ax->az R
abbrev Br(R:Type):=aW->ax->aQ->ax->aQ->ax->az R
abbrev fM(R:Type):=aW->ax->ax->aQ->aQ->aQ->aQ->ax->aQ->aQ->ax->ax->aQ->aQ->aQ->aQ->ax->aQ->aQ->ax->az R

namespace U8
def b(kr:aW->az R)(a:aQ):az R:=kr (decide ((a.length:ax)>1048576))
def v(a0:aQ):aW:=(decide ((a0.length:ax)>1048576))
theorem eh(kr:aW->az R)(a0:aQ):b kr a0=kr (v a0):=by first|rfl|(unfold b v;simp only[cz];(repeat' split)<;>rfl)
end U8

namespace Kc
def r3(N:aE)(g k0:LV R)(a:aQ)(d e:ax):az R:=bif decide (e<(a.length:ax))then bif decide (e<4000)then bif decide (0<=e)&&decide (e<(a.length:ax))then g a (bH (↑(dW (jo (b9 64 (bH (bH (bH (d*131)+bH (bI (ar a e.toNat 0)))+7))) (b9 64 1073741823))):ax)) (bH (e+1))else aj else k0 a d e else k0 a d e
def l3(N:aE)(k0:LV R):aE->LV R
 |0=>λ_ _ _=>aj
 |n+1=>r3 N (l3 N k0 n) k0
def b(N:aE)(kr:LV R)(a:aQ):az R:=l3 N (λd e _=>kr d 0 e) N a (bH (34901+(a.length:ax))) 0
def vo:=b Lib.cU λr0 r1 r2=>ah (r0,r1,r2)
def c:=λa=>(vo a).isSome
def v:=λa=>(vo a).getD ([],0,0)
theorem out{x}:∀a,vo a=ah x->c a=ai/\v a=x:=λ_=>Lib.db
end Kc

namespace Gb
def r3(N:aE)(g:pI R)(g1:iS R)(k0:pI R)(k1:iS R)(a d e:ax):az R:=bif decide (a<3)then g1 (bH (a+1)) d e ([]++aA (aN [Ck.l 3] 1) 0 [CV.l 3 (aN [Ck.i ao] (aZ 16))])else k0 a d e
def zw(N:aE)(g:pI R)(g1:iS R)(k0:pI R)(k1:iS R)(a d e:ax)(f:aQ):az R:=bif decide (a<3)then bif cg (f.length+(aA (aN [Ck.l 3] 1) 0 [CV.l 3 (aN [Ck.i ao] (aZ 16))]).length) 24 then g1 (bH (a+1)) d e (f++aA (aN [Ck.l 3] 1) 0 [CV.l 3 (aN [Ck.i ao] (aZ 16))])else aj else k1 a d e f
def sE(N:aE)(k0:pI R)(k1:iS R):aE->iS R
 |0=>λ_ _ _ _=>aj
 |n+1=>zw N (λx0 x1 x2=>aj) (sE N k0 k1 n) k0 k1
def l3(N:aE)(k0:pI R)(k1:iS R):aE->pI R
 |0=>λ_ _ _=>aj
 |n+1=>r3 N (l3 N k0 k1 n) (sE N k0 k1 n) k0 k1
def b(N:aE)(kr:Dd R):az R:=l3 N (λ_ _ a=>kr [] a) (λ_ _ a d=>kr d a) N 0 0 0
def vo:=b Lib.cU λr0 r1=>ah (r0,r1)
def c:=vo.isSome
def v:=vo.getD ([],0)
end Gb

namespace Wu
def b(kr:sP R):az R:=kr [] [] ([]++aA (aN [Ck.l 3] 1) 0 [CV.l 3 (aN [Ck.i ao] (aZ 16))]++aA (aN [Ck.l 3] 1) 0 [CV.l 3 (aN [Ck.i ao] (aZ 16))]++aA (aN [Ck.l 3] 1) 0 [CV.l 3 (aN [Ck.i ao] (aZ 16))]) 0
def v:aQ×aQ×aQ×ax:=([],[],[]++aA (aN [Ck.l 3] 1) 0 [CV.l 3 (aN [Ck.i ao] (aZ 16))]++aA (aN [Ck.l 3] 1) 0 [CV.l 3 (aN [Ck.i ao] (aZ 16))]++aA (aN [Ck.l 3] 1) 0 [CV.l 3 (aN [Ck.i ao] (aZ 16))],0)
theorem eh(kr:sP R):b kr=kr v.1 v.2.1 v.2.2.1 v.2.2.2:=by first|rfl|(unfold b v;simp only[cz];(repeat' split)<;>rfl)
end Wu

namespace U57
def b(kr:eM R):az R:=kr 1 [] [] [] ([]++aA (aN [Ck.l 3] 1) 0 [CV.l 3 (aN [Ck.i ao] (aZ 16))]++aA (aN [Ck.l 3] 1) 0 [CV.l 3 (aN [Ck.i ao] (aZ 16))]++aA (aN [Ck.l 3] 1) 0 [CV.l 3 (aN [Ck.i ao] (aZ 16))]) 0 [] [] 0
def v:ax×aQ×aQ×aQ×aQ×ax×aQ×aQ×ax:=(1,[],[],[],[]++aA (aN [Ck.l 3] 1) 0 [CV.l 3 (aN [Ck.i ao] (aZ 16))]++aA (aN [Ck.l 3] 1) 0 [CV.l 3 (aN [Ck.i ao] (aZ 16))]++aA (aN [Ck.l 3] 1) 0 [CV.l 3 (aN [Ck.i ao] (aZ 16))],0,[],[],0)
theorem eh(kr:eM R):b kr=kr v.1 v.2.1 v.2.2.1 v.2.2.2.1 v.2.2.2.2.1 v.2.2.2.2.2.1 v.2.2.2.2.2.2.1 v.2.2.2.2.2.2.2.1 v.2.2.2.2.2.2.2.2:=by first|rfl|(unfold b v;simp only[cz];(repeat' split)<;>rfl)
end U57

namespace dm
def b(kr:Qn R)(a:aQ)(d e:ax):az R:=bif decide (d<(a.length:ax))then bif decide (0<=d)&&decide (d<(a.length:ax))then kr (bH (↑(dW (jo (b9 64 (bH (bH (↑(dW (jo (b9 64 (bH (↑(dW (ma (b9 64 (ll (bH (bH (e*6364136223846793005)+1442695040888963407)) (gY 2 (if aZ 33<=64 then aZ 33 else 64)))) (b9 64 (ll (bH (bH (e*6364136223846793005)+1442695040888963407)) (gY 2 (if aZ 45<=64 then aZ 45 else 64)))))):ax))) (b9 64 255))):ax)+bH (bI (ar a d.toNat 0))))) (b9 64 255))):ax)) a (bH (d+1)) (bH (bH (e*6364136223846793005)+1442695040888963407))else aj else kr (bH (↑(dW (jo (b9 64 (bH (↑(dW (ma (b9 64 (ll (bH (bH (e*6364136223846793005)+1442695040888963407)) (gY 2 (if aZ 33<=64 then aZ 33 else 64)))) (b9 64 (ll (bH (bH (e*6364136223846793005)+1442695040888963407)) (gY 2 (if aZ 45<=64 then aZ 45 else 64)))))):ax))) (b9 64 255))):ax)) a d (bH (bH (e*6364136223846793005)+1442695040888963407))
def vo:=b λr0 r1 r2 r3=>ah (r0,r1,r2,r3)
def c:=λa d e=>(vo a d e).isSome
def v:=λa d e=>(vo a d e).getD (0,[],0,0)
theorem out{x}:∀a d e,vo a d e=ah x->c a d e=ai/\v a d e=x:=λ_ _ _=>Lib.db
end dm

namespace kP
def b(kr:Qn R)(a:aQ)(d e f:ax):az R:=bif decide (f<=0)then kr 0 a d e else bif decide (f<=256)then bif dm.c a d e then bif !decide (f=0)then kr (cK (dm.v a d e).1 f) (dm.v a d e).2.1 (dm.v a d e).2.2.1 (dm.v a d e).2.2.2 else aj else aj else bif dm.c a d e then bif dm.c (dm.v a d e).2.1 (dm.v a d e).2.2.1 (dm.v a d e).2.2.2 then bif dm.c (dm.v (dm.v a d e).2.1 (dm.v a d e).2.2.1 (dm.v a d e).2.2.2).2.1 (dm.v (dm.v a d e).2.1 (dm.v a d e).2.2.1 (dm.v a d e).2.2.2).2.2.1 (dm.v (dm.v a d e).2.1 (dm.v a d e).2.2.1 (dm.v a d e).2.2.2).2.2.2 then bif dm.c (dm.v (dm.v (dm.v a d e).2.1 (dm.v a d e).2.2.1 (dm.v a d e).2.2.2).2.1 (dm.v (dm.v a d e).2.1 (dm.v a d e).2.2.1 (dm.v a d e).2.2.2).2.2.1 (dm.v (dm.v a d e).2.1 (dm.v a d e).2.2.1 (dm.v a d e).2.2.2).2.2.2).2.1 (dm.v (dm.v (dm.v a d e).2.1 (dm.v a d e).2.2.1 (dm.v a d e).2.2.2).2.1 (dm.v (dm.v a d e).2.1 (dm.v a d e).2.2.1 (dm.v a d e).2.2.2).2.2.1 (dm.v (dm.v a d e).2.1 (dm.v a d e).2.2.1 (dm.v a d e).2.2.2).2.2.2).2.2.1 (dm.v (dm.v (dm.v a d e).2.1 (dm.v a d e).2.2.1 (dm.v a d e).2.2.2).2.1 (dm.v (dm.v a d e).2.1 (dm.v a d e).2.2.1 (dm.v a d e).2.2.2).2.2.1 (dm.v (dm.v a d e).2.1 (dm.v a d e).2.2.1 (dm.v a d e).2.2.2).2.2.2).2.2.2 then bif !decide (f=0)then kr (cK (bH (bH (bH (bH ((dm.v a d e).1*16777216)+bH ((dm.v (dm.v a d e).2.1 (dm.v a d e).2.2.1 (dm.v a d e).2.2.2).1*65536))+bH ((dm.v (dm.v (dm.v a d e).2.1 (dm.v a d e).2.2.1 (dm.v a d e).2.2.2).2.1 (dm.v (dm.v a d e).2.1 (dm.v a d e).2.2.1 (dm.v a d e).2.2.2).2.2.1 (dm.v (dm.v a d e).2.1 (dm.v a d e).2.2.1 (dm.v a d e).2.2.2).2.2.2).1*256))+(dm.v (dm.v (dm.v (dm.v a d e).2.1 (dm.v a d e).2.2.1 (dm.v a d e).2.2.2).2.1 (dm.v (dm.v a d e).2.1 (dm.v a d e).2.2.1 (dm.v a d e).2.2.2).2.2.1 (dm.v (dm.v a d e).2.1 (dm.v a d e).2.2.1 (dm.v a d e).2.2.2).2.2.2).2.1 (dm.v (dm.v (dm.v a d e).2.1 (dm.v a d e).2.2.1 (dm.v a d e).2.2.2).2.1 (dm.v (dm.v a d e).2.1 (dm.v a d e).2.2.1 (dm.v a d e).2.2.2).2.2.1 (dm.v (dm.v a d e).2.1 (dm.v a d e).2.2.1 (dm.v a d e).2.2.2).2.2.2).2.2.1 (dm.v (dm.v (dm.v a d e).2.1 (dm.v a d e).2.2.1 (dm.v a d e).2.2.2).2.1 (dm.v (dm.v a d e).2.1 (dm.v a d e).2.2.1 (dm.v a d e).2.2.2).2.2.1 (dm.v (dm.v a d e).2.1 (dm.v a d e).2.2.1 (dm.v a d e).2.2.2).2.2.2).2.2.2).1)) f) (dm.v (dm.v (dm.v (dm.v a d e).2.1 (dm.v a d e).2.2.1 (dm.v a d e).2.2.2).2.1 (dm.v (dm.v a d e).2.1 (dm.v a d e).2.2.1 (dm.v a d e).2.2.2).2.2.1 (dm.v (dm.v a d e).2.1 (dm.v a d e).2.2.1 (dm.v a d e).2.2.2).2.2.2).2.1 (dm.v (dm.v (dm.v a d e).2.1 (dm.v a d e).2.2.1 (dm.v a d e).2.2.2).2.1 (dm.v (dm.v a d e).2.1 (dm.v a d e).2.2.1 (dm.v a d e).2.2.2).2.2.1 (dm.v (dm.v a d e).2.1 (dm.v a d e).2.2.1 (dm.v a d e).2.2.2).2.2.2).2.2.1 (dm.v (dm.v (dm.v a d e).2.1 (dm.v a d e).2.2.1 (dm.v a d e).2.2.2).2.1 (dm.v (dm.v a d e).2.1 (dm.v a d e).2.2.1 (dm.v a d e).2.2.2).2.2.1 (dm.v (dm.v a d e).2.1 (dm.v a d e).2.2.1 (dm.v a d e).2.2.2).2.2.2).2.2.2).2.1 (dm.v (dm.v (dm.v (dm.v a d e).2.1 (dm.v a d e).2.2.1 (dm.v a d e).2.2.2).2.1 (dm.v (dm.v a d e).2.1 (dm.v a d e).2.2.1 (dm.v a d e).2.2.2).2.2.1 (dm.v (dm.v a d e).2.1 (dm.v a d e).2.2.1 (dm.v a d e).2.2.2).2.2.2).2.1 (dm.v (dm.v (dm.v a d e).2.1 (dm.v a d e).2.2.1 (dm.v a d e).2.2.2).2.1 (dm.v (dm.v a d e).2.1 (dm.v a d e).2.2.1 (dm.v a d e).2.2.2).2.2.1 (dm.v (dm.v a d e).2.1 (dm.v a d e).2.2.1 (dm.v a d e).2.2.2).2.2.2).2.2.1 (dm.v (dm.v (dm.v a d e).2.1 (dm.v a d e).2.2.1 (dm.v a d e).2.2.2).2.1 (dm.v (dm.v a d e).2.1 (dm.v a d e).2.2.1 (dm.v a d e).2.2.2).2.2.1 (dm.v (dm.v a d e).2.1 (dm.v a d e).2.2.1 (dm.v a d e).2.2.2).2.2.2).2.2.2).2.2.1 (dm.v (dm.v (dm.v (dm.v a d e).2.1 (dm.v a d e).2.2.1 (dm.v a d e).2.2.2).2.1 (dm.v (dm.v a d e).2.1 (dm.v a d e).2.2.1 (dm.v a d e).2.2.2).2.2.1 (dm.v (dm.v a d e).2.1 (dm.v a d e).2.2.1 (dm.v a d e).2.2.2).2.2.2).2.1 (dm.v (dm.v (dm.v a d e).2.1 (dm.v a d e).2.2.1 (dm.v a d e).2.2.2).2.1 (dm.v (dm.v a d e).2.1 (dm.v a d e).2.2.1 (dm.v a d e).2.2.2).2.2.1 (dm.v (dm.v a d e).2.1 (dm.v a d e).2.2.1 (dm.v a d e).2.2.2).2.2.2).2.2.1 (dm.v (dm.v (dm.v a d e).2.1 (dm.v a d e).2.2.1 (dm.v a d e).2.2.2).2.1 (dm.v (dm.v a d e).2.1 (dm.v a d e).2.2.1 (dm.v a d e).2.2.2).2.2.1 (dm.v (dm.v a d e).2.1 (dm.v a d e).2.2.1 (dm.v a d e).2.2.2).2.2.2).2.2.2).2.2.2 else aj else aj else aj else aj else aj
def vo:=b λr0 r1 r2 r3=>ah (r0,r1,r2,r3)
def c:=λa d e f=>(vo a d e f).isSome
def v:=λa d e f=>(vo a d e f).getD (0,[],0,0)
theorem out{x}:∀a d e f,vo a d e f=ah x->c a d e f=ai/\v a d e f=x:=λ_ _ _ _=>Lib.db
end kP

namespace sC
def b(kr:We R)(a:aQ)(d e:ax)(f:aQ):az R:=bif kP.c a d e (f.length:ax)then bif decide (0<=(kP.v a d e (f.length:ax)).1)&&decide ((kP.v a d e (f.length:ax)).1<(f.length:ax))then kr (bI (ar f (kP.v a d e (f.length:ax)).1.toNat 0)) (kP.v a d e (f.length:ax)).2.1 (kP.v a d e (f.length:ax)).2.2.1 (kP.v a d e (f.length:ax)).2.2.2 f else aj else aj
def vo:=b λr0 r1 r2 r3 r4=>ah (r0,r1,r2,r3,r4)
def c:=λa d e f=>(vo a d e f).isSome
def v:=λa d e f=>(vo a d e f).getD (0,[],0,0,[])
theorem out{x}:∀a d e f,vo a d e f=ah x->c a d e f=ai/\v a d e f=x:=λ_ _ _ _=>Lib.db
end sC

namespace nT
def b(kr:Wf R)(a:aQ)(d e:ax)(f:aQ):az R:=bif kP.c a d e (f.length:ax)then bif decide (0<=(kP.v a d e (f.length:ax)).1)&&decide ((kP.v a d e (f.length:ax)).1<(f.length:ax))then kr (bn (ar f (kP.v a d e (f.length:ax)).1.toNat 0)) (kP.v a d e (f.length:ax)).2.1 (kP.v a d e (f.length:ax)).2.2.1 (kP.v a d e (f.length:ax)).2.2.2 f else aj else aj
def vo:=b λr0 r1 r2 r3 r4=>ah (r0,r1,r2,r3,r4)
def c:=λa d e f=>(vo a d e f).isSome
def v:=λa d e f=>(vo a d e f).getD (⟨#[]⟩,[],0,0,[])
theorem out{x}:∀a d e f,vo a d e f=ah x->c a d e f=ai/\v a d e f=x:=λ_ _ _ _=>Lib.db
end nT

namespace rk
def b(kr:Qp R)(a:aQ)(d e:ax):az R:=bif nT.c a d e (aA (aA (aA (aA (aA (aA (aA (aA (aN [.s] 8) 0 [.s {data:= #[aw 47,aw 97]}]) 1 [.s {data:= #[aw 47,aw 98]}]) 2 [.s {data:= #[aw 47,aw 99]}]) 3 [.s {data:= #[aw 47,aw 100]}]) 4 [.s {data:= #[aw 47,aw 101]}]) 5 [.s {data:= #[aw 47,aw 102]}]) 6 [.s {data:= #[aw 47,aw 103]}]) 7 [.s {data:= #[aw 47,aw 104]}])then kr (nT.v a d e (aA (aA (aA (aA (aA (aA (aA (aA (aN [.s] 8) 0 [.s {data:= #[aw 47,aw 97]}]) 1 [.s {data:= #[aw 47,aw 98]}]) 2 [.s {data:= #[aw 47,aw 99]}]) 3 [.s {data:= #[aw 47,aw 100]}]) 4 [.s {data:= #[aw 47,aw 101]}]) 5 [.s {data:= #[aw 47,aw 102]}]) 6 [.s {data:= #[aw 47,aw 103]}]) 7 [.s {data:= #[aw 47,aw 104]}])).1 (nT.v a d e (aA (aA (aA (aA (aA (aA (aA (aA (aN [.s] 8) 0 [.s {data:= #[aw 47,aw 97]}]) 1 [.s {data:= #[aw 47,aw 98]}]) 2 [.s {data:= #[aw 47,aw 99]}]) 3 [.s {data:= #[aw 47,aw 100]}]) 4 [.s {data:= #[aw 47,aw 101]}]) 5 [.s {data:= #[aw 47,aw 102]}]) 6 [.s {data:= #[aw 47,aw 103]}]) 7 [.s {data:= #[aw 47,aw 104]}])).2.1 (nT.v a d e (aA (aA (aA (aA (aA (aA (aA (aA (aN [.s] 8) 0 [.s {data:= #[aw 47,aw 97]}]) 1 [.s {data:= #[aw 47,aw 98]}]) 2 [.s {data:= #[aw 47,aw 99]}]) 3 [.s {data:= #[aw 47,aw 100]}]) 4 [.s {data:= #[aw 47,aw 101]}]) 5 [.s {data:= #[aw 47,aw 102]}]) 6 [.s {data:= #[aw 47,aw 103]}]) 7 [.s {data:= #[aw 47,aw 104]}])).2.2.1 (nT.v a d e (aA (aA (aA (aA (aA (aA (aA (aA (aN [.s] 8) 0 [.s {data:= #[aw 47,aw 97]}]) 1 [.s {data:= #[aw 47,aw 98]}]) 2 [.s {data:= #[aw 47,aw 99]}]) 3 [.s {data:= #[aw 47,aw 100]}]) 4 [.s {data:= #[aw 47,aw 101]}]) 5 [.s {data:= #[aw 47,aw 102]}]) 6 [.s {data:= #[aw 47,aw 103]}]) 7 [.s {data:= #[aw 47,aw 104]}])).2.2.2.1 else aj
def vo:=b λr0 r1 r2 r3=>ah (r0,r1,r2,r3)
def c:=λa d e=>(vo a d e).isSome
def v:=λa d e=>(vo a d e).getD (⟨#[]⟩,[],0,0)
theorem out{x}:∀a d e,vo a d e=ah x->c a d e=ai/\v a d e=x:=λ_ _ _=>Lib.db
end rk

namespace Ht
def b(kr:adD R)(a:aQ)(d e f:ax):az R:=bif kP.c a d e f then kr (decide ((kP.v a d e f).1=0)) (kP.v a d e f).2.1 (kP.v a d e f).2.2.1 (kP.v a d e f).2.2.2 else aj
def vo:=b λr0 r1 r2 r3=>ah (r0,r1,r2,r3)
def c:=λa d e f=>(vo a d e f).isSome
def v:=λa d e f=>(vo a d e f).getD (ak,[],0,0)
theorem out{x}:∀a d e f,vo a d e f=ah x->c a d e f=ai/\v a d e f=x:=λ_ _ _ _=>Lib.db
end Ht

namespace Ke
def r4(N:aE)(g k0:gX R)(a d e f:ax)(h:aQ)(i j:ax)(l m o p q r s t u:aQ)(w y z α xa:ax)(xb:aq)(xc xd xe:ax)(xf:aq)(xg:ax)(xh:aQ):az R:=bif decide (f<(q.length:ax))then bif decide (0<=f)&&decide (f<(q.length:ax))then bif decide (bI (ar q f.toNat 2)=1)then bif cg (xh.length+(aA (aN [Ck.i ao] 1) 0 [.i .i64 f]).length) 8 then g a d e (bH (f+1)) h i j l m o p q r s t u w y z α xa xb xc xd xe xf xg (xh++aA (aN [Ck.i ao] 1) 0 [.i .i64 f])else aj else g a d e (bH (f+1)) h i j l m o p q r s t u w y z α xa xb xc xd xe xf xg xh else aj else k0 a d e f h i j l m o p q r s t u w y z α xa xb xc xd xe xf xg xh
def l4(N:aE)(k0:gX R):aE->gX R
 |0=>λ_ _ _ _ _ _ _ _ _ _ _ _ _ _ _ _ _ _ _ _ _ _ _ _ _ _ _ _=>aj
 |n+1=>r4 N (l4 N k0 n) k0
abbrev h0{R:Type}(kr:iG R)(w:aQ)(y z:ax)(α xa xb xc xd xe xf xg xh:aQ)(xi:ax)(xk:aq)(xl:ax)(xm:aQ):az R:=bif kP.c w y z 3 then Lib.lt (kP.v w y z 3) λxn=>bif decide ((xm.length:ax)>0)then bif Ht.c xn.2.1 xn.2.2.1 xn.2.2.2 6 then Lib.lt (Ht.v xn.2.1 xn.2.2.1 xn.2.2.2 6) λxo=>bif !xo.1 then bif kP.c xo.2.1 xo.2.2.1 xo.2.2.2 (xm.length:ax)then Lib.lt (kP.v xo.2.1 xo.2.2.1 xo.2.2.2 (xm.length:ax)) λxp=>bif decide (0<=xp.1)&&decide (xp.1<(xm.length:ax))then bif decide (xi=2)then bif nT.c xp.2.1 xp.2.2.1 xp.2.2.2 (aA (aA (aA (aA (aN [.s] 4) 0 [.s {data:= #[aw 120]}]) 1 [.s {data:= #[aw 104,aw 101,aw 108,aw 108,aw 111]}]) 2 [.s {data:= #[aw 109,aw 111,aw 114,aw 101,aw 32]}]) 3 [.s {data:= #[aw 48,aw 49,aw 50,aw 51,aw 52,aw 53,aw 54,aw 55,aw 56,aw 57]}])then Lib.lt (nT.v xp.2.1 xp.2.2.1 xp.2.2.2 (aA (aA (aA (aA (aN [.s] 4) 0 [.s {data:= #[aw 120]}]) 1 [.s {data:= #[aw 104,aw 101,aw 108,aw 108,aw 111]}]) 2 [.s {data:= #[aw 109,aw 111,aw 114,aw 101,aw 32]}]) 3 [.s {data:= #[aw 48,aw 49,aw 50,aw 51,aw 52,aw 53,aw 54,aw 55,aw 56,aw 57]}])) λxq=>bif decide (xi=3)then bif sC.c xq.2.1 xq.2.2.1 xq.2.2.2.1 (aA (aA (aA (aA (aA (aN [Ck.i ao] 5) 0 [.i .i64 0]) 1 [.i .i64 3]) 2 [.i .i64 20]) 3 [.i .i64 60]) 4 [.i .i64 60])then Lib.lt (sC.v xq.2.1 xq.2.2.1 xq.2.2.2.1 (aA (aA (aA (aA (aA (aN [Ck.i ao] 5) 0 [.i .i64 0]) 1 [.i .i64 3]) 2 [.i .i64 20]) 3 [.i .i64 60]) 4 [.i .i64 60])) λxr=>kr xi (bI (ar xm xp.1.toNat 0)) xq.1 xr.1 [] xr.2.1 xr.2.2.1 xr.2.2.2.1 α xa xb xc xd xe xf xg xh else aj else kr xi (bI (ar xm xp.1.toNat 0)) xq.1 xl [] xq.2.1 xq.2.2.1 xq.2.2.2.1 α xa xb xc xd xe xf xg xh else aj else bif decide (xi=3)then bif sC.c xp.2.1 xp.2.2.1 xp.2.2.2 (aA (aA (aA (aA (aA (aN [Ck.i ao] 5) 0 [.i .i64 0]) 1 [.i .i64 3]) 2 [.i .i64 20]) 3 [.i .i64 60]) 4 [.i .i64 60])then Lib.lt (sC.v xp.2.1 xp.2.2.1 xp.2.2.2 (aA (aA (aA (aA (aA (aN [Ck.i ao] 5) 0 [.i .i64 0]) 1 [.i .i64 3]) 2 [.i .i64 20]) 3 [.i .i64 60]) 4 [.i .i64 60])) λxq=>kr xi (bI (ar xm xp.1.toNat 0)) xk xq.1 [] xq.2.1 xq.2.2.1 xq.2.2.2.1 α xa xb xc xd xe xf xg xh else aj else kr xi (bI (ar xm xp.1.toNat 0)) xk xl [] xp.2.1 xp.2.2.1 xp.2.2.2 α xa xb xc xd xe xf xg xh else aj else aj else bif decide (xi=2)then bif nT.c xo.2.1 xo.2.2.1 xo.2.2.2 (aA (aA (aA (aA (aN [.s] 4) 0 [.s {data:= #[aw 120]}]) 1 [.s {data:= #[aw 104,aw 101,aw 108,aw 108,aw 111]}]) 2 [.s {data:= #[aw 109,aw 111,aw 114,aw 101,aw 32]}]) 3 [.s {data:= #[aw 48,aw 49,aw 50,aw 51,aw 52,aw 53,aw 54,aw 55,aw 56,aw 57]}])then Lib.lt (nT.v xo.2.1 xo.2.2.1 xo.2.2.2 (aA (aA (aA (aA (aN [.s] 4) 0 [.s {data:= #[aw 120]}]) 1 [.s {data:= #[aw 104,aw 101,aw 108,aw 108,aw 111]}]) 2 [.s {data:= #[aw 109,aw 111,aw 114,aw 101,aw 32]}]) 3 [.s {data:= #[aw 48,aw 49,aw 50,aw 51,aw 52,aw 53,aw 54,aw 55,aw 56,aw 57]}])) λxp=>bif decide (xi=3)then bif sC.c xp.2.1 xp.2.2.1 xp.2.2.2.1 (aA (aA (aA (aA (aA (aN [Ck.i ao] 5) 0 [.i .i64 0]) 1 [.i .i64 3]) 2 [.i .i64 20]) 3 [.i .i64 60]) 4 [.i .i64 60])then Lib.lt (sC.v xp.2.1 xp.2.2.1 xp.2.2.2.1 (aA (aA (aA (aA (aA (aN [Ck.i ao] 5) 0 [.i .i64 0]) 1 [.i .i64 3]) 2 [.i .i64 20]) 3 [.i .i64 60]) 4 [.i .i64 60])) λxq=>kr xi xn.1 xp.1 xq.1 [] xq.2.1 xq.2.2.1 xq.2.2.2.1 α xa xb xc xd xe xf xg xh else aj else kr xi xn.1 xp.1 xl [] xp.2.1 xp.2.2.1 xp.2.2.2.1 α xa xb xc xd xe xf xg xh else aj else bif decide (xi=3)then bif sC.c xo.2.1 xo.2.2.1 xo.2.2.2 (aA (aA (aA (aA (aA (aN [Ck.i ao] 5) 0 [.i .i64 0]) 1 [.i .i64 3]) 2 [.i .i64 20]) 3 [.i .i64 60]) 4 [.i .i64 60])then Lib.lt (sC.v xo.2.1 xo.2.2.1 xo.2.2.2 (aA (aA (aA (aA (aA (aN [Ck.i ao] 5) 0 [.i .i64 0]) 1 [.i .i64 3]) 2 [.i .i64 20]) 3 [.i .i64 60]) 4 [.i .i64 60])) λxp=>kr xi xn.1 xk xp.1 [] xp.2.1 xp.2.2.1 xp.2.2.2.1 α xa xb xc xd xe xf xg xh else aj else kr xi xn.1 xk xl [] xo.2.1 xo.2.2.1 xo.2.2.2 α xa xb xc xd xe xf xg xh else aj else bif decide (xi=2)then bif nT.c xn.2.1 xn.2.2.1 xn.2.2.2 (aA (aA (aA (aA (aN [.s] 4) 0 [.s {data:= #[aw 120]}]) 1 [.s {data:= #[aw 104,aw 101,aw 108,aw 108,aw 111]}]) 2 [.s {data:= #[aw 109,aw 111,aw 114,aw 101,aw 32]}]) 3 [.s {data:= #[aw 48,aw 49,aw 50,aw 51,aw 52,aw 53,aw 54,aw 55,aw 56,aw 57]}])then Lib.lt (nT.v xn.2.1 xn.2.2.1 xn.2.2.2 (aA (aA (aA (aA (aN [.s] 4) 0 [.s {data:= #[aw 120]}]) 1 [.s {data:= #[aw 104,aw 101,aw 108,aw 108,aw 111]}]) 2 [.s {data:= #[aw 109,aw 111,aw 114,aw 101,aw 32]}]) 3 [.s {data:= #[aw 48,aw 49,aw 50,aw 51,aw 52,aw 53,aw 54,aw 55,aw 56,aw 57]}])) λxo=>bif decide (xi=3)then bif sC.c xo.2.1 xo.2.2.1 xo.2.2.2.1 (aA (aA (aA (aA (aA (aN [Ck.i ao] 5) 0 [.i .i64 0]) 1 [.i .i64 3]) 2 [.i .i64 20]) 3 [.i .i64 60]) 4 [.i .i64 60])then Lib.lt (sC.v xo.2.1 xo.2.2.1 xo.2.2.2.1 (aA (aA (aA (aA (aA (aN [Ck.i ao] 5) 0 [.i .i64 0]) 1 [.i .i64 3]) 2 [.i .i64 20]) 3 [.i .i64 60]) 4 [.i .i64 60])) λxp=>kr xi xn.1 xo.1 xp.1 [] xp.2.1 xp.2.2.1 xp.2.2.2.1 α xa xb xc xd xe xf xg xh else aj else kr xi xn.1 xo.1 xl [] xo.2.1 xo.2.2.1 xo.2.2.2.1 α xa xb xc xd xe xf xg xh else aj else bif decide (xi=3)then bif sC.c xn.2.1 xn.2.2.1 xn.2.2.2 (aA (aA (aA (aA (aA (aN [Ck.i ao] 5) 0 [.i .i64 0]) 1 [.i .i64 3]) 2 [.i .i64 20]) 3 [.i .i64 60]) 4 [.i .i64 60])then Lib.lt (sC.v xn.2.1 xn.2.2.1 xn.2.2.2 (aA (aA (aA (aA (aA (aN [Ck.i ao] 5) 0 [.i .i64 0]) 1 [.i .i64 3]) 2 [.i .i64 20]) 3 [.i .i64 60]) 4 [.i .i64 60])) λxo=>kr xi xn.1 xk xo.1 [] xo.2.1 xo.2.2.1 xo.2.2.2.1 α xa xb xc xd xe xf xg xh else aj else kr xi xn.1 xk xl [] xn.2.1 xn.2.2.1 xn.2.2.2 α xa xb xc xd xe xf xg xh else aj
abbrev h1{R:Type}(kr:iG R)(w:aQ)(y z:ax)(α xa xb xc xd xe xf xg xh:aQ)(xi xj:ax)(xk:aq)(xl:ax):az R:=bif decide (xi=5)then bif sC.c w y z (aA (aA (aA (aA (aN [Ck.i ao] 4) 0 [.i .i64 1]) 1 [.i .i64 2]) 2 [.i .i64 5]) 3 [.i .i64 30])then Lib.lt (sC.v w y z (aA (aA (aA (aA (aN [Ck.i ao] 4) 0 [.i .i64 1]) 1 [.i .i64 2]) 2 [.i .i64 5]) 3 [.i .i64 30])) λxn=>kr xi xj xk xn.1 [] xn.2.1 xn.2.2.1 xn.2.2.2.1 α xa xb xc xd xe xf xg xh else aj else bif decide (xi=6)then bif kP.c w y z 9 then Lib.lt (kP.v w y z 9) λxn=>bif decide ((xe.length:ax)>0)then bif Ht.c xn.2.1 xn.2.2.1 xn.2.2.2 4 then Lib.lt (Ht.v xn.2.1 xn.2.2.1 xn.2.2.2 4) λxo=>bif !xo.1 then bif kP.c xo.2.1 xo.2.2.1 xo.2.2.2 (xe.length:ax)then Lib.lt (kP.v xo.2.1 xo.2.2.1 xo.2.2.2 (xe.length:ax)) λxp=>bif decide (0<=xp.1)&&decide (xp.1<(xe.length:ax))then kr xi (bI (ar xe xp.1.toNat 0)) xk xl [] xp.2.1 xp.2.2.1 xp.2.2.2 α xa xb xc xd xe xf xg xh else aj else aj else kr xi (bH (1+xn.1)) xk xl [] xo.2.1 xo.2.2.1 xo.2.2.2 α xa xb xc xd xe xf xg xh else aj else kr xi (bH (1+xn.1)) xk xl [] xn.2.1 xn.2.2.1 xn.2.2.2 α xa xb xc xd xe xf xg xh else aj else kr xi xj xk xl [] w y z α xa xb xc xd xe xf xg xh
abbrev h2{R:Type}(kr:iG R)(w:aQ)(y z:ax)(α xa xb xc xd xe xf xg xh:aQ)(xk:aq)(xl:ax):az R:=bif kP.c w y z 9 then Lib.lt (kP.v w y z 9) λxn=>bif decide ((xe.length:ax)>0)then bif Ht.c xn.2.1 xn.2.2.1 xn.2.2.2 4 then Lib.lt (Ht.v xn.2.1 xn.2.2.1 xn.2.2.2 4) λxo=>bif !xo.1 then bif kP.c xo.2.1 xo.2.2.1 xo.2.2.2 (xe.length:ax)then Lib.lt (kP.v xo.2.1 xo.2.2.1 xo.2.2.2 (xe.length:ax)) λxp=>bif decide (0<=xp.1)&&decide (xp.1<(xe.length:ax))then kr 6 (bI (ar xe xp.1.toNat 0)) xk xl [] xp.2.1 xp.2.2.1 xp.2.2.2 α xa xb xc xd xe xf xg xh else aj else aj else kr 6 (bH (1+xn.1)) xk xl [] xo.2.1 xo.2.2.1 xo.2.2.2 α xa xb xc xd xe xf xg xh else aj else kr 6 (bH (1+xn.1)) xk xl [] xn.2.1 xn.2.2.1 xn.2.2.2 α xa xb xc xd xe xf xg xh else aj
abbrev h3{R:Type}(kr:iG R)(w:aQ)(y z:ax)(α xa xb xc xd xe xf xg xh:aQ)(xi xl:ax):az R:=bif kP.c w y z 9 then Lib.lt (kP.v w y z 9) λxn=>bif rk.c xn.2.1 xn.2.2.1 xn.2.2.2 then Lib.lt (rk.v xn.2.1 xn.2.2.1 xn.2.2.2) λxo=>kr xi (bH (1+xn.1)) xo.1 xl [] xo.2.1 xo.2.2.1 xo.2.2.2 α xa xb xc xd xe xf xg xh else aj else aj
def b(N:aE)(kr:iG R)(a:aQ)(d e f:ax)(h i j l:aQ)(m:ax)(o p:aQ)(q:ax)(r s t:aQ):az R:=bif sC.c a d e (aA (aA (aA (aA (aA (aA (aA (aA (aA (aA (aA (aA (aA (aA (aN [Ck.i ao] 14) 0 [.i .i64 1]) 1 [.i .i64 1]) 2 [.i .i64 1]) 3 [.i .i64 1]) 4 [.i .i64 2]) 5 [.i .i64 2]) 6 [.i .i64 2]) 7 [.i .i64 3]) 8 [.i .i64 3]) 9 [.i .i64 3]) 10 [.i .i64 4]) 11 [.i .i64 5]) 12 [.i .i64 6]) 13 [.i .i64 6])then Lib.lt (sC.v a d e (aA (aA (aA (aA (aA (aA (aA (aA (aA (aA (aA (aA (aA (aA (aN [Ck.i ao] 14) 0 [.i .i64 1]) 1 [.i .i64 1]) 2 [.i .i64 1]) 3 [.i .i64 1]) 4 [.i .i64 2]) 5 [.i .i64 2]) 6 [.i .i64 2]) 7 [.i .i64 3]) 8 [.i .i64 3]) 9 [.i .i64 3]) 10 [.i .i64 4]) 11 [.i .i64 5]) 12 [.i .i64 6]) 13 [.i .i64 6])) λu=>l4 N (λ_ _ _ _ w y z α xa xb xc xd xe xf xg xh _ _ _ _ _ _ _ xi xj xk xl xm=>bif decide ((xm.length:ax)=0)then bif decide (xi=2)then bif decide ((xe.length:ax)≥6)then h2 kr w y z α xa xb xc xd xe xf xg xh xk xl else bif kP.c w y z 9 then Lib.lt (kP.v w y z 9) λxn=>bif rk.c xn.2.1 xn.2.2.1 xn.2.2.2 then Lib.lt (rk.v xn.2.1 xn.2.2.1 xn.2.2.2) λxo=>kr 1 (bH (1+xn.1)) xo.1 xl [] xo.2.1 xo.2.2.1 xo.2.2.2 α xa xb xc xd xe xf xg xh else aj else aj else bif decide (xi=3)then bif decide ((xe.length:ax)≥6)then h2 kr w y z α xa xb xc xd xe xf xg xh xk xl else bif kP.c w y z 9 then Lib.lt (kP.v w y z 9) λxn=>bif rk.c xn.2.1 xn.2.2.1 xn.2.2.2 then Lib.lt (rk.v xn.2.1 xn.2.2.1 xn.2.2.2) λxo=>kr 1 (bH (1+xn.1)) xo.1 xl [] xo.2.1 xo.2.2.1 xo.2.2.2 α xa xb xc xd xe xf xg xh else aj else aj else bif decide ((xe.length:ax)≥6)then bif decide (xi=1)then h2 kr w y z α xa xb xc xd xe xf xg xh xk xl else bif decide (xi=1)then h3 kr w y z α xa xb xc xd xe xf xg xh xi xl else bif decide (xi=2)then h0 kr w y z α xa xb xc xd xe xf xg xh xi xk xl xm else bif decide (xi=3)then h0 kr w y z α xa xb xc xd xe xf xg xh xi xk xl xm else bif decide (xi=4)then h0 kr w y z α xa xb xc xd xe xf xg xh xi xk xl xm else h1 kr w y z α xa xb xc xd xe xf xg xh xi xj xk xl else bif decide (xi=1)then h3 kr w y z α xa xb xc xd xe xf xg xh xi xl else bif decide (xi=2)then h0 kr w y z α xa xb xc xd xe xf xg xh xi xk xl xm else bif decide (xi=3)then h0 kr w y z α xa xb xc xd xe xf xg xh xi xk xl xm else bif decide (xi=4)then h0 kr w y z α xa xb xc xd xe xf xg xh xi xk xl xm else h1 kr w y z α xa xb xc xd xe xf xg xh xi xj xk xl else bif decide ((xe.length:ax)≥6)then bif decide (xi=1)then h2 kr w y z α xa xb xc xd xe xf xg xh xk xl else bif decide (xi=1)then h3 kr w y z α xa xb xc xd xe xf xg xh xi xl else bif decide (xi=2)then h0 kr w y z α xa xb xc xd xe xf xg xh xi xk xl xm else bif decide (xi=3)then h0 kr w y z α xa xb xc xd xe xf xg xh xi xk xl xm else bif decide (xi=4)then h0 kr w y z α xa xb xc xd xe xf xg xh xi xk xl xm else h1 kr w y z α xa xb xc xd xe xf xg xh xi xj xk xl else bif decide (xi=1)then h3 kr w y z α xa xb xc xd xe xf xg xh xi xl else bif decide (xi=2)then h0 kr w y z α xa xb xc xd xe xf xg xh xi xk xl xm else bif decide (xi=3)then h0 kr w y z α xa xb xc xd xe xf xg xh xi xk xl xm else bif decide (xi=4)then h0 kr w y z α xa xb xc xd xe xf xg xh xi xk xl xm else h1 kr w y z α xa xb xc xd xe xf xg xh xi xj xk xl) N f m q 0 u.2.1 u.2.2.1 u.2.2.2.1 h i j l o p r s t f m q 0 0 ⟨#[]⟩ 0 u.1 0 ⟨#[]⟩ 0 (aN [Ck.i ao] 0)else aj
def vo:=b Lib.cU λr0 r1 r2 r3 r4 r5 r6 r7 r8 r9 z7 wg Ps r13 r14 r15 r16=>ah (r0,r1,r2,r3,r4,r5,r6,r7,r8,r9,z7,wg,Ps,r13,r14,r15,r16)
def c:=λa d e f h i j l m o p q r s t=>(vo a d e f h i j l m o p q r s t).isSome
def v:=λa d e f h i j l m o p q r s t=>(vo a d e f h i j l m o p q r s t).getD (0,0,⟨#[]⟩,0,[],[],0,0,[],[],[],[],[],[],[],[],[])
theorem out{x}:∀a d e f h i j l m o p q r s t,vo a d e f h i j l m o p q r s t=ah x->c a d e f h i j l m o p q r s t=ai/\v a d e f h i j l m o p q r s t=x:=λ_ _ _ _ _ _ _ _ _ _ _ _ _ _ _=>Lib.db
end Ke

namespace nU
def r3(N:aE)(g:qQ R)(g1:oP R)(k0:qQ R)(k1:oP R)(a:ax)(d:aQ)(e f h:ax):az R:=bif decide (a<(d.length:ax))then bif decide (0<=a)&&decide (a<(d.length:ax))then bif cg ((aN [Ck.i ao] 0).length+(iR (ar d a.toNat 0)).length) 8 then g1 (bH (a+1)) d e f h ([]++aA (aN [Ck.l 3] 1) 0 [CV.l 3 (aN [Ck.i ao] 0++iR (ar d a.toNat 0))])else aj else aj else k0 a d e f h
def zw(N:aE)(g:qQ R)(g1:oP R)(k0:qQ R)(k1:oP R)(a:ax)(d:aQ)(e f h:ax)(i:aQ):az R:=bif decide (a<(d.length:ax))then bif decide (0<=a)&&decide (a<(d.length:ax))then bif cg ((aN [Ck.i ao] 0).length+(iR (ar d a.toNat 0)).length) 8 then bif cg (i.length+(aA (aN [Ck.l 3] 1) 0 [CV.l 3 (aN [Ck.i ao] 0++iR (ar d a.toNat 0))]).length) 24 then g1 (bH (a+1)) d e f h (i++aA (aN [Ck.l 3] 1) 0 [CV.l 3 (aN [Ck.i ao] 0++iR (ar d a.toNat 0))])else aj else aj else aj else k1 a d e f h i
def sE(N:aE)(k0:qQ R)(k1:oP R):aE->oP R
 |0=>λ_ _ _ _ _ _=>aj
 |n+1=>zw N (λx0 x1 x2 x3 x4=>aj) (sE N k0 k1 n) k0 k1
def l3(N:aE)(k0:qQ R)(k1:oP R):aE->qQ R
 |0=>λ_ _ _ _ _=>aj
 |n+1=>r3 N (l3 N k0 k1 n) (sE N k0 k1 n) k0 k1
def b(N:aE)(kr:Dd R)(a:aQ)(d:ax):az R:=l3 N (λ_ _ _ _ e=>kr [] e) (λ_ _ _ _ e f=>kr f e) N 0 a d 0 d
def vo:=b Lib.cU λr0 r1=>ah (r0,r1)
def c:=λa d=>(vo a d).isSome
def v:=λa d=>(vo a d).getD ([],0)
theorem out{x}:∀a d,vo a d=ah x->c a d=ai/\v a d=x:=λ_ _=>Lib.db
end nU

namespace gd
def b(kr:sP R)(a d e:aQ)(f:ax):az R:=bif cg ((aN [.s] 0).length+a.length) 16 then bif cg ((aN [.s] 0).length+d.length) 16 then bif nU.c e f then kr (aN [.s] 0++a) (aN [.s] 0++d) (nU.v e f).1 (nU.v e f).2 else aj else aj else aj
def vo:=b λr0 r1 r2 r3=>ah (r0,r1,r2,r3)
def c:=λa d e f=>(vo a d e f).isSome
def v:=λa d e f=>(vo a d e f).getD ([],[],[],0)
theorem out{x}:∀a d e f,vo a d e f=ah x->c a d e f=ai/\v a d e f=x:=λ_ _ _ _=>Lib.db
end gd

namespace fI
def b(kr:eM R)(a:ax)(d e f h:aQ)(i:ax)(j l:aQ)(m:ax):az R:=bif cg ((aN [Ck.s,Ck.i ao,Ck.i ao,Ck.s] 0).length+d.length) 48 then bif gd.c e f h i then bif cg ((aN [Ck.s,Ck.s,Ck.i ao,Ck.i ao,Ck.i ao] 0).length+j.length) 56 then bif cg ((aN [Ck.i ao,Ck.s,Ck.i ao,Ck.i ao,Ck.i ao,Ck.s,Ck.i ao] 0).length+l.length) 72 then kr a (aN [Ck.s,Ck.i ao,Ck.i ao,Ck.s] 0++d) (gd.v e f h i).1 (gd.v e f h i).2.1 (gd.v e f h i).2.2.1 (gd.v e f h i).2.2.2 (aN [Ck.s,Ck.s,Ck.i ao,Ck.i ao,Ck.i ao] 0++j) (aN [Ck.i ao,Ck.s,Ck.i ao,Ck.i ao,Ck.i ao,Ck.s,Ck.i ao] 0++l) m else aj else aj else aj else aj
def vo:=b λr0 r1 r2 r3 r4 r5 r6 r7 r8=>ah (r0,r1,r2,r3,r4,r5,r6,r7,r8)
def c:=λa d e f h i j l m=>(vo a d e f h i j l m).isSome
def v:=λa d e f h i j l m=>(vo a d e f h i j l m).getD (0,[],[],[],[],0,[],[],0)
theorem out{x}:∀a d e f h i j l m,vo a d e f h i j l m=ah x->c a d e f h i j l m=ai/\v a d e f h i j l m=x:=λ_ _ _ _ _ _ _ _ _=>Lib.db
end fI

namespace kj
def b(kr:aW->az R)(a d e:ax):az R:=bif decide (a≥d)then kr (decide (a<=e))else kr ak
def v(a0 a1 a2:ax):aW:=bif decide (a0≥a1)then decide (a0<=a2)else ak
theorem eh(kr:aW->az R)(a0 a1 a2:ax):b kr a0 a1 a2=kr (v a0 a1 a2):=by first|rfl|(unfold b v;simp only[cz];(repeat' split)<;>rfl)
end kj

namespace sQ
def b(kr:aW->az R)(a:aq):az R:=kr (kj.v (a.size:ax) 1 30)
def v(a0:aq):aW:=(kj.v (a0.size:ax) 1 30)
theorem eh(kr:aW->az R)(a0:aq):b kr a0=kr (v a0):=by first|rfl|(unfold b v;simp only[cz];(repeat' split)<;>rfl)
end sQ

namespace nk
def b(kr:aW->az R)(a:aq)(d e:ax)(f:aq):az R:=bif sQ.v a then bif kj.v d 0 1000000000 then bif kj.v e 1 999999 then kr (decide ((f.size:ax)<=400))else kr ak else kr ak else kr ak
def v(a0:aq)(a1 a2:ax)(a3:aq):aW:=bif sQ.v a0 then bif kj.v a1 0 1000000000 then bif kj.v a2 1 999999 then decide ((a3.size:ax)<=400)else ak else ak else ak
theorem eh(kr:aW->az R)(a0:aq)(a1 a2:ax)(a3:aq):b kr a0 a1 a2 a3=kr (v a0 a1 a2 a3):=by first|rfl|(unfold b v;simp only[cz];(repeat' split)<;>rfl)
theorem ES{k:aq}{s l:ax}{b:aq}(h:v k s l b=ai):(1<=k.size/\k.size<=30)/\(0<=s/\s<=1000000000)/\(1<=l/\l<=999999)/\b.size<=400:=by unfold v at h;cases h1:sQ.v k<;>rw[h1]at h<;>simp only[au,ay,du]at h;cases h2:kj.v s 0 1000000000<;>rw[h2]at h<;>simp only[au,ay,du]at h;cases h3:kj.v l 1 999999<;>rw[h3]at h<;>simp only[au,ay,du]at h;simp[sQ.v,kj.v]at h1 h2 h3;have:=cm h;omega
end nk

namespace fg
def r2(N:aE)(g k0 k1:JY R)(a:aQ)(d:aq)(e:aW)(f:ax):az R:=bif decide (f<(a.length:ax))then bif decide (0<=f)&&decide (f<(a.length:ax))then bif cF (bn (ar a f.toNat 0)).toList (aF d)then k0 a d ai f else g a d e (bH (f+1))else aj else k1 a d e f
def l2(N:aE)(k0 k1:JY R):aE->JY R
 |0=>λ_ _ _ _=>aj
 |n+1=>r2 N (l2 N k0 k1 n) k0 k1
def b(N:aE)(kr:aW->az R)(a:aQ)(d:aq):az R:=l2 N (λ_ _ e _=>kr e) (λ_ _ _ _=>kr ak) N a d ak 0
def vo:=b Lib.cU λr0=>ah r0
def c:=λa d=>(vo a d).isSome
def v:=λa d=>(vo a d).getD ak
theorem out{x}:∀a d,vo a d=ah x->c a d=ai/\v a d=x:=λ_ _=>Lib.db
end fg

namespace sR
def b(kr:aW->az R)(a d e:aQ)(f:ax)(h:aq):az R:=bif fg.c a h then bif fg.v a h then kr ai else bif fg.c d h then kr (fg.v d h)else aj else aj
def vo:=b λr0=>ah r0
def c:=λa d e f h=>(vo a d e f h).isSome
def v:=λa d e f h=>(vo a d e f h).getD ak
theorem out{x}:∀a d e f h,vo a d e f h=ah x->c a d e f h=ai/\v a d e f h=x:=λ_ _ _ _ _=>Lib.db
end sR

namespace fJ
def r9(N:aE)(g k0 k1:E3 R)(a:aW)(d e:ax)(f:aQ)(h:ax):az R:=bif decide (0<=d)&&decide (d<(f.length:ax))then bif decide (e<((iR (ar f d.toNat 0)).length:ax))then bif decide (0<=d)&&decide (d<(f.length:ax))then bif decide (0<=e)&&decide (e<((iR (ar f d.toNat 0)).length:ax))then bif !kj.v (bI (ar (iR (ar f d.toNat 0)) e.toNat 0)) 0 15 then k0 ak d e f h else g a d (bH (e+1)) f h else aj else aj else k1 a d e f h else aj
def l9(N:aE)(k0 k1:E3 R):aE->E3 R
 |0=>λ_ _ _ _ _=>aj
 |n+1=>r9 N (l9 N k0 k1 n) k0 k1
def r4(N:aE)(g k0 k1:JV R)(a:aW)(d:ax)(e:aQ)(f:ax):az R:=bif decide (d<(e.length:ax))then bif decide (0<=d)&&decide (d<(e.length:ax))then bif((iR (ar e d.toNat 0)).length:ax) !=16 then k0 ak d e f else l9 N (λh i _ j l=>k0 h i j l) (λh i _ j l=>g h (bH (i+1)) j l) N a d 0 e f else aj else k1 a d e f
def l4(N:aE)(k0 k1:JV R):aE->JV R
 |0=>λ_ _ _ _=>aj
 |n+1=>r4 N (l4 N k0 k1 n) k0 k1
def b(N:aE)(kr:aW->az R)(a:aQ)(d:ax):az R:=bif(a.length:ax) !=3 then kr ak else bif !kj.v d 0 63 then kr ak else l4 N (λe _ _ _=>kr e) (λ_ _ _ _=>kr ai) N ak 0 a d
def vo:=b Lib.cU λr0=>ah r0
def c:=λa d=>(vo a d).isSome
def v:=λa d=>(vo a d).getD ak
theorem out{x}:∀a d,vo a d=ah x->c a d=ai/\v a d=x:=λ_ _=>Lib.db
end fJ

namespace jP
def r3(N:aE)(g k0 k1:yx R)(a:aW)(d:ax)(e f h:aQ)(i:ax)(j:aQ):az R:=bif decide (d<(j.length:ax))then bif decide (0<=d)&&decide (d<(j.length:ax))then bif !sQ.v (bn (ar j d.toNat 0))then k0 ak d e f h i j else bif iy 0 d (j.length:ax)then bif decide (0<=d)&&decide (d<(j.length:ax))then bif fg.c (eW j (aZ 0) d.toNat) (bn (ar j d.toNat 0))then bif fg.v (eW j (aZ 0) d.toNat) (bn (ar j d.toNat 0))then k0 ak d e f h i j else g a (bH (d+1)) e f h i j else aj else aj else aj else aj else k1 a d e f h i j
def l3(N:aE)(k0 k1:yx R):aE->yx R
 |0=>λ_ _ _ _ _ _ _=>aj
 |n+1=>r3 N (l3 N k0 k1 n) k0 k1
def b(N:aE)(kr:aW->az R)(a d e:aQ)(f:ax):az R:=bif cg ((aN [.s] 0).length+a.length) 16 then bif cg ((aN [.s] 0++a).length+d.length) 16 then l3 N (λh _ _ _ _ _ _=>kr h) (λ_ _ h i j l _=>bif decide ((h.length:ax)<=2)then bif decide ((i.length:ax)<=4)then bif fJ.c j l then kr (fJ.v j l)else aj else kr ak else kr ak) N ak 0 a d e f (aN [.s] 0++a++d)else aj else aj
def vo:=b Lib.cU λr0=>ah r0
def c:=λa d e f=>(vo a d e f).isSome
def v:=λa d e f=>(vo a d e f).getD ak
theorem out{x}:∀a d e f,vo a d e f=ah x->c a d e f=ai/\v a d e f=x:=λ_ _ _ _=>Lib.db
end jP

namespace nH
def r2(N:aE)(g k0 k1:g_ R)(a:aW)(d e:ax)(f h i j:aQ)(l:ax)(m o:aQ)(p:ax):az R:=bif decide (d<(f.length:ax))then bif decide (0<=d)&&decide (d<(f.length:ax))then bif !nk.v (bn (ar f d.toNat 0)) (bI (ar f d.toNat 1)) (bI (ar f d.toNat (1+1))) (bn (ar f d.toNat (1+1+1)))then k0 ak d e f h i j l m o p else bif decide (d>0)then bif decide (0<=bH (d-1))&&decide (bH (d-1)<(f.length:ax))then bif decide (0<=d)&&decide (d<(f.length:ax))then bif !Op.bytesLess (bn (ar f (bH (d-1)).toNat 0)).toList (bn (ar f d.toNat 0)).toList then k0 ak d e f h i j l m o p else bif decide (0<=d)&&decide (d<(f.length:ax))then bif sR.c h i j l (bn (ar f d.toNat 0))then bif !sR.v h i j l (bn (ar f d.toNat 0))then k0 ak d e f h i j l m o p else g a (bH (d+1)) e f h i j l m o p else aj else aj else aj else aj else bif decide (0<=d)&&decide (d<(f.length:ax))then bif sR.c h i j l (bn (ar f d.toNat 0))then bif !sR.v h i j l (bn (ar f d.toNat 0))then k0 ak d e f h i j l m o p else g a (bH (d+1)) e f h i j l m o p else aj else aj else aj else k1 a d e f h i j l m o p
def l2(N:aE)(k0 k1:g_ R):aE->g_ R
 |0=>λ_ _ _ _ _ _ _ _ _ _ _=>aj
 |n+1=>r2 N (l2 N k0 k1 n) k0 k1
def b(N:aE)(kr:aW->az R)(a:ax)(d e f h:aQ)(i:ax)(j l:aQ)(m:ax):az R:=l2 N (λo _ _ _ _ _ _ _ _ _ _=>kr o) (λ_ _ _ o p q r s _ _ _=>bif jP.c p q r s then bif jP.v p q r s then kr (decide ((o.length:ax)=bH ((p.length:ax)+(q.length:ax))))else kr ak else aj) N ak 0 a d e f h i j l m
def vo:=b Lib.cU λr0=>ah r0
def c:=λa d e f h i j l m=>(vo a d e f h i j l m).isSome
def v:=λa d e f h i j l m=>(vo a d e f h i j l m).getD ak
theorem out{x}:∀a d e f h i j l m,vo a d e f h i j l m=ah x->c a d e f h i j l m=ai/\v a d e f h i j l m=x:=λ_ _ _ _ _ _ _ _ _=>Lib.db
end nH

namespace nI
def r5(N:aE)(g k0 k1:lz R)(a:ax)(d:aW)(e f:ax)(h i j l:aQ)(m:ax)(o p:aQ)(q:ax)(r s:aq)(t u w:ax):az R:=bif decide (e<a)then bif decide (0<=e)&&decide (e<(o.length:ax))then bif cF (bn (ar o e.toNat 0)).toList (aF r)then bif decide (0<=e)&&decide (e<(o.length:ax))then bif decide (bI (ar o e.toNat 2)=1)then bif decide (t=1)then k0 a ak e f h i j l m o p q r s t u w else g a d (bH (e+1)) f h i j l m o p q r s t u w else g a d (bH (e+1)) f h i j l m o p q r s t u w else aj else g a d (bH (e+1)) f h i j l m o p q r s t u w else aj else k1 a d e f h i j l m o p q r s t u w
def l5(N:aE)(k0 k1:lz R):aE->lz R
 |0=>λ_ _ _ _ _ _ _ _ _ _ _ _ _ _ _ _ _=>aj
 |n+1=>r5 N (l5 N k0 k1 n) k0 k1
def b(N:aE)(kr:aW->az R)(a:ax)(d e f h:aQ)(i:ax)(j l:aQ)(m o:ax):az R:=bif decide (0<=o)&&decide (o<(j.length:ax))then bif !sQ.v (bn (ar j o.toNat 0))then kr ak else bif decide (((bn (ar j o.toNat 1)).size:ax)>400)then kr ak else bif !kj.v (bI (ar j o.toNat (1+1))) 1 3 then kr ak else bif !kj.v (bI (ar j o.toNat (1+1+1))) 0 999999 then kr ak else bif !kj.v (bI (ar j o.toNat (1+1+1+1))) 0 a then kr ak else l5 N (λ_ p _ _ _ _ _ _ _ _ _ _ _ _ _ _ _=>kr p) (λ_ _ _ _ _ _ _ _ _ _ _ _ _ _ _ _ _=>kr ai) N o ak 0 a d e f h i j l m (bn (ar j o.toNat 0)) (bn (ar j o.toNat 1)) (bI (ar j o.toNat (1+1))) (bI (ar j o.toNat (1+1+1))) (bI (ar j o.toNat (1+1+1+1)))else aj
def vo:=b Lib.cU λr0=>ah r0
def c:=λa d e f h i j l m o=>(vo a d e f h i j l m o).isSome
def v:=λa d e f h i j l m o=>(vo a d e f h i j l m o).getD ak
theorem out{x}:∀a d e f h i j l m o,vo a d e f h i j l m o=ah x->c a d e f h i j l m o=ai/\v a d e f h i j l m o=x:=λ_ _ _ _ _ _ _ _ _ _=>Lib.db
end nI

namespace qK
def r9(N:aE)(g k0 k1:g_ R)(a:aW)(d e:ax)(f h i j:aQ)(l:ax)(m o:aQ)(p:ax):az R:=bif decide (d<(o.length:ax))then bif decide (0<=d)&&decide (d<(o.length:ax))then bif !kj.v (bI (ar o d.toNat 0)) 1 9 then k0 ak d e f h i j l m o p else bif decide (d>0)then bif decide (0<=bH (d-1))&&decide (bH (d-1)<(o.length:ax))then bif decide (bI (ar o (bH (d-1)).toNat 0)≥bI (ar o d.toNat 0))then k0 ak d e f h i j l m o p else bif !sQ.v (bn (ar o d.toNat 1))then k0 ak d e f h i j l m o p else bif !kj.v (bI (ar o d.toNat (1+1+1+1))) 1 3 then k0 ak d e f h i j l m o p else bif !kj.v (bI (ar o d.toNat (1+1))) 0 (m.length:ax)then k0 ak d e f h i j l m o p else bif decide (((bn (ar o d.toNat (1+1+1+1+1))).size:ax)>400)then k0 ak d e f h i j l m o p else bif !kj.v (bI (ar o d.toNat (1+1+1))) 0 e then k0 ak d e f h i j l m o p else bif decide (bI (ar o d.toNat (1+1+1+1+1+1))<0)then k0 ak d e f h i j l m o p else g a (bH (d+1)) e f h i j l m o p else aj else bif !sQ.v (bn (ar o d.toNat 1))then k0 ak d e f h i j l m o p else bif !kj.v (bI (ar o d.toNat (1+1+1+1))) 1 3 then k0 ak d e f h i j l m o p else bif !kj.v (bI (ar o d.toNat (1+1))) 0 (m.length:ax)then k0 ak d e f h i j l m o p else bif decide (((bn (ar o d.toNat (1+1+1+1+1))).size:ax)>400)then k0 ak d e f h i j l m o p else bif !kj.v (bI (ar o d.toNat (1+1+1))) 0 e then k0 ak d e f h i j l m o p else bif decide (bI (ar o d.toNat (1+1+1+1+1+1))<0)then k0 ak d e f h i j l m o p else g a (bH (d+1)) e f h i j l m o p else aj else k1 a d e f h i j l m o p
def l9(N:aE)(k0 k1:g_ R):aE->g_ R
 |0=>λ_ _ _ _ _ _ _ _ _ _ _=>aj
 |n+1=>r9 N (l9 N k0 k1 n) k0 k1
def r4(N:aE)(g k0 k1:g_ R)(a:aW)(d e:ax)(f h i j:aQ)(l:ax)(m o:aQ)(p:ax):az R:=bif decide (d<(m.length:ax))then bif nI.c e f h i j l m o p d then bif !nI.v e f h i j l m o p d then k0 ak d e f h i j l m o p else g a (bH (d+1)) e f h i j l m o p else aj else k1 a d e f h i j l m o p
def l4(N:aE)(k0 k1:g_ R):aE->g_ R
 |0=>λ_ _ _ _ _ _ _ _ _ _ _=>aj
 |n+1=>r4 N (l4 N k0 k1 n) k0 k1
def b(N:aE)(kr:aW->az R)(a:ax)(d e f h:aQ)(i:ax)(j l:aQ)(m:ax):az R:=bif !kj.v a 1 1000000000 then kr ak else bif nH.c a d e f h i j l m then bif !nH.v a d e f h i j l m then kr ak else bif decide ((j.length:ax)>20)then kr ak else bif decide ((l.length:ax)>6)then kr ak else bif !kj.v m 0 1000000000 then kr ak else l4 N (λo _ _ _ _ _ _ _ _ _ _=>kr o) (λo _ p q r s t u w y z=>l9 N (λα _ _ _ _ _ _ _ _ _ _=>kr α) (λ_ _ _ _ _ _ _ _ _ _ _=>kr ai) N o 0 p q r s t u w y z) N ak 0 a d e f h i j l m else aj
def vo:=b Lib.cU λr0=>ah r0
def c:=λa d e f h i j l m=>(vo a d e f h i j l m).isSome
def v:=λa d e f h i j l m=>(vo a d e f h i j l m).getD ak
theorem out{x}:∀a d e f h i j l m,vo a d e f h i j l m=ah x->c a d e f h i j l m=ai/\v a d e f h i j l m=x:=λ_ _ _ _ _ _ _ _ _=>Lib.db
end qK

namespace wG
def r2(N:aE)(g k0 k1:me R)(a:aq)(d:aW)(e f:ax)(h i j l:aQ)(m:ax)(o p:aQ)(q:ax)(r:aq)(s t:ax)(u:aq):az R:=bif decide (e<(h.length:ax))then bif decide (0<=e)&&decide (e<(h.length:ax))then bif cF (bn (ar h e.toNat 0)).toList (aF a)then bif decide (0<=e)&&decide (e<(h.length:ax))then k0 a ai e f h i j l m o p q (bn (ar h e.toNat 0)) (bI (ar h e.toNat 1)) (bI (ar h e.toNat (1+1))) (bn (ar h e.toNat (1+1+1)))else aj else g a d (bH (e+1)) f h i j l m o p q r s t u else aj else k1 a d e f h i j l m o p q r s t u
def l2(N:aE)(k0 k1:me R):aE->me R
 |0=>λ_ _ _ _ _ _ _ _ _ _ _ _ _ _ _ _=>aj
 |n+1=>r2 N (l2 N k0 k1 n) k0 k1
def b(N:aE)(kr:wq R)(a:ax)(d e f h:aQ)(i:ax)(j l:aQ)(m:ax)(o:aq):az R:=l2 N (λ_ p _ _ _ _ _ _ _ _ _ _ q r s t=>kr q r s t p) (λ_ _ _ _ _ _ _ _ _ _ _ _ _ _ _ _=>kr ⟨#[]⟩ 0 0 ⟨#[]⟩ ak) N o ak 0 a d e f h i j l m ⟨#[]⟩ 0 0 ⟨#[]⟩
def vo:=b Lib.cU λr0 r1 r2 r3 r4=>ah (r0,r1,r2,r3,r4)
def c:=λa d e f h i j l m o=>(vo a d e f h i j l m o).isSome
def v:=λa d e f h i j l m o=>(vo a d e f h i j l m o).getD (⟨#[]⟩,0,0,⟨#[]⟩,ak)
theorem out{x}:∀a d e f h i j l m o,vo a d e f h i j l m o=ah x->c a d e f h i j l m o=ai/\v a d e f h i j l m o=x:=λ_ _ _ _ _ _ _ _ _ _=>Lib.db
end wG

namespace F_
def b(kr:aW->az R)(a:aq)(d e:ax)(f:aq)(h:ax):az R:=bif nk.v a d e f then bif kj.v h d 1000000000 then kr (decide (bH (h-d)<e))else kr ak else kr ak
def v(a0:aq)(a1 a2:ax)(a3:aq)(a4:ax):aW:=bif nk.v a0 a1 a2 a3 then bif kj.v a4 a1 1000000000 then decide (bH (a4-a1)<a2)else ak else ak
theorem eh(kr:aW->az R)(a0:aq)(a1 a2:ax)(a3:aq)(a4:ax):b kr a0 a1 a2 a3 a4=kr (v a0 a1 a2 a3 a4):=by first|rfl|(unfold b v;simp only[cz];(repeat' split)<;>rfl)
end F_

namespace jN
def r6(N:aE)(g k0:yA R)(a:ax)(d:aq)(e f:ax):az R:=bif decide (f<8)then bif decide (cK a 2=1)then g (bE eD (↑(dW (ma (b9 32 (bE eD (cL a 2))) (b9 32 3558460437))):ax)) d e (bH (f+1))else g (bE eD (cL a 2)) d e (bH (f+1))else k0 a d e f
def l6(N:aE)(k0:yA R):aE->yA R
 |0=>λ_ _ _ _=>aj
 |n+1=>r6 N (l6 N k0 n) k0
def r2(N:aE)(g k0:DW R)(a:ax)(d:aq)(e:ax):az R:=bif decide (e<(d.size:ax))then bif decide (0<=e)&&decide (e<(d.size:ax))then l6 N (λf h i _=>g f h (bH (i+1))) N (bE eD (↑(dW (ma (b9 32 a) (b9 32 (bE eD (↑(gQ d e.toNat):ax))))):ax)) d e 0 else aj else k0 a d e
def l2(N:aE)(k0:DW R):aE->DW R
 |0=>λ_ _ _=>aj
 |n+1=>r2 N (l2 N k0 n) k0
def b(N:aE)(kr:ax->az R)(a:ax)(d:aq):az R:=l2 N (λe _ _=>kr e) N a d 0
def vo:=b Lib.cU λr0=>ah r0
def c:=λa d=>(vo a d).isSome
def v:=λa d=>(vo a d).getD (0)
theorem out{x}:∀a d,vo a d=ah x->c a d=ai/\v a d=x:=λ_ _=>Lib.db
end jN

namespace vK
def b(kr:ax->az R)(a:aq):az R:=bif jN.c 4294967295 a then kr (jN.v 4294967295 a)else aj
def vo:=b λr0=>ah r0
def c:=λa=>(vo a).isSome
def v:=λa=>(vo a).getD (0)
theorem out{x}:∀a,vo a=ah x->c a=ai/\v a=x:=λ_=>Lib.db
end vK

namespace gp
def b(kr:ax->az R)(a:ax)(d:aq):az R:=bif decide (d.size+(bytesOf (aA (aN [Ck.i ba] 1) 0 [CV.i ba (bE ba a)])).size<=4611686018427387904)then bif vK.c (d++bytesOf (aA (aN [Ck.i ba] 1) 0 [CV.i ba (bE ba a)]))then kr (bH (cK (vK.v (d++bytesOf (aA (aN [Ck.i ba] 1) 0 [CV.i ba (bE ba a)]))) 16))else aj else aj
def vo:=b λr0=>ah r0
def c:=λa d=>(vo a d).isSome
def v:=λa d=>(vo a d).getD (0)
theorem out{x}:∀a d,vo a d=ah x->c a d=ai/\v a d=x:=λ_ _=>Lib.db
end gp

namespace dt
def r17(N:aE)(g k0:tV R)(a d e f:ax)(h:aQ):az R:=bif decide (0<=a)&&decide (a<(h.length:ax))then bif decide (d<((iR (ar h a.toNat 0)).length:ax))then bif decide (0<=a)&&decide (a<(h.length:ax))then bif decide (0<=a)&&decide (a<(h.length:ax))then bif decide (0<=d)&&decide (d<((iR (ar h a.toNat 0)).length:ax))then bif decide (0<=d)&&decide (d<((iR (ar h a.toNat 0)).length:ax))then g a (bH (d+1)) e f (eA h a.toNat 0 [CV.l 3 (eA (iR (ar h a.toNat 0)) d.toNat 0 [.i .i64 (bH (cL (bI (ar (iR (ar h a.toNat 0)) d.toNat 0)) 2))])])else aj else aj else aj else aj else k0 a d e f h else aj
def l17(N:aE)(k0:tV R):aE->tV R
 |0=>λ_ _ _ _ _=>aj
 |n+1=>r17 N (l17 N k0 n) k0
def r14(N:aE)(g k0:iS R)(a d e:ax)(f:aQ):az R:=bif decide (a<(f.length:ax))then l17 N (λh _ i j l=>g (bH (h+1)) i j l) N a 0 d e f else k0 a d e f
def l14(N:aE)(k0:iS R):aE->iS R
 |0=>λ_ _ _ _=>aj
 |n+1=>r14 N (l14 N k0 n) k0
def r5(N:aE)(g k0:Fc R)(a:aq)(d e f:ax)(h:aQ):az R:=bif decide (d<(h.length:ax))then bif gp.c d a then bif decide (0<=d)&&decide (d<(h.length:ax))then bif decide (0<=gp.v d a)&&decide (gp.v d a<((iR (ar h d.toNat 0)).length:ax))then bif decide (bI (ar (iR (ar h d.toNat 0)) (gp.v d a).toNat 0)<15)then bif decide (0<=d)&&decide (d<(h.length:ax))then bif decide (0<=gp.v d a)&&decide (gp.v d a<((iR (ar h d.toNat 0)).length:ax))then bif decide (0<=gp.v d a)&&decide (gp.v d a<((iR (ar h d.toNat 0)).length:ax))then g a (bH (d+1)) e f (eA h d.toNat 0 [CV.l 3 (eA (iR (ar h d.toNat 0)) (gp.v d a).toNat 0 [.i .i64 (bH (bI (ar (iR (ar h d.toNat 0)) (gp.v d a).toNat 0)+1))])])else aj else aj else aj else g a (bH (d+1)) e f h else aj else aj else aj else k0 a d e f h
def l5(N:aE)(k0:Fc R):aE->Fc R
 |0=>λ_ _ _ _ _=>aj
 |n+1=>r5 N (l5 N k0 n) k0
def b(N:aE)(kr:Dd R)(a:aQ)(d:ax)(e:aq):az R:=bif nU.c a d then bif fJ.c a d then bif !fJ.v a d then kr (nU.v a d).1 (nU.v a d).2 else l5 N (λ_ _ f h i=>bif decide (bH (h+1)=64)then l14 N (λ_ _ j l=>kr l j) N 0 f 0 i else kr i (bH (h+1))) N e 0 0 (nU.v a d).2 (nU.v a d).1 else aj else aj
def vo:=b Lib.cU λr0 r1=>ah (r0,r1)
def c:=λa d e=>(vo a d e).isSome
def v:=λa d e=>(vo a d e).getD ([],0)
theorem out{x}:∀a d e,vo a d e=ah x->c a d e=ai/\v a d e=x:=λ_ _ _=>Lib.db
end dt

namespace oZ
def r3(N:aE)(g k0:yC R)(a:aQ)(d:aq)(e:ax)(f:aQ):az R:=bif decide (e<(a.length:ax))then bif decide (0<=e)&&decide (e<(a.length:ax))then bif !List.beq (bn (ar a e.toNat 0)).toList (aF d)then bif decide (0<=e)&&decide (e<(a.length:ax))then bif cg (f.length+(aA (aN [.s] 1) 0 [.s (bn (ar a e.toNat 0))]).length) 16 then g a d (bH (e+1)) (f++aA (aN [.s] 1) 0 [.s (bn (ar a e.toNat 0))])else aj else aj else g a d (bH (e+1)) f else aj else k0 a d e f
def l3(N:aE)(k0:yC R):aE->yC R
 |0=>λ_ _ _ _=>aj
 |n+1=>r3 N (l3 N k0 n) k0
def b(N:aE)(kr:aQ->az R)(a:aQ)(d:aq):az R:=l3 N (λ_ _ _ e=>kr e) N a d 0 (aN [.s] 0)
def vo:=b Lib.cU λr0=>ah r0
def c:=λa d=>(vo a d).isSome
def v:=λa d=>(vo a d).getD ([])
theorem out{x}:∀a d,vo a d=ah x->c a d=ai/\v a d=x:=λ_ _=>Lib.db
end oZ

namespace mC
def r5(N:aE)(g k0:Ff R)(a:aq)(d e:ax)(f:aQ)(h:ax):az R:=bif decide (e<(f.length:ax))then bif decide (0<=e)&&decide (e<(f.length:ax))then bif gp.c e a then bif decide (0<=gp.v e a)&&decide (gp.v e a<((iR (ar f e.toNat 0)).length:ax))then bif decide (bI (ar (iR (ar f e.toNat 0)) (gp.v e a).toNat 0)<d)then g a (bI (ar (iR (ar f e.toNat 0)) (gp.v e a).toNat 0)) (bH (e+1)) f h else g a d (bH (e+1)) f h else aj else aj else aj else k0 a d e f h
def l5(N:aE)(k0:Ff R):aE->Ff R
 |0=>λ_ _ _ _ _=>aj
 |n+1=>r5 N (l5 N k0 n) k0
def b(N:aE)(kr:ax->az R)(a:aQ)(d:ax)(e:aq):az R:=bif fJ.c a d then bif !fJ.v a d then kr 0 else l5 N (λ_ f _ _ _=>kr f) N e 15 0 a d else aj
def vo:=b Lib.cU λr0=>ah r0
def c:=λa d e=>(vo a d e).isSome
def v:=λa d e=>(vo a d e).getD (0)
theorem out{x}:∀a d e,vo a d e=ah x->c a d e=ai/\v a d e=x:=λ_ _ _=>Lib.db
end mC

namespace eV
def b(kr:LW R)(a d e:aQ)(f:ax)(h:aq):az R:=bif gd.c a d e f then bif jP.c a d e f then bif !jP.v a d e f then kr (gd.v a d e f).1 (gd.v a d e f).2.1 (gd.v a d e f).2.2.1 (gd.v a d e f).2.2.2 ⟨#[]⟩else bif !sQ.v h then kr (gd.v a d e f).1 (gd.v a d e f).2.1 (gd.v a d e f).2.2.1 (gd.v a d e f).2.2.2 ⟨#[]⟩else bif dt.c e f h then bif fg.c a h then bif fg.v a h then bif oZ.c a h then bif cg ((oZ.v a h).length+(aA (aN [.s] 1) 0 [.s h]).length) 16 then kr (oZ.v a h++aA (aN [.s] 1) 0 [.s h]) (gd.v a d e f).2.1 (dt.v e f h).1 (dt.v e f h).2 ⟨#[]⟩else aj else aj else bif fg.c d h then bif fg.v d h then bif oZ.c d h then bif cg ((oZ.v d h).length+(aA (aN [.s] 1) 0 [.s h]).length) 16 then kr (gd.v a d e f).1 (oZ.v d h++aA (aN [.s] 1) 0 [.s h]) (dt.v e f h).1 (dt.v e f h).2 ⟨#[]⟩else aj else aj else bif cg ((gd.v a d e f).1.length+(aA (aN [.s] 1) 0 [.s h]).length) 16 then bif decide ((((gd.v a d e f).1++aA (aN [.s] 1) 0 [.s h]).length:ax)<=2)then kr ((gd.v a d e f).1++aA (aN [.s] 1) 0 [.s h]) (gd.v a d e f).2.1 (dt.v e f h).1 (dt.v e f h).2 ⟨#[]⟩else bif decide (0<(((gd.v a d e f).1++aA (aN [.s] 1) 0 [.s h]).length:ax))then bif iy 1 (((gd.v a d e f).1++aA (aN [.s] 1) 0 [.s h]).length:ax) (((gd.v a d e f).1++aA (aN [.s] 1) 0 [.s h]).length:ax)then bif cg ((aN [.s] 0).length+(eW ((gd.v a d e f).1++aA (aN [.s] 1) 0 [.s h]) (aZ 1) (((gd.v a d e f).1++aA (aN [.s] 1) 0 [.s h]).length:ax).toNat).length) 16 then bif decide (((gd.v a d e f).2.1.length:ax)<4)then bif cg ((gd.v a d e f).2.1.length+(aA (aN [.s] 1) 0 [.s (bn (ar ((gd.v a d e f).1++aA (aN [.s] 1) 0 [.s h]) (aZ 0) 0))]).length) 16 then kr (aN [.s] 0++eW ((gd.v a d e f).1++aA (aN [.s] 1) 0 [.s h]) (aZ 1) (((gd.v a d e f).1++aA (aN [.s] 1) 0 [.s h]).length:ax).toNat) ((gd.v a d e f).2.1++aA (aN [.s] 1) 0 [.s (bn (ar ((gd.v a d e f).1++aA (aN [.s] 1) 0 [.s h]) (aZ 0) 0))]) (dt.v e f h).1 (dt.v e f h).2 ⟨#[]⟩else aj else bif mC.c (dt.v e f h).1 (dt.v e f h).2 (bn (ar ((gd.v a d e f).1++aA (aN [.s] 1) 0 [.s h]) (aZ 0) 0))then bif decide (0<((gd.v a d e f).2.1.length:ax))then bif mC.c (dt.v e f h).1 (dt.v e f h).2 (bn (ar (gd.v a d e f).2.1 (aZ 0) 0))then bif decide (mC.v (dt.v e f h).1 (dt.v e f h).2 (bn (ar ((gd.v a d e f).1++aA (aN [.s] 1) 0 [.s h]) (aZ 0) 0))>mC.v (dt.v e f h).1 (dt.v e f h).2 (bn (ar (gd.v a d e f).2.1 (aZ 0) 0)))then bif decide (0<((gd.v a d e f).2.1.length:ax))then bif iy 1 ((gd.v a d e f).2.1.length:ax) ((gd.v a d e f).2.1.length:ax)then bif cg ((aN [.s] 0).length+(eW (gd.v a d e f).2.1 (aZ 1) ((gd.v a d e f).2.1.length:ax).toNat).length) 16 then bif cg ((aN [.s] 0++eW (gd.v a d e f).2.1 (aZ 1) ((gd.v a d e f).2.1.length:ax).toNat).length+(aA (aN [.s] 1) 0 [.s (bn (ar ((gd.v a d e f).1++aA (aN [.s] 1) 0 [.s h]) (aZ 0) 0))]).length) 16 then kr (aN [.s] 0++eW ((gd.v a d e f).1++aA (aN [.s] 1) 0 [.s h]) (aZ 1) (((gd.v a d e f).1++aA (aN [.s] 1) 0 [.s h]).length:ax).toNat) (aN [.s] 0++eW (gd.v a d e f).2.1 (aZ 1) ((gd.v a d e f).2.1.length:ax).toNat++aA (aN [.s] 1) 0 [.s (bn (ar ((gd.v a d e f).1++aA (aN [.s] 1) 0 [.s h]) (aZ 0) 0))]) (dt.v e f h).1 (dt.v e f h).2 (bn (ar (gd.v a d e f).2.1 (aZ 0) 0))else aj else aj else aj else aj else kr (aN [.s] 0++eW ((gd.v a d e f).1++aA (aN [.s] 1) 0 [.s h]) (aZ 1) (((gd.v a d e f).1++aA (aN [.s] 1) 0 [.s h]).length:ax).toNat) (gd.v a d e f).2.1 (dt.v e f h).1 (dt.v e f h).2 (bn (ar ((gd.v a d e f).1++aA (aN [.s] 1) 0 [.s h]) (aZ 0) 0))else aj else aj else aj else aj else aj else aj else aj else aj else aj else aj else aj else aj
def vo:=b λr0 r1 r2 r3 r4=>ah (r0,r1,r2,r3,r4)
def c:=λa d e f h=>(vo a d e f h).isSome
def v:=λa d e f h=>(vo a d e f h).getD ([],[],[],0,⟨#[]⟩)
theorem out{x}:∀a d e f h,vo a d e f h=ah x->c a d e f h=ai/\v a d e f h=x:=λ_ _ _ _ _=>Lib.db
end eV

namespace lM
def r9(N:aE)(g k0:kS R)(a:aQ)(d e:ax)(f:aq)(h i j:ax)(l:aq)(m:ax)(o:aQ):az R:=bif decide (d<(a.length:ax))then bif decide (0<=d)&&decide (d<(a.length:ax))then bif decide (bI (ar a d.toNat 0)>e)then bif decide (0<=d)&&decide (d<(a.length:ax))then bif cg (o.length+(aA (aN [Ck.i ao,Ck.s,Ck.i ao,Ck.i ao,Ck.i ao,Ck.s,Ck.i ao] 1) 0 [.i .i64 (bI (ar a d.toNat 0)), .s (bn (ar a d.toNat 1)), .i .i64 (bI (ar a d.toNat (1+1))), .i .i64 (bI (ar a d.toNat (1+1+1))), .i .i64 (bI (ar a d.toNat (1+1+1+1))), .s (bn (ar a d.toNat (1+1+1+1+1))), .i .i64 (bI (ar a d.toNat (1+1+1+1+1+1)))]).length) 72 then g a (bH (d+1)) e f h i j l m (o++aA (aN [Ck.i ao,Ck.s,Ck.i ao,Ck.i ao,Ck.i ao,Ck.s,Ck.i ao] 1) 0 [.i .i64 (bI (ar a d.toNat 0)), .s (bn (ar a d.toNat 1)), .i .i64 (bI (ar a d.toNat (1+1))), .i .i64 (bI (ar a d.toNat (1+1+1))), .i .i64 (bI (ar a d.toNat (1+1+1+1))), .s (bn (ar a d.toNat (1+1+1+1+1))), .i .i64 (bI (ar a d.toNat (1+1+1+1+1+1)))])else aj else aj else g a (bH (d+1)) e f h i j l m o else aj else k0 a d e f h i j l m o
def l9(N:aE)(k0:kS R):aE->kS R
 |0=>λ_ _ _ _ _ _ _ _ _ _=>aj
 |n+1=>r9 N (l9 N k0 n) k0
def r3(N:aE)(g k0:kS R)(a:aQ)(d e:ax)(f:aq)(h i j:ax)(l:aq)(m:ax)(o:aQ):az R:=bif decide (d<(a.length:ax))then bif decide (0<=d)&&decide (d<(a.length:ax))then bif decide (bI (ar a d.toNat 0)<e)then bif decide (0<=d)&&decide (d<(a.length:ax))then bif cg (o.length+(aA (aN [Ck.i ao,Ck.s,Ck.i ao,Ck.i ao,Ck.i ao,Ck.s,Ck.i ao] 1) 0 [.i .i64 (bI (ar a d.toNat 0)), .s (bn (ar a d.toNat 1)), .i .i64 (bI (ar a d.toNat (1+1))), .i .i64 (bI (ar a d.toNat (1+1+1))), .i .i64 (bI (ar a d.toNat (1+1+1+1))), .s (bn (ar a d.toNat (1+1+1+1+1))), .i .i64 (bI (ar a d.toNat (1+1+1+1+1+1)))]).length) 72 then g a (bH (d+1)) e f h i j l m (o++aA (aN [Ck.i ao,Ck.s,Ck.i ao,Ck.i ao,Ck.i ao,Ck.s,Ck.i ao] 1) 0 [.i .i64 (bI (ar a d.toNat 0)), .s (bn (ar a d.toNat 1)), .i .i64 (bI (ar a d.toNat (1+1))), .i .i64 (bI (ar a d.toNat (1+1+1))), .i .i64 (bI (ar a d.toNat (1+1+1+1))), .s (bn (ar a d.toNat (1+1+1+1+1))), .i .i64 (bI (ar a d.toNat (1+1+1+1+1+1)))])else aj else aj else g a (bH (d+1)) e f h i j l m o else aj else k0 a d e f h i j l m o
def l3(N:aE)(k0:kS R):aE->kS R
 |0=>λ_ _ _ _ _ _ _ _ _ _=>aj
 |n+1=>r3 N (l3 N k0 n) k0
def b(N:aE)(kr:aQ->az R)(a:aQ)(d:ax)(e:aq)(f h i:ax)(j:aq)(l:ax):az R:=l3 N (λm _ o p q r s t u w=>bif cg (w.length+(aA (aN [Ck.i ao,Ck.s,Ck.i ao,Ck.i ao,Ck.i ao,Ck.s,Ck.i ao] 1) 0 [.i .i64 o, .s p, .i .i64 q, .i .i64 r, .i .i64 s, .s t, .i .i64 u]).length) 72 then l9 N (λ_ _ _ _ _ _ _ _ _ y=>kr y) N m 0 o p q r s t u (w++aA (aN [Ck.i ao,Ck.s,Ck.i ao,Ck.i ao,Ck.i ao,Ck.s,Ck.i ao] 1) 0 [.i .i64 o, .s p, .i .i64 q, .i .i64 r, .i .i64 s, .s t, .i .i64 u])else aj) N a 0 d e f h i j l (aN [Ck.i ao,Ck.s,Ck.i ao,Ck.i ao,Ck.i ao,Ck.s,Ck.i ao] 0)
def vo:=b Lib.cU λr0=>ah r0
def c:=λa d e f h i j l=>(vo a d e f h i j l).isSome
def v:=λa d e f h i j l=>(vo a d e f h i j l).getD ([])
theorem out{x}:∀a d e f h i j l,vo a d e f h i j l=ah x->c a d e f h i j l=ai/\v a d e f h i j l=x:=λ_ _ _ _ _ _ _ _=>Lib.db
end lM

namespace p9
def r3(N:aE)(g k0:yC R)(a:aQ)(d:aq)(e:ax)(f:aQ):az R:=bif decide (e<(a.length:ax))then bif decide (0<=e)&&decide (e<(a.length:ax))then bif !List.beq (bn (ar a e.toNat 0)).toList (aF d)then bif decide (0<=e)&&decide (e<(a.length:ax))then bif cg (f.length+(aA (aN [Ck.s,Ck.i ao,Ck.i ao,Ck.s] 1) 0 [.s (bn (ar a e.toNat 0)), .i .i64 (bI (ar a e.toNat 1)), .i .i64 (bI (ar a e.toNat (1+1))), .s (bn (ar a e.toNat (1+1+1)))]).length) 48 then g a d (bH (e+1)) (f++aA (aN [Ck.s,Ck.i ao,Ck.i ao,Ck.s] 1) 0 [.s (bn (ar a e.toNat 0)), .i .i64 (bI (ar a e.toNat 1)), .i .i64 (bI (ar a e.toNat (1+1))), .s (bn (ar a e.toNat (1+1+1)))])else aj else aj else g a d (bH (e+1)) f else aj else k0 a d e f
def l3(N:aE)(k0:yC R):aE->yC R
 |0=>λ_ _ _ _=>aj
 |n+1=>r3 N (l3 N k0 n) k0
def b(N:aE)(kr:aQ->az R)(a:aQ)(d:aq):az R:=l3 N (λ_ _ _ e=>kr e) N a d 0 (aN [Ck.s,Ck.i ao,Ck.i ao,Ck.s] 0)
def vo:=b Lib.cU λr0=>ah r0
def c:=λa d=>(vo a d).isSome
def v:=λa d=>(vo a d).getD ([])
theorem out{x}:∀a d,vo a d=ah x->c a d=ai/\v a d=x:=λ_ _=>Lib.db
end p9

namespace uS
def b(kr:sP R)(a d e:aQ)(f:ax)(h:aq):az R:=bif oZ.c a h then bif oZ.c d h then bif nU.c e f then kr (oZ.v a h) (oZ.v d h) (nU.v e f).1 (nU.v e f).2 else aj else aj else aj
def vo:=b λr0 r1 r2 r3=>ah (r0,r1,r2,r3)
def c:=λa d e f h=>(vo a d e f h).isSome
def v:=λa d e f h=>(vo a d e f h).getD ([],[],[],0)
theorem out{x}:∀a d e f h,vo a d e f h=ah x->c a d e f h=ai/\v a d e f h=x:=λ_ _ _ _ _=>Lib.db
end uS

namespace wC
def r22(N:aE)(g k0:gv R)(a:aq)(d:aW)(e f:ax)(h i j l:aQ)(m:ax)(o p:aQ)(q r s t u w y z:ax)(α:aq)(xa xb xc:ax)(xd:aq)(xe:ax)(xf xg xh xi xj xk:aQ):az R:=bif decide (e<(o.length:ax))then bif decide (0<=e)&&decide (e<(o.length:ax))then bif cF (bn (ar o e.toNat 0)).toList (aF a)then bif decide (0<=e)&&decide (e<(o.length:ax))then bif decide (bI (ar o e.toNat 2)=1)then bif decide (0<=e)&&decide (e<(o.length:ax))then g a d (bH (e+1)) f h i j l m o p q r s t u w y z α (bH (e+1)) xb xc (bn (ar o e.toNat 1)) xe xf xg xh xi xj xk else aj else g a d (bH (e+1)) f h i j l m o p q r s t u w y z α xa xb xc xd xe xf xg xh xi xj xk else aj else g a d (bH (e+1)) f h i j l m o p q r s t u w y z α xa xb xc xd xe xf xg xh xi xj xk else aj else k0 a d e f h i j l m o p q r s t u w y z α xa xb xc xd xe xf xg xh xi xj xk
def Xu(N:aE)(k0:gv R):aE->gv R
 |0=>λ_ _ _ _ _ _ _ _ _ _ _ _ _ _ _ _ _ _ _ _ _ _ _ _ _ _ _ _ _ _ _=>aj
 |n+1=>r22 N (Xu N k0 n) k0
def r5(N:aE)(g k0 k1:iK R)(a:ax)(d:aq)(e f h:ax)(i j l m:aQ)(o:ax)(p q:aQ)(r s t u w y z:ax)(α xa xb xc xd xe:aQ):az R:=bif decide (f<(q.length:ax))then bif decide (0<=f)&&decide (f<(q.length:ax))then bif decide (bI (ar q f.toNat 0)=a)then k0 a d 1 f h i j l m o p q r w y z w y z α xa xb xc xd xe else g a d e (bH (f+1)) h i j l m o p q r s t u w y z α xa xb xc xd xe else aj else k1 a d e f h i j l m o p q r s t u w y z α xa xb xc xd xe
def l5(N:aE)(k0 k1:iK R):aE->iK R
 |0=>λ_ _ _ _ _ _ _ _ _ _ _ _ _ _ _ _ _ _ _ _ _ _ _ _ _=>aj
 |n+1=>r5 N (l5 N k0 k1 n) k0 k1
def b(N:aE)(kr:wm R)(a:ax)(d e f h:aQ)(i:ax)(j l:aQ)(m o:ax)(p:aq):az R:=bif fI.c a d e f h i j l m then Lib.lt (fI.v a d e f h i j l m) λq=>bif qK.c a d e f h i j l m then Lib.lt (qK.v a d e f h i j l m) λr=>bif !r then kr q.1 q.2.1 q.2.2.1 q.2.2.2.1 q.2.2.2.2.1 q.2.2.2.2.2.1 q.2.2.2.2.2.2.1 q.2.2.2.2.2.2.2.1 q.2.2.2.2.2.2.2.2 1 else bif !kj.v o 1 9 then kr q.1 q.2.1 q.2.2.1 q.2.2.2.1 q.2.2.2.2.1 q.2.2.2.2.2.1 q.2.2.2.2.2.2.1 q.2.2.2.2.2.2.2.1 q.2.2.2.2.2.2.2.2 1 else bif !sQ.v p then kr q.1 q.2.1 q.2.2.1 q.2.2.2.1 q.2.2.2.2.1 q.2.2.2.2.2.1 q.2.2.2.2.2.2.1 q.2.2.2.2.2.2.2.1 q.2.2.2.2.2.2.2.2 1 else bif decide ((l.length:ax)≥6)then kr q.1 q.2.1 q.2.2.1 q.2.2.2.1 q.2.2.2.2.1 q.2.2.2.2.2.1 q.2.2.2.2.2.2.1 q.2.2.2.2.2.2.2.1 q.2.2.2.2.2.2.2.2 1 else l5 N (λ_ _ s _ _ _ _ _ _ _ _ _ _ t u w _ _ _ y z α xa xb xc=>kr t y z α xa u xb xc w s) (λs t _ _ u w y z α xa xb xc xd xe xf xg xh xi xj xk xl xm xn xo xp=>bif wG.c u w y z α xa xb xc xd t then Lib.lt (wG.v u w y z α xa xb xc xd t) λxq=>bif xq.2.2.2.2 then bif F_.v xq.1 xq.2.1 xq.2.2.1 xq.2.2.2.1 u then bif eV.c y z α xa t then Lib.lt (eV.v y z α xa t) λxr=>bif decide (xj<1000000000)then bif lM.c xp s t 0 xq.2.1 2 xq.2.2.2.1 (bH (u-xq.2.1))then Lib.lt (lM.v xp s t 0 xq.2.1 2 xq.2.2.2.1 (bH (u-xq.2.1))) λxs=>kr xh xk xr.1 xr.2.1 xr.2.2.1 xr.2.2.2.1 xo xs (bH (xj+1)) 0 else aj else bif lM.c xp s t 0 xq.2.1 2 xq.2.2.2.1 (bH (u-xq.2.1))then Lib.lt (lM.v xp s t 0 xq.2.1 2 xq.2.2.2.1 (bH (u-xq.2.1))) λxs=>kr xh xk xr.1 xr.2.1 xr.2.2.1 xr.2.2.2.1 xo xs xj 0 else aj else aj else Xu N (λxr xs _ _ _ _ _ _ _ xt _ _ _ _ _ xu xv xw xx xy xz ya yb yc yd ye yf yg yh yi yj=>bif decide (xz=0)then bif decide ((xt.length:ax)≥20)then kr xu ye yf yg yh xv yi yj xw 2 else bif cg (yi.length+(aA (aN [Ck.s,Ck.s,Ck.i ao,Ck.i ao,Ck.i ao] 1) 0 [.s xr, .s ⟨#[]⟩, .i .i64 1, .i .i64 0, .i .i64 0]).length) 56 then bif xs then bif p9.c ye xr then Lib.lt (p9.v ye xr) λyk=>bif uS.c yf yg yh xv xr then Lib.lt (uS.v yf yg yh xv xr) λyl=>bif dt.c yl.2.2.1 yl.2.2.2 xr then Lib.lt (dt.v yl.2.2.1 yl.2.2.2 xr) λym=>bif lM.c yj xx xy ((yi++aA (aN [Ck.s,Ck.s,Ck.i ao,Ck.i ao,Ck.i ao] 1) 0 [.s xr, .s ⟨#[]⟩, .i .i64 1, .i .i64 0, .i .i64 0]).length:ax) ya yb yc yd then Lib.lt (lM.v yj xx xy ((yi++aA (aN [Ck.s,Ck.s,Ck.i ao,Ck.i ao,Ck.i ao] 1) 0 [.s xr, .s ⟨#[]⟩, .i .i64 1, .i .i64 0, .i .i64 0]).length:ax) ya yb yc yd) λyn=>kr xu yk yl.1 yl.2.1 ym.1 ym.2 (yi++aA (aN [Ck.s,Ck.s,Ck.i ao,Ck.i ao,Ck.i ao] 1) 0 [.s xr, .s ⟨#[]⟩, .i .i64 1, .i .i64 0, .i .i64 0]) yn xw 0 else aj else aj else aj else aj else bif dt.c yh xv xr then Lib.lt (dt.v yh xv xr) λyk=>bif lM.c yj xx xy ((yi++aA (aN [Ck.s,Ck.s,Ck.i ao,Ck.i ao,Ck.i ao] 1) 0 [.s xr, .s ⟨#[]⟩, .i .i64 1, .i .i64 0, .i .i64 0]).length:ax) ya yb yc yd then Lib.lt (lM.v yj xx xy ((yi++aA (aN [Ck.s,Ck.s,Ck.i ao,Ck.i ao,Ck.i ao] 1) 0 [.s xr, .s ⟨#[]⟩, .i .i64 1, .i .i64 0, .i .i64 0]).length:ax) ya yb yc yd) λyl=>kr xu ye yf yg yk.1 yk.2 (yi++aA (aN [Ck.s,Ck.s,Ck.i ao,Ck.i ao,Ck.i ao] 1) 0 [.s xr, .s ⟨#[]⟩, .i .i64 1, .i .i64 0, .i .i64 0]) yl xw 0 else aj else aj else aj else bif xs then bif p9.c ye xr then Lib.lt (p9.v ye xr) λyk=>bif uS.c yf yg yh xv xr then Lib.lt (uS.v yf yg yh xv xr) λyl=>bif dt.c yl.2.2.1 yl.2.2.2 xr then Lib.lt (dt.v yl.2.2.1 yl.2.2.2 xr) λym=>bif lM.c yj xx xy xz ya yb yc yd then Lib.lt (lM.v yj xx xy xz ya yb yc yd) λyn=>kr xu yk yl.1 yl.2.1 ym.1 ym.2 yi yn xw 0 else aj else aj else aj else aj else bif dt.c yh xv xr then Lib.lt (dt.v yh xv xr) λyk=>bif lM.c yj xx xy xz ya yb yc yd then Lib.lt (lM.v yj xx xy xz ya yb yc yd) λyl=>kr xu ye yf yg yk.1 yk.2 yi yl xw 0 else aj else aj) N t xq.2.2.2.2 0 u w y z α xa xb xc xd xe xf xg xh xi xj s t 0 0 1 ⟨#[]⟩ 0 xk xl xm xn xo xp else Xu N (λxr xs _ _ _ _ _ _ _ xt _ _ _ _ _ xu xv xw xx xy xz ya yb yc yd ye yf yg yh yi yj=>bif decide (xz=0)then bif decide ((xt.length:ax)≥20)then kr xu ye yf yg yh xv yi yj xw 2 else bif cg (yi.length+(aA (aN [Ck.s,Ck.s,Ck.i ao,Ck.i ao,Ck.i ao] 1) 0 [.s xr, .s ⟨#[]⟩, .i .i64 1, .i .i64 0, .i .i64 0]).length) 56 then bif xs then bif p9.c ye xr then Lib.lt (p9.v ye xr) λyk=>bif uS.c yf yg yh xv xr then Lib.lt (uS.v yf yg yh xv xr) λyl=>bif dt.c yl.2.2.1 yl.2.2.2 xr then Lib.lt (dt.v yl.2.2.1 yl.2.2.2 xr) λym=>bif lM.c yj xx xy ((yi++aA (aN [Ck.s,Ck.s,Ck.i ao,Ck.i ao,Ck.i ao] 1) 0 [.s xr, .s ⟨#[]⟩, .i .i64 1, .i .i64 0, .i .i64 0]).length:ax) ya yb yc yd then Lib.lt (lM.v yj xx xy ((yi++aA (aN [Ck.s,Ck.s,Ck.i ao,Ck.i ao,Ck.i ao] 1) 0 [.s xr, .s ⟨#[]⟩, .i .i64 1, .i .i64 0, .i .i64 0]).length:ax) ya yb yc yd) λyn=>kr xu yk yl.1 yl.2.1 ym.1 ym.2 (yi++aA (aN [Ck.s,Ck.s,Ck.i ao,Ck.i ao,Ck.i ao] 1) 0 [.s xr, .s ⟨#[]⟩, .i .i64 1, .i .i64 0, .i .i64 0]) yn xw 0 else aj else aj else aj else aj else bif dt.c yh xv xr then Lib.lt (dt.v yh xv xr) λyk=>bif lM.c yj xx xy ((yi++aA (aN [Ck.s,Ck.s,Ck.i ao,Ck.i ao,Ck.i ao] 1) 0 [.s xr, .s ⟨#[]⟩, .i .i64 1, .i .i64 0, .i .i64 0]).length:ax) ya yb yc yd then Lib.lt (lM.v yj xx xy ((yi++aA (aN [Ck.s,Ck.s,Ck.i ao,Ck.i ao,Ck.i ao] 1) 0 [.s xr, .s ⟨#[]⟩, .i .i64 1, .i .i64 0, .i .i64 0]).length:ax) ya yb yc yd) λyl=>kr xu ye yf yg yk.1 yk.2 (yi++aA (aN [Ck.s,Ck.s,Ck.i ao,Ck.i ao,Ck.i ao] 1) 0 [.s xr, .s ⟨#[]⟩, .i .i64 1, .i .i64 0, .i .i64 0]) yl xw 0 else aj else aj else aj else bif xs then bif p9.c ye xr then Lib.lt (p9.v ye xr) λyk=>bif uS.c yf yg yh xv xr then Lib.lt (uS.v yf yg yh xv xr) λyl=>bif dt.c yl.2.2.1 yl.2.2.2 xr then Lib.lt (dt.v yl.2.2.1 yl.2.2.2 xr) λym=>bif lM.c yj xx xy xz ya yb yc yd then Lib.lt (lM.v yj xx xy xz ya yb yc yd) λyn=>kr xu yk yl.1 yl.2.1 ym.1 ym.2 yi yn xw 0 else aj else aj else aj else aj else bif dt.c yh xv xr then Lib.lt (dt.v yh xv xr) λyk=>bif lM.c yj xx xy xz ya yb yc yd then Lib.lt (lM.v yj xx xy xz ya yb yc yd) λyl=>kr xu ye yf yg yk.1 yk.2 yi yl xw 0 else aj else aj) N t xq.2.2.2.2 0 u w y z α xa xb xc xd xe xf xg xh xi xj s t 0 0 1 ⟨#[]⟩ 0 xk xl xm xn xo xp else aj) N o p 0 0 a d e f h i j l m 0 0 0 q.1 q.2.2.2.2.2.1 q.2.2.2.2.2.2.2.2 q.2.1 q.2.2.1 q.2.2.2.1 q.2.2.2.2.1 q.2.2.2.2.2.2.1 q.2.2.2.2.2.2.2.1 else aj else aj
def vo:=b Lib.cU λr0 r1 r2 r3 r4 r5 r6 r7 r8 r9=>ah (r0,r1,r2,r3,r4,r5,r6,r7,r8,r9)
def c:=λa d e f h i j l m o p=>(vo a d e f h i j l m o p).isSome
def v:=λa d e f h i j l m o p=>(vo a d e f h i j l m o p).getD (0,[],[],[],[],0,[],[],0,0)
theorem out{x}:∀a d e f h i j l m o p,vo a d e f h i j l m o p=ah x->c a d e f h i j l m o p=ai/\v a d e f h i j l m o p=x:=λ_ _ _ _ _ _ _ _ _ _ _=>Lib.db
end wC

namespace uT
def b(kr:aW->az R)(a:ax)(d e f h:aQ)(i:ax)(j l:aQ)(m o:ax):az R:=bif qK.c a d e f h i j l m then bif qK.v a d e f h i j l m then bif kj.v o 0 (bH ((j.length:ax)-1))then bif decide (0<=o)&&decide (o<(j.length:ax))then kr (decide (bI (ar j o.toNat 2)=1))else aj else kr ak else kr ak else aj
def vo:=b λr0=>ah r0
def c:=λa d e f h i j l m o=>(vo a d e f h i j l m o).isSome
def v:=λa d e f h i j l m o=>(vo a d e f h i j l m o).getD ak
theorem out{x}:∀a d e f h i j l m o,vo a d e f h i j l m o=ah x->c a d e f h i j l m o=ai/\v a d e f h i j l m o=x:=λ_ _ _ _ _ _ _ _ _ _=>Lib.db
end uT

namespace J_
def b(kr:LU R)(a:ax)(d:aq)(e:aQ):az R:=bif cg ((aN [Ck.i ao,Ck.i ao] 0).length+e.length) 16 then kr a d (aN [Ck.i ao,Ck.i ao] 0++e)else aj
def v(fZ:ax)(eT:aq)(dE:aQ):ax×aq×aQ:=(fZ,eT,dE)
def c(fZ:ax)(eT:aq)(dE:aQ):aW:=decide (dE.length<=4294967296)
theorem eh(kr:LU R)(fZ:ax)(eT:aq)(dE:aQ)(hc:c fZ eT dE=ai):b kr fZ eT dE=kr (v fZ eT dE).1 (v fZ eT dE).2.1 (v fZ eT dE).2.2:=by have h:dE.length<=4294967296:=cm hc;unfold b;rw[show bM (aN [Ck.i ao,Ck.i ao] 0)+dE.length=dE.length by simp[aN],Lib.b_ (by omega) (by omega)];rfl
end J_

namespace lE
def r2(N:aE)(g k0 k1:E4 R)(a:aW)(d e:ax)(f:aq)(h:aQ):az R:=bif decide (d<(h.length:ax))then bif decide (0<=d)&&decide (d<(h.length:ax))then bif !kj.v (bI (ar h d.toNat 0)) 1 9 then k0 ak d e f h else bif decide (d>0)then bif decide (0<=bH (d-1))&&decide (bH (d-1)<(h.length:ax))then bif decide (bI (ar h (bH (d-1)).toNat 0)≥bI (ar h d.toNat 0))then k0 ak d e f h else bif !kj.v (bI (ar h d.toNat 1)) 0 (f.size:ax)then k0 ak d e f h else g a (bH (d+1)) e f h else aj else bif !kj.v (bI (ar h d.toNat 1)) 0 (f.size:ax)then k0 ak d e f h else g a (bH (d+1)) e f h else aj else k1 a d e f h
def l2(N:aE)(k0 k1:E4 R):aE->E4 R
 |0=>λ_ _ _ _ _=>aj
 |n+1=>r2 N (l2 N k0 k1 n) k0 k1
def b(N:aE)(kr:aW->az R)(a:ax)(d:aq)(e:aQ):az R:=l2 N (λf _ _ _ _=>kr f) (λ_ _ f h i=>bif kj.v f 1 3 then bif decide ((h.size:ax)<=400)then kr (decide ((i.length:ax)<=6))else kr ak else kr ak) N ak 0 a d e
def el(t:aq)(rs:aQ)(i:aE):aW:=decide (1<=bI (ar rs i 0)/\bI (ar rs i 0)<=9)&&(decide (0<=bI (ar rs i 1)/\bI (ar rs i 1)<=t.size)&&(i==0||decide (bI (ar rs (i-1) 0)<bI (ar rs i 0))))
def rest(st:ax)(t:aq)(rs:aQ):aW:=decide (1<=st/\st<=3)&&(decide (t.size<=400)&&decide (rs.length<=6))
def v(fZ:ax)(eT:aq)(dE:aQ):aW:=(cR dE.length).all (el eT dE)&&rest fZ eT dE
theorem mT(n a b:ax):kj.v n a b=decide (a<=n/\n<=b):=by unfold kj.v;by_cases h:a<=n<;>by_cases h2:n<=b<;>simp[h,h2]
theorem Nz(st:ax)(t:aq)(rs:aQ){R:Type}(kr:aW->az R):(bif kj.v st 1 3 then bif decide ((t.size:ax)<=400)then kr (decide ((rs.length:ax)<=6))else kr ak else kr ak)=kr (rest st t rs):=by
 unfold rest;rw[mT];have e1:decide ((t.size:ax)<=400)=decide (t.size<=400):=by rw[ca];omega
 have e2:decide ((rs.length:ax)<=6)=decide (rs.length<=6):=by rw[ca];omega
 rw[e1,e2];cases decide (1<=st/\st<=3)<;>cases decide (t.size<=400)<;>rfl
theorem CX{i:aE}(h:0<i)(hn:i<=9223372036854775807):bH ((i:ax)-1)=((i-1:aE):ax):=by rw[iE (by omega) (by omega)];omega
theorem HW(p:aE->aW){i n:aE}(h:i<n):(iP i (n-i)).all p=(p i&&(iP (i+1) (n-(i+1))).all p):=by rw[show n-i=(n-(i+1))+1 by omega,List.range'_succ,uI]
theorem eh(kr:aW->az R)(fZ:ax)(eT:aq)(dE:aQ)(f0:DK eT)(f1:vA dE):∃N,b N kr fZ eT dE=kr (v fZ eT dE):=by
 refine⟨dE.length+1, ?_⟩
 unfold b;simp only[Nz]
 have:=Lib.fQ (λn (i:aE)=>l2 (dE.length+1) (λy5 y6 y7 y8 y9=>kr y5) (λHB uC LP Hj V1=>kr (rest LP Hj V1)) n ak i fZ eT dE) (λi=>dE.length-i) (λi=>i<=dE.length)
  (λi=>kr ((iP i (dE.length-i)).all (el eT dE)&&rest fZ eT dE)) (λn i hi=>by
  simp only[l2,r2,Lib.dn,Lib.cE,Lib.dZ,bh,mT]
  by_cases h:i<dE.length
  ·rw[HW _ h];simp only[h,aP,au,Lib.c6 h f1.1];cases h1:decide (1<=bI (ar dE i 0)/\bI (ar dE i 0)<=9)with
   |false=>left;simp[el,h1]
   |true=>
    simp only[aY,ay];by_cases hz:0<i
    ·have e0:decide ((i:ax)>0)=true:=by simp;omega
     have hp:i-1<dE.length:=by omega
     have hi0:(i==0)=false:=by simp;omega
     simp only[e0,au,CX hz (by have:=f1.1;omega),Lib.cE,Lib.dn,Lib.dZ,hp,aP,aM];cases h2:decide (bI (ar dE (i-1) 0)≥bI (ar dE i 0))with
     |true=>
      left;have e3:decide (bI (ar dE (i-1) 0)<bI (ar dE i 0))=false:=by simp at h2⊢;omega
      simp[el,e3,hi0]
     |false=>
      have e3:decide (bI (ar dE (i-1) 0)<bI (ar dE i 0))=true:=by simp at h2⊢;omega
      cases h3:decide (0<=bI (ar dE i 1)/\bI (ar dE i 1)<=eT.size)with
      |false=>left;simp[el,h3]
      |true=>right;exact⟨i+1,h,by omega,by simp only[el,h1,h3,e3,JT,bh],rfl⟩
    ·have hz:i=0:=by omega
     subst hz;simp only[show decide (((0:aE):ax)>0)=ak from rfl,ay];cases h3:decide (0<=bI (ar dE 0 1)/\bI (ar dE 0 1)<=eT.size)with
     |false=>left;simp[el,h3]
     |true=>right;exact⟨1,h,by omega,by simp only[el,h1,h3,bh];rfl,rfl⟩
  ·left;have h0:dE.length-i=0:=by omega
   simp only[h,bf,ay,h0,Ws,List.all_nil,bh]) (dE.length+1) 0 (by omega) (by omega)
 refine this.trans ?_;unfold v;rw[rX,<-Wt]
end lE

namespace Gc
def b(kr:E7 R)(a:ax)(d:aq)(e:aQ)(f:aq):az R:=bif J_.c a d e then bif !lE.v a d e then kr a d e ak else bif a !=1 then kr a d e ak else bif !kj.v (f.size:ax) 1 40 then kr a d e ak else bif decide (bH ((d.size:ax)+(f.size:ax))>400)then kr a d e ak else bif decide (d.size+f.size<=4611686018427387904)then kr a (d++f) e ai else aj else aj
def v(fZ:ax)(eT:aq)(dE:aQ)(gq:aq):ax×aq×aQ×aW:=
 if lE.v fZ eT dE=ai/\fZ=1/\1<=gq.size/\gq.size<=40/\eT.size+gq.size<=400 then(fZ,eT++gq,dE,ai)else(fZ,eT,dE,ak)
def c(fZ:ax)(eT:aq)(dE:aQ)(gq:aq):aW:=decide (dE.length<=4294967296)
theorem eh(kr:E7 R)(fZ:ax)(eT:aq)(dE:aQ)(gq:aq)(hc:c fZ eT dE gq=ai)(f0:DK eT)(f1:vA dE)(f2:DK gq):b kr fZ eT dE gq=kr (v fZ eT dE gq).1 (v fZ eT dE gq).2.1 (v fZ eT dE gq).2.2.1 (v fZ eT dE gq).2.2.2:=by
 have hs1:eT.size<=4611686018427387904:=f0;have M9:gq.size<=4611686018427387904:=f2;have e1:J_.c fZ eT dE=true:=hc;have e2:∀a b c,lE.v a b c=lE.v a b c:=λ_ _ _=>rfl;have e3:∀n a b,kj.v n a b=decide (a<=n/\n<=b):=lE.mT;unfold b v;rw[e1,e2,e3,au];cases h1:lE.v fZ eT dE with
 |false=>simp
 |true=>
  by_cases h2:fZ=1
  ·by_cases h3:1<=(gq.size:ax)/\(gq.size:ax)<=40
   ·have e4:bH ((eT.size:ax)+(gq.size:ax))=eT.size+gq.size:=iE (by omega) (by omega);rw[e4,aG h3];by_cases h4:(eT.size:ax)+(gq.size:ax)>400
    ·rw[Lib.zQ h4,bG (by omega)];simp[h2]
    ·rw[Lib.Ii h4,bw (by refine⟨rfl,h2, ?_, ?_, ?_⟩<;>omega),Lib.zQ (show eT.size+gq.size<=4611686018427387904 by omega)];simp[h2]
   ·rw[aK h3,bG (by omega)];simp
  ·have iw:(fZ !=1)=true:=bne_iff_ne.mpr h2;rw[bG (by simp[h2]),iw];rfl
end Gc

namespace sA
def r1(N:aE)(g k0:jC R)(a d e f h i:ax)(j l m o p q:aQ):az R:=bif decide (e<(q.length:ax))then bif decide (0<=e)&&decide (e<(q.length:ax))then bif decide (bI (ar q e.toNat 2)=bH (a+1))then bif decide (0<=e)&&decide (e<(q.length:ax))then bif decide (bI (ar q e.toNat 4)=1)then bif decide (0<=a)&&decide (a<(p.length:ax))then bif decide (0<=e)&&decide (e<(q.length:ax))then bif decide (0<=e)&&decide (e<((eA q e.toNat 5 [.s (bn (ar p a.toNat 1))]).length:ax))then g a d (bH (e+1)) f h i j l m o p (eA (eA q e.toNat 5 [.s (bn (ar p a.toNat 1))]) e.toNat 4 [.i .i64 d])else aj else aj else aj else g a d (bH (e+1)) f h i j l m o p q else aj else g a d (bH (e+1)) f h i j l m o p q else aj else k0 a d e f h i j l m o p q
def l1(N:aE)(k0:jC R):aE->jC R
 |0=>λ_ _ _ _ _ _ _ _ _ _ _ _=>aj
 |n+1=>r1 N (l1 N k0 n) k0
def b(N:aE)(kr:eM R)(a:ax)(d e f h:aQ)(i:ax)(j l:aQ)(m o p:ax):az R:=l1 N (λ_ _ _ q r s t u w y z α=>kr q t u w y r z α s) N o p 0 a i m d e f h j l
def vo:=b Lib.cU λr0 r1 r2 r3 r4 r5 r6 r7 r8=>ah (r0,r1,r2,r3,r4,r5,r6,r7,r8)
def c:=λa d e f h i j l m o p=>(vo a d e f h i j l m o p).isSome
def v:=λa d e f h i j l m o p=>(vo a d e f h i j l m o p).getD (0,[],[],[],[],0,[],[],0)
theorem out{x}:∀a d e f h i j l m o p,vo a d e f h i j l m o p=ah x->c a d e f h i j l m o p=ai/\v a d e f h i j l m o p=x:=λ_ _ _ _ _ _ _ _ _ _ _=>Lib.db
end sA

namespace Dn
def b(kr:kQ R)(a:ax)(d e f h:aQ)(i:ax)(j l:aQ)(m o:ax)(p:aq):az R:=bif fI.c a d e f h i j l m then Lib.lt (fI.v a d e f h i j l m) λq=>bif uT.c a d e f h i j l m o then Lib.lt (uT.v a d e f h i j l m o) λr=>bif !r then kr q.1 q.2.1 q.2.2.1 q.2.2.2.1 q.2.2.2.2.1 q.2.2.2.2.2.1 q.2.2.2.2.2.2.1 q.2.2.2.2.2.2.2.1 q.2.2.2.2.2.2.2.2 ak else bif decide (0<=o)&&decide (o<(j.length:ax))then bif !(Gc.v 1 (bn (ar j o.toNat 1)) [] p).2.2.2 then kr q.1 q.2.1 q.2.2.1 q.2.2.2.1 q.2.2.2.2.1 q.2.2.2.2.2.1 q.2.2.2.2.2.2.1 q.2.2.2.2.2.2.2.1 q.2.2.2.2.2.2.2.2 ak else bif decide (0<=o)&&decide (o<(q.2.2.2.2.2.2.1.length:ax))then bif sA.c q.1 q.2.1 q.2.2.1 q.2.2.2.1 q.2.2.2.2.1 q.2.2.2.2.2.1 (eA q.2.2.2.2.2.2.1 o.toNat 1 [.s (Gc.v 1 (bn (ar j o.toNat 1)) [] p).2.1]) q.2.2.2.2.2.2.2.1 q.2.2.2.2.2.2.2.2 o 1 then Lib.lt (sA.v q.1 q.2.1 q.2.2.1 q.2.2.2.1 q.2.2.2.2.1 q.2.2.2.2.2.1 (eA q.2.2.2.2.2.2.1 o.toNat 1 [.s (Gc.v 1 (bn (ar j o.toNat 1)) [] p).2.1]) q.2.2.2.2.2.2.2.1 q.2.2.2.2.2.2.2.2 o 1) λs=>kr s.1 s.2.1 s.2.2.1 s.2.2.2.1 s.2.2.2.2.1 s.2.2.2.2.2.1 s.2.2.2.2.2.2.1 s.2.2.2.2.2.2.2.1 s.2.2.2.2.2.2.2.2 ai else aj else aj else aj else aj else aj
def vo:=b λr0 r1 r2 r3 r4 r5 r6 r7 r8 r9=>ah (r0,r1,r2,r3,r4,r5,r6,r7,r8,r9)
def c:=λa d e f h i j l m o p=>(vo a d e f h i j l m o p).isSome
def v:=λa d e f h i j l m o p=>(vo a d e f h i j l m o p).getD (0,[],[],[],[],0,[],[],0,ak)
theorem out{x}:∀a d e f h i j l m o p,vo a d e f h i j l m o p=ah x->c a d e f h i j l m o p=ai/\v a d e f h i j l m o p=x:=λ_ _ _ _ _ _ _ _ _ _ _=>Lib.db
end Dn

namespace lH
def r9(N:aE)(g k0:oI R)(a:aQ)(d:ax)(e:aq)(f h:ax)(i:aq)(j:aQ):az R:=bif decide (d<(a.length:ax))then bif decide (0<=d)&&decide (d<(a.length:ax))then bif !(bY (bn (ar a d.toNat 0)).toList (aF e)||List.beq (bn (ar a d.toNat 0)).toList (aF e))then bif decide (0<=d)&&decide (d<(a.length:ax))then bif cg (j.length+(aA (aN [Ck.s,Ck.i ao,Ck.i ao,Ck.s] 1) 0 [.s (bn (ar a d.toNat 0)), .i .i64 (bI (ar a d.toNat 1)), .i .i64 (bI (ar a d.toNat (1+1))), .s (bn (ar a d.toNat (1+1+1)))]).length) 48 then g a (bH (d+1)) e f h i (j++aA (aN [Ck.s,Ck.i ao,Ck.i ao,Ck.s] 1) 0 [.s (bn (ar a d.toNat 0)), .i .i64 (bI (ar a d.toNat 1)), .i .i64 (bI (ar a d.toNat (1+1))), .s (bn (ar a d.toNat (1+1+1)))])else aj else aj else g a (bH (d+1)) e f h i j else aj else k0 a d e f h i j
def l9(N:aE)(k0:oI R):aE->oI R
 |0=>λ_ _ _ _ _ _ _=>aj
 |n+1=>r9 N (l9 N k0 n) k0
def r3(N:aE)(g k0:oI R)(a:aQ)(d:ax)(e:aq)(f h:ax)(i:aq)(j:aQ):az R:=bif decide (d<(a.length:ax))then bif decide (0<=d)&&decide (d<(a.length:ax))then bif bY (bn (ar a d.toNat 0)).toList (aF e)then bif decide (0<=d)&&decide (d<(a.length:ax))then bif cg (j.length+(aA (aN [Ck.s,Ck.i ao,Ck.i ao,Ck.s] 1) 0 [.s (bn (ar a d.toNat 0)), .i .i64 (bI (ar a d.toNat 1)), .i .i64 (bI (ar a d.toNat (1+1))), .s (bn (ar a d.toNat (1+1+1)))]).length) 48 then g a (bH (d+1)) e f h i (j++aA (aN [Ck.s,Ck.i ao,Ck.i ao,Ck.s] 1) 0 [.s (bn (ar a d.toNat 0)), .i .i64 (bI (ar a d.toNat 1)), .i .i64 (bI (ar a d.toNat (1+1))), .s (bn (ar a d.toNat (1+1+1)))])else aj else aj else g a (bH (d+1)) e f h i j else aj else k0 a d e f h i j
def l3(N:aE)(k0:oI R):aE->oI R
 |0=>λ_ _ _ _ _ _ _=>aj
 |n+1=>r3 N (l3 N k0 n) k0
def b(N:aE)(kr:aQ->az R)(a:aQ)(d:aq)(e f:ax)(h:aq):az R:=l3 N (λi _ j l m o p=>bif cg (p.length+(aA (aN [Ck.s,Ck.i ao,Ck.i ao,Ck.s] 1) 0 [.s j, .i .i64 l, .i .i64 m, .s o]).length) 48 then l9 N (λ_ _ _ _ _ _ q=>kr q) N i 0 j l m o (p++aA (aN [Ck.s,Ck.i ao,Ck.i ao,Ck.s] 1) 0 [.s j, .i .i64 l, .i .i64 m, .s o])else aj) N a 0 d e f h (aN [Ck.s,Ck.i ao,Ck.i ao,Ck.s] 0)
def vo:=b Lib.cU λr0=>ah r0
def c:=λa d e f h=>(vo a d e f h).isSome
def v:=λa d e f h=>(vo a d e f h).getD ([])
theorem out{x}:∀a d e f h,vo a d e f h=ah x->c a d e f h=ai/\v a d e f h=x:=λ_ _ _ _ _=>Lib.db
end lH

namespace Oi
def b(kr:eM R)(a:ax)(d e f h:aQ)(i:ax)(j l:aQ)(m:ax)(o:aq)(p q:ax)(r:aq):az R:=bif eV.c e f h i o then Lib.lt (eV.v e f h i o) λs=>bif !List.beq (aF s.2.2.2.2) (aF ⟨#[]⟩)then bif p9.c d s.2.2.2.2 then Lib.lt (p9.v d s.2.2.2.2) λt=>bif sR.c s.1 s.2.1 s.2.2.1 s.2.2.2.1 o then Lib.lt (sR.v s.1 s.2.1 s.2.2.1 s.2.2.2.1 o) λu=>bif u then bif lH.c t o p q r then Lib.lt (lH.v t o p q r) λw=>kr a w s.1 s.2.1 s.2.2.1 s.2.2.2.1 j l m else aj else kr a t s.1 s.2.1 s.2.2.1 s.2.2.2.1 j l m else aj else aj else bif sR.c s.1 s.2.1 s.2.2.1 s.2.2.2.1 o then Lib.lt (sR.v s.1 s.2.1 s.2.2.1 s.2.2.2.1 o) λt=>bif t then bif lH.c d o p q r then Lib.lt (lH.v d o p q r) λu=>kr a u s.1 s.2.1 s.2.2.1 s.2.2.2.1 j l m else aj else kr a d s.1 s.2.1 s.2.2.1 s.2.2.2.1 j l m else aj else aj
def vo:=b λr0 r1 r2 r3 r4 r5 r6 r7 r8=>ah (r0,r1,r2,r3,r4,r5,r6,r7,r8)
def c:=λa d e f h i j l m o p q r=>(vo a d e f h i j l m o p q r).isSome
def v:=λa d e f h i j l m o p q r=>(vo a d e f h i j l m o p q r).getD (0,[],[],[],[],0,[],[],0)
theorem out{x}:∀a d e f h i j l m o p q r,vo a d e f h i j l m o p q r=ah x->c a d e f h i j l m o p q r=ai/\v a d e f h i j l m o p q r=x:=λ_ _ _ _ _ _ _ _ _ _ _ _ _=>Lib.db
end Oi

namespace Ds
def b(kr:kQ R)(a:ax)(d e f h:aQ)(i:ax)(j l:aQ)(m o p:ax):az R:=bif fI.c a d e f h i j l m then Lib.lt (fI.v a d e f h i j l m) λq=>bif uT.c a d e f h i j l m o then Lib.lt (uT.v a d e f h i j l m o) λr=>bif !r then kr q.1 q.2.1 q.2.2.1 q.2.2.2.1 q.2.2.2.2.1 q.2.2.2.2.2.1 q.2.2.2.2.2.2.1 q.2.2.2.2.2.2.2.1 q.2.2.2.2.2.2.2.2 ak else bif !kj.v p 0 999999 then kr q.1 q.2.1 q.2.2.1 q.2.2.2.1 q.2.2.2.2.1 q.2.2.2.2.2.1 q.2.2.2.2.2.2.1 q.2.2.2.2.2.2.2.1 q.2.2.2.2.2.2.2.2 ak else bif decide (0<=o)&&decide (o<(j.length:ax))then bif decide (0<=o)&&decide (o<(q.2.2.2.2.2.2.1.length:ax))then bif sA.c q.1 q.2.1 q.2.2.1 q.2.2.2.1 q.2.2.2.2.1 q.2.2.2.2.2.1 (eA q.2.2.2.2.2.2.1 o.toNat 0 [.s (bn (ar j o.toNat 0)), .s (bn (ar j o.toNat 1)), .i .i64 2, .i .i64 p, .i .i64 a]) q.2.2.2.2.2.2.2.1 q.2.2.2.2.2.2.2.2 o 2 then Lib.lt (sA.v q.1 q.2.1 q.2.2.1 q.2.2.2.1 q.2.2.2.2.1 q.2.2.2.2.2.1 (eA q.2.2.2.2.2.2.1 o.toNat 0 [.s (bn (ar j o.toNat 0)), .s (bn (ar j o.toNat 1)), .i .i64 2, .i .i64 p, .i .i64 a]) q.2.2.2.2.2.2.2.1 q.2.2.2.2.2.2.2.2 o 2) λs=>bif decide (p>0)then bif Oi.c s.1 s.2.1 s.2.2.1 s.2.2.2.1 s.2.2.2.2.1 s.2.2.2.2.2.1 s.2.2.2.2.2.2.1 s.2.2.2.2.2.2.2.1 s.2.2.2.2.2.2.2.2 (bn (ar j o.toNat 0)) a p (bn (ar j o.toNat 1))then Lib.lt (Oi.v s.1 s.2.1 s.2.2.1 s.2.2.2.1 s.2.2.2.2.1 s.2.2.2.2.2.1 s.2.2.2.2.2.2.1 s.2.2.2.2.2.2.2.1 s.2.2.2.2.2.2.2.2 (bn (ar j o.toNat 0)) a p (bn (ar j o.toNat 1))) λt=>kr t.1 t.2.1 t.2.2.1 t.2.2.2.1 t.2.2.2.2.1 t.2.2.2.2.2.1 t.2.2.2.2.2.2.1 t.2.2.2.2.2.2.2.1 t.2.2.2.2.2.2.2.2 ai else aj else kr s.1 s.2.1 s.2.2.1 s.2.2.2.1 s.2.2.2.2.1 s.2.2.2.2.2.1 s.2.2.2.2.2.2.1 s.2.2.2.2.2.2.2.1 s.2.2.2.2.2.2.2.2 ai else aj else aj else aj else aj else aj
def vo:=b λr0 r1 r2 r3 r4 r5 r6 r7 r8 r9=>ah (r0,r1,r2,r3,r4,r5,r6,r7,r8,r9)
def c:=λa d e f h i j l m o p=>(vo a d e f h i j l m o p).isSome
def v:=λa d e f h i j l m o p=>(vo a d e f h i j l m o p).getD (0,[],[],[],[],0,[],[],0,ak)
theorem out{x}:∀a d e f h i j l m o p,vo a d e f h i j l m o p=ah x->c a d e f h i j l m o p=ai/\v a d e f h i j l m o p=x:=λ_ _ _ _ _ _ _ _ _ _ _=>Lib.db
end Ds

namespace ki
def r2(N:aE)(g k0:JX R)(a:ax)(d:aQ):az R:=bif decide (a>127)then bif cg (d.length+(aA (aN [Ck.i ba] 1) 0 [CV.i ba (bE ba (bH (cK a 128+128)))]).length) 1 then g (bH (cL a 128)) (d++aA (aN [Ck.i ba] 1) 0 [CV.i ba (bE ba (bH (cK a 128+128)))])else aj else k0 a d
def l2(N:aE)(k0:JX R):aE->JX R
 |0=>λ_ _=>aj
 |n+1=>r2 N (l2 N k0 n) k0
def b(N:aE)(kr:aq->az R)(a:ax):az R:=l2 N (λd e=>bif cg (e.length+(aA (aN [Ck.i ba] 1) 0 [CV.i ba (bE ba d)]).length) 1 then bif decide ((e++aA (aN [Ck.i ba] 1) 0 [CV.i ba (bE ba d)]).length<=4611686018427387904)then kr (bytesOf (e++aA (aN [Ck.i ba] 1) 0 [CV.i ba (bE ba d)]))else aj else aj) N a (aN [Ck.i ba] 0)
def v(n0:ax):aq:=bytesOf (Lib.vb n0)
def c(n0:ax):aW:=decide (n0<=9223372036854775807)
theorem eh(kr:aq->az R)(n0:ax)(hc:c n0=ai):∃N,b N kr n0=kr (v n0):=by
 refine⟨n0.toNat+1, ?_⟩
 refine Lib.NW (λn x acc=>l2 (n0.toNat+1) _ n x acc) kr (λn x acc h hl=> ?_) (λn x acc h hl=> ?_) n0 (cm hc)
 ·simp only[l2,r2,h,aP,au,Lib.iI,show acc.length+bM [[CV.i ba (bE ba (bH (cK x 128+128)))]]=acc.length+1 from rfl,Lib.zy (show acc.length+1<=140737488355328 by omega),show decide ((128:ax)=0)=ak from rfl,wh,bQ]
 ·simp only[l2,r2,h,bf,ay,Lib.iI,show acc.length+bM [[CV.i ba (bE ba x)]]=acc.length+1 from rfl,Lib.zy (show acc.length+1<=140737488355328 by omega),au];exact Lib.s6 (Lib.zQ (by rw[bV,bz];omega))
end ki

namespace jE
def b(kr:yD R)(a:aq)(d e:ax)(f:aq):az R:=bif !nk.v a d e f then kr ⟨#[]⟩ ak else bif ki.c (a.size:ax)then bif decide ((ki.v (a.size:ax)).size+a.size<=4611686018427387904)then bif ki.c d then bif decide ((ki.v (a.size:ax)++a).size+(ki.v d).size<=4611686018427387904)then bif ki.c e then bif decide ((ki.v (a.size:ax)++a++ki.v d).size+(ki.v e).size<=4611686018427387904)then bif decide ((ki.v (a.size:ax)++a++ki.v d++ki.v e).size+f.size<=4611686018427387904)then kr (ki.v (a.size:ax)++a++ki.v d++ki.v e++f) ai else aj else aj else aj else aj else aj else aj else aj
def sH(k:aq)(s l:ax)(b:aq):aq:=bytesOf (Lib.vb k.size)++k++bytesOf (Lib.vb s)++bytesOf (Lib.vb l)++b
def v(oA:aq)(o8:ax)(o9:ax)(uW:aq):aq×aW:=if nk.v oA o8 o9 uW=ai then(sH oA o8 o9 uW,ai)else(⟨#[]⟩,ak)
theorem eh(kr:yD R)(oA:aq)(o8:ax)(o9:ax)(uW:aq):b kr oA o8 o9 uW=kr (v oA o8 o9 uW).1 (v oA o8 o9 uW).2:=by
 unfold b v;cases h:nk.v oA o8 o9 uW with
 |false=>rfl
 |true=>have hr:=nk.ES h;have cc:∀x:ax,x<=9223372036854775807->ki.c x=true:=λx hx=>aG hx;have z1:(ki.v (oA.size:ax)).size<=64:=Lib.jJ (x:=(oA.size:ax)) (by omega);have z2:(ki.v o8).size<=64:=Lib.jJ (x:=o8) (by omega);have z3:(ki.v o9).size<=64:=Lib.jJ (x:=o9) (by omega);simp(disch:=omega) only[aY,ay,cc _ (show(oA.size:ax)<=9223372036854775807 by omega),cc o8 (by omega),cc o9 (by omega),au,if_true,Lib.j8,Lib.RW];rfl
end jE

namespace oX
def b(kr:aq->az R)(a:ax):az R:=kr (bytesOf (aA (aA (aA (aA (aN [Ck.i ba] 4) 0 [CV.i ba (bE ba (ll a (gY 2 (if aZ 24<=32 then aZ 24 else 32))))]) 1 [CV.i ba (bE ba (ll a (gY 2 (if aZ 16<=32 then aZ 16 else 32))))]) 2 [CV.i ba (bE ba (ll a (gY 2 (if aZ 8<=32 then aZ 8 else 32))))]) 3 [CV.i ba (bE ba a)]))
def v(a0:ax):aq:=(bytesOf (aA (aA (aA (aA (aN [Ck.i ba] 4) 0 [CV.i ba (bE ba (ll a0 (gY 2 (if aZ 24<=32 then aZ 24 else 32))))]) 1 [CV.i ba (bE ba (ll a0 (gY 2 (if aZ 16<=32 then aZ 16 else 32))))]) 2 [CV.i ba (bE ba (ll a0 (gY 2 (if aZ 8<=32 then aZ 8 else 32))))]) 3 [CV.i ba (bE ba a0)]))
theorem eh(kr:aq->az R)(a0:ax):b kr a0=kr (v a0):=by first|rfl|(unfold b v;simp only[cz];(repeat' split)<;>rfl)
end oX

namespace fH
def b(kr:yD R)(a:aq):az R:=bif !kj.v (a.size:ax) 1 9000 then kr ⟨#[]⟩ ak else bif ki.c (a.size:ax)then bif vK.c a then bif decide ((ki.v (a.size:ax)).size+(oX.v (vK.v a)).size<=4611686018427387904)then bif decide ((ki.v (a.size:ax)++oX.v (vK.v a)).size+a.size<=4611686018427387904)then kr (ki.v (a.size:ax)++oX.v (vK.v a)++a) ai else aj else aj else aj else aj
def vo:=b λr0 r1=>ah (r0,r1)
def c:=λa=>(vo a).isSome
def v:=λa=>(vo a).getD (⟨#[]⟩,ak)
theorem out{x}:∀a,vo a=ah x->c a=ai/\v a=x:=λ_=>Lib.db
end fH

namespace Dt
def b(kr:HE R)(a:aq)(d e:ax)(f:aq):az R:=bif fH.c (jE.v a d e f).1 then bif !(jE.v a d e f).2 then kr (aN [Ck.i ao,Ck.s,Ck.s,Ck.s] 0) ak else bif !(fH.v (jE.v a d e f).1).2 then kr (aN [Ck.i ao,Ck.s,Ck.s,Ck.s] 0) ak else kr (aA (aA (aN [Ck.i ao,Ck.s,Ck.s,Ck.s] 2) 0 [.i .i64 1, .s {data:= #[aw 107,aw 101,aw 112,aw 116]}, .s (fH.v (jE.v a d e f).1).1, .s ⟨#[]⟩]) 1 [.i .i64 2, .s {data:= #[aw 107,aw 101,aw 112,aw 116]}, .s ⟨#[]⟩, .s ⟨#[]⟩]) ai else aj
def vo:=b λr0 r1=>ah (r0,r1)
def c:=λa d e f=>(vo a d e f).isSome
def v:=λa d e f=>(vo a d e f).getD ([],ak)
theorem out{x}:∀a d e f,vo a d e f=ah x->c a d e f=ai/\v a d e f=x:=λ_ _ _ _=>Lib.db
end Dt

namespace pZ
def b(kr:aW->az R)(a:aq):az R:=kr (kj.v (a.size:ax) 1 8)
def v(a0:aq):aW:=(kj.v (a0.size:ax) 1 8)
theorem eh(kr:aW->az R)(a0:aq):b kr a0=kr (v a0):=by first|rfl|(unfold b v;simp only[cz];(repeat' split)<;>rfl)
end pZ

namespace gO
def r4(N:aE)(g k0 k1:Qm R)(a:aW)(d:ax)(e:aQ):az R:=bif decide (d<(e.length:ax))then bif decide (0<=d)&&decide (d<(e.length:ax))then bif !pZ.v (bn (ar e d.toNat 0))then k0 ak d e else bif decide (((bn (ar e d.toNat 1)).size:ax)>20000)then k0 ak d e else bif !kj.v (bI (ar e d.toNat (1+1))) 0 ((bn (ar e d.toNat 1)).size:ax)then k0 ak d e else bif decide (d>0)then bif decide (0<=bH (d-1))&&decide (bH (d-1)<(e.length:ax))then bif !Op.bytesLess (bn (ar e (bH (d-1)).toNat 0)).toList (bn (ar e d.toNat 0)).toList then k0 ak d e else g a (bH (d+1)) e else aj else g a (bH (d+1)) e else aj else k1 a d e
def l4(N:aE)(k0 k1:Qm R):aE->Qm R
 |0=>λ_ _ _=>aj
 |n+1=>r4 N (l4 N k0 k1 n) k0 k1
def b(N:aE)(kr:aW->az R)(a:aQ):az R:=bif decide ((a.length:ax)>30)then kr ak else l4 N (λd _ _=>kr d) (λ_ _ _=>kr ai) N ak 0 a
def vo:=b Lib.cU λr0=>ah r0
def c:=λa=>(vo a).isSome
def v:=λa=>(vo a).getD ak
theorem out{x}:∀a,vo a=ah x->c a=ai/\v a=x:=λ_=>Lib.db
end gO

namespace ju
def r2(N:aE)(g k0 k1:mf R)(a:aq)(d e:ax)(f:aQ):az R:=bif decide (e<(f.length:ax))then bif decide (0<=e)&&decide (e<(f.length:ax))then bif cF (bn (ar f e.toNat 0)).toList (aF a)then k0 a e e f else g a d (bH (e+1)) f else aj else k1 a d e f
def l2(N:aE)(k0 k1:mf R):aE->mf R
 |0=>λ_ _ _ _=>aj
 |n+1=>r2 N (l2 N k0 k1 n) k0 k1
def b(N:aE)(kr:ax->az R)(a:aQ)(d:aq):az R:=l2 N (λ_ e _ _=>kr e) (λ_ _ _ _=>kr (-1)) N d 0 0 a
def vo:=b Lib.cU λr0=>ah r0
def c:=λa d=>(vo a d).isSome
def v:=λa d=>(vo a d).getD (0)
theorem out{x}:∀a d,vo a d=ah x->c a d=ai/\v a d=x:=λ_ _=>Lib.db
end ju

namespace eg
def r9(N:aE)(g k0:lK R)(a:ax)(d:aQ)(e f:aq)(h:ax)(i:aQ):az R:=bif decide (a<(d.length:ax))then bif decide (0<=a)&&decide (a<(d.length:ax))then bif !(bY (bn (ar d a.toNat 0)).toList (aF e)||List.beq (bn (ar d a.toNat 0)).toList (aF e))then bif decide (0<=a)&&decide (a<(d.length:ax))then bif cg (i.length+(aA (aN [Ck.s,Ck.s,Ck.i ao] 1) 0 [.s (bn (ar d a.toNat 0)), .s (bn (ar d a.toNat 1)), .i .i64 (bI (ar d a.toNat (1+1)))]).length) 40 then g (bH (a+1)) d e f h (i++aA (aN [Ck.s,Ck.s,Ck.i ao] 1) 0 [.s (bn (ar d a.toNat 0)), .s (bn (ar d a.toNat 1)), .i .i64 (bI (ar d a.toNat (1+1)))])else aj else aj else g (bH (a+1)) d e f h i else aj else k0 a d e f h i
def l9(N:aE)(k0:lK R):aE->lK R
 |0=>λ_ _ _ _ _ _=>aj
 |n+1=>r9 N (l9 N k0 n) k0
def r3(N:aE)(g:qR R)(g1:lK R)(k0:qR R)(k1:lK R)(a:ax)(d:aQ)(e f:aq)(h:ax):az R:=bif decide (a<(d.length:ax))then bif decide (0<=a)&&decide (a<(d.length:ax))then bif bY (bn (ar d a.toNat 0)).toList (aF e)then bif decide (0<=a)&&decide (a<(d.length:ax))then g1 (bH (a+1)) d e f h ([]++aA (aN [Ck.s,Ck.s,Ck.i ao] 1) 0 [.s (bn (ar d a.toNat 0)), .s (bn (ar d a.toNat 1)), .i .i64 (bI (ar d a.toNat (1+1)))])else aj else g (bH (a+1)) d e f h else aj else k0 a d e f h
def zw(N:aE)(g:qR R)(g1:lK R)(k0:qR R)(k1:lK R)(a:ax)(d:aQ)(e f:aq)(h:ax)(i:aQ):az R:=bif decide (a<(d.length:ax))then bif decide (0<=a)&&decide (a<(d.length:ax))then bif bY (bn (ar d a.toNat 0)).toList (aF e)then bif decide (0<=a)&&decide (a<(d.length:ax))then bif cg (i.length+(aA (aN [Ck.s,Ck.s,Ck.i ao] 1) 0 [.s (bn (ar d a.toNat 0)), .s (bn (ar d a.toNat 1)), .i .i64 (bI (ar d a.toNat (1+1)))]).length) 40 then g1 (bH (a+1)) d e f h (i++aA (aN [Ck.s,Ck.s,Ck.i ao] 1) 0 [.s (bn (ar d a.toNat 0)), .s (bn (ar d a.toNat 1)), .i .i64 (bI (ar d a.toNat (1+1)))])else aj else aj else g1 (bH (a+1)) d e f h i else aj else k1 a d e f h i
def sE(N:aE)(k0:qR R)(k1:lK R):aE->lK R
 |0=>λ_ _ _ _ _ _=>aj
 |n+1=>zw N (λx0 x1 x2 x3 x4=>aj) (sE N k0 k1 n) k0 k1
def l3(N:aE)(k0:qR R)(k1:lK R):aE->qR R
 |0=>λ_ _ _ _ _=>aj
 |n+1=>r3 N (l3 N k0 k1 n) (sE N k0 k1 n) k0 k1
def b(N:aE)(kr:aQ->az R)(a:aQ)(d e:aq)(f:ax):az R:=l3 N (λ_ h i j l=>l9 N (λ_ _ _ _ _ m=>kr m) N 0 h i j l ([]++aA (aN [Ck.s,Ck.s,Ck.i ao] 1) 0 [.s i, .s j, .i .i64 l])) (λ_ h i j l m=>bif cg (m.length+(aA (aN [Ck.s,Ck.s,Ck.i ao] 1) 0 [.s i, .s j, .i .i64 l]).length) 40 then l9 N (λ_ _ _ _ _ o=>kr o) N 0 h i j l (m++aA (aN [Ck.s,Ck.s,Ck.i ao] 1) 0 [.s i, .s j, .i .i64 l])else aj) N 0 a d e f
def vo:=b Lib.cU λr0=>ah r0
def c:=λa d e f=>(vo a d e f).isSome
def v:=λa d e f=>(vo a d e f).getD ([])
theorem out{x}:∀a d e f,vo a d e f=ah x->c a d e f=ai/\v a d e f=x:=λ_ _ _ _=>Lib.db
end eg

namespace eN
def r3(N:aE)(g:u6 R)(g1:vx R)(k0:u6 R)(k1:vx R)(a:aq)(d:ax)(e:aQ):az R:=bif decide (d<(e.length:ax))then bif decide (0<=d)&&decide (d<(e.length:ax))then bif !List.beq (bn (ar e d.toNat 0)).toList (aF a)then bif decide (0<=d)&&decide (d<(e.length:ax))then g1 a (bH (d+1)) e ([]++aA (aN [Ck.s,Ck.s,Ck.i ao] 1) 0 [.s (bn (ar e d.toNat 0)), .s (bn (ar e d.toNat 1)), .i .i64 (bI (ar e d.toNat (1+1)))])else aj else g a (bH (d+1)) e else aj else k0 a d e
def zw(N:aE)(g:u6 R)(g1:vx R)(k0:u6 R)(k1:vx R)(a:aq)(d:ax)(e f:aQ):az R:=bif decide (d<(e.length:ax))then bif decide (0<=d)&&decide (d<(e.length:ax))then bif !List.beq (bn (ar e d.toNat 0)).toList (aF a)then bif decide (0<=d)&&decide (d<(e.length:ax))then bif cg (f.length+(aA (aN [Ck.s,Ck.s,Ck.i ao] 1) 0 [.s (bn (ar e d.toNat 0)), .s (bn (ar e d.toNat 1)), .i .i64 (bI (ar e d.toNat (1+1)))]).length) 40 then g1 a (bH (d+1)) e (f++aA (aN [Ck.s,Ck.s,Ck.i ao] 1) 0 [.s (bn (ar e d.toNat 0)), .s (bn (ar e d.toNat 1)), .i .i64 (bI (ar e d.toNat (1+1)))])else aj else aj else g1 a (bH (d+1)) e f else aj else k1 a d e f
def sE(N:aE)(k0:u6 R)(k1:vx R):aE->vx R
 |0=>λ_ _ _ _=>aj
 |n+1=>zw N (λx0 x1 x2=>aj) (sE N k0 k1 n) k0 k1
def l3(N:aE)(k0:u6 R)(k1:vx R):aE->u6 R
 |0=>λ_ _ _=>aj
 |n+1=>r3 N (l3 N k0 k1 n) (sE N k0 k1 n) k0 k1
def b(N:aE)(kr:aQ->az R)(a:aQ)(d:aq):az R:=l3 N (λ_ _ _=>kr []) (λ_ _ _ e=>kr e) N d 0 a
def vo:=b Lib.cU λr0=>ah r0
def c:=λa d=>(vo a d).isSome
def v:=λa d=>(vo a d).getD ([])
theorem out{x}:∀a d,vo a d=ah x->c a d=ai/\v a d=x:=λ_ _=>Lib.db
end eN

namespace BI
def b(kr:HE R)(a:aQ)(d:ax)(e f h:aq):az R:=bif gO.c a then bif !gO.v a then kr [] ak else bif !pZ.v e then kr [] ak else bif d !=3 then bif !List.beq (aF h) (aF ⟨#[]⟩)then kr [] ak else bif d !=1 then bif !List.beq (aF f) (aF ⟨#[]⟩)then kr [] ak else bif ju.c a e then Lib.lt (ju.v a e) λi=>bif decide (i≥0)then bif decide (0<=i)&&decide (i<(a.length:ax))then bif decide (d=1)then bif decide ((bn (ar a i.toNat 1)).size+f.size<=4611686018427387904)then bif eg.c a (bn (ar a i.toNat 0)) (bn (ar a i.toNat 1)++f) (bI (ar a i.toNat (1+1)))then Lib.lt (eg.v a (bn (ar a i.toNat 0)) (bn (ar a i.toNat 1)++f) (bI (ar a i.toNat (1+1)))) λj=>bif gO.c j then bif !gO.v j then kr [] ak else kr j ai else aj else aj else aj else bif decide (i<0)then kr [] ak else bif decide (d=2)then bif eg.c a (bn (ar a i.toNat 0)) (bn (ar a i.toNat 1)) ((bn (ar a i.toNat 1)).size:ax)then Lib.lt (eg.v a (bn (ar a i.toNat 0)) (bn (ar a i.toNat 1)) ((bn (ar a i.toNat 1)).size:ax)) λj=>bif gO.c j then bif !gO.v j then kr [] ak else kr j ai else aj else aj else bif decide (d=3)then bif decide (bI (ar a i.toNat (1+1))<((bn (ar a i.toNat 1)).size:ax))then kr [] ak else bif cF (aF h) (aF e)then kr [] ak else bif !pZ.v h then kr [] ak else bif eN.c a e then bif eg.c (eN.v a e) h (bn (ar a i.toNat 1)) (bI (ar a i.toNat (1+1)))then bif gO.c (eg.v (eN.v a e) h (bn (ar a i.toNat 1)) (bI (ar a i.toNat (1+1))))then bif !gO.v (eg.v (eN.v a e) h (bn (ar a i.toNat 1)) (bI (ar a i.toNat (1+1))))then kr [] ak else kr (eg.v (eN.v a e) h (bn (ar a i.toNat 1)) (bI (ar a i.toNat (1+1)))) ai else aj else aj else aj else bif decide (d=4)then bif eN.c a e then bif gO.c (eN.v a e)then bif !gO.v (eN.v a e)then kr [] ak else kr (eN.v a e) ai else aj else aj else kr [] ak else aj else bif decide (d=1)then bif decide (cj ⟨#[]⟩+f.size<=4611686018427387904)then bif eg.c a e ({data:= #[]}++f) 0 then bif gO.c (eg.v a e ({data:= #[]}++f) 0)then bif !gO.v (eg.v a e ({data:= #[]}++f) 0)then kr [] ak else kr (eg.v a e ({data:= #[]}++f) 0) ai else aj else aj else aj else bif decide (i<0)then kr [] ak else bif decide (d=2)then bif eg.c a e ⟨#[]⟩ (cj ⟨#[]⟩:ax)then bif gO.c (eg.v a e ⟨#[]⟩ (cj ⟨#[]⟩:ax))then bif !gO.v (eg.v a e ⟨#[]⟩ (cj ⟨#[]⟩:ax))then kr [] ak else kr (eg.v a e ⟨#[]⟩ (cj ⟨#[]⟩:ax)) ai else aj else aj else bif decide (d=3)then bif cF (aF h) (aF e)then kr [] ak else bif !pZ.v h then kr [] ak else bif eN.c a e then bif eg.c (eN.v a e) h ⟨#[]⟩ 0 then bif gO.c (eg.v (eN.v a e) h ⟨#[]⟩ 0)then bif !gO.v (eg.v (eN.v a e) h ⟨#[]⟩ 0)then kr [] ak else kr (eg.v (eN.v a e) h ⟨#[]⟩ 0) ai else aj else aj else aj else bif decide (d=4)then bif eN.c a e then bif gO.c (eN.v a e)then bif !gO.v (eN.v a e)then kr [] ak else kr (eN.v a e) ai else aj else aj else kr [] ak else aj else bif ju.c a e then Lib.lt (ju.v a e) λi=>bif decide (i≥0)then bif decide (0<=i)&&decide (i<(a.length:ax))then bif decide (d=1)then bif decide ((bn (ar a i.toNat 1)).size+f.size<=4611686018427387904)then bif eg.c a (bn (ar a i.toNat 0)) (bn (ar a i.toNat 1)++f) (bI (ar a i.toNat (1+1)))then Lib.lt (eg.v a (bn (ar a i.toNat 0)) (bn (ar a i.toNat 1)++f) (bI (ar a i.toNat (1+1)))) λj=>bif gO.c j then bif !gO.v j then kr [] ak else kr j ai else aj else aj else aj else bif decide (i<0)then kr [] ak else bif decide (d=2)then bif eg.c a (bn (ar a i.toNat 0)) (bn (ar a i.toNat 1)) ((bn (ar a i.toNat 1)).size:ax)then Lib.lt (eg.v a (bn (ar a i.toNat 0)) (bn (ar a i.toNat 1)) ((bn (ar a i.toNat 1)).size:ax)) λj=>bif gO.c j then bif !gO.v j then kr [] ak else kr j ai else aj else aj else bif decide (d=3)then bif decide (bI (ar a i.toNat (1+1))<((bn (ar a i.toNat 1)).size:ax))then kr [] ak else bif cF (aF h) (aF e)then kr [] ak else bif !pZ.v h then kr [] ak else bif eN.c a e then bif eg.c (eN.v a e) h (bn (ar a i.toNat 1)) (bI (ar a i.toNat (1+1)))then bif gO.c (eg.v (eN.v a e) h (bn (ar a i.toNat 1)) (bI (ar a i.toNat (1+1))))then bif !gO.v (eg.v (eN.v a e) h (bn (ar a i.toNat 1)) (bI (ar a i.toNat (1+1))))then kr [] ak else kr (eg.v (eN.v a e) h (bn (ar a i.toNat 1)) (bI (ar a i.toNat (1+1)))) ai else aj else aj else aj else bif decide (d=4)then bif eN.c a e then bif gO.c (eN.v a e)then bif !gO.v (eN.v a e)then kr [] ak else kr (eN.v a e) ai else aj else aj else kr [] ak else aj else bif decide (d=1)then bif decide (cj ⟨#[]⟩+f.size<=4611686018427387904)then bif eg.c a e ({data:= #[]}++f) 0 then bif gO.c (eg.v a e ({data:= #[]}++f) 0)then bif !gO.v (eg.v a e ({data:= #[]}++f) 0)then kr [] ak else kr (eg.v a e ({data:= #[]}++f) 0) ai else aj else aj else aj else bif decide (i<0)then kr [] ak else bif decide (d=2)then bif eg.c a e ⟨#[]⟩ (cj ⟨#[]⟩:ax)then bif gO.c (eg.v a e ⟨#[]⟩ (cj ⟨#[]⟩:ax))then bif !gO.v (eg.v a e ⟨#[]⟩ (cj ⟨#[]⟩:ax))then kr [] ak else kr (eg.v a e ⟨#[]⟩ (cj ⟨#[]⟩:ax)) ai else aj else aj else bif decide (d=3)then bif cF (aF h) (aF e)then kr [] ak else bif !pZ.v h then kr [] ak else bif eN.c a e then bif eg.c (eN.v a e) h ⟨#[]⟩ 0 then bif gO.c (eg.v (eN.v a e) h ⟨#[]⟩ 0)then bif !gO.v (eg.v (eN.v a e) h ⟨#[]⟩ 0)then kr [] ak else kr (eg.v (eN.v a e) h ⟨#[]⟩ 0) ai else aj else aj else aj else bif decide (d=4)then bif eN.c a e then bif gO.c (eN.v a e)then bif !gO.v (eN.v a e)then kr [] ak else kr (eN.v a e) ai else aj else aj else kr [] ak else aj else bif d !=1 then bif !List.beq (aF f) (aF ⟨#[]⟩)then kr [] ak else bif ju.c a e then Lib.lt (ju.v a e) λi=>bif decide (i≥0)then bif decide (0<=i)&&decide (i<(a.length:ax))then bif decide (d=1)then bif decide ((bn (ar a i.toNat 1)).size+f.size<=4611686018427387904)then bif eg.c a (bn (ar a i.toNat 0)) (bn (ar a i.toNat 1)++f) (bI (ar a i.toNat (1+1)))then Lib.lt (eg.v a (bn (ar a i.toNat 0)) (bn (ar a i.toNat 1)++f) (bI (ar a i.toNat (1+1)))) λj=>bif gO.c j then bif !gO.v j then kr [] ak else kr j ai else aj else aj else aj else bif decide (i<0)then kr [] ak else bif decide (d=2)then bif eg.c a (bn (ar a i.toNat 0)) (bn (ar a i.toNat 1)) ((bn (ar a i.toNat 1)).size:ax)then Lib.lt (eg.v a (bn (ar a i.toNat 0)) (bn (ar a i.toNat 1)) ((bn (ar a i.toNat 1)).size:ax)) λj=>bif gO.c j then bif !gO.v j then kr [] ak else kr j ai else aj else aj else bif decide (d=3)then bif decide (bI (ar a i.toNat (1+1))<((bn (ar a i.toNat 1)).size:ax))then kr [] ak else bif cF (aF h) (aF e)then kr [] ak else bif !pZ.v h then kr [] ak else bif eN.c a e then bif eg.c (eN.v a e) h (bn (ar a i.toNat 1)) (bI (ar a i.toNat (1+1)))then bif gO.c (eg.v (eN.v a e) h (bn (ar a i.toNat 1)) (bI (ar a i.toNat (1+1))))then bif !gO.v (eg.v (eN.v a e) h (bn (ar a i.toNat 1)) (bI (ar a i.toNat (1+1))))then kr [] ak else kr (eg.v (eN.v a e) h (bn (ar a i.toNat 1)) (bI (ar a i.toNat (1+1)))) ai else aj else aj else aj else bif decide (d=4)then bif eN.c a e then bif gO.c (eN.v a e)then bif !gO.v (eN.v a e)then kr [] ak else kr (eN.v a e) ai else aj else aj else kr [] ak else aj else bif decide (d=1)then bif decide (cj ⟨#[]⟩+f.size<=4611686018427387904)then bif eg.c a e ({data:= #[]}++f) 0 then bif gO.c (eg.v a e ({data:= #[]}++f) 0)then bif !gO.v (eg.v a e ({data:= #[]}++f) 0)then kr [] ak else kr (eg.v a e ({data:= #[]}++f) 0) ai else aj else aj else aj else bif decide (i<0)then kr [] ak else bif decide (d=2)then bif eg.c a e ⟨#[]⟩ (cj ⟨#[]⟩:ax)then bif gO.c (eg.v a e ⟨#[]⟩ (cj ⟨#[]⟩:ax))then bif !gO.v (eg.v a e ⟨#[]⟩ (cj ⟨#[]⟩:ax))then kr [] ak else kr (eg.v a e ⟨#[]⟩ (cj ⟨#[]⟩:ax)) ai else aj else aj else bif decide (d=3)then bif cF (aF h) (aF e)then kr [] ak else bif !pZ.v h then kr [] ak else bif eN.c a e then bif eg.c (eN.v a e) h ⟨#[]⟩ 0 then bif gO.c (eg.v (eN.v a e) h ⟨#[]⟩ 0)then bif !gO.v (eg.v (eN.v a e) h ⟨#[]⟩ 0)then kr [] ak else kr (eg.v (eN.v a e) h ⟨#[]⟩ 0) ai else aj else aj else aj else bif decide (d=4)then bif eN.c a e then bif gO.c (eN.v a e)then bif !gO.v (eN.v a e)then kr [] ak else kr (eN.v a e) ai else aj else aj else kr [] ak else aj else bif ju.c a e then Lib.lt (ju.v a e) λi=>bif decide (i≥0)then bif decide (0<=i)&&decide (i<(a.length:ax))then bif decide (d=1)then bif decide ((bn (ar a i.toNat 1)).size+f.size<=4611686018427387904)then bif eg.c a (bn (ar a i.toNat 0)) (bn (ar a i.toNat 1)++f) (bI (ar a i.toNat (1+1)))then Lib.lt (eg.v a (bn (ar a i.toNat 0)) (bn (ar a i.toNat 1)++f) (bI (ar a i.toNat (1+1)))) λj=>bif gO.c j then bif !gO.v j then kr [] ak else kr j ai else aj else aj else aj else bif decide (i<0)then kr [] ak else bif decide (d=2)then bif eg.c a (bn (ar a i.toNat 0)) (bn (ar a i.toNat 1)) ((bn (ar a i.toNat 1)).size:ax)then Lib.lt (eg.v a (bn (ar a i.toNat 0)) (bn (ar a i.toNat 1)) ((bn (ar a i.toNat 1)).size:ax)) λj=>bif gO.c j then bif !gO.v j then kr [] ak else kr j ai else aj else aj else bif decide (d=3)then bif decide (bI (ar a i.toNat (1+1))<((bn (ar a i.toNat 1)).size:ax))then kr [] ak else bif cF (aF h) (aF e)then kr [] ak else bif !pZ.v h then kr [] ak else bif eN.c a e then bif eg.c (eN.v a e) h (bn (ar a i.toNat 1)) (bI (ar a i.toNat (1+1)))then bif gO.c (eg.v (eN.v a e) h (bn (ar a i.toNat 1)) (bI (ar a i.toNat (1+1))))then bif !gO.v (eg.v (eN.v a e) h (bn (ar a i.toNat 1)) (bI (ar a i.toNat (1+1))))then kr [] ak else kr (eg.v (eN.v a e) h (bn (ar a i.toNat 1)) (bI (ar a i.toNat (1+1)))) ai else aj else aj else aj else bif decide (d=4)then bif eN.c a e then bif gO.c (eN.v a e)then bif !gO.v (eN.v a e)then kr [] ak else kr (eN.v a e) ai else aj else aj else kr [] ak else aj else bif decide (d=1)then bif decide (cj ⟨#[]⟩+f.size<=4611686018427387904)then bif eg.c a e ({data:= #[]}++f) 0 then bif gO.c (eg.v a e ({data:= #[]}++f) 0)then bif !gO.v (eg.v a e ({data:= #[]}++f) 0)then kr [] ak else kr (eg.v a e ({data:= #[]}++f) 0) ai else aj else aj else aj else bif decide (i<0)then kr [] ak else bif decide (d=2)then bif eg.c a e ⟨#[]⟩ (cj ⟨#[]⟩:ax)then bif gO.c (eg.v a e ⟨#[]⟩ (cj ⟨#[]⟩:ax))then bif !gO.v (eg.v a e ⟨#[]⟩ (cj ⟨#[]⟩:ax))then kr [] ak else kr (eg.v a e ⟨#[]⟩ (cj ⟨#[]⟩:ax)) ai else aj else aj else bif decide (d=3)then bif cF (aF h) (aF e)then kr [] ak else bif !pZ.v h then kr [] ak else bif eN.c a e then bif eg.c (eN.v a e) h ⟨#[]⟩ 0 then bif gO.c (eg.v (eN.v a e) h ⟨#[]⟩ 0)then bif !gO.v (eg.v (eN.v a e) h ⟨#[]⟩ 0)then kr [] ak else kr (eg.v (eN.v a e) h ⟨#[]⟩ 0) ai else aj else aj else aj else bif decide (d=4)then bif eN.c a e then bif gO.c (eN.v a e)then bif !gO.v (eN.v a e)then kr [] ak else kr (eN.v a e) ai else aj else aj else kr [] ak else aj else aj
def vo:=b λr0 r1=>ah (r0,r1)
def c:=λa d e f h=>(vo a d e f h).isSome
def v:=λa d e f h=>(vo a d e f h).getD ([],ak)
theorem out{x}:∀a d e f h,vo a d e f h=ah x->c a d e f h=ai/\v a d e f h=x:=λ_ _ _ _ _=>Lib.db
end BI

namespace p_
def r3(N:aE)(g k0 k1:yB R)(a:aQ)(d e:ax)(f:aQ):az R:=bif decide (e<(a.length:ax))then bif decide (0<=e)&&decide (e<(a.length:ax))then bif BI.c f (bI (ar a e.toNat 0)) (bn (ar a e.toNat 1)) (bn (ar a e.toNat (1+1))) (bn (ar a e.toNat (1+1+1)))then bif !(BI.v f (bI (ar a e.toNat 0)) (bn (ar a e.toNat 1)) (bn (ar a e.toNat (1+1))) (bn (ar a e.toNat (1+1+1)))).2 then k0 a e e f else g a d (bH (e+1)) (BI.v f (bI (ar a e.toNat 0)) (bn (ar a e.toNat 1)) (bn (ar a e.toNat (1+1))) (bn (ar a e.toNat (1+1+1)))).1 else aj else aj else k1 a d e f
def l3(N:aE)(k0 k1:yB R):aE->yB R
 |0=>λ_ _ _ _=>aj
 |n+1=>r3 N (l3 N k0 k1 n) k0 k1
def b(N:aE)(kr:Dd R)(a d:aQ):az R:=bif cg ((aN [Ck.s,Ck.s,Ck.i ao] 0).length+a.length) 40 then l3 N (λ_ e _ f=>kr f e) (λe _ _ f=>kr f (e.length:ax)) N d 0 0 (aN [Ck.s,Ck.s,Ck.i ao] 0++a)else aj
def vo:=b Lib.cU λr0 r1=>ah (r0,r1)
def c:=λa d=>(vo a d).isSome
def v:=λa d=>(vo a d).getD ([],0)
theorem out{x}:∀a d,vo a d=ah x->c a d=ai/\v a d=x:=λ_ _=>Lib.db
end p_

namespace Aw
def b(kr:ax->az R)(a:aW):az R:=bif a then kr 0 else kr 1
def v(a0:aW):ax:=bif a0 then 0 else 1
theorem eh(kr:ax->az R)(a0:aW):b kr a0=kr (v a0):=by first|rfl|(unfold b v;simp only[cz];(repeat' split)<;>rfl)
end Aw

namespace Dp
def b(kr:nS R)(a:ax)(d e f h:aQ)(i:ax)(j l:aQ)(m:ax)(o p q:aQ)(r s:ax)(t:aq)(u:ax)(w:aQ):az R:=bif Ds.c a d e f h i j l m s (cK u 1000000)then Lib.lt (Ds.v a d e f h i j l m s (cK u 1000000)) λy=>bif y.2.2.2.2.2.2.2.2.2 then bif decide (cK u 1000000>0)then bif decide (0<=s)&&decide (s<(y.2.2.2.2.2.2.1.length:ax))then bif cg ((aN [Ck.s,Ck.i ao,Ck.i ao,Ck.s] 0).length+q.length) 48 then bif cg ((aN [Ck.s,Ck.i ao,Ck.i ao,Ck.s] 0++q).length+(aA (aN [Ck.s,Ck.i ao,Ck.i ao,Ck.s] 1) 0 [.s (bn (ar y.2.2.2.2.2.2.1 s.toNat 0)), .i .i64 (bI (ar y.2.2.2.2.2.2.1 s.toNat (1+1+1+1))), .i .i64 (bI (ar y.2.2.2.2.2.2.1 s.toNat (1+1+1))), .s (bn (ar y.2.2.2.2.2.2.1 s.toNat 1))]).length) 48 then bif Dt.c (bn (ar y.2.2.2.2.2.2.1 s.toNat 0)) (bI (ar y.2.2.2.2.2.2.1 s.toNat (1+1+1+1))) (bI (ar y.2.2.2.2.2.2.1 s.toNat (1+1+1))) (bn (ar y.2.2.2.2.2.2.1 s.toNat 1))then Lib.lt (Dt.v (bn (ar y.2.2.2.2.2.2.1 s.toNat 0)) (bI (ar y.2.2.2.2.2.2.1 s.toNat (1+1+1+1))) (bI (ar y.2.2.2.2.2.2.1 s.toNat (1+1+1))) (bn (ar y.2.2.2.2.2.2.1 s.toNat 1))) λz=>bif z.2 then bif p_.c o z.1 then Lib.lt (p_.v o z.1) λα=>kr (Aw.v y.2.2.2.2.2.2.2.2.2) y.1 y.2.1 y.2.2.1 y.2.2.2.1 y.2.2.2.2.1 y.2.2.2.2.2.1 y.2.2.2.2.2.2.1 y.2.2.2.2.2.2.2.1 y.2.2.2.2.2.2.2.2.1 α.1 p (aN [Ck.s,Ck.i ao,Ck.i ao,Ck.s] 0++q++aA (aN [Ck.s,Ck.i ao,Ck.i ao,Ck.s] 1) 0 [.s (bn (ar y.2.2.2.2.2.2.1 s.toNat 0)), .i .i64 (bI (ar y.2.2.2.2.2.2.1 s.toNat (1+1+1+1))), .i .i64 (bI (ar y.2.2.2.2.2.2.1 s.toNat (1+1+1))), .s (bn (ar y.2.2.2.2.2.2.1 s.toNat 1))])else aj else kr (Aw.v y.2.2.2.2.2.2.2.2.2) y.1 y.2.1 y.2.2.1 y.2.2.2.1 y.2.2.2.2.1 y.2.2.2.2.2.1 y.2.2.2.2.2.2.1 y.2.2.2.2.2.2.2.1 y.2.2.2.2.2.2.2.2.1 o p (aN [Ck.s,Ck.i ao,Ck.i ao,Ck.s] 0++q++aA (aN [Ck.s,Ck.i ao,Ck.i ao,Ck.s] 1) 0 [.s (bn (ar y.2.2.2.2.2.2.1 s.toNat 0)), .i .i64 (bI (ar y.2.2.2.2.2.2.1 s.toNat (1+1+1+1))), .i .i64 (bI (ar y.2.2.2.2.2.2.1 s.toNat (1+1+1))), .s (bn (ar y.2.2.2.2.2.2.1 s.toNat 1))])else aj else aj else aj else aj else kr (Aw.v y.2.2.2.2.2.2.2.2.2) y.1 y.2.1 y.2.2.1 y.2.2.2.1 y.2.2.2.2.1 y.2.2.2.2.2.1 y.2.2.2.2.2.2.1 y.2.2.2.2.2.2.2.1 y.2.2.2.2.2.2.2.2.1 o p q else kr (Aw.v y.2.2.2.2.2.2.2.2.2) y.1 y.2.1 y.2.2.1 y.2.2.2.1 y.2.2.2.2.1 y.2.2.2.2.2.1 y.2.2.2.2.2.2.1 y.2.2.2.2.2.2.2.1 y.2.2.2.2.2.2.2.2.1 o p q else aj
def vo:=b λr0 r1 r2 r3 r4 r5 r6 r7 r8 r9 z7 wg Ps=>ah (r0,r1,r2,r3,r4,r5,r6,r7,r8,r9,z7,wg,Ps)
def c:=λa d e f h i j l m o p q r s t u w=>(vo a d e f h i j l m o p q r s t u w).isSome
def v:=λa d e f h i j l m o p q r s t u w=>(vo a d e f h i j l m o p q r s t u w).getD (0,0,[],[],[],[],0,[],[],0,[],[],[])
theorem out{x}:∀a d e f h i j l m o p q r s t u w,vo a d e f h i j l m o p q r s t u w=ah x->c a d e f h i j l m o p q r s t u w=ai/\v a d e f h i j l m o p q r s t u w=x:=λ_ _ _ _ _ _ _ _ _ _ _ _ _ _ _ _ _=>Lib.db
end Dp

namespace Dq
def b(kr:kQ R)(a:ax)(d e f h:aQ)(i:ax)(j l:aQ)(m o:ax):az R:=bif fI.c a d e f h i j l m then Lib.lt (fI.v a d e f h i j l m) λp=>bif uT.c a d e f h i j l m o then Lib.lt (uT.v a d e f h i j l m o) λq=>bif !q then kr p.1 p.2.1 p.2.2.1 p.2.2.2.1 p.2.2.2.2.1 p.2.2.2.2.2.1 p.2.2.2.2.2.2.1 p.2.2.2.2.2.2.2.1 p.2.2.2.2.2.2.2.2 ak else bif decide (0<=o)&&decide (o<(p.2.2.2.2.2.2.1.length:ax))then bif sA.c p.1 p.2.1 p.2.2.1 p.2.2.2.1 p.2.2.2.2.1 p.2.2.2.2.2.1 (eA p.2.2.2.2.2.2.1 o.toNat 2 [.i .i64 3]) p.2.2.2.2.2.2.2.1 p.2.2.2.2.2.2.2.2 o 3 then Lib.lt (sA.v p.1 p.2.1 p.2.2.1 p.2.2.2.1 p.2.2.2.2.1 p.2.2.2.2.2.1 (eA p.2.2.2.2.2.2.1 o.toNat 2 [.i .i64 3]) p.2.2.2.2.2.2.2.1 p.2.2.2.2.2.2.2.2 o 3) λr=>kr r.1 r.2.1 r.2.2.1 r.2.2.2.1 r.2.2.2.2.1 r.2.2.2.2.2.1 r.2.2.2.2.2.2.1 r.2.2.2.2.2.2.2.1 r.2.2.2.2.2.2.2.2 ai else aj else aj else aj else aj
def vo:=b λr0 r1 r2 r3 r4 r5 r6 r7 r8 r9=>ah (r0,r1,r2,r3,r4,r5,r6,r7,r8,r9)
def c:=λa d e f h i j l m o=>(vo a d e f h i j l m o).isSome
def v:=λa d e f h i j l m o=>(vo a d e f h i j l m o).getD (0,[],[],[],[],0,[],[],0,ak)
theorem out{x}:∀a d e f h i j l m o,vo a d e f h i j l m o=ah x->c a d e f h i j l m o=ai/\v a d e f h i j l m o=x:=λ_ _ _ _ _ _ _ _ _ _=>Lib.db
end Dq

namespace sr
def b(kr:eM R)(a:ax)(d e f h:aQ)(i:ax)(j l:aQ)(m o:ax):az R:=bif fI.c a d e f h i j l m then bif decide (cK o 1000<0)then bif decide ((fI.v a d e f h i j l m).1>bH (1000000000-bH (cK o 1000+1000)))then kr 1000000000 (fI.v a d e f h i j l m).2.1 (fI.v a d e f h i j l m).2.2.1 (fI.v a d e f h i j l m).2.2.2.1 (fI.v a d e f h i j l m).2.2.2.2.1 (fI.v a d e f h i j l m).2.2.2.2.2.1 (fI.v a d e f h i j l m).2.2.2.2.2.2.1 (fI.v a d e f h i j l m).2.2.2.2.2.2.2.1 (fI.v a d e f h i j l m).2.2.2.2.2.2.2.2 else kr (bH ((fI.v a d e f h i j l m).1+bH (cK o 1000+1000))) (fI.v a d e f h i j l m).2.1 (fI.v a d e f h i j l m).2.2.1 (fI.v a d e f h i j l m).2.2.2.1 (fI.v a d e f h i j l m).2.2.2.2.1 (fI.v a d e f h i j l m).2.2.2.2.2.1 (fI.v a d e f h i j l m).2.2.2.2.2.2.1 (fI.v a d e f h i j l m).2.2.2.2.2.2.2.1 (fI.v a d e f h i j l m).2.2.2.2.2.2.2.2 else bif decide ((fI.v a d e f h i j l m).1>bH (1000000000-cK o 1000))then kr 1000000000 (fI.v a d e f h i j l m).2.1 (fI.v a d e f h i j l m).2.2.1 (fI.v a d e f h i j l m).2.2.2.1 (fI.v a d e f h i j l m).2.2.2.2.1 (fI.v a d e f h i j l m).2.2.2.2.2.1 (fI.v a d e f h i j l m).2.2.2.2.2.2.1 (fI.v a d e f h i j l m).2.2.2.2.2.2.2.1 (fI.v a d e f h i j l m).2.2.2.2.2.2.2.2 else kr (bH ((fI.v a d e f h i j l m).1+cK o 1000)) (fI.v a d e f h i j l m).2.1 (fI.v a d e f h i j l m).2.2.1 (fI.v a d e f h i j l m).2.2.2.1 (fI.v a d e f h i j l m).2.2.2.2.1 (fI.v a d e f h i j l m).2.2.2.2.2.1 (fI.v a d e f h i j l m).2.2.2.2.2.2.1 (fI.v a d e f h i j l m).2.2.2.2.2.2.2.1 (fI.v a d e f h i j l m).2.2.2.2.2.2.2.2 else aj
def vo:=b λr0 r1 r2 r3 r4 r5 r6 r7 r8=>ah (r0,r1,r2,r3,r4,r5,r6,r7,r8)
def c:=λa d e f h i j l m o=>(vo a d e f h i j l m o).isSome
def v:=λa d e f h i j l m o=>(vo a d e f h i j l m o).getD (0,[],[],[],[],0,[],[],0)
theorem out{x}:∀a d e f h i j l m o,vo a d e f h i j l m o=ah x->c a d e f h i j l m o=ai/\v a d e f h i j l m o=x:=λ_ _ _ _ _ _ _ _ _ _=>Lib.db
end sr

namespace uQ
def r4(N:aE)(g k0:i_ R)(a d e:ax)(f h i j:aQ)(l:ax)(m o:aQ)(p q r s t u w:ax)(y z α xa xb xc:aQ):az R:=bif decide (d<(o.length:ax))then bif decide (0<=d)&&decide (d<(o.length:ax))then bif bI (ar o d.toNat 0) !=a then bif decide (0<=d)&&decide (d<(o.length:ax))then bif cg (xc.length+(aA (aN [Ck.i ao,Ck.s,Ck.i ao,Ck.i ao,Ck.i ao,Ck.s,Ck.i ao] 1) 0 [.i .i64 (bI (ar o d.toNat 0)), .s (bn (ar o d.toNat 1)), .i .i64 (bI (ar o d.toNat (1+1))), .i .i64 (bI (ar o d.toNat (1+1+1))), .i .i64 (bI (ar o d.toNat (1+1+1+1))), .s (bn (ar o d.toNat (1+1+1+1+1))), .i .i64 (bI (ar o d.toNat (1+1+1+1+1+1)))]).length) 72 then g a (bH (d+1)) e f h i j l m o p q r s t u w y z α xa xb (xc++aA (aN [Ck.i ao,Ck.s,Ck.i ao,Ck.i ao,Ck.i ao,Ck.s,Ck.i ao] 1) 0 [.i .i64 (bI (ar o d.toNat 0)), .s (bn (ar o d.toNat 1)), .i .i64 (bI (ar o d.toNat (1+1))), .i .i64 (bI (ar o d.toNat (1+1+1))), .i .i64 (bI (ar o d.toNat (1+1+1+1))), .s (bn (ar o d.toNat (1+1+1+1+1))), .i .i64 (bI (ar o d.toNat (1+1+1+1+1+1)))])else aj else aj else g a (bH (d+1)) e f h i j l m o p q r s t u w y z α xa xb xc else aj else k0 a d e f h i j l m o p q r s t u w y z α xa xb xc
def l4(N:aE)(k0:i_ R):aE->i_ R
 |0=>λ_ _ _ _ _ _ _ _ _ _ _ _ _ _ _ _ _ _ _ _ _ _ _=>aj
 |n+1=>r4 N (l4 N k0 n) k0
def b(N:aE)(kr:eM R)(a:ax)(d e f h:aQ)(i:ax)(j l:aQ)(m o:ax):az R:=bif fI.c a d e f h i j l m then l4 N (λ_ _ _ _ _ _ _ _ _ _ _ _ _ _ p q r s t u w y z=>kr p s t u w q y z r) N o 0 a d e f h i j l m 0 0 0 (fI.v a d e f h i j l m).1 (fI.v a d e f h i j l m).2.2.2.2.2.1 (fI.v a d e f h i j l m).2.2.2.2.2.2.2.2 (fI.v a d e f h i j l m).2.1 (fI.v a d e f h i j l m).2.2.1 (fI.v a d e f h i j l m).2.2.2.1 (fI.v a d e f h i j l m).2.2.2.2.1 (fI.v a d e f h i j l m).2.2.2.2.2.2.1 (aN [Ck.i ao,Ck.s,Ck.i ao,Ck.i ao,Ck.i ao,Ck.s,Ck.i ao] 0)else aj
def vo:=b Lib.cU λr0 r1 r2 r3 r4 r5 r6 r7 r8=>ah (r0,r1,r2,r3,r4,r5,r6,r7,r8)
def c:=λa d e f h i j l m o=>(vo a d e f h i j l m o).isSome
def v:=λa d e f h i j l m o=>(vo a d e f h i j l m o).getD (0,[],[],[],[],0,[],[],0)
theorem out{x}:∀a d e f h i j l m o,vo a d e f h i j l m o=ah x->c a d e f h i j l m o=ai/\v a d e f h i j l m o=x:=λ_ _ _ _ _ _ _ _ _ _=>Lib.db
end uQ

namespace wH
def r5(N:aE)(g:Bw R)(g1:vu R)(k0:Bw R)(k1:vu R)(a:aQ)(d:ax)(e:aQ):az R:=bif decide (d<(e.length:ax))then bif decide (0<=d)&&decide (d<(e.length:ax))then bif decide (d<(a.length:ax))then bif decide (0<=d)&&decide (d<(a.length:ax))then bif decide (bI (ar a d.toNat 0)>((bn (ar e d.toNat 1)).size:ax))then bif decide (((bn (ar e d.toNat 1)).size:ax)<bI (ar e d.toNat (1+1)))then bif iy 0 (bI (ar e d.toNat (1+1))) ((bn (ar e d.toNat 1)).size:ax)then g1 a (bH (d+1)) e ([]++aA (aN [Ck.s,Ck.s,Ck.i ao] 1) 0 [.s (bn (ar e d.toNat 0)), .s (bO (bn (ar e d.toNat 1)) (aZ 0) (bI (ar e d.toNat (1+1))).toNat), .i .i64 (bI (ar e d.toNat (1+1)))])else aj else bif iy 0 ((bn (ar e d.toNat 1)).size:ax) ((bn (ar e d.toNat 1)).size:ax)then g1 a (bH (d+1)) e ([]++aA (aN [Ck.s,Ck.s,Ck.i ao] 1) 0 [.s (bn (ar e d.toNat 0)), .s (bO (bn (ar e d.toNat 1)) (aZ 0) ((bn (ar e d.toNat 1)).size:ax).toNat), .i .i64 ((bn (ar e d.toNat 1)).size:ax)])else aj else bif decide (bI (ar a d.toNat 0)<bI (ar e d.toNat (1+1)))then bif iy 0 (bI (ar e d.toNat (1+1))) ((bn (ar e d.toNat 1)).size:ax)then g1 a (bH (d+1)) e ([]++aA (aN [Ck.s,Ck.s,Ck.i ao] 1) 0 [.s (bn (ar e d.toNat 0)), .s (bO (bn (ar e d.toNat 1)) (aZ 0) (bI (ar e d.toNat (1+1))).toNat), .i .i64 (bI (ar e d.toNat (1+1)))])else aj else bif iy 0 (bI (ar a d.toNat 0)) ((bn (ar e d.toNat 1)).size:ax)then g1 a (bH (d+1)) e ([]++aA (aN [Ck.s,Ck.s,Ck.i ao] 1) 0 [.s (bn (ar e d.toNat 0)), .s (bO (bn (ar e d.toNat 1)) (aZ 0) (bI (ar a d.toNat 0)).toNat), .i .i64 (bI (ar a d.toNat 0))])else aj else aj else bif decide (0<bI (ar e d.toNat (1+1)))then bif iy 0 (bI (ar e d.toNat (1+1))) ((bn (ar e d.toNat 1)).size:ax)then g1 a (bH (d+1)) e ([]++aA (aN [Ck.s,Ck.s,Ck.i ao] 1) 0 [.s (bn (ar e d.toNat 0)), .s (bO (bn (ar e d.toNat 1)) (aZ 0) (bI (ar e d.toNat (1+1))).toNat), .i .i64 (bI (ar e d.toNat (1+1)))])else aj else g1 a (bH (d+1)) e ([]++aA (aN [Ck.s,Ck.s,Ck.i ao] 1) 0 [.s (bn (ar e d.toNat 0)), .s (bO (bn (ar e d.toNat 1)) (aZ 0) (aZ 0)), .i .i64 0])else aj else k0 a d e
def r5a(N:aE)(g:Bw R)(g1:vu R)(k0:Bw R)(k1:vu R)(a:aQ)(d:ax)(e f:aQ):az R:=bif decide (d<(e.length:ax))then bif decide (0<=d)&&decide (d<(e.length:ax))then bif decide (d<(a.length:ax))then bif decide (0<=d)&&decide (d<(a.length:ax))then bif decide (bI (ar a d.toNat 0)>((bn (ar e d.toNat 1)).size:ax))then bif decide (((bn (ar e d.toNat 1)).size:ax)<bI (ar e d.toNat (1+1)))then bif iy 0 (bI (ar e d.toNat (1+1))) ((bn (ar e d.toNat 1)).size:ax)then bif cg (f.length+(aA (aN [Ck.s,Ck.s,Ck.i ao] 1) 0 [.s (bn (ar e d.toNat 0)), .s (bO (bn (ar e d.toNat 1)) (aZ 0) (bI (ar e d.toNat (1+1))).toNat), .i .i64 (bI (ar e d.toNat (1+1)))]).length) 40 then g1 a (bH (d+1)) e (f++aA (aN [Ck.s,Ck.s,Ck.i ao] 1) 0 [.s (bn (ar e d.toNat 0)), .s (bO (bn (ar e d.toNat 1)) (aZ 0) (bI (ar e d.toNat (1+1))).toNat), .i .i64 (bI (ar e d.toNat (1+1)))])else aj else aj else bif iy 0 ((bn (ar e d.toNat 1)).size:ax) ((bn (ar e d.toNat 1)).size:ax)then bif cg (f.length+(aA (aN [Ck.s,Ck.s,Ck.i ao] 1) 0 [.s (bn (ar e d.toNat 0)), .s (bO (bn (ar e d.toNat 1)) (aZ 0) ((bn (ar e d.toNat 1)).size:ax).toNat), .i .i64 ((bn (ar e d.toNat 1)).size:ax)]).length) 40 then g1 a (bH (d+1)) e (f++aA (aN [Ck.s,Ck.s,Ck.i ao] 1) 0 [.s (bn (ar e d.toNat 0)), .s (bO (bn (ar e d.toNat 1)) (aZ 0) ((bn (ar e d.toNat 1)).size:ax).toNat), .i .i64 ((bn (ar e d.toNat 1)).size:ax)])else aj else aj else bif decide (bI (ar a d.toNat 0)<bI (ar e d.toNat (1+1)))then bif iy 0 (bI (ar e d.toNat (1+1))) ((bn (ar e d.toNat 1)).size:ax)then bif cg (f.length+(aA (aN [Ck.s,Ck.s,Ck.i ao] 1) 0 [.s (bn (ar e d.toNat 0)), .s (bO (bn (ar e d.toNat 1)) (aZ 0) (bI (ar e d.toNat (1+1))).toNat), .i .i64 (bI (ar e d.toNat (1+1)))]).length) 40 then g1 a (bH (d+1)) e (f++aA (aN [Ck.s,Ck.s,Ck.i ao] 1) 0 [.s (bn (ar e d.toNat 0)), .s (bO (bn (ar e d.toNat 1)) (aZ 0) (bI (ar e d.toNat (1+1))).toNat), .i .i64 (bI (ar e d.toNat (1+1)))])else aj else aj else bif iy 0 (bI (ar a d.toNat 0)) ((bn (ar e d.toNat 1)).size:ax)then bif cg (f.length+(aA (aN [Ck.s,Ck.s,Ck.i ao] 1) 0 [.s (bn (ar e d.toNat 0)), .s (bO (bn (ar e d.toNat 1)) (aZ 0) (bI (ar a d.toNat 0)).toNat), .i .i64 (bI (ar a d.toNat 0))]).length) 40 then g1 a (bH (d+1)) e (f++aA (aN [Ck.s,Ck.s,Ck.i ao] 1) 0 [.s (bn (ar e d.toNat 0)), .s (bO (bn (ar e d.toNat 1)) (aZ 0) (bI (ar a d.toNat 0)).toNat), .i .i64 (bI (ar a d.toNat 0))])else aj else aj else aj else bif decide (0<bI (ar e d.toNat (1+1)))then bif iy 0 (bI (ar e d.toNat (1+1))) ((bn (ar e d.toNat 1)).size:ax)then bif cg (f.length+(aA (aN [Ck.s,Ck.s,Ck.i ao] 1) 0 [.s (bn (ar e d.toNat 0)), .s (bO (bn (ar e d.toNat 1)) (aZ 0) (bI (ar e d.toNat (1+1))).toNat), .i .i64 (bI (ar e d.toNat (1+1)))]).length) 40 then g1 a (bH (d+1)) e (f++aA (aN [Ck.s,Ck.s,Ck.i ao] 1) 0 [.s (bn (ar e d.toNat 0)), .s (bO (bn (ar e d.toNat 1)) (aZ 0) (bI (ar e d.toNat (1+1))).toNat), .i .i64 (bI (ar e d.toNat (1+1)))])else aj else aj else bif cg (f.length+(aA (aN [Ck.s,Ck.s,Ck.i ao] 1) 0 [.s (bn (ar e d.toNat 0)), .s (bO (bn (ar e d.toNat 1)) (aZ 0) (aZ 0)), .i .i64 0]).length) 40 then g1 a (bH (d+1)) e (f++aA (aN [Ck.s,Ck.s,Ck.i ao] 1) 0 [.s (bn (ar e d.toNat 0)), .s (bO (bn (ar e d.toNat 1)) (aZ 0) (aZ 0)), .i .i64 0])else aj else aj else k1 a d e f
def l5a(N:aE)(k0:Bw R)(k1:vu R):aE->vu R
 |0=>λ_ _ _ _=>aj
 |n+1=>r5a N (λx0 x1 x2=>aj) (l5a N k0 k1 n) k0 k1
def l5(N:aE)(k0:Bw R)(k1:vu R):aE->Bw R
 |0=>λ_ _ _=>aj
 |n+1=>r5 N (l5 N k0 k1 n) (l5a N k0 k1 n) k0 k1
def b(N:aE)(kr:HE R)(a d:aQ):az R:=bif gO.c a then bif !gO.v a then kr [] ak else l5 N (λ_ _ _=>kr [] ai) (λ_ _ _ e=>kr e ai) N d 0 a else aj
def vo:=b Lib.cU λr0 r1=>ah (r0,r1)
def c:=λa d=>(vo a d).isSome
def v:=λa d=>(vo a d).getD ([],ak)
theorem out{x}:∀a d,vo a d=ah x->c a d=ai/\v a d=x:=λ_ _=>Lib.db
end wH

namespace vO
def b(kr:yD R)(a:aQ)(d:aq):az R:=bif ju.c a d then bif decide (ju.v a d<0)then kr ⟨#[]⟩ ak else bif decide (0<=ju.v a d)&&decide (ju.v a d<(a.length:ax))then kr (bn (ar a (ju.v a d).toNat 1)) ai else aj else aj
def vo:=b λr0 r1=>ah (r0,r1)
def c:=λa d=>(vo a d).isSome
def v:=λa d=>(vo a d).getD (⟨#[]⟩,ak)
theorem out{x}:∀a d,vo a d=ah x->c a d=ai/\v a d=x:=λ_ _=>Lib.db
end vO

namespace fS
def r6(N:aE)(g k0 k1:vv R)(a:aq)(d e f:ax)(h:aW)(i j l:ax):az R:=bif decide (l<(a.size:ax))then bif decide (l<bH (d+5))then bif decide (0<=l)&&decide (l<(a.size:ax))then bif decide (0<=l)&&decide (l<(a.size:ax))then bif decide ((↑(gQ a l.toNat):ax)<128)then bif decide (bH (i+bH (cK (bH (↑(gQ a l.toNat):ax)) 128*j))>1000000000)then k0 a d 0 0 ak (bH (i+bH (cK (bH (↑(gQ a l.toNat):ax)) 128*j))) (bH (j*128)) l else bif ki.c (bH (i+bH (cK (bH (↑(gQ a l.toNat):ax)) 128*j)))then bif iy d (bH (l+1)) (a.size:ax)then bif !List.beq (ki.v (bH (i+bH (cK (bH (↑(gQ a l.toNat):ax)) 128*j)))).toList (bO a d.toNat (bH (l+1)).toNat).toList then k0 a d 0 0 ak (bH (i+bH (cK (bH (↑(gQ a l.toNat):ax)) 128*j))) (bH (j*128)) l else k0 a d (bH (i+bH (cK (bH (↑(gQ a l.toNat):ax)) 128*j))) (bH (l+1)) ai (bH (i+bH (cK (bH (↑(gQ a l.toNat):ax)) 128*j))) (bH (j*128)) l else aj else aj else g a d e f h (bH (i+bH (cK (bH (↑(gQ a l.toNat):ax)) 128*j))) (bH (j*128)) (bH (l+1))else aj else aj else k1 a d e f h i j l else k1 a d e f h i j l
def l6(N:aE)(k0 k1:vv R):aE->vv R
 |0=>λ_ _ _ _ _ _ _ _=>aj
 |n+1=>r6 N (l6 N k0 k1 n) k0 k1
def b(N:aE)(kr:LS R)(a:aq)(d:ax):az R:=bif !kj.v d 0 (a.size:ax)then kr 0 0 ak else l6 N (λ_ _ e f h _ _ _=>kr e f h) (λ_ _ _ _ _ _ _ _=>kr 0 0 ak) N a d 0 0 ak 0 1 d
def v(cT:aq)(gP:ax):ax×ax×aW:=if 0<=gP/\gP<=cT.size then Lib.rv cT gP.toNat 5 0 0 else(0,0,ak)
theorem eh(kr:LS R)(cT:aq)(gP:ax)(f0:DK cT):∃N,b N kr cT gP=kr (v cT gP).1 (v cT gP).2.1 (v cT gP).2.2:=by
 refine⟨6, ?_⟩
 unfold b v;by_cases hn:0<=gP/\gP<=cT.size
 ·have e:kj.v gP 0 (cT.size:ax)=true:=by simp[kj.v,hn]
  obtain⟨a,rfl⟩:∃a:aE,gP=(a:ax):=⟨gP.toNat,by omega⟩
  have ha:a<=cT.size:=by omega
  rw[e,bw hn,Lib.dZ];have hs:cT.size<=4611686018427387904:=f0;simp only[aY,ay]
  have:=Lib.fQ (λm (s:aE×ax)=>l6 6 (λy8 y9 HB uC LP Hj V1 V2=>kr HB uC LP) (λQc C_ E1 DS wc JO JP Vp=>kr 0 0 ak) m cT a 0 0 ak s.2 (128^s.1) ((a+s.1:aE):ax)) (λs=>5-s.1) (λs=>s.1<=5/\s.2=Lib.num cT a s.1/\∀i,i<s.1->128<=gQ cT (a+i))
   (λs=>kr (Lib.rv cT a (5-s.1) s.1 s.2).1 (Lib.rv cT a (5-s.1) s.1 s.2).2.1 (Lib.rv cT a (5-s.1) s.1 s.2).2.2) (λm s hs5=>by
   obtain⟨j,n⟩:=s
   obtain⟨hj,aeC,hge⟩:=hs5
   dsimp only at hj aeC hge⊢
   have hb:=Lib.Gm cT (a+j)
   have e5:bH ((a:ax)+5)=((a+5:aE):ax):=by rw[iE (by omega) (by omega)];omega
   by_cases gz:a+j<cT.size
   ·by_cases hj5:j<5
    ·have eb:bH (gQ cT (a+j):ax)=(gQ cT (a+j):ax):=iE (by omega) (by omega);have em:cK (gQ cT (a+j):ax) 128=(gQ cT (a+j):ax)%128:=ij (by omega);have hp:(128:ax)^j<=268435456/\(1:ax)<=128^j/\(128:ax)^(j+1)=128^j*128:=by
      obtain rfl|rfl|rfl|rfl|rfl:j=0\/j=1\/j=2\/j=3\/j=4:=by omega
      all_goals decide
     have hrg:=Lib.Bg cT j a;rw[<-aeC]at hrg;have hm0:0<=(gQ cT (a+j):ax)%128/\(gQ cT (a+j):ax)%128<=127:=by omega
     have hq:0<=(gQ cT (a+j):ax)%128*128^j/\(gQ cT (a+j):ax)%128*128^j<=127*128^j:=
      ⟨Int.mul_nonneg hm0.1 (by omega),De hm0.2 (by omega)⟩
     have eq1:bH ((gQ cT (a+j):ax)%128*128^j)=(gQ cT (a+j):ax)%128*128^j:=iE (by omega) (by omega);have eq2:bH (n+(gQ cT (a+j):ax)%128*128^j)=n+(gQ cT (a+j):ax)%128*128^j:=iE (by omega) (by omega);have eq3:bH ((128:ax)^j*128)=128^(j+1):=by rw[hp.2.2];exact iE (by omega) (by omega)
     have ef:5-j=(5-(j+1))+1:=by omega
     have Xb:n+(gQ cT (a+j):ax)%128*128^j=Lib.num cT a (j+1):=by rw[Lib.xI,<-aeC]
     have en:bH (((a+j:aE):ax)+1)=((a+(j+1):aE):ax):=Lib.c6 gz (by omega);have c2:decide (((a+j:aE):ax)<((a+5:aE):ax))=true:=Lib.MP (by omega)
     have Xa:Lib.rv cT a (5-j) j n=(if(gQ cT (a+j):ax)>127 then Lib.rv cT a (5-(j+1)) (j+1) (n+(gQ cT (a+j):ax)%128*128^j)
       else if(j>0/\gQ cT (a+j)=0)\/n+(gQ cT (a+j):ax)%128*128^j>1000000000 then(0,0,ak)
       else(n+(gQ cT (a+j):ax)%128*128^j,((a+j+1:aE):ax),ai)):=by
      rw[ef];simp only[Lib.rv];rw[bw gz]
     simp only[l6,r6,Lib.MP gz,e5,c2,Lib.cE,Lib.dZ,eb,em,eq1,eq2,eq3,en,au,aM];by_cases hc:(gQ cT (a+j):ax)<128
     ·left;rw[aG hc,au,Xa,bG (by omega)];by_cases tn:n+(gQ cT (a+j):ax)%128*128^j>1000000000
      ·rw[aG tn,bw (.inr tn)];rfl
      ·have ec:ki.c (n+(gQ cT (a+j):ax)%128*128^j)=true:=aG (by omega);have ein:iy (a:ax) ((a+(j+1):aE):ax) (cT.size:ax)=true:=by simp[iy];omega
       rw[aK tn,ay,ec,au,ein,au,Xb];have arp:=Lib.canon cT j a (by omega) hge (by omega) (by rw[<-Xb];omega);unfold ki.v;rw[arp];by_cases hz:j>0/\gQ cT (a+j)=0
       ·rw[aG hz,bw (.inl hz)];rfl
       ·rw[aK hz,bG (by rw[Xb]at tn;omega)];rfl
     ·right;rw[aK hc];refine⟨(j+1,n+(gQ cT (a+j):ax)%128*128^j),⟨by dsimp only;omega,Xb,λi hi=> ?_⟩,by dsimp only;omega,by dsimp only;rw[Xa,bw (by omega)],rfl⟩
      by_cases OQ:i<j
      ·exact hge i OQ
      ·have:i=j:=by dsimp only at hi;omega
       subst this;omega
    ·left;have JK:j=5:=by omega
     subst JK;simp only[l6,r6,Lib.MP gz,e5,Lib.RV (bm (a+5)),au,ay];rfl
   ·left;have Xa:Lib.rv cT a (5-j) j n=(0,0,ak):=by
     by_cases hj5:j<5
     ·have ef:5-j=(5-(j+1))+1:=by omega
      rw[ef];simp only[Lib.rv];rw[bG gz]
     ·rw[show 5-j=0 by omega];rfl
    simp only[l6,r6,Lib.RV gz,ay,Xa]) 6 (0,0) ⟨by dsimp only;omega,rfl,λi hi=>by dsimp only at hi;omega⟩ (by dsimp only;omega)
  exact this
 ·have e:kj.v gP 0 (cT.size:ax)=false:=by simp[kj.v];omega
  rw[e,bG hn];rfl
end fS

namespace Hs
def r5(N:aE)(g k0 k1:mf R)(a:aq)(d e:ax)(f:aQ):az R:=bif decide (e<(a.size:ax))then bif !(fS.v a e).2.2 then k0 a e e f else bif decide ((fS.v a e).1>bH (bH ((a.size:ax)-(fS.v a e).2.1)-4))then k0 a e e f else bif iy (bH ((fS.v a e).2.1+4)) (bH (bH ((fS.v a e).2.1+4)+(fS.v a e).1)) (a.size:ax)then bif fH.c (bO a (bH ((fS.v a e).2.1+4)).toNat (bH (bH ((fS.v a e).2.1+4)+(fS.v a e).1)).toNat)then bif !(fH.v (bO a (bH ((fS.v a e).2.1+4)).toNat (bH (bH ((fS.v a e).2.1+4)+(fS.v a e).1)).toNat)).2 then k0 a e e f else bif iy e (bH (bH ((fS.v a e).2.1+4)+(fS.v a e).1)) (a.size:ax)then bif !List.beq (fH.v (bO a (bH ((fS.v a e).2.1+4)).toNat (bH (bH ((fS.v a e).2.1+4)+(fS.v a e).1)).toNat)).1.toList (bO a e.toNat (bH (bH ((fS.v a e).2.1+4)+(fS.v a e).1)).toNat).toList then k0 a e e f else bif cg (f.length+(aA (aN [.s] 1) 0 [.s (bO a (bH ((fS.v a e).2.1+4)).toNat (bH (bH ((fS.v a e).2.1+4)+(fS.v a e).1)).toNat)]).length) 16 then g a d (bH (bH ((fS.v a e).2.1+4)+(fS.v a e).1)) (f++aA (aN [.s] 1) 0 [.s (bO a (bH ((fS.v a e).2.1+4)).toNat (bH (bH ((fS.v a e).2.1+4)+(fS.v a e).1)).toNat)])else aj else aj else aj else aj else k1 a d e f
def l5(N:aE)(k0 k1:mf R):aE->mf R
 |0=>λ_ _ _ _=>aj
 |n+1=>r5 N (l5 N k0 k1 n) k0 k1
def b(N:aE)(kr:Dd R)(a:aq):az R:=bif decide ((a.size:ax)>20000)then kr (aN [.s] 0) 0 else l5 N (λ_ d _ e=>kr e d) (λ_ _ d e=>kr e d) N a 0 0 (aN [.s] 0)
def vo:=b Lib.cU λr0 r1=>ah (r0,r1)
def c:=λa=>(vo a).isSome
def v:=λa=>(vo a).getD ([],0)
theorem out{x}:∀a,vo a=ah x->c a=ai/\v a=x:=λ_=>Lib.db
end Hs

namespace p8
def b(kr:LX R)(a:aq)(d:ax):az R:=bif !(fS.v a d).2.2 then kr ⟨#[]⟩ 0 ak else bif decide ((fS.v a d).1>20000)then kr ⟨#[]⟩ 0 ak else bif decide ((fS.v a d).1>bH ((a.size:ax)-(fS.v a d).2.1))then kr ⟨#[]⟩ 0 ak else bif iy (fS.v a d).2.1 (bH ((fS.v a d).2.1+(fS.v a d).1)) (a.size:ax)then kr (bO a (fS.v a d).2.1.toNat (bH ((fS.v a d).2.1+(fS.v a d).1)).toNat) (bH ((fS.v a d).2.1+(fS.v a d).1)) ai else aj
def v(cT:aq)(gP:ax):aq×ax×aW:=Lib.g6 cT gP
theorem eh(kr:LX R)(cT:aq)(gP:ax)(f0:DK cT):b kr cT gP=kr (v cT gP).1 (v cT gP).2.1 (v cT gP).2.2:=Lib.vl f0 gP kr
end p8

namespace ru
def b(kr:wq R)(a:aq):az R:=bif !(p8.v a 0).2.2 then kr ⟨#[]⟩ 0 0 ⟨#[]⟩ ak else bif !(fS.v a (p8.v a 0).2.1).2.2 then kr ⟨#[]⟩ 0 0 ⟨#[]⟩ ak else bif !(fS.v a (fS.v a (p8.v a 0).2.1).2.1).2.2 then kr ⟨#[]⟩ 0 0 ⟨#[]⟩ ak else bif iy (fS.v a (fS.v a (p8.v a 0).2.1).2.1).2.1 (a.size:ax) (a.size:ax)then bif !(jE.v (p8.v a 0).1 (fS.v a (p8.v a 0).2.1).1 (fS.v a (fS.v a (p8.v a 0).2.1).2.1).1 (bO a (fS.v a (fS.v a (p8.v a 0).2.1).2.1).2.1.toNat (a.size:ax).toNat)).2 then kr ⟨#[]⟩ 0 0 ⟨#[]⟩ ak else bif !List.beq (jE.v (p8.v a 0).1 (fS.v a (p8.v a 0).2.1).1 (fS.v a (fS.v a (p8.v a 0).2.1).2.1).1 (bO a (fS.v a (fS.v a (p8.v a 0).2.1).2.1).2.1.toNat (a.size:ax).toNat)).1.toList (aF a)then kr ⟨#[]⟩ 0 0 ⟨#[]⟩ ak else kr (p8.v a 0).1 (fS.v a (p8.v a 0).2.1).1 (fS.v a (fS.v a (p8.v a 0).2.1).2.1).1 (bO a (fS.v a (fS.v a (p8.v a 0).2.1).2.1).2.1.toNat (a.size:ax).toNat) ai else aj
def no:aq×ax×ax×aq×aW:=(⟨#[]⟩,0,0,⟨#[]⟩,ak)
def v(t0:aq):aq×ax×ax×aq×aW:=
 match Lib.g6 t0 0 with
 |(k,a,ai)=>(match Lib.eB t0 a with
  |(s,x,ai)=>(match Lib.eB t0 x with
   |(l,y,ai)=>if nk.v k s l (t0.extract y.toNat t0.size)=ai then(k,s,l,t0.extract y.toNat t0.size,ai)else no
   |_=>no)
  |_=>no)
 |_=>no
theorem eh(kr:wq R)(t0:aq)(f0:DK t0):b kr t0=kr (v t0).1 (v t0).2.1 (v t0).2.2.1 (v t0).2.2.2.1 (v t0).2.2.2.2:=by
 have e1:p8.v=Lib.g6:=rfl;have e2:fS.v=Lib.eB:=rfl;unfold b v;simp only[e1,e2,Lib.dZ];cases h1:Lib.g6 t0 0 with
 |mk k r1=>
  obtain⟨a,ok1⟩:=r1;cases ok1 with
  |false=>rfl
  |true=>
   dsimp only;cases h2:Lib.eB t0 a with
   |mk s r2=>
    obtain⟨x,ok2⟩:=r2;cases ok2 with
    |false=>rfl
    |true=>
     dsimp only;cases h3:Lib.eB t0 x with
     |mk l r3=>
      obtain⟨y,ok3⟩:=r3;cases ok3 with
      |false=>rfl
      |true=>
       obtain⟨p1,p2,p3,p4,p5⟩:=Lib.G4 h1;obtain⟨q1,q2,q3,q4,q5,q6⟩:=Lib.jV h2;obtain⟨r1,r2,r3,r4,r5,r6⟩:=Lib.jV h3;dsimp only;simp only[aY,ay];rw[Lib.s6 (show iy y (t0.size:ax) (t0.size:ax)=ai by simp[iy];omega)];unfold jE.v;cases hE:nk.v k s l (t0.extract y.toNat t0.size)with
       |false=>rfl
       |true=>
        have ht:jE.sH k s l (t0.extract y.toNat t0.size)=t0:=by unfold jE.sH;rw[p5,q6,Lib.wV t0 (by omega) (by omega),r6,Lib.wV t0 (by omega) (by omega),Lib.wV t0 (by omega) (by omega)];exact Lib.Gr t0
        simp only[if_true,aY,ay,ht,Lib.qt]
end ru

namespace Hr
def r7(N:aE)(g k0:Qo R)(a:ax)(d e:aQ):az R:=bif decide (a<(e.length:ax))then bif decide (0<=a)&&decide (a<(e.length:ax))then bif(ru.v (bn (ar e a.toNat 0))).2.2.2.2 then bif lH.c d (ru.v (bn (ar e a.toNat 0))).1 (ru.v (bn (ar e a.toNat 0))).2.1 (ru.v (bn (ar e a.toNat 0))).2.2.1 (ru.v (bn (ar e a.toNat 0))).2.2.2.1 then g (bH (a+1)) (lH.v d (ru.v (bn (ar e a.toNat 0))).1 (ru.v (bn (ar e a.toNat 0))).2.1 (ru.v (bn (ar e a.toNat 0))).2.2.1 (ru.v (bn (ar e a.toNat 0))).2.2.2.1) e else aj else g (bH (a+1)) d e else aj else k0 a d e
def l7(N:aE)(k0:Qo R):aE->Qo R
 |0=>λ_ _ _=>aj
 |n+1=>r7 N (l7 N k0 n) k0
def b(N:aE)(kr:aQ->az R)(a:aQ):az R:=bif gO.c a then bif !gO.v a then kr (aN [Ck.s,Ck.i ao,Ck.i ao,Ck.s] 0)else bif vO.c a {data:= #[aw 107,aw 101,aw 112,aw 116]}then bif Hs.c (vO.v a {data:= #[aw 107,aw 101,aw 112,aw 116]}).1 then l7 N (λ_ d _=>kr d) N 0 (aN [Ck.s,Ck.i ao,Ck.i ao,Ck.s] 0) (Hs.v (vO.v a {data:= #[aw 107,aw 101,aw 112,aw 116]}).1).1 else aj else aj else aj
def vo:=b Lib.cU λr0=>ah r0
def c:=λa=>(vo a).isSome
def v:=λa=>(vo a).getD ([])
theorem out{x}:∀a,vo a=ah x->c a=ai/\v a=x:=λ_=>Lib.db
end Hr

namespace jF
def r9(N:aE)(g:AL R)(k0:HF R)(k1:AL R)(a:aQ)(d:aW)(e:aq)(f:ax)(h:aQ):az R:=bif decide (f<(a.length:ax))then bif decide (0<=f)&&decide (f<(a.length:ax))then bif fH.c (jE.v (bn (ar a f.toNat 0)) (bI (ar a f.toNat 1)) (bI (ar a f.toNat (1+1))) (bn (ar a f.toNat (1+1+1)))).1 then bif !(jE.v (bn (ar a f.toNat 0)) (bI (ar a f.toNat 1)) (bI (ar a f.toNat (1+1))) (bn (ar a f.toNat (1+1+1)))).2 then k0 a ak e f (aN [Ck.i ao,Ck.s,Ck.s,Ck.s] 0) h else bif !(fH.v (jE.v (bn (ar a f.toNat 0)) (bI (ar a f.toNat 1)) (bI (ar a f.toNat (1+1))) (bn (ar a f.toNat (1+1+1)))).1).2 then k0 a ak e f (aN [Ck.i ao,Ck.s,Ck.s,Ck.s] 0) h else bif decide (e.size+(fH.v (jE.v (bn (ar a f.toNat 0)) (bI (ar a f.toNat 1)) (bI (ar a f.toNat (1+1))) (bn (ar a f.toNat (1+1+1)))).1).1.size<=4611686018427387904)then g a d (e++(fH.v (jE.v (bn (ar a f.toNat 0)) (bI (ar a f.toNat 1)) (bI (ar a f.toNat (1+1))) (bn (ar a f.toNat (1+1+1)))).1).1) (bH (f+1)) h else aj else aj else aj else k1 a d e f h
def l9(N:aE)(k0:HF R)(k1:AL R):aE->AL R
 |0=>λ_ _ _ _ _=>aj
 |n+1=>r9 N (l9 N k0 k1 n) k0 k1
def b(N:aE)(kr:HE R)(a d:aQ):az R:=bif gO.c a then bif !gO.v a then kr (aN [Ck.i ao,Ck.s,Ck.s,Ck.s] 0) ak else bif vO.c a {data:= #[aw 110,aw 101,aw 119]}then bif(vO.v a {data:= #[aw 110,aw 101,aw 119]}).2 then l9 N (λ_ e _ _ f _=>kr f e) (λ_ _ e _ f=>bif cg (f.length+(aA (aA (aA (aN [Ck.i ao,Ck.s,Ck.s,Ck.s] 3) 0 [.i .i64 1, .s {data:= #[aw 110,aw 101,aw 119]}, .s e, .s ⟨#[]⟩]) 1 [.i .i64 2, .s {data:= #[aw 110,aw 101,aw 119]}, .s ⟨#[]⟩, .s ⟨#[]⟩]) 2 [.i .i64 3, .s {data:= #[aw 110,aw 101,aw 119]}, .s ⟨#[]⟩, .s {data:= #[aw 107,aw 101,aw 112,aw 116]}]).length) 56 then kr (f++aA (aA (aA (aN [Ck.i ao,Ck.s,Ck.s,Ck.s] 3) 0 [.i .i64 1, .s {data:= #[aw 110,aw 101,aw 119]}, .s e, .s ⟨#[]⟩]) 1 [.i .i64 2, .s {data:= #[aw 110,aw 101,aw 119]}, .s ⟨#[]⟩, .s ⟨#[]⟩]) 2 [.i .i64 3, .s {data:= #[aw 110,aw 101,aw 119]}, .s ⟨#[]⟩, .s {data:= #[aw 107,aw 101,aw 112,aw 116]}]) ai else aj) N d ak ⟨#[]⟩ 0 (aN [Ck.i ao,Ck.s,Ck.s,Ck.s] 0++aA (aN [Ck.i ao,Ck.s,Ck.s,Ck.s] 1) 0 [.i .i64 4, .s {data:= #[aw 110,aw 101,aw 119]}, .s ⟨#[]⟩, .s ⟨#[]⟩])else l9 N (λ_ e _ _ f _=>kr f e) (λ_ _ e _ f=>bif cg (f.length+(aA (aA (aA (aN [Ck.i ao,Ck.s,Ck.s,Ck.s] 3) 0 [.i .i64 1, .s {data:= #[aw 110,aw 101,aw 119]}, .s e, .s ⟨#[]⟩]) 1 [.i .i64 2, .s {data:= #[aw 110,aw 101,aw 119]}, .s ⟨#[]⟩, .s ⟨#[]⟩]) 2 [.i .i64 3, .s {data:= #[aw 110,aw 101,aw 119]}, .s ⟨#[]⟩, .s {data:= #[aw 107,aw 101,aw 112,aw 116]}]).length) 56 then kr (f++aA (aA (aA (aN [Ck.i ao,Ck.s,Ck.s,Ck.s] 3) 0 [.i .i64 1, .s {data:= #[aw 110,aw 101,aw 119]}, .s e, .s ⟨#[]⟩]) 1 [.i .i64 2, .s {data:= #[aw 110,aw 101,aw 119]}, .s ⟨#[]⟩, .s ⟨#[]⟩]) 2 [.i .i64 3, .s {data:= #[aw 110,aw 101,aw 119]}, .s ⟨#[]⟩, .s {data:= #[aw 107,aw 101,aw 112,aw 116]}]) ai else aj) N d ak ⟨#[]⟩ 0 (aN [Ck.i ao,Ck.s,Ck.s,Ck.s] 0)else aj else aj
def vo:=b Lib.cU λr0 r1=>ah (r0,r1)
def c:=λa d=>(vo a d).isSome
def v:=λa d=>(vo a d).getD ([],ak)
theorem out{x}:∀a d,vo a d=ah x->c a d=ai/\v a d=x:=λ_ _=>Lib.db
end jF

namespace wL
def r4(N:aE)(g k0:mI R)(a:ax)(d:aQ)(e f h i j l m:ax)(o p q r s t:aQ):az R:=bif decide (e<(d.length:ax))then bif decide (0<=e)&&decide (e<(d.length:ax))then bif nk.v (bn (ar d e.toNat 0)) (bI (ar d e.toNat 1)) (bI (ar d e.toNat (1+1))) (bn (ar d e.toNat (1+1+1)))then bif decide (0<=e)&&decide (e<(d.length:ax))then bif F_.v (bn (ar d e.toNat 0)) (bI (ar d e.toNat 1)) (bI (ar d e.toNat (1+1))) (bn (ar d e.toNat (1+1+1))) a then bif decide (0<=e)&&decide (e<(d.length:ax))then bif Oi.c j o p q r l s t m (bn (ar d e.toNat 0)) (bI (ar d e.toNat 1)) (bI (ar d e.toNat (1+1))) (bn (ar d e.toNat (1+1+1)))then Lib.lt (Oi.v j o p q r l s t m (bn (ar d e.toNat 0)) (bI (ar d e.toNat 1)) (bI (ar d e.toNat (1+1))) (bn (ar d e.toNat (1+1+1)))) λu=>g a d (bH (e+1)) f h i u.1 u.2.2.2.2.2.1 u.2.2.2.2.2.2.2.2 u.2.1 u.2.2.1 u.2.2.2.1 u.2.2.2.2.1 u.2.2.2.2.2.2.1 u.2.2.2.2.2.2.2.1 else aj else aj else g a d (bH (e+1)) f h i j l m o p q r s t else aj else g a d (bH (e+1)) f h i j l m o p q r s t else aj else k0 a d e f h i j l m o p q r s t
def l4(N:aE)(k0:mI R):aE->mI R
 |0=>λ_ _ _ _ _ _ _ _ _ _ _ _ _ _ _=>aj
 |n+1=>r4 N (l4 N k0 n) k0
def b(N:aE)(kr:eM R)(a:ax)(d:aQ):az R:=l4 N (λ_ _ _ _ _ _ e f h i j l m o p=>kr e i j l m f o p h) N a d 0 0 0 0 a 0 0 [] [] [] ([]++aA (aN [Ck.l 3] 1) 0 [CV.l 3 (aN [Ck.i ao] (aZ 16))]++aA (aN [Ck.l 3] 1) 0 [CV.l 3 (aN [Ck.i ao] (aZ 16))]++aA (aN [Ck.l 3] 1) 0 [CV.l 3 (aN [Ck.i ao] (aZ 16))]) [] []
def vo:=b Lib.cU λr0 r1 r2 r3 r4 r5 r6 r7 r8=>ah (r0,r1,r2,r3,r4,r5,r6,r7,r8)
def c:=λa d=>(vo a d).isSome
def v:=λa d=>(vo a d).getD (0,[],[],[],[],0,[],[],0)
theorem out{x}:∀a d,vo a d=ah x->c a d=ai/\v a d=x:=λ_ _=>Lib.db
end wL

namespace wD
def r7(N:aE)(g g1 k0 k1:ix R)(a d e f:ax)(h i j l m o p q r s t:aQ):az R:=bif decide (a<(h.length:ax))then bif decide (0<=a)&&decide (a<(h.length:ax))then bif F_.v (bn (ar h a.toNat 0)) (bI (ar h a.toNat 1)) (bI (ar h a.toNat (1+1))) (bn (ar h a.toNat (1+1+1))) d then bif decide (0<=a)&&decide (a<(h.length:ax))then bif cg (i.length+(aA (aN [Ck.s,Ck.i ao,Ck.i ao,Ck.s] 1) 0 [.s (bn (ar h a.toNat 0)), .i .i64 (bI (ar h a.toNat 1)), .i .i64 (bI (ar h a.toNat (1+1))), .s (bn (ar h a.toNat (1+1+1)))]).length) 48 then g (bH (a+1)) d e f h (i++aA (aN [Ck.s,Ck.i ao,Ck.i ao,Ck.s] 1) 0 [.s (bn (ar h a.toNat 0)), .i .i64 (bI (ar h a.toNat 1)), .i .i64 (bI (ar h a.toNat (1+1))), .s (bn (ar h a.toNat (1+1+1)))]) j l m o p q r s t else aj else aj else g (bH (a+1)) d e f h i j l m o p q r s t else aj else k0 a d e f h i j l m o p q r s t
def r7a(N:aE)(g g1 k0 k1:ix R)(a d e f:ax)(h i j l m o p q r s t:aQ):az R:=bif decide (a<(h.length:ax))then bif decide (0<=a)&&decide (a<(h.length:ax))then bif F_.v (bn (ar h a.toNat 0)) (bI (ar h a.toNat 1)) (bI (ar h a.toNat (1+1))) (bn (ar h a.toNat (1+1+1))) d then bif decide (0<=a)&&decide (a<(h.length:ax))then bif cg (i.length+(aA (aN [Ck.s,Ck.i ao,Ck.i ao,Ck.s] 1) 0 [.s (bn (ar h a.toNat 0)), .i .i64 (bI (ar h a.toNat 1)), .i .i64 (bI (ar h a.toNat (1+1))), .s (bn (ar h a.toNat (1+1+1)))]).length) 48 then g1 (bH (a+1)) d e f h (i++aA (aN [Ck.s,Ck.i ao,Ck.i ao,Ck.s] 1) 0 [.s (bn (ar h a.toNat 0)), .i .i64 (bI (ar h a.toNat 1)), .i .i64 (bI (ar h a.toNat (1+1))), .s (bn (ar h a.toNat (1+1+1)))]) j l m o p q r s t else aj else aj else g1 (bH (a+1)) d e f h i j l m o p q r s t else aj else k1 a d e f h i j l m o p q r s t
def l7a(N:aE)(k0 k1:ix R):aE->ix R
 |0=>λ_ _ _ _ _ _ _ _ _ _ _ _ _ _ _=>aj
 |n+1=>r7a N (λx2 x3 x4 x5 x6 x7 x8 x9 x10 x11 LN x13 x14 x15 x16=>aj) (l7a N k0 k1 n) k0 k1
def l7(N:aE)(k0 k1:ix R):aE->ix R
 |0=>λ_ _ _ _ _ _ _ _ _ _ _ _ _ _ _=>aj
 |n+1=>r7 N (l7 N k0 k1 n) (l7a N k0 k1 n) k0 k1
def b(N:aE)(kr:mJ R)(a:ax)(d e f h:aQ)(i:ax)(j l:aQ)(m:ax)(o p q:aQ)(r s:ax)(t:aq)(u:ax)(w:aQ):az R:=bif wH.c o w then Lib.lt (wH.v o w) λy=>bif y.2 then bif Hr.c y.1 then Lib.lt (Hr.v y.1) λz=>l7 N (λ_ α _ _ _ xa _ _ _ _ _ _ xb xc xd=>bif jF.c xb xa then Lib.lt (jF.v xb xa) λxe=>bif xe.2 then bif p_.c xb xe.1 then Lib.lt (p_.v xb xe.1) λxf=>bif wL.c α xa then Lib.lt (wL.v α xa) λxg=>kr xg.1 xg.2.1 xg.2.2.1 xg.2.2.2.1 xg.2.2.2.2.1 xg.2.2.2.2.2.1 xg.2.2.2.2.2.2.1 xg.2.2.2.2.2.2.2.1 xg.2.2.2.2.2.2.2.2 xf.1 xc xd else aj else aj else bif wL.c α xa then Lib.lt (wL.v α xa) λxf=>kr xf.1 xf.2.1 xf.2.2.1 xf.2.2.2.1 xf.2.2.2.2.1 xf.2.2.2.2.2.1 xf.2.2.2.2.2.2.1 xf.2.2.2.2.2.2.2.1 xf.2.2.2.2.2.2.2.2 xb xc xd else aj else aj) (λ_ α _ _ _ xa _ _ _ _ _ _ xb xc xd=>bif jF.c xb xa then Lib.lt (jF.v xb xa) λxe=>bif xe.2 then bif p_.c xb xe.1 then Lib.lt (p_.v xb xe.1) λxf=>bif wL.c α xa then Lib.lt (wL.v α xa) λxg=>kr xg.1 xg.2.1 xg.2.2.1 xg.2.2.2.1 xg.2.2.2.2.1 xg.2.2.2.2.2.1 xg.2.2.2.2.2.2.1 xg.2.2.2.2.2.2.2.1 xg.2.2.2.2.2.2.2.2 xf.1 xc xd else aj else aj else bif wL.c α xa then Lib.lt (wL.v α xa) λxf=>kr xf.1 xf.2.1 xf.2.2.1 xf.2.2.2.1 xf.2.2.2.2.1 xf.2.2.2.2.2.1 xf.2.2.2.2.2.2.1 xf.2.2.2.2.2.2.2.1 xf.2.2.2.2.2.2.2.2 xb xc xd else aj else aj) N 0 a i m z (aN [Ck.s,Ck.i ao,Ck.i ao,Ck.s] 0) d e f h j l y.1 p q else aj else bif Hr.c o then Lib.lt (Hr.v o) λz=>l7a N (λ_ α _ _ _ xa _ _ _ _ _ _ xb xc xd=>bif jF.c xb xa then Lib.lt (jF.v xb xa) λxe=>bif xe.2 then bif p_.c xb xe.1 then Lib.lt (p_.v xb xe.1) λxf=>bif wL.c α xa then Lib.lt (wL.v α xa) λxg=>kr xg.1 xg.2.1 xg.2.2.1 xg.2.2.2.1 xg.2.2.2.2.1 xg.2.2.2.2.2.1 xg.2.2.2.2.2.2.1 xg.2.2.2.2.2.2.2.1 xg.2.2.2.2.2.2.2.2 xf.1 xc xd else aj else aj else bif wL.c α xa then Lib.lt (wL.v α xa) λxf=>kr xf.1 xf.2.1 xf.2.2.1 xf.2.2.2.1 xf.2.2.2.2.1 xf.2.2.2.2.2.1 xf.2.2.2.2.2.2.1 xf.2.2.2.2.2.2.2.1 xf.2.2.2.2.2.2.2.2 xb xc xd else aj else aj) (λ_ α _ _ _ xa _ _ _ _ _ _ xb xc xd=>bif jF.c xb xa then Lib.lt (jF.v xb xa) λxe=>bif xe.2 then bif p_.c xb xe.1 then Lib.lt (p_.v xb xe.1) λxf=>bif wL.c α xa then Lib.lt (wL.v α xa) λxg=>kr xg.1 xg.2.1 xg.2.2.1 xg.2.2.2.1 xg.2.2.2.2.1 xg.2.2.2.2.2.1 xg.2.2.2.2.2.2.1 xg.2.2.2.2.2.2.2.1 xg.2.2.2.2.2.2.2.2 xf.1 xc xd else aj else aj else bif wL.c α xa then Lib.lt (wL.v α xa) λxf=>kr xf.1 xf.2.1 xf.2.2.1 xf.2.2.2.1 xf.2.2.2.2.1 xf.2.2.2.2.2.1 xf.2.2.2.2.2.2.1 xf.2.2.2.2.2.2.2.1 xf.2.2.2.2.2.2.2.2 xb xc xd else aj else aj) N 0 a i m z (aN [Ck.s,Ck.i ao,Ck.i ao,Ck.s] 0) d e f h j l o p q else aj else aj
def vo:=b Lib.cU λr0 r1 r2 r3 r4 r5 r6 r7 r8 r9 z7 wg=>ah (r0,r1,r2,r3,r4,r5,r6,r7,r8,r9,z7,wg)
def c:=λa d e f h i j l m o p q r s t u w=>(vo a d e f h i j l m o p q r s t u w).isSome
def v:=λa d e f h i j l m o p q r s t u w=>(vo a d e f h i j l m o p q r s t u w).getD (0,[],[],[],[],0,[],[],0,[],[],[])
theorem out{x}:∀a d e f h i j l m o p q r s t u w,vo a d e f h i j l m o p q r s t u w=ah x->c a d e f h i j l m o p q r s t u w=ai/\v a d e f h i j l m o p q r s t u w=x:=λ_ _ _ _ _ _ _ _ _ _ _ _ _ _ _ _ _=>Lib.db
end wD

namespace Dj
def b(kr:nS R)(a:ax)(d e f h:aQ)(i:ax)(j l:aQ)(m:ax)(o p q:aQ)(r s:ax)(t:aq)(u:ax)(w:aQ):az R:=bif decide (r=1)then bif wC.c a d e f h i j l m s t then Lib.lt (wC.v a d e f h i j l m s t) λy=>kr y.2.2.2.2.2.2.2.2.2 y.1 y.2.1 y.2.2.1 y.2.2.2.1 y.2.2.2.2.1 y.2.2.2.2.2.1 y.2.2.2.2.2.2.1 y.2.2.2.2.2.2.2.1 y.2.2.2.2.2.2.2.2.1 o p q else aj else bif decide (r=2)then bif Dn.c a d e f h i j l m s t then Lib.lt (Dn.v a d e f h i j l m s t) λy=>kr (Aw.v y.2.2.2.2.2.2.2.2.2) y.1 y.2.1 y.2.2.1 y.2.2.2.1 y.2.2.2.2.1 y.2.2.2.2.2.1 y.2.2.2.2.2.2.1 y.2.2.2.2.2.2.2.1 y.2.2.2.2.2.2.2.2.1 o p q else aj else bif decide (r=3)then bif Dp.c a d e f h i j l m o p q r s t u w then Lib.lt (Dp.v a d e f h i j l m o p q r s t u w) λy=>kr y.1 y.2.1 y.2.2.1 y.2.2.2.1 y.2.2.2.2.1 y.2.2.2.2.2.1 y.2.2.2.2.2.2.1 y.2.2.2.2.2.2.2.1 y.2.2.2.2.2.2.2.2.1 y.2.2.2.2.2.2.2.2.2.1 y.2.2.2.2.2.2.2.2.2.2.1 y.2.2.2.2.2.2.2.2.2.2.2.1 y.2.2.2.2.2.2.2.2.2.2.2.2 else aj else bif decide (r=4)then bif Dq.c a d e f h i j l m s then Lib.lt (Dq.v a d e f h i j l m s) λy=>kr (Aw.v y.2.2.2.2.2.2.2.2.2) y.1 y.2.1 y.2.2.1 y.2.2.2.1 y.2.2.2.2.1 y.2.2.2.2.2.1 y.2.2.2.2.2.2.1 y.2.2.2.2.2.2.2.1 y.2.2.2.2.2.2.2.2.1 o p q else aj else bif decide (r=5)then bif sr.c a d e f h i j l m u then Lib.lt (sr.v a d e f h i j l m u) λy=>kr 0 y.1 y.2.1 y.2.2.1 y.2.2.2.1 y.2.2.2.2.1 y.2.2.2.2.2.1 y.2.2.2.2.2.2.1 y.2.2.2.2.2.2.2.1 y.2.2.2.2.2.2.2.2 o p q else aj else bif decide (r=6)then bif uQ.c a d e f h i j l m s then Lib.lt (uQ.v a d e f h i j l m s) λy=>kr (Aw.v (decide ((y.2.2.2.2.2.2.2.1.length:ax)<(l.length:ax)))) y.1 y.2.1 y.2.2.1 y.2.2.2.1 y.2.2.2.2.1 y.2.2.2.2.2.1 y.2.2.2.2.2.2.1 y.2.2.2.2.2.2.2.1 y.2.2.2.2.2.2.2.2 o p q else aj else bif decide (r=7)then bif wD.c a d e f h i j l m o p q r s t u w then Lib.lt (wD.v a d e f h i j l m o p q r s t u w) λy=>kr 0 y.1 y.2.1 y.2.2.1 y.2.2.2.1 y.2.2.2.2.1 y.2.2.2.2.2.1 y.2.2.2.2.2.2.1 y.2.2.2.2.2.2.2.1 y.2.2.2.2.2.2.2.2.1 y.2.2.2.2.2.2.2.2.2.1 y.2.2.2.2.2.2.2.2.2.2.1 y.2.2.2.2.2.2.2.2.2.2.2 else aj else kr 0 a d e f h i j l m o p q
def vo:=b λr0 r1 r2 r3 r4 r5 r6 r7 r8 r9 z7 wg Ps=>ah (r0,r1,r2,r3,r4,r5,r6,r7,r8,r9,z7,wg,Ps)
def c:=λa d e f h i j l m o p q r s t u w=>(vo a d e f h i j l m o p q r s t u w).isSome
def v:=λa d e f h i j l m o p q r s t u w=>(vo a d e f h i j l m o p q r s t u w).getD (0,0,[],[],[],[],0,[],[],0,[],[],[])
theorem out{x}:∀a d e f h i j l m o p q r s t u w,vo a d e f h i j l m o p q r s t u w=ah x->c a d e f h i j l m o p q r s t u w=ai/\v a d e f h i j l m o p q r s t u w=x:=λ_ _ _ _ _ _ _ _ _ _ _ _ _ _ _ _ _=>Lib.db
end Dj

namespace Gd
def b(kr:mJ R)(a:ax)(d e f h:aQ)(i:ax)(j l:aQ)(m:ax)(o p q:aQ)(r s:ax)(t:aq)(u:ax)(w:aQ):az R:=bif Dj.c a d e f h i j l m o p q r s t u w then Lib.lt (Dj.v a d e f h i j l m o p q r s t u w) λy=>bif cg ((aN [Ck.i ao] 0).length+y.2.2.2.2.2.2.2.2.2.2.2.1.length) 8 then bif cg ((aN [Ck.i ao] 0++y.2.2.2.2.2.2.2.2.2.2.2.1).length+(aA (aN [Ck.i ao] 1) 0 [.i .i64 y.1]).length) 8 then kr y.2.1 y.2.2.1 y.2.2.2.1 y.2.2.2.2.1 y.2.2.2.2.2.1 y.2.2.2.2.2.2.1 y.2.2.2.2.2.2.2.1 y.2.2.2.2.2.2.2.2.1 y.2.2.2.2.2.2.2.2.2.1 y.2.2.2.2.2.2.2.2.2.2.1 (aN [Ck.i ao] 0++y.2.2.2.2.2.2.2.2.2.2.2.1++aA (aN [Ck.i ao] 1) 0 [.i .i64 y.1]) y.2.2.2.2.2.2.2.2.2.2.2.2 else aj else aj else aj
def vo:=b λr0 r1 r2 r3 r4 r5 r6 r7 r8 r9 z7 wg=>ah (r0,r1,r2,r3,r4,r5,r6,r7,r8,r9,z7,wg)
def c:=λa d e f h i j l m o p q r s t u w=>(vo a d e f h i j l m o p q r s t u w).isSome
def v:=λa d e f h i j l m o p q r s t u w=>(vo a d e f h i j l m o p q r s t u w).getD (0,[],[],[],[],0,[],[],0,[],[],[])
theorem out{x}:∀a d e f h i j l m o p q r s t u w,vo a d e f h i j l m o p q r s t u w=ah x->c a d e f h i j l m o p q r s t u w=ai/\v a d e f h i j l m o p q r s t u w=x:=λ_ _ _ _ _ _ _ _ _ _ _ _ _ _ _ _ _=>Lib.db
end Gd

namespace PX
def r7(N:aE)(g k0:kq R)(a d:ax)(e:aQ)(f h i j l:ax)(m o p q r s t u w y:aQ):az R:=bif decide (d<a)then bif Ke.c e f h i o p q r j s t l u w y then Lib.lt (Ke.v e f h i o p q r j s t l u w y) λz=>bif Ht.c z.2.2.2.2.2.1 z.2.2.2.2.2.2.1 z.2.2.2.2.2.2.2.1 24 then Lib.lt (Ht.v z.2.2.2.2.2.1 z.2.2.2.2.2.2.1 z.2.2.2.2.2.2.2.1 24) λα=>bif α.1 then bif kP.c α.2.1 α.2.2.1 α.2.2.2 60 then Lib.lt (kP.v α.2.1 α.2.2.1 α.2.2.2 60) λxa=>bif Gd.c i z.2.2.2.2.2.2.2.2.1 z.2.2.2.2.2.2.2.2.2.1 z.2.2.2.2.2.2.2.2.2.2.1 z.2.2.2.2.2.2.2.2.2.2.2.1 j z.2.2.2.2.2.2.2.2.2.2.2.2.1 z.2.2.2.2.2.2.2.2.2.2.2.2.2.1 l z.2.2.2.2.2.2.2.2.2.2.2.2.2.2.1 z.2.2.2.2.2.2.2.2.2.2.2.2.2.2.2.1 z.2.2.2.2.2.2.2.2.2.2.2.2.2.2.2.2 7 0 ⟨#[]⟩ 0 (aA (aN [Ck.i ao] 1) 0 [.i .i64 xa.1])then Lib.lt (Gd.v i z.2.2.2.2.2.2.2.2.1 z.2.2.2.2.2.2.2.2.2.1 z.2.2.2.2.2.2.2.2.2.2.1 z.2.2.2.2.2.2.2.2.2.2.2.1 j z.2.2.2.2.2.2.2.2.2.2.2.2.1 z.2.2.2.2.2.2.2.2.2.2.2.2.2.1 l z.2.2.2.2.2.2.2.2.2.2.2.2.2.2.1 z.2.2.2.2.2.2.2.2.2.2.2.2.2.2.2.1 z.2.2.2.2.2.2.2.2.2.2.2.2.2.2.2.2 7 0 ⟨#[]⟩ 0 (aA (aN [Ck.i ao] 1) 0 [.i .i64 xa.1])) λxb=>bif cg (m.length+(aA (aN [Ck.i ao,Ck.i ao,Ck.s,Ck.i ao,Ck.l 3] 1) 0 [.i .i64 7, .i .i64 0, .s ⟨#[]⟩, .i .i64 0,CV.l 3 (aA (aN [Ck.i ao] 1) 0 [.i .i64 xa.1])]).length) 64 then g a (bH (d+1)) xa.2.1 xa.2.2.1 xa.2.2.2 xb.1 xb.2.2.2.2.2.1 xb.2.2.2.2.2.2.2.2.1 (m++aA (aN [Ck.i ao,Ck.i ao,Ck.s,Ck.i ao,Ck.l 3] 1) 0 [.i .i64 7, .i .i64 0, .s ⟨#[]⟩, .i .i64 0,CV.l 3 (aA (aN [Ck.i ao] 1) 0 [.i .i64 xa.1])]) xb.2.1 xb.2.2.1 xb.2.2.2.1 xb.2.2.2.2.1 xb.2.2.2.2.2.2.1 xb.2.2.2.2.2.2.2.1 xb.2.2.2.2.2.2.2.2.2.1 xb.2.2.2.2.2.2.2.2.2.2.1 xb.2.2.2.2.2.2.2.2.2.2.2 else aj else aj else aj else bif Gd.c i z.2.2.2.2.2.2.2.2.1 z.2.2.2.2.2.2.2.2.2.1 z.2.2.2.2.2.2.2.2.2.2.1 z.2.2.2.2.2.2.2.2.2.2.2.1 j z.2.2.2.2.2.2.2.2.2.2.2.2.1 z.2.2.2.2.2.2.2.2.2.2.2.2.2.1 l z.2.2.2.2.2.2.2.2.2.2.2.2.2.2.1 z.2.2.2.2.2.2.2.2.2.2.2.2.2.2.2.1 z.2.2.2.2.2.2.2.2.2.2.2.2.2.2.2.2 z.1 z.2.1 z.2.2.1 z.2.2.2.1 z.2.2.2.2.1 then Lib.lt (Gd.v i z.2.2.2.2.2.2.2.2.1 z.2.2.2.2.2.2.2.2.2.1 z.2.2.2.2.2.2.2.2.2.2.1 z.2.2.2.2.2.2.2.2.2.2.2.1 j z.2.2.2.2.2.2.2.2.2.2.2.2.1 z.2.2.2.2.2.2.2.2.2.2.2.2.2.1 l z.2.2.2.2.2.2.2.2.2.2.2.2.2.2.1 z.2.2.2.2.2.2.2.2.2.2.2.2.2.2.2.1 z.2.2.2.2.2.2.2.2.2.2.2.2.2.2.2.2 z.1 z.2.1 z.2.2.1 z.2.2.2.1 z.2.2.2.2.1) λxa=>bif cg (m.length+(aA (aN [Ck.i ao,Ck.i ao,Ck.s,Ck.i ao,Ck.l 3] 1) 0 [.i .i64 z.1, .i .i64 z.2.1, .s z.2.2.1, .i .i64 z.2.2.2.1,CV.l 3 z.2.2.2.2.1]).length) 64 then g a (bH (d+1)) α.2.1 α.2.2.1 α.2.2.2 xa.1 xa.2.2.2.2.2.1 xa.2.2.2.2.2.2.2.2.1 (m++aA (aN [Ck.i ao,Ck.i ao,Ck.s,Ck.i ao,Ck.l 3] 1) 0 [.i .i64 z.1, .i .i64 z.2.1, .s z.2.2.1, .i .i64 z.2.2.2.1,CV.l 3 z.2.2.2.2.1]) xa.2.1 xa.2.2.1 xa.2.2.2.1 xa.2.2.2.2.1 xa.2.2.2.2.2.2.1 xa.2.2.2.2.2.2.2.1 xa.2.2.2.2.2.2.2.2.2.1 xa.2.2.2.2.2.2.2.2.2.2.1 xa.2.2.2.2.2.2.2.2.2.2.2 else aj else aj else aj else aj else k0 a d e f h i j l m o p q r s t u w y
def l7(N:aE)(k0:kq R):aE->kq R
 |0=>λ_ _ _ _ _ _ _ _ _ _ _ _ _ _ _ _ _ _=>aj
 |n+1=>r7 N (l7 N k0 n) k0
def b(N:aE)(kr:adE R)(a:aQ)(d e:ax)(f:aQ):az R:=bif decide (bH (20+bH (cL (f.length:ax) 6))>65)then l7 N (λ_ _ h i j _ _ _ l _ _ _ _ _ _ _ _ _=>kr l h i j) N 65 0 a d e 1 0 0 (aN [Ck.i ao,Ck.i ao,Ck.s,Ck.i ao,Ck.l 3] 0) [] [] [] ([]++aA (aN [Ck.l 3] 1) 0 [CV.l 3 (aN [Ck.i ao] (aZ 16))]++aA (aN [Ck.l 3] 1) 0 [CV.l 3 (aN [Ck.i ao] (aZ 16))]++aA (aN [Ck.l 3] 1) 0 [CV.l 3 (aN [Ck.i ao] (aZ 16))]) [] [] [] [] []else l7 N (λ_ _ h i j _ _ _ l _ _ _ _ _ _ _ _ _=>kr l h i j) N (bH (20+bH (cL (f.length:ax) 6))) 0 a d e 1 0 0 (aN [Ck.i ao,Ck.i ao,Ck.s,Ck.i ao,Ck.l 3] 0) [] [] [] ([]++aA (aN [Ck.l 3] 1) 0 [CV.l 3 (aN [Ck.i ao] (aZ 16))]++aA (aN [Ck.l 3] 1) 0 [CV.l 3 (aN [Ck.i ao] (aZ 16))]++aA (aN [Ck.l 3] 1) 0 [CV.l 3 (aN [Ck.i ao] (aZ 16))]) [] [] [] [] []
def vo:=b Lib.cU λr0 r1 r2 r3=>ah (r0,r1,r2,r3)
def c:=λa d e f=>(vo a d e f).isSome
def v:=λa d e f=>(vo a d e f).getD ([],[],0,0)
theorem out{x}:∀a d e f,vo a d e f=ah x->c a d e f=ai/\v a d e f=x:=λ_ _ _ _=>Lib.db
end PX

namespace U9
def b(kr:aQ->az R)(a:aQ):az R:=bif Kc.c a then Lib.lt (Kc.v a) λd=>bif PX.c d.1 d.2.1 d.2.2 a then Lib.lt (PX.v d.1 d.2.1 d.2.2 a) λe=>kr e.1 else aj else aj
def vo:=b λr0=>ah r0
def c:=λa=>(vo a).isSome
def v:=λa=>(vo a).getD ([])
theorem out{x}:∀a,vo a=ah x->c a=ai/\v a=x:=λ_=>Lib.db
end U9

namespace lr
def b(kr:aW->az R)(a d e:ax):az R:=bif decide (a≥d)then kr (decide (a<=e))else kr ak
def v(a0 a1 a2:ax):aW:=bif decide (a0≥a1)then decide (a0<=a2)else ak
theorem eh(kr:aW->az R)(a0 a1 a2:ax):b kr a0 a1 a2=kr (v a0 a1 a2):=by first|rfl|(unfold b v;simp only[cz];(repeat' split)<;>rfl)
end lr

namespace U31
def b(kr:aW->az R)(a d:ax)(e:aq)(f:ax)(h:aQ):az R:=bif lr.v a 1 7 then bif lr.v d 0 30 then bif decide ((e.size:ax)<=60)then bif decide (f≥0)then kr (decide ((h.length:ax)<=4))else kr ak else kr ak else kr ak else kr ak
def v(a0 a1:ax)(a2:aq)(a3:ax)(a4:aQ):aW:=bif lr.v a0 1 7 then bif lr.v a1 0 30 then bif decide ((a2.size:ax)<=60)then bif decide (a3≥0)then decide ((a4.length:ax)<=4)else ak else ak else ak else ak
theorem eh(kr:aW->az R)(a0 a1:ax)(a2:aq)(a3:ax)(a4:aQ):b kr a0 a1 a2 a3 a4=kr (v a0 a1 a2 a3 a4):=by first|rfl|(unfold b v;simp only[cz];(repeat' split)<;>rfl)
end U31

namespace Ga
def r3(N:aE)(g:pI R)(g1:iS R)(k0:pI R)(k1:iS R)(a d e:ax):az R:=bif decide (a<3)then g1 (bH (a+1)) d e ([]++aA (aN [Ck.l 3] 1) 0 [CV.l 3 (aN [Ck.i ao] (aZ 16))])else k0 a d e
def zw(N:aE)(g:pI R)(g1:iS R)(k0:pI R)(k1:iS R)(a d e:ax)(f:aQ):az R:=bif decide (a<3)then bif cg (f.length+(aA (aN [Ck.l 3] 1) 0 [CV.l 3 (aN [Ck.i ao] (aZ 16))]).length) 24 then g1 (bH (a+1)) d e (f++aA (aN [Ck.l 3] 1) 0 [CV.l 3 (aN [Ck.i ao] (aZ 16))])else aj else k1 a d e f
def sE(N:aE)(k0:pI R)(k1:iS R):aE->iS R
 |0=>λ_ _ _ _=>aj
 |n+1=>zw N (λx0 x1 x2=>aj) (sE N k0 k1 n) k0 k1
def l3(N:aE)(k0:pI R)(k1:iS R):aE->pI R
 |0=>λ_ _ _=>aj
 |n+1=>r3 N (l3 N k0 k1 n) (sE N k0 k1 n) k0 k1
def b(N:aE)(kr:Dd R):az R:=l3 N (λ_ _ a=>kr [] a) (λ_ _ a d=>kr d a) N 0 0 0
def vo:=b Lib.cU λr0 r1=>ah (r0,r1)
def c:=vo.isSome
def v:=vo.getD ([],0)
end Ga

namespace U95
def b(kr:sP R):az R:=kr [] [] ([]++aA (aN [Ck.l 3] 1) 0 [CV.l 3 (aN [Ck.i ao] (aZ 16))]++aA (aN [Ck.l 3] 1) 0 [CV.l 3 (aN [Ck.i ao] (aZ 16))]++aA (aN [Ck.l 3] 1) 0 [CV.l 3 (aN [Ck.i ao] (aZ 16))]) 0
def v:aQ×aQ×aQ×ax:=([],[],[]++aA (aN [Ck.l 3] 1) 0 [CV.l 3 (aN [Ck.i ao] (aZ 16))]++aA (aN [Ck.l 3] 1) 0 [CV.l 3 (aN [Ck.i ao] (aZ 16))]++aA (aN [Ck.l 3] 1) 0 [CV.l 3 (aN [Ck.i ao] (aZ 16))],0)
theorem eh(kr:sP R):b kr=kr v.1 v.2.1 v.2.2.1 v.2.2.2:=by first|rfl|(unfold b v;simp only[cz];(repeat' split)<;>rfl)
end U95

namespace U42
def b(kr:eM R):az R:=kr 1 [] [] [] ([]++aA (aN [Ck.l 3] 1) 0 [CV.l 3 (aN [Ck.i ao] (aZ 16))]++aA (aN [Ck.l 3] 1) 0 [CV.l 3 (aN [Ck.i ao] (aZ 16))]++aA (aN [Ck.l 3] 1) 0 [CV.l 3 (aN [Ck.i ao] (aZ 16))]) 0 [] [] 0
def v:ax×aQ×aQ×aQ×aQ×ax×aQ×aQ×ax:=(1,[],[],[],[]++aA (aN [Ck.l 3] 1) 0 [CV.l 3 (aN [Ck.i ao] (aZ 16))]++aA (aN [Ck.l 3] 1) 0 [CV.l 3 (aN [Ck.i ao] (aZ 16))]++aA (aN [Ck.l 3] 1) 0 [CV.l 3 (aN [Ck.i ao] (aZ 16))],0,[],[],0)
theorem eh(kr:eM R):b kr=kr v.1 v.2.1 v.2.2.1 v.2.2.2.1 v.2.2.2.2.1 v.2.2.2.2.2.1 v.2.2.2.2.2.2.1 v.2.2.2.2.2.2.2.1 v.2.2.2.2.2.2.2.2:=by first|rfl|(unfold b v;simp only[cz];(repeat' split)<;>rfl)
end U42

namespace wF
def b(kr:aQ->az R)(a:aQ):az R:=bif cg ((aN [Ck.s,Ck.i ao,Ck.i ao,Ck.s] 0).length+a.length) 48 then kr (aN [Ck.s,Ck.i ao,Ck.i ao,Ck.s] 0++a)else aj
def vo:=b λr0=>ah r0
def c:=λa=>(vo a).isSome
def v:=λa=>(vo a).getD ([])
theorem out{x}:∀a,vo a=ah x->c a=ai/\v a=x:=λ_=>Lib.db
end wF

namespace sV
def b(kr:aQ->az R)(a:aQ):az R:=bif cg ((aN [.s] 0).length+a.length) 16 then kr (aN [.s] 0++a)else aj
def vo:=b λr0=>ah r0
def c:=λa=>(vo a).isSome
def v:=λa=>(vo a).getD ([])
theorem out{x}:∀a,vo a=ah x->c a=ai/\v a=x:=λ_=>Lib.db
end sV

namespace vN
def b(kr:aQ->az R)(a:aQ):az R:=bif cg ((aN [Ck.i ao] 0).length+a.length) 8 then kr (aN [Ck.i ao] 0++a)else aj
def vo:=b λr0=>ah r0
def c:=λa=>(vo a).isSome
def v:=λa=>(vo a).getD ([])
theorem out{x}:∀a,vo a=ah x->c a=ai/\v a=x:=λ_=>Lib.db
end vN

namespace jj
def r3(N:aE)(g:kR R)(g1:oQ R)(k0:kR R)(k1:oQ R)(a:aQ)(d e f h:ax):az R:=bif decide (e<d)then bif decide (0<=e)&&decide (e<(a.length:ax))then bif vN.c (iR (ar a e.toNat 0))then g1 a d (bH (e+1)) f h ([]++aA (aN [Ck.l 3] 1) 0 [CV.l 3 (vN.v (iR (ar a e.toNat 0)))])else aj else aj else k0 a d e f h
def zw(N:aE)(g:kR R)(g1:oQ R)(k0:kR R)(k1:oQ R)(a:aQ)(d e f h:ax)(i:aQ):az R:=bif decide (e<d)then bif decide (0<=e)&&decide (e<(a.length:ax))then bif vN.c (iR (ar a e.toNat 0))then bif cg (i.length+(aA (aN [Ck.l 3] 1) 0 [CV.l 3 (vN.v (iR (ar a e.toNat 0)))]).length) 24 then g1 a d (bH (e+1)) f h (i++aA (aN [Ck.l 3] 1) 0 [CV.l 3 (vN.v (iR (ar a e.toNat 0)))])else aj else aj else aj else k1 a d e f h i
def sE(N:aE)(k0:kR R)(k1:oQ R):aE->oQ R
 |0=>λ_ _ _ _ _ _=>aj
 |n+1=>zw N (λx0 x1 x2 x3 x4=>aj) (sE N k0 k1 n) k0 k1
def l3(N:aE)(k0:kR R)(k1:oQ R):aE->kR R
 |0=>λ_ _ _ _ _=>aj
 |n+1=>r3 N (l3 N k0 k1 n) (sE N k0 k1 n) k0 k1
def b(N:aE)(kr:Dd R)(a:aQ)(d:ax):az R:=l3 N (λ_ _ _ _ e=>kr [] e) (λ_ _ _ _ e f=>kr f e) N a (a.length:ax) 0 0 d
def vo:=b Lib.cU λr0 r1=>ah (r0,r1)
def c:=λa d=>(vo a d).isSome
def v:=λa d=>(vo a d).getD ([],0)
theorem out{x}:∀a d,vo a d=ah x->c a d=ai/\v a d=x:=λ_ _=>Lib.db
end jj

namespace jr
def b(kr:sP R)(a d e:aQ)(f:ax):az R:=bif sV.c a then bif sV.c d then bif jj.c e f then kr (sV.v a) (sV.v d) (jj.v e f).1 (jj.v e f).2 else aj else aj else aj
def vo:=b λr0 r1 r2 r3=>ah (r0,r1,r2,r3)
def c:=λa d e f=>(vo a d e f).isSome
def v:=λa d e f=>(vo a d e f).getD ([],[],[],0)
theorem out{x}:∀a d e f,vo a d e f=ah x->c a d e f=ai/\v a d e f=x:=λ_ _ _ _=>Lib.db
end jr

namespace iL
def b(kr:eM R)(a:ax)(d e f h:aQ)(i:ax)(j l:aQ)(m:ax):az R:=bif wF.c d then bif jr.c e f h i then bif cg ((aN [Ck.s,Ck.s,Ck.i ao,Ck.i ao,Ck.i ao] 0).length+j.length) 56 then bif cg ((aN [Ck.i ao,Ck.s,Ck.i ao,Ck.i ao,Ck.i ao,Ck.s,Ck.i ao] 0).length+l.length) 72 then kr a (wF.v d) (jr.v e f h i).1 (jr.v e f h i).2.1 (jr.v e f h i).2.2.1 (jr.v e f h i).2.2.2 (aN [Ck.s,Ck.s,Ck.i ao,Ck.i ao,Ck.i ao] 0++j) (aN [Ck.i ao,Ck.s,Ck.i ao,Ck.i ao,Ck.i ao,Ck.s,Ck.i ao] 0++l) m else aj else aj else aj else aj
def vo:=b λr0 r1 r2 r3 r4 r5 r6 r7 r8=>ah (r0,r1,r2,r3,r4,r5,r6,r7,r8)
def c:=λa d e f h i j l m=>(vo a d e f h i j l m).isSome
def v:=λa d e f h i j l m=>(vo a d e f h i j l m).getD (0,[],[],[],[],0,[],[],0)
theorem out{x}:∀a d e f h i j l m,vo a d e f h i j l m=ah x->c a d e f h i j l m=ai/\v a d e f h i j l m=x:=λ_ _ _ _ _ _ _ _ _=>Lib.db
end iL

namespace zf
def b(kr:aW->az R)(a:aq):az R:=kr (lr.v (a.size:ax) 1 30)
def v(a0:aq):aW:=(lr.v (a0.size:ax) 1 30)
theorem eh(kr:aW->az R)(a0:aq):b kr a0=kr (v a0):=by first|rfl|(unfold b v;simp only[cz];(repeat' split)<;>rfl)
end zf

namespace RA
def b(kr:aW->az R)(a:ax):az R:=kr (lr.v a 0 1000000000)
def v(a0:ax):aW:=(lr.v a0 0 1000000000)
theorem eh(kr:aW->az R)(a0:ax):b kr a0=kr (v a0):=by first|rfl|(unfold b v;simp only[cz];(repeat' split)<;>rfl)
end RA

namespace wz
def b(kr:aW->az R)(a:aq)(d e:ax)(f:aq):az R:=bif zf.v a then bif RA.v d then bif lr.v e 1 999999 then kr (decide ((f.size:ax)<=400))else kr ak else kr ak else kr ak
def v(a0:aq)(a1 a2:ax)(a3:aq):aW:=bif zf.v a0 then bif RA.v a1 then bif lr.v a2 1 999999 then decide ((a3.size:ax)<=400)else ak else ak else ak
theorem eh(kr:aW->az R)(a0:aq)(a1 a2:ax)(a3:aq):b kr a0 a1 a2 a3=kr (v a0 a1 a2 a3):=by first|rfl|(unfold b v;simp only[cz];(repeat' split)<;>rfl)
end wz

namespace Du
def b(kr:aQ->az R)(a:ax):az R:=bif decide (a<0)then aj else bif decide (bH (a-bH (0-0))>0)then bif decide (0<=bH (a-bH (0-0)))&&cg (([]:aQ).length+(bH (a-bH (0-0))).toNat) 16&&decide (bH (a-bH (0-0))<=9223372036854775807)then kr (eW ([]++aN [.s] (bH (a-bH (0-0))).toNat) (aZ 0) (aZ 0))else aj else kr []
def vo:=b λr0=>ah r0
def c:=λa=>(vo a).isSome
def v:=λa=>(vo a).getD ([])
theorem out{x}:∀a,vo a=ah x->c a=ai/\v a=x:=λ_=>Lib.db
end Du

namespace wE
def wg(N:aE)(g k0:yB R)(a:aQ)(d e:ax)(f:aQ):az R:=bif decide (e<d)then bif decide (0<=e)&&decide (e<(a.length:ax))then bif cg (f.length+(iR (ar a e.toNat 0)).length) 16 then g a d (bH (e+1)) (f++iR (ar a e.toNat 0))else aj else aj else k0 a d e f
def O3(N:aE)(k0:yB R):aE->yB R
 |0=>λ_ _ _ _=>aj
 |n+1=>wg N (O3 N k0 n) k0
def r3(N:aE)(g k0:Fa R)(a:aQ)(d:ax)(e:aQ)(f h:ax):az R:=bif decide (h<f)then bif decide (0<=h)&&decide (h<(e.length:ax))then bif decide (bH (d+((iR (ar e h.toNat 0)).length:ax))<0)then aj else g a (bH (d+((iR (ar e h.toNat 0)).length:ax))) e f (bH (h+1))else aj else k0 a d e f h
def l3(N:aE)(k0:Fa R):aE->Fa R
 |0=>λ_ _ _ _ _=>aj
 |n+1=>r3 N (l3 N k0 n) k0
def b(N:aE)(kr:aQ->az R)(a:aQ):az R:=l3 N (λd e _ _ _=>bif Du.c e then O3 N (λ_ _ _ f=>kr f) N d (d.length:ax) 0 (Du.v e)else aj) N a 0 a (a.length:ax) 0
def vo:=b Lib.cU λr0=>ah r0
def c:=λa=>(vo a).isSome
def v:=λa=>(vo a).getD ([])
theorem out{x}:∀a,vo a=ah x->c a=ai/\v a=x:=λ_=>Lib.db
end wE

namespace qo
def b(kr:aQ->az R)(a d e:aQ)(f:ax):az R:=bif wE.c (aA (aA (aN [Ck.l 9] 2) 0 [CV.l 9 a]) 1 [CV.l 9 d])then kr (wE.v (aA (aA (aN [Ck.l 9] 2) 0 [CV.l 9 a]) 1 [CV.l 9 d]))else aj
def vo:=b λr0=>ah r0
def c:=λa d e f=>(vo a d e f).isSome
def v:=λa d e f=>(vo a d e f).getD ([])
theorem out{x}:∀a d e f,vo a d e f=ah x->c a d e f=ai/\v a d e f=x:=λ_ _ _ _=>Lib.db
end qo

namespace Ay
def r2(N:aE)(g k0 k1:hZ R)(a:aQ)(d:aq)(e f h:ax):az R:=bif decide (h<f)then bif decide (0<=h)&&decide (h<(a.length:ax))then bif cF (aF d) (bn (ar a h.toNat 0)).toList then k0 a d h f h else g a d e f (bH (h+1))else aj else k1 a d e f h
def l2(N:aE)(k0 k1:hZ R):aE->hZ R
 |0=>λ_ _ _ _ _=>aj
 |n+1=>r2 N (l2 N k0 k1 n) k0 k1
def b(N:aE)(kr:ax->az R)(a:aQ)(d:aq):az R:=l2 N (λ_ _ e _ _=>kr e) (λ_ _ _ _ _=>kr (-1)) N a d 0 (a.length:ax) 0
def vo:=b Lib.cU λr0=>ah r0
def c:=λa d=>(vo a d).isSome
def v:=λa d=>(vo a d).getD (0)
theorem out{x}:∀a d,vo a d=ah x->c a d=ai/\v a d=x:=λ_ _=>Lib.db
end Ay

namespace sw
def b(kr:aW->az R)(a:aQ)(d:aq):az R:=bif Ay.c a d then kr (decide (Ay.v a d≥0))else aj
def vo:=b λr0=>ah r0
def c:=λa d=>(vo a d).isSome
def v:=λa d=>(vo a d).getD ak
theorem out{x}:∀a d,vo a d=ah x->c a d=ai/\v a d=x:=λ_ _=>Lib.db
end sw

namespace sq
def b(kr:aW->az R)(a d e:aQ)(f:ax)(h:aq):az R:=bif qo.c a d e f then bif sw.c (qo.v a d e f) h then kr (sw.v (qo.v a d e f) h)else aj else aj
def vo:=b λr0=>ah r0
def c:=λa d e f h=>(vo a d e f h).isSome
def v:=λa d e f h=>(vo a d e f h).getD ak
theorem out{x}:∀a d e f h,vo a d e f h=ah x->c a d e f h=ai/\v a d e f h=x:=λ_ _ _ _ _=>Lib.db
end sq

namespace pE
def r5(N:aE)(g k0 k1:qP R)(a:aW)(d e:aQ)(f h:ax)(i:aQ)(j l:ax)(m:aQ)(o:ax):az R:=bif decide (l<j)then bif decide (0<=l)&&decide (l<(i.length:ax))then bif !lr.v (bI (ar i l.toNat 0)) 0 15 then k0 ak d e f h i j l m o else g a d e f h i j (bH (l+1)) m o else aj else k1 a d e f h i j l m o
def l5(N:aE)(k0 k1:qP R):aE->qP R
 |0=>λ_ _ _ _ _ _ _ _ _ _=>aj
 |n+1=>r5 N (l5 N k0 k1 n) k0 k1
def r2(N:aE)(g k0 k1:Bs R)(a:aW)(d:aQ)(e f:ax)(h:aQ)(i:ax):az R:=bif decide (f<e)then bif decide (0<=f)&&decide (f<(d.length:ax))then l5 N (λj _ l m o _ _ _ p q=>k0 j l m o p q) (λj l m o p _ _ _ q r=>bif(l.length:ax) !=16 then k0 ak m o p q r else g j m o (bH (p+1)) q r) N a (iR (ar d f.toNat 0)) d e f (iR (ar d f.toNat 0)) ((iR (ar d f.toNat 0)).length:ax) 0 h i else aj else k1 a d e f h i
def l2(N:aE)(k0 k1:Bs R):aE->Bs R
 |0=>λ_ _ _ _ _ _=>aj
 |n+1=>r2 N (l2 N k0 k1 n) k0 k1
def b(N:aE)(kr:aW->az R)(a:aQ)(d:ax):az R:=l2 N (λe _ _ _ _ _=>kr e) (λ_ _ _ _ e f=>bif decide ((e.length:ax)=3)then kr (lr.v f 0 63)else kr ak) N ak a (a.length:ax) 0 a d
def vo:=b Lib.cU λr0=>ah r0
def c:=λa d=>(vo a d).isSome
def v:=λa d=>(vo a d).getD ak
theorem out{x}:∀a d,vo a d=ah x->c a d=ai/\v a d=x:=λ_ _=>Lib.db
end pE

namespace oW
def r3(N:aE)(g k0 k1:vp R)(a:aW)(d e:ax)(f h i:aQ)(j:ax)(l:aQ):az R:=bif decide (e<d)then bif decide (0<=e)&&decide (e<(l.length:ax))then bif !zf.v (bn (ar l e.toNat 0))then k0 ak d e f h i j l else bif iy 0 e (l.length:ax)then bif sw.c (eW l (aZ 0) e.toNat) (bn (ar l e.toNat 0))then bif sw.v (eW l (aZ 0) e.toNat) (bn (ar l e.toNat 0))then k0 ak d e f h i j l else g a d (bH (e+1)) f h i j l else aj else aj else aj else k1 a d e f h i j l
def l3(N:aE)(k0 k1:vp R):aE->vp R
 |0=>λ_ _ _ _ _ _ _ _=>aj
 |n+1=>r3 N (l3 N k0 k1 n) k0 k1
def b(N:aE)(kr:aW->az R)(a d e:aQ)(f:ax):az R:=bif qo.c a d e f then l3 N (λh _ _ _ _ _ _ _=>kr h) (λ_ _ _ h i j l _=>bif decide ((h.length:ax)<=2)then bif decide ((i.length:ax)<=4)then bif pE.c j l then kr (pE.v j l)else aj else kr ak else kr ak) N ak ((qo.v a d e f).length:ax) 0 a d e f (qo.v a d e f)else aj
def vo:=b Lib.cU λr0=>ah r0
def c:=λa d e f=>(vo a d e f).isSome
def v:=λa d e f=>(vo a d e f).getD ak
theorem out{x}:∀a d e f,vo a d e f=ah x->c a d e f=ai/\v a d e f=x:=λ_ _ _ _=>Lib.db
end oW

namespace PY
def r2(N:aE)(g k0 k1:eP R)(a:aW)(d:aQ)(e f h:ax)(i j l m:aQ)(o:ax)(p q:aQ)(r:ax):az R:=bif decide (f<e)then bif decide (0<=f)&&decide (f<(d.length:ax))then bif !wz.v (bn (ar d f.toNat 0)) (bI (ar d f.toNat 1)) (bI (ar d f.toNat (1+1))) (bn (ar d f.toNat (1+1+1)))then k0 ak d e f h i j l m o p q r else bif decide (f>0)then bif decide (0<=bH (f-1))&&decide (bH (f-1)<(i.length:ax))then bif !Op.bytesLess (bn (ar i (bH (f-1)).toNat 0)).toList (bn (ar d f.toNat 0)).toList then k0 ak d e f h i j l m o p q r else bif sq.c j l m o (bn (ar d f.toNat 0))then bif !sq.v j l m o (bn (ar d f.toNat 0))then k0 ak d e f h i j l m o p q r else g a d e (bH (f+1)) h i j l m o p q r else aj else aj else bif sq.c j l m o (bn (ar d f.toNat 0))then bif !sq.v j l m o (bn (ar d f.toNat 0))then k0 ak d e f h i j l m o p q r else g a d e (bH (f+1)) h i j l m o p q r else aj else aj else k1 a d e f h i j l m o p q r
def l2(N:aE)(k0 k1:eP R):aE->eP R
 |0=>λ_ _ _ _ _ _ _ _ _ _ _ _ _=>aj
 |n+1=>r2 N (l2 N k0 k1 n) k0 k1
def b(N:aE)(kr:aW->az R)(a:ax)(d e f h:aQ)(i:ax)(j l:aQ)(m:ax):az R:=l2 N (λo _ _ _ _ _ _ _ _ _ _ _ _=>kr o) (λ_ _ _ _ _ o p q r s _ _ _=>bif oW.c p q r s then bif oW.v p q r s then bif qo.c p q r s then kr (decide (((qo.v p q r s).length:ax)=(o.length:ax)))else aj else kr ak else aj) N ak d (d.length:ax) 0 a d e f h i j l m
def vo:=b Lib.cU λr0=>ah r0
def c:=λa d e f h i j l m=>(vo a d e f h i j l m).isSome
def v:=λa d e f h i j l m=>(vo a d e f h i j l m).getD ak
theorem out{x}:∀a d e f h i j l m,vo a d e f h i j l m=ah x->c a d e f h i j l m=ai/\v a d e f h i j l m=x:=λ_ _ _ _ _ _ _ _ _=>Lib.db
end PY

namespace HN
def b(kr:aW->az R)(a d:aq)(e f h:ax)(gM:aq):az R:=bif cF (aF a) (aF gM)then kr (decide (e=1))else kr ak
def v(a0 a1:aq)(a2 a3 a4:ax)(gM:aq):aW:=bif cF (aF a0) (aF gM)then decide (a2=1)else ak
theorem eh(kr:aW->az R)(a0 a1:aq)(a2 a3 a4:ax)(gM:aq):b kr a0 a1 a2 a3 a4 gM=kr (v a0 a1 a2 a3 a4 gM):=by first|rfl|(unfold b v;simp only[cz];(repeat' split)<;>rfl)
end HN

namespace qp
def r2(N:aE)(g k0 k1:hZ R)(a:aQ)(d:aq)(e f h:ax):az R:=bif decide (h<f)then bif decide (0<=h)&&decide (h<(a.length:ax))then bif HN.v (bn (ar a h.toNat 0)) (bn (ar a h.toNat 1)) (bI (ar a h.toNat (1+1))) (bI (ar a h.toNat (1+1+1))) (bI (ar a h.toNat (1+1+1+1))) d then k0 a d h f h else g a d e f (bH (h+1))else aj else k1 a d e f h
def l2(N:aE)(k0 k1:hZ R):aE->hZ R
 |0=>λ_ _ _ _ _=>aj
 |n+1=>r2 N (l2 N k0 k1 n) k0 k1
def b(N:aE)(kr:ax->az R)(a:aQ)(gM:aq):az R:=l2 N (λ_ _ d _ _=>kr d) (λ_ _ _ _ _=>kr (-1)) N a gM 0 (a.length:ax) 0
def vo:=b Lib.cU λr0=>ah r0
def c:=λa d=>(vo a d).isSome
def v:=λa d=>(vo a d).getD (0)
theorem out{x}:∀a d,vo a d=ah x->c a d=ai/\v a d=x:=λ_ _=>Lib.db
end qp

namespace Kd
def b(kr:ax->az R)(a:ax)(d e f h:aQ)(i:ax)(j l:aQ)(m:ax)(o:aq):az R:=bif qp.c j o then kr (qp.v j o)else aj
def vo:=b λr0=>ah r0
def c:=λa d e f h i j l m o=>(vo a d e f h i j l m o).isSome
def v:=λa d e f h i j l m o=>(vo a d e f h i j l m o).getD (0)
theorem out{x}:∀a d e f h i j l m o,vo a d e f h i j l m o=ah x->c a d e f h i j l m o=ai/\v a d e f h i j l m o=x:=λ_ _ _ _ _ _ _ _ _ _=>Lib.db
end Kd

namespace MC
def r2(N:aE)(g k0 k1:eP R)(a:aW)(d:aQ)(e f h:ax)(i j l m:aQ)(o:ax)(p q:aQ)(r:ax):az R:=bif decide (f<e)then bif decide (0<=f)&&decide (f<(d.length:ax))then bif decide (bI (ar d f.toNat (1+1))=1)then bif Kd.c h i j l m o p q r (bn (ar d f.toNat 0))then bif Kd.v h i j l m o p q r (bn (ar d f.toNat 0)) !=f then k0 ak d e f h i j l m o p q r else g a d e (bH (f+1)) h i j l m o p q r else aj else g a d e (bH (f+1)) h i j l m o p q r else aj else k1 a d e f h i j l m o p q r
def l2(N:aE)(k0 k1:eP R):aE->eP R
 |0=>λ_ _ _ _ _ _ _ _ _ _ _ _ _=>aj
 |n+1=>r2 N (l2 N k0 k1 n) k0 k1
def b(N:aE)(kr:aW->az R)(a:ax)(d e f h:aQ)(i:ax)(j l:aQ)(m:ax):az R:=l2 N (λo _ _ _ _ _ _ _ _ _ _ _ _=>kr o) (λ_ _ _ _ _ _ _ _ _ _ _ _ _=>kr ai) N ak j (j.length:ax) 0 a d e f h i j l m
def vo:=b Lib.cU λr0=>ah r0
def c:=λa d e f h i j l m=>(vo a d e f h i j l m).isSome
def v:=λa d e f h i j l m=>(vo a d e f h i j l m).getD ak
theorem out{x}:∀a d e f h i j l m,vo a d e f h i j l m=ah x->c a d e f h i j l m=ai/\v a d e f h i j l m=x:=λ_ _ _ _ _ _ _ _ _=>Lib.db
end MC

namespace Og
def r2(N:aE)(g k0 k1:eP R)(a:aW)(d:aQ)(e f h:ax)(i j l m:aQ)(o:ax)(p q:aQ)(r:ax):az R:=bif decide (f<e)then bif decide (0<=f)&&decide (f<(d.length:ax))then bif !zf.v (bn (ar d f.toNat 0))then k0 ak d e f h i j l m o p q r else bif decide (((bn (ar d f.toNat 1)).size:ax)>400)then k0 ak d e f h i j l m o p q r else bif !lr.v (bI (ar d f.toNat (1+1))) 1 3 then k0 ak d e f h i j l m o p q r else bif !lr.v (bI (ar d f.toNat (1+1+1))) 0 999999 then k0 ak d e f h i j l m o p q r else bif !lr.v (bI (ar d f.toNat (1+1+1+1))) 0 h then k0 ak d e f h i j l m o p q r else g a d e (bH (f+1)) h i j l m o p q r else aj else k1 a d e f h i j l m o p q r
def l2(N:aE)(k0 k1:eP R):aE->eP R
 |0=>λ_ _ _ _ _ _ _ _ _ _ _ _ _=>aj
 |n+1=>r2 N (l2 N k0 k1 n) k0 k1
def b(N:aE)(kr:aW->az R)(a:ax)(d e f h:aQ)(i:ax)(j l:aQ)(m:ax):az R:=l2 N (λo _ _ _ _ _ _ _ _ _ _ _ _=>kr o) (λ_ _ _ _ o p q r s t u w y=>bif decide ((u.length:ax)<=20)then bif MC.c o p q r s t u w y then kr (MC.v o p q r s t u w y)else aj else kr ak) N ak j (j.length:ax) 0 a d e f h i j l m
def vo:=b Lib.cU λr0=>ah r0
def c:=λa d e f h i j l m=>(vo a d e f h i j l m).isSome
def v:=λa d e f h i j l m=>(vo a d e f h i j l m).getD ak
theorem out{x}:∀a d e f h i j l m,vo a d e f h i j l m=ah x->c a d e f h i j l m=ai/\v a d e f h i j l m=x:=λ_ _ _ _ _ _ _ _ _=>Lib.db
end Og

namespace PZ
def r2(N:aE)(g k0 k1:eP R)(a:aW)(d:aQ)(e f h:ax)(i j l m:aQ)(o:ax)(p q:aQ)(r:ax):az R:=bif decide (f<e)then bif decide (0<=f)&&decide (f<(d.length:ax))then bif !lr.v (bI (ar d f.toNat 0)) 1 9 then k0 ak d e f h i j l m o p q r else bif decide (f>0)then bif decide (0<=bH (f-1))&&decide (bH (f-1)<(q.length:ax))then bif decide (bI (ar q (bH (f-1)).toNat 0)≥bI (ar d f.toNat 0))then k0 ak d e f h i j l m o p q r else bif !zf.v (bn (ar d f.toNat 1))then k0 ak d e f h i j l m o p q r else bif !lr.v (bI (ar d f.toNat (1+1+1+1))) 1 3 then k0 ak d e f h i j l m o p q r else bif !lr.v (bI (ar d f.toNat (1+1))) 0 (p.length:ax)then k0 ak d e f h i j l m o p q r else bif decide (((bn (ar d f.toNat (1+1+1+1+1))).size:ax)>400)then k0 ak d e f h i j l m o p q r else bif !lr.v (bI (ar d f.toNat (1+1+1))) 0 h then k0 ak d e f h i j l m o p q r else bif decide (bI (ar d f.toNat (1+1+1+1+1+1))<0)then k0 ak d e f h i j l m o p q r else g a d e (bH (f+1)) h i j l m o p q r else aj else bif !zf.v (bn (ar d f.toNat 1))then k0 ak d e f h i j l m o p q r else bif !lr.v (bI (ar d f.toNat (1+1+1+1))) 1 3 then k0 ak d e f h i j l m o p q r else bif !lr.v (bI (ar d f.toNat (1+1))) 0 (p.length:ax)then k0 ak d e f h i j l m o p q r else bif decide (((bn (ar d f.toNat (1+1+1+1+1))).size:ax)>400)then k0 ak d e f h i j l m o p q r else bif !lr.v (bI (ar d f.toNat (1+1+1))) 0 h then k0 ak d e f h i j l m o p q r else bif decide (bI (ar d f.toNat (1+1+1+1+1+1))<0)then k0 ak d e f h i j l m o p q r else g a d e (bH (f+1)) h i j l m o p q r else aj else k1 a d e f h i j l m o p q r
def l2(N:aE)(k0 k1:eP R):aE->eP R
 |0=>λ_ _ _ _ _ _ _ _ _ _ _ _ _=>aj
 |n+1=>r2 N (l2 N k0 k1 n) k0 k1
def b(N:aE)(kr:aW->az R)(a:ax)(d e f h:aQ)(i:ax)(j l:aQ)(m:ax):az R:=l2 N (λo _ _ _ _ _ _ _ _ _ _ _ _=>kr o) (λ_ _ _ _ _ _ _ _ _ _ _ o _=>kr (decide ((o.length:ax)<=6))) N ak l (l.length:ax) 0 a d e f h i j l m
def vo:=b Lib.cU λr0=>ah r0
def c:=λa d e f h i j l m=>(vo a d e f h i j l m).isSome
def v:=λa d e f h i j l m=>(vo a d e f h i j l m).getD ak
theorem out{x}:∀a d e f h i j l m,vo a d e f h i j l m=ah x->c a d e f h i j l m=ai/\v a d e f h i j l m=x:=λ_ _ _ _ _ _ _ _ _=>Lib.db
end PZ

namespace JH
def b(kr:aW->az R)(a:ax)(d e f h:aQ)(i:ax)(j l:aQ)(m:ax):az R:=bif lr.v a 1 1000000000 then bif PY.c a d e f h i j l m then bif PY.v a d e f h i j l m then bif Og.c a d e f h i j l m then bif Og.v a d e f h i j l m then bif PZ.c a d e f h i j l m then bif PZ.v a d e f h i j l m then kr (RA.v m)else kr ak else aj else kr ak else aj else kr ak else aj else kr ak
def vo:=b λr0=>ah r0
def c:=λa d e f h i j l m=>(vo a d e f h i j l m).isSome
def v:=λa d e f h i j l m=>(vo a d e f h i j l m).getD ak
theorem out{x}:∀a d e f h i j l m,vo a d e f h i j l m=ah x->c a d e f h i j l m=ai/\v a d e f h i j l m=x:=λ_ _ _ _ _ _ _ _ _=>Lib.db
end JH

namespace J6
def b(kr:aW->az R)(a:ax)(d:aq)(e f h:ax)(i:aq)(j Cc:ax):az R:=kr (decide (a=Cc))
def v(a0:ax)(a1:aq)(a2 a3 a4:ax)(a5:aq)(a6 Cc:ax):aW:=(decide (a0=Cc))
theorem eh(kr:aW->az R)(a0:ax)(a1:aq)(a2 a3 a4:ax)(a5:aq)(a6 Cc:ax):b kr a0 a1 a2 a3 a4 a5 a6 Cc=kr (v a0 a1 a2 a3 a4 a5 a6 Cc):=by first|rfl|(unfold b v;simp only[cz];(repeat' split)<;>rfl)
end J6

namespace qq
def r2(N:aE)(g k0 k1:kR R)(a:aQ)(d e f h:ax):az R:=bif decide (h<f)then bif decide (0<=h)&&decide (h<(a.length:ax))then bif J6.v (bI (ar a h.toNat 0)) (bn (ar a h.toNat 1)) (bI (ar a h.toNat (1+1))) (bI (ar a h.toNat (1+1+1))) (bI (ar a h.toNat (1+1+1+1))) (bn (ar a h.toNat (1+1+1+1+1))) (bI (ar a h.toNat (1+1+1+1+1+1))) d then k0 a d h f h else g a d e f (bH (h+1))else aj else k1 a d e f h
def l2(N:aE)(k0 k1:kR R):aE->kR R
 |0=>λ_ _ _ _ _=>aj
 |n+1=>r2 N (l2 N k0 k1 n) k0 k1
def b(N:aE)(kr:ax->az R)(a:aQ)(Cc:ax):az R:=l2 N (λ_ _ d _ _=>kr d) (λ_ _ _ _ _=>kr (-1)) N a Cc 0 (a.length:ax) 0
def vo:=b Lib.cU λr0=>ah r0
def c:=λa d=>(vo a d).isSome
def v:=λa d=>(vo a d).getD (0)
theorem out{x}:∀a d,vo a d=ah x->c a d=ai/\v a d=x:=λ_ _=>Lib.db
end qq

namespace Au
def b(kr:aW->az R)(a:ax)(d:aq)(e f h:ax)(i:aq)(j Cc:ax):az R:=kr (decide (a=Cc))
def v(a0:ax)(a1:aq)(a2 a3 a4:ax)(a5:aq)(a6 Cc:ax):aW:=(decide (a0=Cc))
theorem eh(kr:aW->az R)(a0:ax)(a1:aq)(a2 a3 a4:ax)(a5:aq)(a6 Cc:ax):b kr a0 a1 a2 a3 a4 a5 a6 Cc=kr (v a0 a1 a2 a3 a4 a5 a6 Cc):=by first|rfl|(unfold b v;simp only[cz];(repeat' split)<;>rfl)
end Au

namespace na
def r2(N:aE)(g k0 k1:kR R)(a:aQ)(d e f h:ax):az R:=bif decide (h<f)then bif decide (0<=h)&&decide (h<(a.length:ax))then bif Au.v (bI (ar a h.toNat 0)) (bn (ar a h.toNat 1)) (bI (ar a h.toNat (1+1))) (bI (ar a h.toNat (1+1+1))) (bI (ar a h.toNat (1+1+1+1))) (bn (ar a h.toNat (1+1+1+1+1))) (bI (ar a h.toNat (1+1+1+1+1+1))) d then k0 a d h f h else g a d e f (bH (h+1))else aj else k1 a d e f h
def l2(N:aE)(k0 k1:kR R):aE->kR R
 |0=>λ_ _ _ _ _=>aj
 |n+1=>r2 N (l2 N k0 k1 n) k0 k1
def b(N:aE)(kr:ax->az R)(a:aQ)(Cc:ax):az R:=l2 N (λ_ _ d _ _=>kr d) (λ_ _ _ _ _=>kr (-1)) N a Cc 0 (a.length:ax) 0
def vo:=b Lib.cU λr0=>ah r0
def c:=λa d=>(vo a d).isSome
def v:=λa d=>(vo a d).getD (0)
theorem out{x}:∀a d,vo a d=ah x->c a d=ai/\v a d=x:=λ_ _=>Lib.db
end na

namespace ze
def b(kr:ax->az R)(a:ax)(d e f h:aQ)(i:ax)(j l:aQ)(m o:ax):az R:=bif qq.c l o then kr (qq.v l o)else aj
def vo:=b λr0=>ah r0
def c:=λa d e f h i j l m o=>(vo a d e f h i j l m o).isSome
def v:=λa d e f h i j l m o=>(vo a d e f h i j l m o).getD (0)
theorem out{x}:∀a d e f h i j l m o,vo a d e f h i j l m o=ah x->c a d e f h i j l m o=ai/\v a d e f h i j l m o=x:=λ_ _ _ _ _ _ _ _ _ _=>Lib.db
end ze

namespace J4
def b(kr:aW->az R)(a:aq)(d e:ax)(f gM:aq):az R:=kr (cF (aF a) (aF gM))
def v(a0:aq)(a1 a2:ax)(a3 gM:aq):aW:=(cF (aF a0) (aF gM))
theorem eh(kr:aW->az R)(a0:aq)(a1 a2:ax)(a3 gM:aq):b kr a0 a1 a2 a3 gM=kr (v a0 a1 a2 a3 gM):=by first|rfl|(unfold b v;simp only[cz];(repeat' split)<;>rfl)
end J4

namespace pL
def r2(N:aE)(g k0 k1:hZ R)(a:aQ)(d:aq)(e f h:ax):az R:=bif decide (h<f)then bif decide (0<=h)&&decide (h<(a.length:ax))then bif J4.v (bn (ar a h.toNat 0)) (bI (ar a h.toNat 1)) (bI (ar a h.toNat (1+1))) (bn (ar a h.toNat (1+1+1))) d then k0 a d h f h else g a d e f (bH (h+1))else aj else k1 a d e f h
def l2(N:aE)(k0 k1:hZ R):aE->hZ R
 |0=>λ_ _ _ _ _=>aj
 |n+1=>r2 N (l2 N k0 k1 n) k0 k1
def b(N:aE)(kr:ax->az R)(a:aQ)(gM:aq):az R:=l2 N (λ_ _ d _ _=>kr d) (λ_ _ _ _ _=>kr (-1)) N a gM 0 (a.length:ax) 0
def vo:=b Lib.cU λr0=>ah r0
def c:=λa d=>(vo a d).isSome
def v:=λa d=>(vo a d).getD (0)
theorem out{x}:∀a d,vo a d=ah x->c a d=ai/\v a d=x:=λ_ _=>Lib.db
end pL

namespace Ax
def b(kr:aW->az R)(a:aq)(d e:ax)(f gM:aq):az R:=kr (cF (aF a) (aF gM))
def v(a0:aq)(a1 a2:ax)(a3 gM:aq):aW:=(cF (aF a0) (aF gM))
theorem eh(kr:aW->az R)(a0:aq)(a1 a2:ax)(a3 gM:aq):b kr a0 a1 a2 a3 gM=kr (v a0 a1 a2 a3 gM):=by first|rfl|(unfold b v;simp only[cz];(repeat' split)<;>rfl)
end Ax

namespace m_
def r2(N:aE)(g k0 k1:hZ R)(a:aQ)(d:aq)(e f h:ax):az R:=bif decide (h<f)then bif decide (0<=h)&&decide (h<(a.length:ax))then bif Ax.v (bn (ar a h.toNat 0)) (bI (ar a h.toNat 1)) (bI (ar a h.toNat (1+1))) (bn (ar a h.toNat (1+1+1))) d then k0 a d h f h else g a d e f (bH (h+1))else aj else k1 a d e f h
def l2(N:aE)(k0 k1:hZ R):aE->hZ R
 |0=>λ_ _ _ _ _=>aj
 |n+1=>r2 N (l2 N k0 k1 n) k0 k1
def b(N:aE)(kr:ax->az R)(a:aQ)(gM:aq):az R:=l2 N (λ_ _ d _ _=>kr d) (λ_ _ _ _ _=>kr (-1)) N a gM 0 (a.length:ax) 0
def vo:=b Lib.cU λr0=>ah r0
def c:=λa d=>(vo a d).isSome
def v:=λa d=>(vo a d).getD (0)
theorem out{x}:∀a d,vo a d=ah x->c a d=ai/\v a d=x:=λ_ _=>Lib.db
end m_

namespace U89
def b(kr:aW->az R)(a:aq)(d e:ax)(f:aq)(Oo:ax)(H5:aq)(Oq H6 Ot:ax)(H7:aq)(H8:ax):az R:=bif cF (aF a) (aF H5)then bif decide (d=H6)then bif cF (aF f) (aF H7)then kr (decide (e>H8))else kr ak else kr ak else kr ak
def v(a0:aq)(a1 a2:ax)(a3:aq)(Oo:ax)(H5:aq)(Oq H6 Ot:ax)(H7:aq)(H8:ax):aW:=bif cF (aF a0) (aF H5)then bif decide (a1=H6)then bif cF (aF a3) (aF H7)then decide (a2>H8)else ak else ak else ak
theorem eh(kr:aW->az R)(a0:aq)(a1 a2:ax)(a3:aq)(Oo:ax)(H5:aq)(Oq H6 Ot:ax)(H7:aq)(H8:ax):b kr a0 a1 a2 a3 Oo H5 Oq H6 Ot H7 H8=kr (v a0 a1 a2 a3 Oo H5 Oq H6 Ot H7 H8):=by first|rfl|(unfold b v;simp only[cz];(repeat' split)<;>rfl)
end U89

namespace BG
def r2(N:aE)(g k0 k1:pV R)(a:aQ)(d:ax)(e:aq)(f h i:ax)(j:aq)(l m o p:ax):az R:=bif decide (p<o)then bif decide (0<=p)&&decide (p<(a.length:ax))then bif U89.v (bn (ar a p.toNat 0)) (bI (ar a p.toNat 1)) (bI (ar a p.toNat (1+1))) (bn (ar a p.toNat (1+1+1))) d e f h i j l then k0 a d e f h i j l p o p else g a d e f h i j l m o (bH (p+1))else aj else k1 a d e f h i j l m o p
def l2(N:aE)(k0 k1:pV R):aE->pV R
 |0=>λ_ _ _ _ _ _ _ _ _ _ _=>aj
 |n+1=>r2 N (l2 N k0 k1 n) k0 k1
def b(N:aE)(kr:ax->az R)(a:aQ)(Oo:ax)(H5:aq)(Oq H6 Ot:ax)(H7:aq)(H8:ax):az R:=l2 N (λ_ _ _ _ _ _ _ _ d _ _=>kr d) (λ_ _ _ _ _ _ _ _ _ _ _=>kr (-1)) N a Oo H5 Oq H6 Ot H7 H8 0 (a.length:ax) 0
def vo:=b Lib.cU λr0=>ah r0
def c:=λa d e f h i j l=>(vo a d e f h i j l).isSome
def v:=λa d e f h i j l=>(vo a d e f h i j l).getD (0)
theorem out{x}:∀a d e f h i j l,vo a d e f h i j l=ah x->c a d e f h i j l=ai/\v a d e f h i j l=x:=λ_ _ _ _ _ _ _ _=>Lib.db
end BG

namespace Ge
def b(kr:aW->az R)(a:aq)(d e:ax)(f:aq)(h:ax):az R:=bif wz.v a d e f then bif RA.v h then kr (lr.v h d (bH (bH (d+e)-1)))else kr ak else kr ak
def v(a0:aq)(a1 a2:ax)(a3:aq)(a4:ax):aW:=bif wz.v a0 a1 a2 a3 then bif RA.v a4 then lr.v a4 a1 (bH (bH (a1+a2)-1))else ak else ak
theorem eh(kr:aW->az R)(a0:aq)(a1 a2:ax)(a3:aq)(a4:ax):b kr a0 a1 a2 a3 a4=kr (v a0 a1 a2 a3 a4):=by first|rfl|(unfold b v;simp only[cz];(repeat' split)<;>rfl)
end Ge

namespace wJ
def r6(N:aE)(g k0:yA R)(a:ax)(d:aq)(e f:ax):az R:=bif decide (f<8)then bif decide (cK a 2=1)then g (bE eD (↑(dW (ma (b9 32 (bE eD (cL a 2))) (b9 32 3558460437))):ax)) d e (bH (f+1))else g (bE eD (cL a 2)) d e (bH (f+1))else k0 a d e f
def l6(N:aE)(k0:yA R):aE->yA R
 |0=>λ_ _ _ _=>aj
 |n+1=>r6 N (l6 N k0 n) k0
def r2(N:aE)(g k0:DW R)(a:ax)(d:aq)(e:ax):az R:=bif decide (e<(d.size:ax))then bif decide (0<=e)&&decide (e<(d.size:ax))then l6 N (λf h i _=>g f h (bH (i+1))) N (bE eD (↑(dW (ma (b9 32 a) (b9 32 (bE eD (↑(gQ d e.toNat):ax))))):ax)) d e 0 else aj else k0 a d e
def l2(N:aE)(k0:DW R):aE->DW R
 |0=>λ_ _ _=>aj
 |n+1=>r2 N (l2 N k0 n) k0
def b(N:aE)(kr:ax->az R)(a:ax)(d:aq):az R:=l2 N (λe _ _=>kr e) N a d 0
def vo:=b Lib.cU λr0=>ah r0
def c:=λa d=>(vo a d).isSome
def v:=λa d=>(vo a d).getD (0)
theorem out{x}:∀a d,vo a d=ah x->c a d=ai/\v a d=x:=λ_ _=>Lib.db
end wJ

namespace uU
def b(kr:ax->az R)(a:aq):az R:=bif wJ.c 4294967295 a then kr (wJ.v 4294967295 a)else aj
def vo:=b λr0=>ah r0
def c:=λa=>(vo a).isSome
def v:=λa=>(vo a).getD (0)
theorem out{x}:∀a,vo a=ah x->c a=ai/\v a=x:=λ_=>Lib.db
end uU

namespace qs
def b(kr:ax->az R)(a:ax)(d:aq):az R:=bif decide (d.size+(bytesOf (aA (aN [Ck.i ba] 1) 0 [CV.i ba (bE ba (bH (↑(dW (jo (b9 64 a) (b9 64 255))):ax)))])).size<=4611686018427387904)then bif uU.c (d++bytesOf (aA (aN [Ck.i ba] 1) 0 [CV.i ba (bE ba (bH (↑(dW (jo (b9 64 a) (b9 64 255))):ax)))]))then kr (cK (bH (uU.v (d++bytesOf (aA (aN [Ck.i ba] 1) 0 [CV.i ba (bE ba (bH (↑(dW (jo (b9 64 a) (b9 64 255))):ax)))])))) 16)else aj else aj
def vo:=b λr0=>ah r0
def c:=λa d=>(vo a d).isSome
def v:=λa d=>(vo a d).getD (0)
theorem out{x}:∀a d,vo a d=ah x->c a d=ai/\v a d=x:=λ_ _=>Lib.db
end qs

namespace iH
def r18(N:aE)(g k0:vq R)(a:aE)(d e f h i j:ax)(l:aQ):az R:=bif decide (h<f)then bif decide (0<=h)&&decide (h<((iR (ar l a 0)).length:ax))then bif decide (0<=h)&&decide (h<((iR (ar l a 0)).length:ax))then g a d e f (bH (h+1)) i j (eA l a 0 [CV.l 3 (eA (iR (ar l a 0)) h.toNat 0 [.i .i64 (bH (cL (bI (ar (iR (ar l a 0)) h.toNat 0)) 2))])])else aj else aj else k0 a d e f h i j l
def l18(N:aE)(k0:vq R):aE->vq R
 |0=>λ_ _ _ _ _ _ _ _=>aj
 |n+1=>r18 N (l18 N k0 n) k0
def r15(N:aE)(g k0:tV R)(a d e f:ax)(h:aQ):az R:=bif decide (d<a)then bif decide (0<=d)&&decide (d<(h.length:ax))then l18 N (λ_ i j _ _ l m o=>g i (bH (j+1)) l m o) N d.toNat a d ((iR (ar h d.toNat 0)).length:ax) 0 e f h else aj else k0 a d e f h
def l15(N:aE)(k0:tV R):aE->tV R
 |0=>λ_ _ _ _ _=>aj
 |n+1=>r15 N (l15 N k0 n) k0
def r5(N:aE)(g k0:Bz R)(a:aq)(d e f h:ax)(i:aQ):az R:=bif decide (e<d)then bif decide (0<=e)&&decide (e<(i.length:ax))then bif qs.c e a then bif decide (0<=qs.v e a)&&decide (qs.v e a<((iR (ar i e.toNat 0)).length:ax))then bif decide (0<=qs.v e a)&&decide (qs.v e a<((iR (ar i e.toNat 0)).length:ax))then g a d (bH (e+1)) f h (eA i e.toNat 0 [CV.l 3 (eA (iR (ar i e.toNat 0)) (qs.v e a).toNat 0 [.i .i64 (im ak (bH (bI (ar (iR (ar i e.toNat 0)) (qs.v e a).toNat 0)+1)) 15)])])else aj else aj else aj else aj else k0 a d e f h i
def l5(N:aE)(k0:Bz R):aE->Bz R
 |0=>λ_ _ _ _ _ _=>aj
 |n+1=>r5 N (l5 N k0 n) k0
def b(N:aE)(kr:Dd R)(a:aQ)(d:ax)(e:aq):az R:=bif jj.c a d then bif pE.c a d then bif !pE.v a d then kr (jj.v a d).1 (jj.v a d).2 else l5 N (λ_ _ _ f h i=>bif decide (bH (h+1)<64)then kr i (bH (h+1))else l15 N (λ_ _ _ j l=>kr l j) N (i.length:ax) 0 f 0 i) N e ((jj.v a d).1.length:ax) 0 0 (jj.v a d).2 (jj.v a d).1 else aj else aj
def vo:=b Lib.cU λr0 r1=>ah (r0,r1)
def c:=λa d e=>(vo a d e).isSome
def v:=λa d e=>(vo a d e).getD ([],0)
theorem out{x}:∀a d e,vo a d e=ah x->c a d e=ai/\v a d e=x:=λ_ _ _=>Lib.db
end iH

namespace Az
def b(kr:aW->az R)(a gM:aq):az R:=kr (cF (aF a) (aF gM))
def v(a0 gM:aq):aW:=(cF (aF a0) (aF gM))
theorem eh(kr:aW->az R)(a0 gM:aq):b kr a0 gM=kr (v a0 gM):=by first|rfl|(unfold b v;simp only[cz];(repeat' split)<;>rfl)
end Az

namespace sB
def r2(N:aE)(g k0 k1:hZ R)(a:aQ)(d:aq)(e f h:ax):az R:=bif decide (h<f)then bif decide (0<=h)&&decide (h<(a.length:ax))then bif Az.v (bn (ar a h.toNat 0)) d then k0 a d h f h else g a d e f (bH (h+1))else aj else k1 a d e f h
def l2(N:aE)(k0 k1:hZ R):aE->hZ R
 |0=>λ_ _ _ _ _=>aj
 |n+1=>r2 N (l2 N k0 k1 n) k0 k1
def b(N:aE)(kr:ax->az R)(a:aQ)(gM:aq):az R:=l2 N (λ_ _ d _ _=>kr d) (λ_ _ _ _ _=>kr (-1)) N a gM 0 (a.length:ax) 0
def vo:=b Lib.cU λr0=>ah r0
def c:=λa d=>(vo a d).isSome
def v:=λa d=>(vo a d).getD (0)
theorem out{x}:∀a d,vo a d=ah x->c a d=ai/\v a d=x:=λ_ _=>Lib.db
end sB

namespace wI
def r5(N:aE)(g k0:mf R)(a:aq)(d e:ax)(f:aQ):az R:=bif decide (e<(f.length:ax))then bif decide (0<=e)&&decide (e<(f.length:ax))then bif !Az.v (bn (ar f e.toNat 0)) a then bif decide (0<=d)&&decide (d<(f.length:ax))then g a (bH (d+1)) (bH (e+1)) (eA f d.toNat 0 [.s (bn (ar f e.toNat 0))])else aj else g a d (bH (e+1)) f else aj else k0 a d e f
def l5(N:aE)(k0:mf R):aE->mf R
 |0=>λ_ _ _ _=>aj
 |n+1=>r5 N (l5 N k0 n) k0
def b(N:aE)(kr:aQ->az R)(a:aQ)(gM:aq):az R:=bif sB.c a gM then bif decide (sB.v a gM=oS 1)then kr a else l5 N (λ_ d _ e=>bif iy d (e.length:ax) (e.length:ax)then bif iy 0 d ((gW d.toNat e++aN [.s] ((e.length:ax).toNat-d.toNat)++m8 (e.length:ax).toNat e).length:ax)then kr (eW (gW d.toNat e++aN [.s] ((e.length:ax).toNat-d.toNat)++m8 (e.length:ax).toNat e) (aZ 0) d.toNat)else aj else aj) N gM (sB.v a gM) (bH (sB.v a gM+1)) a else aj
def vo:=b Lib.cU λr0=>ah r0
def c:=λa d=>(vo a d).isSome
def v:=λa d=>(vo a d).getD ([])
theorem out{x}:∀a d,vo a d=ah x->c a d=ai/\v a d=x:=λ_ _=>Lib.db
end wI

namespace j4
def b(kr:aQ->az R)(a:aQ)(d:aq):az R:=bif sV.c a then bif wI.c (sV.v a) d then kr (wI.v (sV.v a) d)else aj else aj
def vo:=b λr0=>ah r0
def c:=λa d=>(vo a d).isSome
def v:=λa d=>(vo a d).getD ([])
theorem out{x}:∀a d,vo a d=ah x->c a d=ai/\v a d=x:=λ_ _=>Lib.db
end j4

namespace vM
def r5(N:aE)(g k0:Fg R)(a:aq)(d:ax)(e:aQ)(f h:ax):az R:=bif decide (h<f)then bif decide (0<=h)&&decide (h<(e.length:ax))then bif qs.c h a then bif decide (0<=qs.v h a)&&decide (qs.v h a<((iR (ar e h.toNat 0)).length:ax))then g a (im ak d (bI (ar (iR (ar e h.toNat 0)) (qs.v h a).toNat 0))) e f (bH (h+1))else aj else aj else aj else k0 a d e f h
def l5(N:aE)(k0:Fg R):aE->Fg R
 |0=>λ_ _ _ _ _=>aj
 |n+1=>r5 N (l5 N k0 n) k0
def b(N:aE)(kr:ax->az R)(a:aQ)(d:ax)(e:aq):az R:=bif pE.c a d then bif !pE.v a d then kr 0 else l5 N (λ_ f _ _ _=>kr f) N e 15 a (a.length:ax) 0 else aj
def vo:=b Lib.cU λr0=>ah r0
def c:=λa d e=>(vo a d e).isSome
def v:=λa d e=>(vo a d e).getD (0)
theorem out{x}:∀a d e,vo a d e=ah x->c a d e=ai/\v a d e=x:=λ_ _ _=>Lib.db
end vM

namespace zg
def b(kr:LW R)(a d e:aQ)(f:ax)(h:aq):az R:=bif jr.c a d e f then bif oW.c a d e f then bif !oW.v a d e f then kr (jr.v a d e f).1 (jr.v a d e f).2.1 (jr.v a d e f).2.2.1 (jr.v a d e f).2.2.2 ⟨#[]⟩else bif !zf.v h then kr (jr.v a d e f).1 (jr.v a d e f).2.1 (jr.v a d e f).2.2.1 (jr.v a d e f).2.2.2 ⟨#[]⟩else bif iH.c e f h then bif sw.c d h then bif sw.v d h then bif j4.c d h then bif cg ((j4.v d h).length+(aA (aN [.s] 1) 0 [.s h]).length) 16 then kr (jr.v a d e f).1 (j4.v d h++aA (aN [.s] 1) 0 [.s h]) (iH.v e f h).1 (iH.v e f h).2 ⟨#[]⟩else aj else aj else bif j4.c a h then bif cg ((j4.v a h).length+(aA (aN [.s] 1) 0 [.s h]).length) 16 then bif decide (((j4.v a h++aA (aN [.s] 1) 0 [.s h]).length:ax)<=2)then kr (j4.v a h++aA (aN [.s] 1) 0 [.s h]) (jr.v a d e f).2.1 (iH.v e f h).1 (iH.v e f h).2 ⟨#[]⟩else bif decide (0<((j4.v a h++aA (aN [.s] 1) 0 [.s h]).length:ax))then bif iy 1 ((j4.v a h++aA (aN [.s] 1) 0 [.s h]).length:ax) ((j4.v a h++aA (aN [.s] 1) 0 [.s h]).length:ax)then bif decide (((jr.v a d e f).2.1.length:ax)<4)then bif cg ((jr.v a d e f).2.1.length+(aA (aN [.s] 1) 0 [.s (bn (ar (j4.v a h++aA (aN [.s] 1) 0 [.s h]) (aZ 0) 0))]).length) 16 then kr (eW (j4.v a h++aA (aN [.s] 1) 0 [.s h]) (aZ 1) ((j4.v a h++aA (aN [.s] 1) 0 [.s h]).length:ax).toNat) ((jr.v a d e f).2.1++aA (aN [.s] 1) 0 [.s (bn (ar (j4.v a h++aA (aN [.s] 1) 0 [.s h]) (aZ 0) 0))]) (iH.v e f h).1 (iH.v e f h).2 ⟨#[]⟩else aj else bif decide (0<((jr.v a d e f).2.1.length:ax))then bif vM.c (iH.v e f h).1 (iH.v e f h).2 (bn (ar (j4.v a h++aA (aN [.s] 1) 0 [.s h]) (aZ 0) 0))then bif vM.c (iH.v e f h).1 (iH.v e f h).2 (bn (ar (jr.v a d e f).2.1 (aZ 0) 0))then bif decide (vM.v (iH.v e f h).1 (iH.v e f h).2 (bn (ar (j4.v a h++aA (aN [.s] 1) 0 [.s h]) (aZ 0) 0))>vM.v (iH.v e f h).1 (iH.v e f h).2 (bn (ar (jr.v a d e f).2.1 (aZ 0) 0)))then bif iy 1 ((jr.v a d e f).2.1.length:ax) ((jr.v a d e f).2.1.length:ax)then bif cg ((eW (jr.v a d e f).2.1 (aZ 1) ((jr.v a d e f).2.1.length:ax).toNat).length+(aA (aN [.s] 1) 0 [.s (bn (ar (j4.v a h++aA (aN [.s] 1) 0 [.s h]) (aZ 0) 0))]).length) 16 then kr (eW (j4.v a h++aA (aN [.s] 1) 0 [.s h]) (aZ 1) ((j4.v a h++aA (aN [.s] 1) 0 [.s h]).length:ax).toNat) (eW (jr.v a d e f).2.1 (aZ 1) ((jr.v a d e f).2.1.length:ax).toNat++aA (aN [.s] 1) 0 [.s (bn (ar (j4.v a h++aA (aN [.s] 1) 0 [.s h]) (aZ 0) 0))]) (iH.v e f h).1 (iH.v e f h).2 (bn (ar (jr.v a d e f).2.1 (aZ 0) 0))else aj else aj else kr (eW (j4.v a h++aA (aN [.s] 1) 0 [.s h]) (aZ 1) ((j4.v a h++aA (aN [.s] 1) 0 [.s h]).length:ax).toNat) (jr.v a d e f).2.1 (iH.v e f h).1 (iH.v e f h).2 (bn (ar (j4.v a h++aA (aN [.s] 1) 0 [.s h]) (aZ 0) 0))else aj else aj else aj else aj else aj else aj else aj else aj else aj else aj else aj
def vo:=b λr0 r1 r2 r3 r4=>ah (r0,r1,r2,r3,r4)
def c:=λa d e f h=>(vo a d e f h).isSome
def v:=λa d e f h=>(vo a d e f h).getD ([],[],[],0,⟨#[]⟩)
theorem out{x}:∀a d e f h,vo a d e f h=ah x->c a d e f h=ai/\v a d e f h=x:=λ_ _ _ _ _=>Lib.db
end zg


namespace ji
def r2(N:aE)(g k0:lA R)(a d e f h:ax)(i:aq)(j l m:ax)(o:aq)(p:ax)(q r s t u w:aQ):az R:=bif decide (a<(w.length:ax))then bif decide (0<=a)&&decide (a<(w.length:ax))then bif decide (bI (ar w a.toNat 0)<h)then g (bH (a+1)) d e f h i j l m o p q r s t u w else k0 a d e f h i j l m o p q r s t u w else aj else k0 a d e f h i j l m o p q r s t u w
def l2(N:aE)(k0:lA R):aE->lA R
 |0=>λ_ _ _ _ _ _ _ _ _ _ _ _ _ _ _ _ _=>aj
 |n+1=>r2 N (l2 N k0 n) k0
def b(N:aE)(kr:eM R)(a:ax)(d e f h:aQ)(i:ax)(j l:aQ)(m o:ax)(p:aq)(q r s:ax)(t:aq)(u:ax):az R:=l2 N (λw y z α xa xb xc xd xe xf xg xh xi xj xk xl xm=>bif decide (0<=w)&&decide (w<=(xm.length:ax))&&cg (xm.length+(aA (aN [Ck.i ao,Ck.s,Ck.i ao,Ck.i ao,Ck.i ao,Ck.s,Ck.i ao] 1) 0 [.i .i64 xa, .s xb, .i .i64 xc, .i .i64 xd, .i .i64 xe, .s xf, .i .i64 xg]).length) 72 then kr y xh xi xj xk z xl (Pu.tu xm w.toNat (aA (aN [Ck.i ao,Ck.s,Ck.i ao,Ck.i ao,Ck.i ao,Ck.s,Ck.i ao] 1) 0 [.i .i64 xa, .s xb, .i .i64 xc, .i .i64 xd, .i .i64 xe, .s xf, .i .i64 xg])) α else aj) N 0 a i m o p q r s t u d e f h j l
def vo:=b Lib.cU λr0 r1 r2 r3 r4 r5 r6 r7 r8=>ah (r0,r1,r2,r3,r4,r5,r6,r7,r8)
def c:=λa d e f h i j l m o p q r s t u=>(vo a d e f h i j l m o p q r s t u).isSome
def v:=λa d e f h i j l m o p q r s t u=>(vo a d e f h i j l m o p q r s t u).getD (0,[],[],[],[],0,[],[],0)
theorem out{x}:∀a d e f h i j l m o p q r s t u,vo a d e f h i j l m o p q r s t u=ah x->c a d e f h i j l m o p q r s t u=ai/\v a d e f h i j l m o p q r s t u=x:=λ_ _ _ _ _ _ _ _ _ _ _ _ _ _ _ _=>Lib.db
end ji

namespace oY
def r5(N:aE)(g k0:mf R)(a:aq)(d e:ax)(f:aQ):az R:=bif decide (e<(f.length:ax))then bif decide (0<=e)&&decide (e<(f.length:ax))then bif !Ax.v (bn (ar f e.toNat 0)) (bI (ar f e.toNat 1)) (bI (ar f e.toNat (1+1))) (bn (ar f e.toNat (1+1+1))) a then bif decide (0<=d)&&decide (d<(f.length:ax))then g a (bH (d+1)) (bH (e+1)) (eA f d.toNat 0 [.s (bn (ar f e.toNat 0)), .i .i64 (bI (ar f e.toNat 1)), .i .i64 (bI (ar f e.toNat (1+1))), .s (bn (ar f e.toNat (1+1+1)))])else aj else g a d (bH (e+1)) f else aj else k0 a d e f
def l5(N:aE)(k0:mf R):aE->mf R
 |0=>λ_ _ _ _=>aj
 |n+1=>r5 N (l5 N k0 n) k0
def b(N:aE)(kr:aQ->az R)(a:aQ)(gM:aq):az R:=bif m_.c a gM then bif decide (m_.v a gM=oS 1)then kr a else l5 N (λ_ d _ e=>bif iy d (e.length:ax) (e.length:ax)then bif iy 0 d ((gW d.toNat e++aN [Ck.s,Ck.i ao,Ck.i ao,Ck.s] ((e.length:ax).toNat-d.toNat)++m8 (e.length:ax).toNat e).length:ax)then kr (eW (gW d.toNat e++aN [Ck.s,Ck.i ao,Ck.i ao,Ck.s] ((e.length:ax).toNat-d.toNat)++m8 (e.length:ax).toNat e) (aZ 0) d.toNat)else aj else aj) N gM (m_.v a gM) (bH (m_.v a gM+1)) a else aj
def vo:=b Lib.cU λr0=>ah r0
def c:=λa d=>(vo a d).isSome
def v:=λa d=>(vo a d).getD ([])
theorem out{x}:∀a d,vo a d=ah x->c a d=ai/\v a d=x:=λ_ _=>Lib.db
end oY

namespace pD
def b(kr:aQ->az R)(a:aQ)(d:aq):az R:=bif wF.c a then bif oY.c (wF.v a) d then kr (oY.v (wF.v a) d)else aj else aj
def vo:=b λr0=>ah r0
def c:=λa d=>(vo a d).isSome
def v:=λa d=>(vo a d).getD ([])
theorem out{x}:∀a d,vo a d=ah x->c a d=ai/\v a d=x:=λ_ _=>Lib.db
end pD

namespace uN
def b(kr:sP R)(a d e:aQ)(f:ax)(h:aq):az R:=bif jr.c a d e f then bif j4.c a h then bif j4.c d h then kr (j4.v a h) (j4.v d h) (jr.v a d e f).2.2.1 (jr.v a d e f).2.2.2 else aj else aj else aj
def vo:=b λr0 r1 r2 r3=>ah (r0,r1,r2,r3)
def c:=λa d e f h=>(vo a d e f h).isSome
def v:=λa d e f h=>(vo a d e f h).getD ([],[],[],0)
theorem out{x}:∀a d e f h,vo a d e f h=ah x->c a d e f h=ai/\v a d e f h=x:=λ_ _ _ _ _=>Lib.db
end uN

namespace RB
def b(kr:wm R)(a:ax)(d e f h:aQ)(i:ax)(j l:aQ)(m o:ax)(p:aq):az R:=bif iL.c a d e f h i j l m then Lib.lt (iL.v a d e f h i j l m) λq=>bif JH.c a d e f h i j l m then Lib.lt (JH.v a d e f h i j l m) λr=>bif !r then kr q.1 q.2.1 q.2.2.1 q.2.2.2.1 q.2.2.2.2.1 q.2.2.2.2.2.1 q.2.2.2.2.2.2.1 q.2.2.2.2.2.2.2.1 q.2.2.2.2.2.2.2.2 1 else bif !lr.v o 1 9 then kr q.1 q.2.1 q.2.2.1 q.2.2.2.1 q.2.2.2.2.1 q.2.2.2.2.2.1 q.2.2.2.2.2.2.1 q.2.2.2.2.2.2.2.1 q.2.2.2.2.2.2.2.2 1 else bif !zf.v p then kr q.1 q.2.1 q.2.2.1 q.2.2.2.1 q.2.2.2.2.1 q.2.2.2.2.2.1 q.2.2.2.2.2.2.1 q.2.2.2.2.2.2.2.1 q.2.2.2.2.2.2.2.2 1 else bif ze.c a d e f h i j l m o then Lib.lt (ze.v a d e f h i j l m o) λs=>bif decide (s≥0)then kr q.1 q.2.1 q.2.2.1 q.2.2.2.1 q.2.2.2.2.1 q.2.2.2.2.2.1 q.2.2.2.2.2.2.1 q.2.2.2.2.2.2.2.1 q.2.2.2.2.2.2.2.2 1 else bif decide ((l.length:ax)=6)then kr q.1 q.2.1 q.2.2.1 q.2.2.2.1 q.2.2.2.2.1 q.2.2.2.2.2.1 q.2.2.2.2.2.2.1 q.2.2.2.2.2.2.2.1 q.2.2.2.2.2.2.2.2 1 else bif pL.c d p then Lib.lt (pL.v d p) λt=>bif decide (t≥0)then bif decide (0<=t)&&decide (t<(d.length:ax))then bif Ge.v (bn (ar d t.toNat 0)) (bI (ar d t.toNat 1)) (bI (ar d t.toNat (1+1))) (bn (ar d t.toNat (1+1+1))) a then bif decide (0<=t)&&decide (t<(d.length:ax))then bif zg.c e f h i p then Lib.lt (zg.v e f h i p) λu=>bif ji.c q.1 q.2.1 u.1 u.2.1 u.2.2.1 u.2.2.2.1 q.2.2.2.2.2.2.1 q.2.2.2.2.2.2.2.1 q.2.2.2.2.2.2.2.2 o p 0 (bI (ar d t.toNat 1)) 2 (bn (ar d t.toNat (1+1+1))) (bH (a-bI (ar d t.toNat 1)))then Lib.lt (ji.v q.1 q.2.1 u.1 u.2.1 u.2.2.1 u.2.2.2.1 q.2.2.2.2.2.2.1 q.2.2.2.2.2.2.2.1 q.2.2.2.2.2.2.2.2 o p 0 (bI (ar d t.toNat 1)) 2 (bn (ar d t.toNat (1+1+1))) (bH (a-bI (ar d t.toNat 1)))) λw=>kr w.1 w.2.1 w.2.2.1 w.2.2.2.1 w.2.2.2.2.1 w.2.2.2.2.2.1 w.2.2.2.2.2.2.1 w.2.2.2.2.2.2.2.1 (im ak (bH (m+1)) 1000000000) 0 else aj else aj else aj else bif Kd.c a d e f h i j l m p then Lib.lt (Kd.v a d e f h i j l m p) λu=>bif decide (u<0)then bif decide ((j.length:ax)=20)then kr q.1 q.2.1 q.2.2.1 q.2.2.2.1 q.2.2.2.2.1 q.2.2.2.2.2.1 q.2.2.2.2.2.2.1 q.2.2.2.2.2.2.2.1 q.2.2.2.2.2.2.2.2 2 else bif decide (t≥0)then bif pD.c d p then Lib.lt (pD.v d p) λw=>bif uN.c e f h i p then Lib.lt (uN.v e f h i p) λy=>bif iH.c h i p then Lib.lt (iH.v h i p) λz=>bif decide (u<0)then bif cg (q.2.2.2.2.2.2.1.length+(aA (aN [Ck.s,Ck.s,Ck.i ao,Ck.i ao,Ck.i ao] 1) 0 [.s p, .s ⟨#[]⟩, .i .i64 1, .i .i64 0, .i .i64 0]).length) 56 then bif decide ((j.length:ax)<((q.2.2.2.2.2.2.1++aA (aN [Ck.s,Ck.s,Ck.i ao,Ck.i ao,Ck.i ao] 1) 0 [.s p, .s ⟨#[]⟩, .i .i64 1, .i .i64 0, .i .i64 0]).length:ax))then bif ji.c q.1 w y.1 y.2.1 z.1 z.2 (q.2.2.2.2.2.2.1++aA (aN [Ck.s,Ck.s,Ck.i ao,Ck.i ao,Ck.i ao] 1) 0 [.s p, .s ⟨#[]⟩, .i .i64 1, .i .i64 0, .i .i64 0]) q.2.2.2.2.2.2.2.1 q.2.2.2.2.2.2.2.2 o p (bH ((j.length:ax)+1)) 0 1 (bn (ar (q.2.2.2.2.2.2.1++aA (aN [Ck.s,Ck.s,Ck.i ao,Ck.i ao,Ck.i ao] 1) 0 [.s p, .s ⟨#[]⟩, .i .i64 1, .i .i64 0, .i .i64 0]) (j.length:ax).toNat 1)) 0 then Lib.lt (ji.v q.1 w y.1 y.2.1 z.1 z.2 (q.2.2.2.2.2.2.1++aA (aN [Ck.s,Ck.s,Ck.i ao,Ck.i ao,Ck.i ao] 1) 0 [.s p, .s ⟨#[]⟩, .i .i64 1, .i .i64 0, .i .i64 0]) q.2.2.2.2.2.2.2.1 q.2.2.2.2.2.2.2.2 o p (bH ((j.length:ax)+1)) 0 1 (bn (ar (q.2.2.2.2.2.2.1++aA (aN [Ck.s,Ck.s,Ck.i ao,Ck.i ao,Ck.i ao] 1) 0 [.s p, .s ⟨#[]⟩, .i .i64 1, .i .i64 0, .i .i64 0]) (j.length:ax).toNat 1)) 0) λα=>kr α.1 α.2.1 α.2.2.1 α.2.2.2.1 α.2.2.2.2.1 α.2.2.2.2.2.1 α.2.2.2.2.2.2.1 α.2.2.2.2.2.2.2.1 α.2.2.2.2.2.2.2.2 0 else aj else aj else aj else bif decide (0<=u)&&decide (u<(q.2.2.2.2.2.2.1.length:ax))then bif ji.c q.1 w y.1 y.2.1 z.1 z.2 q.2.2.2.2.2.2.1 q.2.2.2.2.2.2.2.1 q.2.2.2.2.2.2.2.2 o p (bH (u+1)) 0 1 (bn (ar q.2.2.2.2.2.2.1 u.toNat 1)) 0 then Lib.lt (ji.v q.1 w y.1 y.2.1 z.1 z.2 q.2.2.2.2.2.2.1 q.2.2.2.2.2.2.2.1 q.2.2.2.2.2.2.2.2 o p (bH (u+1)) 0 1 (bn (ar q.2.2.2.2.2.2.1 u.toNat 1)) 0) λα=>kr α.1 α.2.1 α.2.2.1 α.2.2.2.1 α.2.2.2.2.1 α.2.2.2.2.2.1 α.2.2.2.2.2.2.1 α.2.2.2.2.2.2.2.1 α.2.2.2.2.2.2.2.2 0 else aj else aj else aj else aj else aj else bif iH.c h i p then Lib.lt (iH.v h i p) λw=>bif decide (u<0)then bif cg (q.2.2.2.2.2.2.1.length+(aA (aN [Ck.s,Ck.s,Ck.i ao,Ck.i ao,Ck.i ao] 1) 0 [.s p, .s ⟨#[]⟩, .i .i64 1, .i .i64 0, .i .i64 0]).length) 56 then bif decide ((j.length:ax)<((q.2.2.2.2.2.2.1++aA (aN [Ck.s,Ck.s,Ck.i ao,Ck.i ao,Ck.i ao] 1) 0 [.s p, .s ⟨#[]⟩, .i .i64 1, .i .i64 0, .i .i64 0]).length:ax))then bif ji.c q.1 q.2.1 q.2.2.1 q.2.2.2.1 w.1 w.2 (q.2.2.2.2.2.2.1++aA (aN [Ck.s,Ck.s,Ck.i ao,Ck.i ao,Ck.i ao] 1) 0 [.s p, .s ⟨#[]⟩, .i .i64 1, .i .i64 0, .i .i64 0]) q.2.2.2.2.2.2.2.1 q.2.2.2.2.2.2.2.2 o p (bH ((j.length:ax)+1)) 0 1 (bn (ar (q.2.2.2.2.2.2.1++aA (aN [Ck.s,Ck.s,Ck.i ao,Ck.i ao,Ck.i ao] 1) 0 [.s p, .s ⟨#[]⟩, .i .i64 1, .i .i64 0, .i .i64 0]) (j.length:ax).toNat 1)) 0 then Lib.lt (ji.v q.1 q.2.1 q.2.2.1 q.2.2.2.1 w.1 w.2 (q.2.2.2.2.2.2.1++aA (aN [Ck.s,Ck.s,Ck.i ao,Ck.i ao,Ck.i ao] 1) 0 [.s p, .s ⟨#[]⟩, .i .i64 1, .i .i64 0, .i .i64 0]) q.2.2.2.2.2.2.2.1 q.2.2.2.2.2.2.2.2 o p (bH ((j.length:ax)+1)) 0 1 (bn (ar (q.2.2.2.2.2.2.1++aA (aN [Ck.s,Ck.s,Ck.i ao,Ck.i ao,Ck.i ao] 1) 0 [.s p, .s ⟨#[]⟩, .i .i64 1, .i .i64 0, .i .i64 0]) (j.length:ax).toNat 1)) 0) λy=>kr y.1 y.2.1 y.2.2.1 y.2.2.2.1 y.2.2.2.2.1 y.2.2.2.2.2.1 y.2.2.2.2.2.2.1 y.2.2.2.2.2.2.2.1 y.2.2.2.2.2.2.2.2 0 else aj else aj else aj else bif decide (0<=u)&&decide (u<(q.2.2.2.2.2.2.1.length:ax))then bif ji.c q.1 q.2.1 q.2.2.1 q.2.2.2.1 w.1 w.2 q.2.2.2.2.2.2.1 q.2.2.2.2.2.2.2.1 q.2.2.2.2.2.2.2.2 o p (bH (u+1)) 0 1 (bn (ar q.2.2.2.2.2.2.1 u.toNat 1)) 0 then Lib.lt (ji.v q.1 q.2.1 q.2.2.1 q.2.2.2.1 w.1 w.2 q.2.2.2.2.2.2.1 q.2.2.2.2.2.2.2.1 q.2.2.2.2.2.2.2.2 o p (bH (u+1)) 0 1 (bn (ar q.2.2.2.2.2.2.1 u.toNat 1)) 0) λy=>kr y.1 y.2.1 y.2.2.1 y.2.2.2.1 y.2.2.2.2.1 y.2.2.2.2.2.1 y.2.2.2.2.2.2.1 y.2.2.2.2.2.2.2.1 y.2.2.2.2.2.2.2.2 0 else aj else aj else aj else bif decide (t≥0)then bif pD.c d p then Lib.lt (pD.v d p) λw=>bif uN.c e f h i p then Lib.lt (uN.v e f h i p) λy=>bif iH.c h i p then Lib.lt (iH.v h i p) λz=>bif decide (u<0)then bif cg (q.2.2.2.2.2.2.1.length+(aA (aN [Ck.s,Ck.s,Ck.i ao,Ck.i ao,Ck.i ao] 1) 0 [.s p, .s ⟨#[]⟩, .i .i64 1, .i .i64 0, .i .i64 0]).length) 56 then bif decide ((j.length:ax)<((q.2.2.2.2.2.2.1++aA (aN [Ck.s,Ck.s,Ck.i ao,Ck.i ao,Ck.i ao] 1) 0 [.s p, .s ⟨#[]⟩, .i .i64 1, .i .i64 0, .i .i64 0]).length:ax))then bif ji.c q.1 w y.1 y.2.1 z.1 z.2 (q.2.2.2.2.2.2.1++aA (aN [Ck.s,Ck.s,Ck.i ao,Ck.i ao,Ck.i ao] 1) 0 [.s p, .s ⟨#[]⟩, .i .i64 1, .i .i64 0, .i .i64 0]) q.2.2.2.2.2.2.2.1 q.2.2.2.2.2.2.2.2 o p (bH ((j.length:ax)+1)) 0 1 (bn (ar (q.2.2.2.2.2.2.1++aA (aN [Ck.s,Ck.s,Ck.i ao,Ck.i ao,Ck.i ao] 1) 0 [.s p, .s ⟨#[]⟩, .i .i64 1, .i .i64 0, .i .i64 0]) (j.length:ax).toNat 1)) 0 then Lib.lt (ji.v q.1 w y.1 y.2.1 z.1 z.2 (q.2.2.2.2.2.2.1++aA (aN [Ck.s,Ck.s,Ck.i ao,Ck.i ao,Ck.i ao] 1) 0 [.s p, .s ⟨#[]⟩, .i .i64 1, .i .i64 0, .i .i64 0]) q.2.2.2.2.2.2.2.1 q.2.2.2.2.2.2.2.2 o p (bH ((j.length:ax)+1)) 0 1 (bn (ar (q.2.2.2.2.2.2.1++aA (aN [Ck.s,Ck.s,Ck.i ao,Ck.i ao,Ck.i ao] 1) 0 [.s p, .s ⟨#[]⟩, .i .i64 1, .i .i64 0, .i .i64 0]) (j.length:ax).toNat 1)) 0) λα=>kr α.1 α.2.1 α.2.2.1 α.2.2.2.1 α.2.2.2.2.1 α.2.2.2.2.2.1 α.2.2.2.2.2.2.1 α.2.2.2.2.2.2.2.1 α.2.2.2.2.2.2.2.2 0 else aj else aj else aj else bif decide (0<=u)&&decide (u<(q.2.2.2.2.2.2.1.length:ax))then bif ji.c q.1 w y.1 y.2.1 z.1 z.2 q.2.2.2.2.2.2.1 q.2.2.2.2.2.2.2.1 q.2.2.2.2.2.2.2.2 o p (bH (u+1)) 0 1 (bn (ar q.2.2.2.2.2.2.1 u.toNat 1)) 0 then Lib.lt (ji.v q.1 w y.1 y.2.1 z.1 z.2 q.2.2.2.2.2.2.1 q.2.2.2.2.2.2.2.1 q.2.2.2.2.2.2.2.2 o p (bH (u+1)) 0 1 (bn (ar q.2.2.2.2.2.2.1 u.toNat 1)) 0) λα=>kr α.1 α.2.1 α.2.2.1 α.2.2.2.1 α.2.2.2.2.1 α.2.2.2.2.2.1 α.2.2.2.2.2.2.1 α.2.2.2.2.2.2.2.1 α.2.2.2.2.2.2.2.2 0 else aj else aj else aj else aj else aj else bif iH.c h i p then Lib.lt (iH.v h i p) λw=>bif decide (u<0)then bif cg (q.2.2.2.2.2.2.1.length+(aA (aN [Ck.s,Ck.s,Ck.i ao,Ck.i ao,Ck.i ao] 1) 0 [.s p, .s ⟨#[]⟩, .i .i64 1, .i .i64 0, .i .i64 0]).length) 56 then bif decide ((j.length:ax)<((q.2.2.2.2.2.2.1++aA (aN [Ck.s,Ck.s,Ck.i ao,Ck.i ao,Ck.i ao] 1) 0 [.s p, .s ⟨#[]⟩, .i .i64 1, .i .i64 0, .i .i64 0]).length:ax))then bif ji.c q.1 q.2.1 q.2.2.1 q.2.2.2.1 w.1 w.2 (q.2.2.2.2.2.2.1++aA (aN [Ck.s,Ck.s,Ck.i ao,Ck.i ao,Ck.i ao] 1) 0 [.s p, .s ⟨#[]⟩, .i .i64 1, .i .i64 0, .i .i64 0]) q.2.2.2.2.2.2.2.1 q.2.2.2.2.2.2.2.2 o p (bH ((j.length:ax)+1)) 0 1 (bn (ar (q.2.2.2.2.2.2.1++aA (aN [Ck.s,Ck.s,Ck.i ao,Ck.i ao,Ck.i ao] 1) 0 [.s p, .s ⟨#[]⟩, .i .i64 1, .i .i64 0, .i .i64 0]) (j.length:ax).toNat 1)) 0 then Lib.lt (ji.v q.1 q.2.1 q.2.2.1 q.2.2.2.1 w.1 w.2 (q.2.2.2.2.2.2.1++aA (aN [Ck.s,Ck.s,Ck.i ao,Ck.i ao,Ck.i ao] 1) 0 [.s p, .s ⟨#[]⟩, .i .i64 1, .i .i64 0, .i .i64 0]) q.2.2.2.2.2.2.2.1 q.2.2.2.2.2.2.2.2 o p (bH ((j.length:ax)+1)) 0 1 (bn (ar (q.2.2.2.2.2.2.1++aA (aN [Ck.s,Ck.s,Ck.i ao,Ck.i ao,Ck.i ao] 1) 0 [.s p, .s ⟨#[]⟩, .i .i64 1, .i .i64 0, .i .i64 0]) (j.length:ax).toNat 1)) 0) λy=>kr y.1 y.2.1 y.2.2.1 y.2.2.2.1 y.2.2.2.2.1 y.2.2.2.2.2.1 y.2.2.2.2.2.2.1 y.2.2.2.2.2.2.2.1 y.2.2.2.2.2.2.2.2 0 else aj else aj else aj else bif decide (0<=u)&&decide (u<(q.2.2.2.2.2.2.1.length:ax))then bif ji.c q.1 q.2.1 q.2.2.1 q.2.2.2.1 w.1 w.2 q.2.2.2.2.2.2.1 q.2.2.2.2.2.2.2.1 q.2.2.2.2.2.2.2.2 o p (bH (u+1)) 0 1 (bn (ar q.2.2.2.2.2.2.1 u.toNat 1)) 0 then Lib.lt (ji.v q.1 q.2.1 q.2.2.1 q.2.2.2.1 w.1 w.2 q.2.2.2.2.2.2.1 q.2.2.2.2.2.2.2.1 q.2.2.2.2.2.2.2.2 o p (bH (u+1)) 0 1 (bn (ar q.2.2.2.2.2.2.1 u.toNat 1)) 0) λy=>kr y.1 y.2.1 y.2.2.1 y.2.2.2.1 y.2.2.2.2.1 y.2.2.2.2.2.1 y.2.2.2.2.2.2.1 y.2.2.2.2.2.2.2.1 y.2.2.2.2.2.2.2.2 0 else aj else aj else aj else aj else aj else bif Kd.c a d e f h i j l m p then Lib.lt (Kd.v a d e f h i j l m p) λu=>bif decide (u<0)then bif decide ((j.length:ax)=20)then kr q.1 q.2.1 q.2.2.1 q.2.2.2.1 q.2.2.2.2.1 q.2.2.2.2.2.1 q.2.2.2.2.2.2.1 q.2.2.2.2.2.2.2.1 q.2.2.2.2.2.2.2.2 2 else bif decide (t≥0)then bif pD.c d p then Lib.lt (pD.v d p) λw=>bif uN.c e f h i p then Lib.lt (uN.v e f h i p) λy=>bif iH.c h i p then Lib.lt (iH.v h i p) λz=>bif decide (u<0)then bif cg (q.2.2.2.2.2.2.1.length+(aA (aN [Ck.s,Ck.s,Ck.i ao,Ck.i ao,Ck.i ao] 1) 0 [.s p, .s ⟨#[]⟩, .i .i64 1, .i .i64 0, .i .i64 0]).length) 56 then bif decide ((j.length:ax)<((q.2.2.2.2.2.2.1++aA (aN [Ck.s,Ck.s,Ck.i ao,Ck.i ao,Ck.i ao] 1) 0 [.s p, .s ⟨#[]⟩, .i .i64 1, .i .i64 0, .i .i64 0]).length:ax))then bif ji.c q.1 w y.1 y.2.1 z.1 z.2 (q.2.2.2.2.2.2.1++aA (aN [Ck.s,Ck.s,Ck.i ao,Ck.i ao,Ck.i ao] 1) 0 [.s p, .s ⟨#[]⟩, .i .i64 1, .i .i64 0, .i .i64 0]) q.2.2.2.2.2.2.2.1 q.2.2.2.2.2.2.2.2 o p (bH ((j.length:ax)+1)) 0 1 (bn (ar (q.2.2.2.2.2.2.1++aA (aN [Ck.s,Ck.s,Ck.i ao,Ck.i ao,Ck.i ao] 1) 0 [.s p, .s ⟨#[]⟩, .i .i64 1, .i .i64 0, .i .i64 0]) (j.length:ax).toNat 1)) 0 then Lib.lt (ji.v q.1 w y.1 y.2.1 z.1 z.2 (q.2.2.2.2.2.2.1++aA (aN [Ck.s,Ck.s,Ck.i ao,Ck.i ao,Ck.i ao] 1) 0 [.s p, .s ⟨#[]⟩, .i .i64 1, .i .i64 0, .i .i64 0]) q.2.2.2.2.2.2.2.1 q.2.2.2.2.2.2.2.2 o p (bH ((j.length:ax)+1)) 0 1 (bn (ar (q.2.2.2.2.2.2.1++aA (aN [Ck.s,Ck.s,Ck.i ao,Ck.i ao,Ck.i ao] 1) 0 [.s p, .s ⟨#[]⟩, .i .i64 1, .i .i64 0, .i .i64 0]) (j.length:ax).toNat 1)) 0) λα=>kr α.1 α.2.1 α.2.2.1 α.2.2.2.1 α.2.2.2.2.1 α.2.2.2.2.2.1 α.2.2.2.2.2.2.1 α.2.2.2.2.2.2.2.1 α.2.2.2.2.2.2.2.2 0 else aj else aj else aj else bif decide (0<=u)&&decide (u<(q.2.2.2.2.2.2.1.length:ax))then bif ji.c q.1 w y.1 y.2.1 z.1 z.2 q.2.2.2.2.2.2.1 q.2.2.2.2.2.2.2.1 q.2.2.2.2.2.2.2.2 o p (bH (u+1)) 0 1 (bn (ar q.2.2.2.2.2.2.1 u.toNat 1)) 0 then Lib.lt (ji.v q.1 w y.1 y.2.1 z.1 z.2 q.2.2.2.2.2.2.1 q.2.2.2.2.2.2.2.1 q.2.2.2.2.2.2.2.2 o p (bH (u+1)) 0 1 (bn (ar q.2.2.2.2.2.2.1 u.toNat 1)) 0) λα=>kr α.1 α.2.1 α.2.2.1 α.2.2.2.1 α.2.2.2.2.1 α.2.2.2.2.2.1 α.2.2.2.2.2.2.1 α.2.2.2.2.2.2.2.1 α.2.2.2.2.2.2.2.2 0 else aj else aj else aj else aj else aj else bif iH.c h i p then Lib.lt (iH.v h i p) λw=>bif decide (u<0)then bif cg (q.2.2.2.2.2.2.1.length+(aA (aN [Ck.s,Ck.s,Ck.i ao,Ck.i ao,Ck.i ao] 1) 0 [.s p, .s ⟨#[]⟩, .i .i64 1, .i .i64 0, .i .i64 0]).length) 56 then bif decide ((j.length:ax)<((q.2.2.2.2.2.2.1++aA (aN [Ck.s,Ck.s,Ck.i ao,Ck.i ao,Ck.i ao] 1) 0 [.s p, .s ⟨#[]⟩, .i .i64 1, .i .i64 0, .i .i64 0]).length:ax))then bif ji.c q.1 q.2.1 q.2.2.1 q.2.2.2.1 w.1 w.2 (q.2.2.2.2.2.2.1++aA (aN [Ck.s,Ck.s,Ck.i ao,Ck.i ao,Ck.i ao] 1) 0 [.s p, .s ⟨#[]⟩, .i .i64 1, .i .i64 0, .i .i64 0]) q.2.2.2.2.2.2.2.1 q.2.2.2.2.2.2.2.2 o p (bH ((j.length:ax)+1)) 0 1 (bn (ar (q.2.2.2.2.2.2.1++aA (aN [Ck.s,Ck.s,Ck.i ao,Ck.i ao,Ck.i ao] 1) 0 [.s p, .s ⟨#[]⟩, .i .i64 1, .i .i64 0, .i .i64 0]) (j.length:ax).toNat 1)) 0 then Lib.lt (ji.v q.1 q.2.1 q.2.2.1 q.2.2.2.1 w.1 w.2 (q.2.2.2.2.2.2.1++aA (aN [Ck.s,Ck.s,Ck.i ao,Ck.i ao,Ck.i ao] 1) 0 [.s p, .s ⟨#[]⟩, .i .i64 1, .i .i64 0, .i .i64 0]) q.2.2.2.2.2.2.2.1 q.2.2.2.2.2.2.2.2 o p (bH ((j.length:ax)+1)) 0 1 (bn (ar (q.2.2.2.2.2.2.1++aA (aN [Ck.s,Ck.s,Ck.i ao,Ck.i ao,Ck.i ao] 1) 0 [.s p, .s ⟨#[]⟩, .i .i64 1, .i .i64 0, .i .i64 0]) (j.length:ax).toNat 1)) 0) λy=>kr y.1 y.2.1 y.2.2.1 y.2.2.2.1 y.2.2.2.2.1 y.2.2.2.2.2.1 y.2.2.2.2.2.2.1 y.2.2.2.2.2.2.2.1 y.2.2.2.2.2.2.2.2 0 else aj else aj else aj else bif decide (0<=u)&&decide (u<(q.2.2.2.2.2.2.1.length:ax))then bif ji.c q.1 q.2.1 q.2.2.1 q.2.2.2.1 w.1 w.2 q.2.2.2.2.2.2.1 q.2.2.2.2.2.2.2.1 q.2.2.2.2.2.2.2.2 o p (bH (u+1)) 0 1 (bn (ar q.2.2.2.2.2.2.1 u.toNat 1)) 0 then Lib.lt (ji.v q.1 q.2.1 q.2.2.1 q.2.2.2.1 w.1 w.2 q.2.2.2.2.2.2.1 q.2.2.2.2.2.2.2.1 q.2.2.2.2.2.2.2.2 o p (bH (u+1)) 0 1 (bn (ar q.2.2.2.2.2.2.1 u.toNat 1)) 0) λy=>kr y.1 y.2.1 y.2.2.1 y.2.2.2.1 y.2.2.2.2.1 y.2.2.2.2.2.1 y.2.2.2.2.2.2.1 y.2.2.2.2.2.2.2.1 y.2.2.2.2.2.2.2.2 0 else aj else aj else aj else bif decide (t≥0)then bif pD.c d p then Lib.lt (pD.v d p) λw=>bif uN.c e f h i p then Lib.lt (uN.v e f h i p) λy=>bif iH.c h i p then Lib.lt (iH.v h i p) λz=>bif decide (u<0)then bif cg (q.2.2.2.2.2.2.1.length+(aA (aN [Ck.s,Ck.s,Ck.i ao,Ck.i ao,Ck.i ao] 1) 0 [.s p, .s ⟨#[]⟩, .i .i64 1, .i .i64 0, .i .i64 0]).length) 56 then bif decide ((j.length:ax)<((q.2.2.2.2.2.2.1++aA (aN [Ck.s,Ck.s,Ck.i ao,Ck.i ao,Ck.i ao] 1) 0 [.s p, .s ⟨#[]⟩, .i .i64 1, .i .i64 0, .i .i64 0]).length:ax))then bif ji.c q.1 w y.1 y.2.1 z.1 z.2 (q.2.2.2.2.2.2.1++aA (aN [Ck.s,Ck.s,Ck.i ao,Ck.i ao,Ck.i ao] 1) 0 [.s p, .s ⟨#[]⟩, .i .i64 1, .i .i64 0, .i .i64 0]) q.2.2.2.2.2.2.2.1 q.2.2.2.2.2.2.2.2 o p (bH ((j.length:ax)+1)) 0 1 (bn (ar (q.2.2.2.2.2.2.1++aA (aN [Ck.s,Ck.s,Ck.i ao,Ck.i ao,Ck.i ao] 1) 0 [.s p, .s ⟨#[]⟩, .i .i64 1, .i .i64 0, .i .i64 0]) (j.length:ax).toNat 1)) 0 then Lib.lt (ji.v q.1 w y.1 y.2.1 z.1 z.2 (q.2.2.2.2.2.2.1++aA (aN [Ck.s,Ck.s,Ck.i ao,Ck.i ao,Ck.i ao] 1) 0 [.s p, .s ⟨#[]⟩, .i .i64 1, .i .i64 0, .i .i64 0]) q.2.2.2.2.2.2.2.1 q.2.2.2.2.2.2.2.2 o p (bH ((j.length:ax)+1)) 0 1 (bn (ar (q.2.2.2.2.2.2.1++aA (aN [Ck.s,Ck.s,Ck.i ao,Ck.i ao,Ck.i ao] 1) 0 [.s p, .s ⟨#[]⟩, .i .i64 1, .i .i64 0, .i .i64 0]) (j.length:ax).toNat 1)) 0) λα=>kr α.1 α.2.1 α.2.2.1 α.2.2.2.1 α.2.2.2.2.1 α.2.2.2.2.2.1 α.2.2.2.2.2.2.1 α.2.2.2.2.2.2.2.1 α.2.2.2.2.2.2.2.2 0 else aj else aj else aj else bif decide (0<=u)&&decide (u<(q.2.2.2.2.2.2.1.length:ax))then bif ji.c q.1 w y.1 y.2.1 z.1 z.2 q.2.2.2.2.2.2.1 q.2.2.2.2.2.2.2.1 q.2.2.2.2.2.2.2.2 o p (bH (u+1)) 0 1 (bn (ar q.2.2.2.2.2.2.1 u.toNat 1)) 0 then Lib.lt (ji.v q.1 w y.1 y.2.1 z.1 z.2 q.2.2.2.2.2.2.1 q.2.2.2.2.2.2.2.1 q.2.2.2.2.2.2.2.2 o p (bH (u+1)) 0 1 (bn (ar q.2.2.2.2.2.2.1 u.toNat 1)) 0) λα=>kr α.1 α.2.1 α.2.2.1 α.2.2.2.1 α.2.2.2.2.1 α.2.2.2.2.2.1 α.2.2.2.2.2.2.1 α.2.2.2.2.2.2.2.1 α.2.2.2.2.2.2.2.2 0 else aj else aj else aj else aj else aj else bif iH.c h i p then Lib.lt (iH.v h i p) λw=>bif decide (u<0)then bif cg (q.2.2.2.2.2.2.1.length+(aA (aN [Ck.s,Ck.s,Ck.i ao,Ck.i ao,Ck.i ao] 1) 0 [.s p, .s ⟨#[]⟩, .i .i64 1, .i .i64 0, .i .i64 0]).length) 56 then bif decide ((j.length:ax)<((q.2.2.2.2.2.2.1++aA (aN [Ck.s,Ck.s,Ck.i ao,Ck.i ao,Ck.i ao] 1) 0 [.s p, .s ⟨#[]⟩, .i .i64 1, .i .i64 0, .i .i64 0]).length:ax))then bif ji.c q.1 q.2.1 q.2.2.1 q.2.2.2.1 w.1 w.2 (q.2.2.2.2.2.2.1++aA (aN [Ck.s,Ck.s,Ck.i ao,Ck.i ao,Ck.i ao] 1) 0 [.s p, .s ⟨#[]⟩, .i .i64 1, .i .i64 0, .i .i64 0]) q.2.2.2.2.2.2.2.1 q.2.2.2.2.2.2.2.2 o p (bH ((j.length:ax)+1)) 0 1 (bn (ar (q.2.2.2.2.2.2.1++aA (aN [Ck.s,Ck.s,Ck.i ao,Ck.i ao,Ck.i ao] 1) 0 [.s p, .s ⟨#[]⟩, .i .i64 1, .i .i64 0, .i .i64 0]) (j.length:ax).toNat 1)) 0 then Lib.lt (ji.v q.1 q.2.1 q.2.2.1 q.2.2.2.1 w.1 w.2 (q.2.2.2.2.2.2.1++aA (aN [Ck.s,Ck.s,Ck.i ao,Ck.i ao,Ck.i ao] 1) 0 [.s p, .s ⟨#[]⟩, .i .i64 1, .i .i64 0, .i .i64 0]) q.2.2.2.2.2.2.2.1 q.2.2.2.2.2.2.2.2 o p (bH ((j.length:ax)+1)) 0 1 (bn (ar (q.2.2.2.2.2.2.1++aA (aN [Ck.s,Ck.s,Ck.i ao,Ck.i ao,Ck.i ao] 1) 0 [.s p, .s ⟨#[]⟩, .i .i64 1, .i .i64 0, .i .i64 0]) (j.length:ax).toNat 1)) 0) λy=>kr y.1 y.2.1 y.2.2.1 y.2.2.2.1 y.2.2.2.2.1 y.2.2.2.2.2.1 y.2.2.2.2.2.2.1 y.2.2.2.2.2.2.2.1 y.2.2.2.2.2.2.2.2 0 else aj else aj else aj else bif decide (0<=u)&&decide (u<(q.2.2.2.2.2.2.1.length:ax))then bif ji.c q.1 q.2.1 q.2.2.1 q.2.2.2.1 w.1 w.2 q.2.2.2.2.2.2.1 q.2.2.2.2.2.2.2.1 q.2.2.2.2.2.2.2.2 o p (bH (u+1)) 0 1 (bn (ar q.2.2.2.2.2.2.1 u.toNat 1)) 0 then Lib.lt (ji.v q.1 q.2.1 q.2.2.1 q.2.2.2.1 w.1 w.2 q.2.2.2.2.2.2.1 q.2.2.2.2.2.2.2.1 q.2.2.2.2.2.2.2.2 o p (bH (u+1)) 0 1 (bn (ar q.2.2.2.2.2.2.1 u.toNat 1)) 0) λy=>kr y.1 y.2.1 y.2.2.1 y.2.2.2.1 y.2.2.2.2.1 y.2.2.2.2.2.1 y.2.2.2.2.2.2.1 y.2.2.2.2.2.2.2.1 y.2.2.2.2.2.2.2.2 0 else aj else aj else aj else aj else aj else aj else aj else aj
def vo:=b λr0 r1 r2 r3 r4 r5 r6 r7 r8 r9=>ah (r0,r1,r2,r3,r4,r5,r6,r7,r8,r9)
def c:=λa d e f h i j l m o p=>(vo a d e f h i j l m o p).isSome
def v:=λa d e f h i j l m o p=>(vo a d e f h i j l m o p).getD (0,[],[],[],[],0,[],[],0,0)
theorem out{x}:∀a d e f h i j l m o p,vo a d e f h i j l m o p=ah x->c a d e f h i j l m o p=ai/\v a d e f h i j l m o p=x:=λ_ _ _ _ _ _ _ _ _ _ _=>Lib.db
end RB

namespace uO
def b(kr:aW->az R)(a:ax)(d e f h:aQ)(i:ax)(j l:aQ)(m o:ax):az R:=bif JH.c a d e f h i j l m then bif JH.v a d e f h i j l m then kr (lr.v o 0 (bH ((j.length:ax)-1)))else kr ak else aj
def vo:=b λr0=>ah r0
def c:=λa d e f h i j l m o=>(vo a d e f h i j l m o).isSome
def v:=λa d e f h i j l m o=>(vo a d e f h i j l m o).getD ak
theorem out{x}:∀a d e f h i j l m o,vo a d e f h i j l m o=ah x->c a d e f h i j l m o=ai/\v a d e f h i j l m o=x:=λ_ _ _ _ _ _ _ _ _ _=>Lib.db
end uO

namespace J7
def b(kr:LU R)(a:ax)(d:aq)(e:aQ):az R:=bif cg ((aN [Ck.i ao,Ck.i ao] 0).length+e.length) 16 then kr a d (aN [Ck.i ao,Ck.i ao] 0++e)else aj
def v(fZ:ax)(eT:aq)(dE:aQ):ax×aq×aQ:=(fZ,eT,dE)
def c(fZ:ax)(eT:aq)(dE:aQ):aW:=decide (dE.length<=4294967296)
theorem eh(kr:LU R)(fZ:ax)(eT:aq)(dE:aQ)(hc:c fZ eT dE=ai):b kr fZ eT dE=kr (v fZ eT dE).1 (v fZ eT dE).2.1 (v fZ eT dE).2.2:=by have h:dE.length<=4294967296:=cm hc;unfold b;rw[show bM (aN [Ck.i ao,Ck.i ao] 0)+dE.length=dE.length by simp[aN],Lib.b_ (by omega) (by omega)];rfl
end J7

namespace HO
def r2(N:aE)(g k0 k1:yz R)(a:aW)(d:aQ)(e f h:ax)(i:aq)(j:aQ):az R:=bif decide (f<e)then bif decide (0<=f)&&decide (f<(d.length:ax))then bif !lr.v (bI (ar d f.toNat 0)) 1 9 then k0 ak d e f h i j else bif !lr.v (bI (ar d f.toNat 1)) 0 (i.size:ax)then k0 ak d e f h i j else bif decide (f>0)then bif decide (0<=bH (f-1))&&decide (bH (f-1)<(j.length:ax))then bif decide (bI (ar j (bH (f-1)).toNat 0)≥bI (ar d f.toNat 0))then k0 ak d e f h i j else g a d e (bH (f+1)) h i j else aj else g a d e (bH (f+1)) h i j else aj else k1 a d e f h i j
def l2(N:aE)(k0 k1:yz R):aE->yz R
 |0=>λ_ _ _ _ _ _ _=>aj
 |n+1=>r2 N (l2 N k0 k1 n) k0 k1
def b(N:aE)(kr:aW->az R)(a:ax)(d:aq)(e:aQ):az R:=l2 N (λf _ _ _ _ _ _=>kr f) (λ_ _ _ _ f h i=>bif lr.v f 1 3 then bif decide ((h.size:ax)<=400)then kr (decide ((i.length:ax)<=6))else kr ak else kr ak) N ak e (e.length:ax) 0 a d e
def v(fZ:ax)(eT:aq)(dE:aQ):aW:=(cR dE.length).all (lE.el eT dE)&&lE.rest fZ eT dE
theorem eh(kr:aW->az R)(fZ:ax)(eT:aq)(dE:aQ)(f0:DK eT)(f1:vA dE):∃N,b N kr fZ eT dE=kr (v fZ eT dE):=by
 refine⟨dE.length+1, ?_⟩
 unfold b;have ew:lr.v=kj.v:=rfl;simp only[ew,lE.Nz]
 have:=Lib.fQ (λn (i:aE)=>l2 (dE.length+1) (λy7 y8 y9 HB uC LP Hj=>kr y7) (λV1 V2 Qc C_ E1 DS wc=>kr (lE.rest E1 DS wc)) n ak dE dE.length i fZ eT dE) (λi=>dE.length-i) (λi=>i<=dE.length)
  (λi=>kr ((iP i (dE.length-i)).all (lE.el eT dE)&&lE.rest fZ eT dE)) (λn i hi=>by
  simp only[l2,r2,ew,Lib.dn,Lib.cE,Lib.dZ,bh,lE.mT]
  by_cases h:i<dE.length
  ·rw[lE.HW _ h];simp only[h,aP,au,Lib.c6 h f1.1];cases h1:decide (1<=bI (ar dE i 0)/\bI (ar dE i 0)<=9)with
   |false=>left;simp[lE.el,h1]
   |true=>
    simp only[aY,ay];cases h3:decide (0<=bI (ar dE i 1)/\bI (ar dE i 1)<=eT.size)with
    |false=>left;simp[lE.el,h3]
    |true=>
     simp only[aY,ay];by_cases hz:0<i
     ·have e0:decide ((i:ax)>0)=true:=by simp;omega
      have hp:i-1<dE.length:=by omega
      have hi0:(i==0)=false:=by simp;omega
      simp only[e0,au,lE.CX hz (by have:=f1.1;omega),Lib.cE,Lib.dn,Lib.dZ,hp,aP,aM];cases h2:decide (bI (ar dE (i-1) 0)≥bI (ar dE i 0))with
      |true=>
       left;have e3:decide (bI (ar dE (i-1) 0)<bI (ar dE i 0))=false:=by simp at h2⊢;omega
       simp[lE.el,e3,hi0]
      |false=>
       have e3:decide (bI (ar dE (i-1) 0)<bI (ar dE i 0))=true:=by simp at h2⊢;omega
       right;exact⟨i+1,h,by omega,by simp only[lE.el,h1,h3,e3,JT,bh],rfl⟩
     ·have hz:i=0:=by omega
      subst hz;simp only[show decide (((0:aE):ax)>0)=ak from rfl,ay];right;exact⟨1,h,by omega,by simp only[lE.el,h1,h3,bh];rfl,rfl⟩
  ·left;have h0:dE.length-i=0:=by omega
   simp only[h,bf,ay,h0,Ws,List.all_nil,bh]) (dE.length+1) 0 (by omega) (by omega)
 refine this.trans ?_;unfold v;rw[rX,<-Wt]
end HO

namespace Dl
def b(kr:E7 R)(a:ax)(d:aq)(e:aQ)(f:aq):az R:=bif J7.c a d e then bif !HO.v a d e then kr a d e ak else bif a !=1 then kr a d e ak else bif !lr.v (f.size:ax) 1 40 then kr a d e ak else bif decide (bH ((d.size:ax)+(f.size:ax))>400)then kr a d e ak else bif decide (d.size+f.size<=4611686018427387904)then kr a (d++f) e ai else aj else aj
def v(fZ:ax)(eT:aq)(dE:aQ)(gq:aq):ax×aq×aQ×aW:=
 if lE.v fZ eT dE=ai/\fZ=1/\1<=gq.size/\gq.size<=40/\eT.size+gq.size<=400 then(fZ,eT++gq,dE,ai)else(fZ,eT,dE,ak)
def c(fZ:ax)(eT:aq)(dE:aQ)(gq:aq):aW:=decide (dE.length<=4294967296)
theorem eh(kr:E7 R)(fZ:ax)(eT:aq)(dE:aQ)(gq:aq)(hc:c fZ eT dE gq=ai)(f0:DK eT)(f1:vA dE)(f2:DK gq):b kr fZ eT dE gq=kr (v fZ eT dE gq).1 (v fZ eT dE gq).2.1 (v fZ eT dE gq).2.2.1 (v fZ eT dE gq).2.2.2:=by
 have hs1:eT.size<=4611686018427387904:=f0;have M9:gq.size<=4611686018427387904:=f2;have e1:J7.c fZ eT dE=true:=hc;have e2:∀a b c,HO.v a b c=lE.v a b c:=λ_ _ _=>rfl;have e3:∀n a b,lr.v n a b=decide (a<=n/\n<=b):=lE.mT;unfold b v;rw[e1,e2,e3,au];cases h1:lE.v fZ eT dE with
 |false=>simp
 |true=>
  by_cases h2:fZ=1
  ·by_cases h3:1<=(gq.size:ax)/\(gq.size:ax)<=40
   ·have e4:bH ((eT.size:ax)+(gq.size:ax))=eT.size+gq.size:=iE (by omega) (by omega);rw[e4,aG h3];by_cases h4:(eT.size:ax)+(gq.size:ax)>400
    ·rw[Lib.zQ h4,bG (by omega)];simp[h2]
    ·rw[Lib.Ii h4,bw (by refine⟨rfl,h2, ?_, ?_, ?_⟩<;>omega),Lib.zQ (show eT.size+gq.size<=4611686018427387904 by omega)];simp[h2]
   ·rw[aK h3,bG (by omega)];simp
  ·have iw:(fZ !=1)=true:=bne_iff_ne.mpr h2;rw[bG (by simp[h2]),iw];rfl
end Dl

namespace Aq
def r1(N:aE)(g k0:jC R)(a d e f h i:ax)(j l m o p q:aQ):az R:=bif decide (e<d)then bif decide (0<=e)&&decide (e<(j.length:ax))then bif decide (bI (ar j e.toNat (1+1))=bH (a+1))then bif decide (bI (ar j e.toNat (1+1+1+1))=1)then bif decide (0<=a)&&decide (a<(q.length:ax))then bif decide (0<=e)&&decide (e<(j.length:ax))then g a d (bH (e+1)) f h i (eA j e.toNat 5 [.s (bn (ar q a.toNat 1))]) l m o p q else aj else aj else g a d (bH (e+1)) f h i j l m o p q else g a d (bH (e+1)) f h i j l m o p q else aj else k0 a d e f h i j l m o p q
def l1(N:aE)(k0:jC R):aE->jC R
 |0=>λ_ _ _ _ _ _ _ _ _ _ _ _=>aj
 |n+1=>r1 N (l1 N k0 n) k0
def b(N:aE)(kr:eM R)(a:ax)(d e f h:aQ)(i:ax)(j l:aQ)(m o:ax):az R:=l1 N (λ_ _ _ p q r s t u w y z=>kr p t u w y q z s r) N o (l.length:ax) 0 a i m l d e f h j
def vo:=b Lib.cU λr0 r1 r2 r3 r4 r5 r6 r7 r8=>ah (r0,r1,r2,r3,r4,r5,r6,r7,r8)
def c:=λa d e f h i j l m o=>(vo a d e f h i j l m o).isSome
def v:=λa d e f h i j l m o=>(vo a d e f h i j l m o).getD (0,[],[],[],[],0,[],[],0)
theorem out{x}:∀a d e f h i j l m o,vo a d e f h i j l m o=ah x->c a d e f h i j l m o=ai/\v a d e f h i j l m o=x:=λ_ _ _ _ _ _ _ _ _ _=>Lib.db
end Aq

namespace VK
def b(kr:kQ R)(a:ax)(d e f h:aQ)(i:ax)(j l:aQ)(m o:ax)(p:aq):az R:=bif iL.c a d e f h i j l m then Lib.lt (iL.v a d e f h i j l m) λq=>bif uO.c a d e f h i j l m o then Lib.lt (uO.v a d e f h i j l m o) λr=>bif !r then kr q.1 q.2.1 q.2.2.1 q.2.2.2.1 q.2.2.2.2.1 q.2.2.2.2.2.1 q.2.2.2.2.2.2.1 q.2.2.2.2.2.2.2.1 q.2.2.2.2.2.2.2.2 ak else bif decide (0<=o)&&decide (o<(j.length:ax))then bif decide (0<=o)&&decide (o<(j.length:ax))then bif !(Dl.v (bI (ar j o.toNat 2)) (bn (ar j o.toNat 1)) [] p).2.2.2 then kr q.1 q.2.1 q.2.2.1 q.2.2.2.1 q.2.2.2.2.1 q.2.2.2.2.2.1 q.2.2.2.2.2.2.1 q.2.2.2.2.2.2.2.1 q.2.2.2.2.2.2.2.2 ak else bif decide (0<=o)&&decide (o<(q.2.2.2.2.2.2.1.length:ax))then bif Aq.c q.1 q.2.1 q.2.2.1 q.2.2.2.1 q.2.2.2.2.1 q.2.2.2.2.2.1 (eA q.2.2.2.2.2.2.1 o.toNat 1 [.s (Dl.v (bI (ar j o.toNat 2)) (bn (ar j o.toNat 1)) [] p).2.1]) q.2.2.2.2.2.2.2.1 q.2.2.2.2.2.2.2.2 o then Lib.lt (Aq.v q.1 q.2.1 q.2.2.1 q.2.2.2.1 q.2.2.2.2.1 q.2.2.2.2.2.1 (eA q.2.2.2.2.2.2.1 o.toNat 1 [.s (Dl.v (bI (ar j o.toNat 2)) (bn (ar j o.toNat 1)) [] p).2.1]) q.2.2.2.2.2.2.2.1 q.2.2.2.2.2.2.2.2 o) λs=>kr s.1 s.2.1 s.2.2.1 s.2.2.2.1 s.2.2.2.2.1 s.2.2.2.2.2.1 s.2.2.2.2.2.2.1 s.2.2.2.2.2.2.2.1 s.2.2.2.2.2.2.2.2 ai else aj else aj else aj else aj else aj else aj
def vo:=b λr0 r1 r2 r3 r4 r5 r6 r7 r8 r9=>ah (r0,r1,r2,r3,r4,r5,r6,r7,r8,r9)
def c:=λa d e f h i j l m o p=>(vo a d e f h i j l m o p).isSome
def v:=λa d e f h i j l m o p=>(vo a d e f h i j l m o p).getD (0,[],[],[],[],0,[],[],0,ak)
theorem out{x}:∀a d e f h i j l m o p,vo a d e f h i j l m o p=ah x->c a d e f h i j l m o p=ai/\v a d e f h i j l m o p=x:=λ_ _ _ _ _ _ _ _ _ _ _=>Lib.db
end VK

namespace vJ
def r1(N:aE)(g k0:nR R)(a d e f h i j:ax)(l m o p q r:aQ):az R:=bif decide (f<e)then bif decide (0<=f)&&decide (f<(l.length:ax))then bif decide (bI (ar l f.toNat (1+1))=bH (a+1))then bif decide (bI (ar l f.toNat (1+1+1+1))=1)then bif decide (0<=a)&&decide (a<(r.length:ax))then bif decide (0<=f)&&decide (f<(l.length:ax))then bif decide (0<=f)&&decide (f<((eA l f.toNat 4 [.i .i64 d]).length:ax))then g a d e (bH (f+1)) h i j (eA (eA l f.toNat 4 [.i .i64 d]) f.toNat 5 [.s (bn (ar r a.toNat 1))]) m o p q r else aj else aj else aj else g a d e (bH (f+1)) h i j l m o p q r else g a d e (bH (f+1)) h i j l m o p q r else aj else k0 a d e f h i j l m o p q r
def l1(N:aE)(k0:nR R):aE->nR R
 |0=>λ_ _ _ _ _ _ _ _ _ _ _ _ _=>aj
 |n+1=>r1 N (l1 N k0 n) k0
def b(N:aE)(kr:eM R)(a:ax)(d e f h:aQ)(i:ax)(j l:aQ)(m o p:ax):az R:=l1 N (λ_ _ _ _ q r s t u w y z α=>kr q u w y z r α t s) N o p (l.length:ax) 0 a i m l d e f h j
def vo:=b Lib.cU λr0 r1 r2 r3 r4 r5 r6 r7 r8=>ah (r0,r1,r2,r3,r4,r5,r6,r7,r8)
def c:=λa d e f h i j l m o p=>(vo a d e f h i j l m o p).isSome
def v:=λa d e f h i j l m o p=>(vo a d e f h i j l m o p).getD (0,[],[],[],[],0,[],[],0)
theorem out{x}:∀a d e f h i j l m o p,vo a d e f h i j l m o p=ah x->c a d e f h i j l m o p=ai/\v a d e f h i j l m o p=x:=λ_ _ _ _ _ _ _ _ _ _ _=>Lib.db
end vJ


namespace uM
def r3(N:aE)(g k0:Bu R)(a:ax)(d:aq)(e f:ax)(h:aq)(i:aQ):az R:=bif decide (a<(i.length:ax))then bif decide (0<=a)&&decide (a<(i.length:ax))then bif bY (bn (ar i a.toNat 0)).toList (aF d)then g (bH (a+1)) d e f h i else k0 a d e f h i else aj else k0 a d e f h i
def l3(N:aE)(k0:Bu R):aE->Bu R
 |0=>λ_ _ _ _ _ _=>aj
 |n+1=>r3 N (l3 N k0 n) k0
def b(N:aE)(kr:aQ->az R)(a:aQ)(d:aq)(e f:ax)(h:aq):az R:=bif pD.c a d then l3 N (λi j l m o p=>bif decide (0<=i)&&decide (i<=(p.length:ax))&&cg (p.length+(aA (aN [Ck.s,Ck.i ao,Ck.i ao,Ck.s] 1) 0 [.s j, .i .i64 l, .i .i64 m, .s o]).length) 48 then kr (Pu.tu p i.toNat (aA (aN [Ck.s,Ck.i ao,Ck.i ao,Ck.s] 1) 0 [.s j, .i .i64 l, .i .i64 m, .s o]))else aj) N 0 d e f h (pD.v a d)else aj
def vo:=b Lib.cU λr0=>ah r0
def c:=λa d e f h=>(vo a d e f h).isSome
def v:=λa d e f h=>(vo a d e f h).getD ([])
theorem out{x}:∀a d e f h,vo a d e f h=ah x->c a d e f h=ai/\v a d e f h=x:=λ_ _ _ _ _=>Lib.db
end uM

namespace Oh
def b(kr:eM R)(a:ax)(d e f h:aQ)(i:ax)(j l:aQ)(m:ax)(o:aq)(p q:ax)(r:aq):az R:=bif zg.c e f h i o then Lib.lt (zg.v e f h i o) λs=>bif pD.c d s.2.2.2.2 then Lib.lt (pD.v d s.2.2.2.2) λt=>bif sq.c s.1 s.2.1 s.2.2.1 s.2.2.2.1 o then Lib.lt (sq.v s.1 s.2.1 s.2.2.1 s.2.2.2.1 o) λu=>bif u then bif uM.c t o p q r then Lib.lt (uM.v t o p q r) λw=>kr a w s.1 s.2.1 s.2.2.1 s.2.2.2.1 j l m else aj else kr a t s.1 s.2.1 s.2.2.1 s.2.2.2.1 j l m else aj else aj else aj
def vo:=b λr0 r1 r2 r3 r4 r5 r6 r7 r8=>ah (r0,r1,r2,r3,r4,r5,r6,r7,r8)
def c:=λa d e f h i j l m o p q r=>(vo a d e f h i j l m o p q r).isSome
def v:=λa d e f h i j l m o p q r=>(vo a d e f h i j l m o p q r).getD (0,[],[],[],[],0,[],[],0)
theorem out{x}:∀a d e f h i j l m o p q r,vo a d e f h i j l m o p q r=ah x->c a d e f h i j l m o p q r=ai/\v a d e f h i j l m o p q r=x:=λ_ _ _ _ _ _ _ _ _ _ _ _ _=>Lib.db
end Oh

namespace Dm
def b(kr:kQ R)(a:ax)(d e f h:aQ)(i:ax)(j l:aQ)(m o p:ax):az R:=bif iL.c a d e f h i j l m then Lib.lt (iL.v a d e f h i j l m) λq=>bif uO.c a d e f h i j l m o then Lib.lt (uO.v a d e f h i j l m o) λr=>bif !r then kr q.1 q.2.1 q.2.2.1 q.2.2.2.1 q.2.2.2.2.1 q.2.2.2.2.2.1 q.2.2.2.2.2.2.1 q.2.2.2.2.2.2.2.1 q.2.2.2.2.2.2.2.2 ak else bif decide (0<=o)&&decide (o<(j.length:ax))then bif bI (ar j o.toNat 2) !=1 then kr q.1 q.2.1 q.2.2.1 q.2.2.2.1 q.2.2.2.2.1 q.2.2.2.2.2.1 q.2.2.2.2.2.2.1 q.2.2.2.2.2.2.2.1 q.2.2.2.2.2.2.2.2 ak else bif !lr.v p 0 999999 then kr q.1 q.2.1 q.2.2.1 q.2.2.2.1 q.2.2.2.2.1 q.2.2.2.2.2.1 q.2.2.2.2.2.2.1 q.2.2.2.2.2.2.2.1 q.2.2.2.2.2.2.2.2 ak else bif decide (0<=o)&&decide (o<(q.2.2.2.2.2.2.1.length:ax))then bif vJ.c q.1 q.2.1 q.2.2.1 q.2.2.2.1 q.2.2.2.2.1 q.2.2.2.2.2.1 (eA (eA (eA q.2.2.2.2.2.2.1 o.toNat 2 [.i .i64 2]) o.toNat 3 [.i .i64 p]) o.toNat 4 [.i .i64 a]) q.2.2.2.2.2.2.2.1 q.2.2.2.2.2.2.2.2 o 2 then Lib.lt (vJ.v q.1 q.2.1 q.2.2.1 q.2.2.2.1 q.2.2.2.2.1 q.2.2.2.2.2.1 (eA (eA (eA q.2.2.2.2.2.2.1 o.toNat 2 [.i .i64 2]) o.toNat 3 [.i .i64 p]) o.toNat 4 [.i .i64 a]) q.2.2.2.2.2.2.2.1 q.2.2.2.2.2.2.2.2 o 2) λs=>bif decide (p>0)then bif Oh.c s.1 s.2.1 s.2.2.1 s.2.2.2.1 s.2.2.2.2.1 s.2.2.2.2.2.1 s.2.2.2.2.2.2.1 s.2.2.2.2.2.2.2.1 s.2.2.2.2.2.2.2.2 (bn (ar s.2.2.2.2.2.2.1 o.toNat 0)) a p (bn (ar s.2.2.2.2.2.2.1 o.toNat 1))then Lib.lt (Oh.v s.1 s.2.1 s.2.2.1 s.2.2.2.1 s.2.2.2.2.1 s.2.2.2.2.2.1 s.2.2.2.2.2.2.1 s.2.2.2.2.2.2.2.1 s.2.2.2.2.2.2.2.2 (bn (ar s.2.2.2.2.2.2.1 o.toNat 0)) a p (bn (ar s.2.2.2.2.2.2.1 o.toNat 1))) λt=>kr t.1 t.2.1 t.2.2.1 t.2.2.2.1 t.2.2.2.2.1 t.2.2.2.2.2.1 t.2.2.2.2.2.2.1 t.2.2.2.2.2.2.2.1 t.2.2.2.2.2.2.2.2 ai else aj else kr s.1 s.2.1 s.2.2.1 s.2.2.2.1 s.2.2.2.2.1 s.2.2.2.2.2.1 s.2.2.2.2.2.2.1 s.2.2.2.2.2.2.2.1 s.2.2.2.2.2.2.2.2 ai else aj else aj else aj else aj else aj
def vo:=b λr0 r1 r2 r3 r4 r5 r6 r7 r8 r9=>ah (r0,r1,r2,r3,r4,r5,r6,r7,r8,r9)
def c:=λa d e f h i j l m o p=>(vo a d e f h i j l m o p).isSome
def v:=λa d e f h i j l m o p=>(vo a d e f h i j l m o p).getD (0,[],[],[],[],0,[],[],0,ak)
theorem out{x}:∀a d e f h i j l m o p,vo a d e f h i j l m o p=ah x->c a d e f h i j l m o p=ai/\v a d e f h i j l m o p=x:=λ_ _ _ _ _ _ _ _ _ _ _=>Lib.db
end Dm

namespace nJ
def r4(N:aE)(g k0:JX R)(a:ax)(d:aQ):az R:=bif decide (a>127)then bif cg (d.length+(aA (aN [Ck.i ba] 1) 0 [CV.i ba (bE ba (bH (cK a 128+128)))]).length) 1 then g (bH (cL a 128)) (d++aA (aN [Ck.i ba] 1) 0 [CV.i ba (bE ba (bH (cK a 128+128)))])else aj else k0 a d
def l4(N:aE)(k0:JX R):aE->JX R
 |0=>λ_ _=>aj
 |n+1=>r4 N (l4 N k0 n) k0
def b(N:aE)(kr:yD R)(a:ax):az R:=bif !lr.v a 0 1000000000 then kr ⟨#[]⟩ ak else l4 N (λd e=>bif cg (e.length+(aA (aN [Ck.i ba] 1) 0 [CV.i ba (bE ba d)]).length) 1 then bif decide ((e++aA (aN [Ck.i ba] 1) 0 [CV.i ba (bE ba d)]).length<=4611686018427387904)then kr (bytesOf (e++aA (aN [Ck.i ba] 1) 0 [CV.i ba (bE ba d)])) ai else aj else aj) N a (aN [Ck.i ba] 0)
def v(n0:ax):aq×aW:=if 0<=n0/\n0<=1000000000 then(bytesOf (Lib.vb n0),ai)else(⟨#[]⟩,ak)
theorem eh(kr:yD R)(n0:ax):∃N,b N kr n0=kr (v n0).1 (v n0).2:=by
 refine⟨n0.toNat+1, ?_⟩
 unfold b v;by_cases hn:0<=n0/\n0<=1000000000
 ·have e:lr.v n0 0 1000000000=true:=by simp[lr.v,hn]
  rw[e,bw hn];refine Lib.NW (λn x acc=>l4 (n0.toNat+1) _ n x acc) (λy=>kr y ai) (λn x acc h hl=> ?_) (λn x acc h hl=> ?_) n0 (by omega)
  ·simp only[l4,r4,h,aP,au,Lib.iI,show acc.length+bM [[CV.i ba (bE ba (bH (cK x 128+128)))]]=acc.length+1 from rfl,Lib.zy (show acc.length+1<=140737488355328 by omega),show decide ((128:ax)=0)=ak from rfl,wh,bQ]
  ·simp only[l4,r4,h,bf,ay,Lib.iI,show acc.length+bM [[CV.i ba (bE ba x)]]=acc.length+1 from rfl,Lib.zy (show acc.length+1<=140737488355328 by omega),au];exact Lib.s6 (Lib.zQ (by rw[bV,bz];omega))
 ·have e:lr.v n0 0 1000000000=false:=by simp[lr.v];omega
  rw[e,bG hn];rfl
end nJ

namespace Dw
def b(kr:yD R)(a:aq):az R:=bif decide ((a.size:ax)>20000)then kr ⟨#[]⟩ ak else bif decide ((nJ.v (a.size:ax)).1.size+a.size<=4611686018427387904)then kr ((nJ.v (a.size:ax)).1++a) ai else aj
def v(s0:aq):aq×aW:=if s0.size>20000 then(⟨#[]⟩,ak)else(bytesOf (Lib.vb s0.size)++s0,ai)
theorem eh(kr:yD R)(s0:aq):b kr s0=kr (v s0).1 (v s0).2:=by
 unfold b v;by_cases h:s0.size>20000
 ·rw[bw h,show decide ((s0.size:ax)>20000)=ai by simp;omega];rfl
 ·rw[bG h,show decide ((s0.size:ax)>20000)=ak by simp;omega];have e:nJ.v (s0.size:ax)=(bytesOf (Lib.vb s0.size),ai):=by unfold nJ.v;rw[bw (by omega)]
  have:=Lib.jJ (x:=(s0.size:ax)) (by omega);rw[e,ay];simp(disch:=omega) only[Lib.RW,au]
end Dw

namespace Dv
def b(kr:yD R)(a:aq)(d e:ax)(f:aq):az R:=bif !wz.v a d e f then kr ⟨#[]⟩ ak else bif decide ((Dw.v a).1.size+(nJ.v d).1.size<=4611686018427387904)then bif decide (((Dw.v a).1++(nJ.v d).1).size+(nJ.v e).1.size<=4611686018427387904)then bif decide (((Dw.v a).1++(nJ.v d).1++(nJ.v e).1).size+f.size<=4611686018427387904)then kr ((Dw.v a).1++(nJ.v d).1++(nJ.v e).1++f) ai else aj else aj else aj
def v(oA:aq)(o8:ax)(o9:ax)(uW:aq):aq×aW:=jE.v oA o8 o9 uW
theorem eh(kr:yD R)(oA:aq)(o8:ax)(o9:ax)(uW:aq):b kr oA o8 o9 uW=kr (v oA o8 o9 uW).1 (v oA o8 o9 uW).2:=by
 have ee:wz.v oA o8 o9 uW=nk.v oA o8 o9 uW:=rfl;unfold b v jE.v;rw[ee];cases h:nk.v oA o8 o9 uW with
 |false=>rfl
 |true=>
  have hr:=nk.ES h;have z1:(bytesOf (Lib.vb (oA.size:ax))).size<=64:=Lib.jJ (x:=(oA.size:ax)) (by omega);have z2:(bytesOf (Lib.vb o8)).size<=64:=Lib.jJ (x:=o8) (by omega);have z3:(bytesOf (Lib.vb o9)).size<=64:=Lib.jJ (x:=o9) (by omega);have e1:Dw.v oA=(bytesOf (Lib.vb oA.size)++oA,ai):=by unfold Dw.v;rw[bG (by omega)]
  have e2:nJ.v o8=(bytesOf (Lib.vb o8),ai):=by unfold nJ.v;rw[bw (by omega)]
  have e3:nJ.v o9=(bytesOf (Lib.vb o9),ai):=by unfold nJ.v;rw[bw (by omega)]
  rw[e1,e2,e3];simp(disch:=omega) only[aY,ay,au,if_true,Lib.j8,Lib.RW];rfl
end Dv

namespace uR
def b(kr:aq->az R)(a:aq):az R:=bif uU.c a then kr (bytesOf (aA (aA (aA (aA (aN [Ck.i ba] 4) 0 [CV.i ba (bE ba (ll (uU.v a) (gY 2 (if aZ 24<=32 then aZ 24 else 32))))]) 1 [CV.i ba (bE ba (ll (uU.v a) (gY 2 (if aZ 16<=32 then aZ 16 else 32))))]) 2 [CV.i ba (bE ba (ll (uU.v a) (gY 2 (if aZ 8<=32 then aZ 8 else 32))))]) 3 [CV.i ba (bE ba (uU.v a))]))else aj
def vo:=b λr0=>ah r0
def c:=λa=>(vo a).isSome
def v:=λa=>(vo a).getD (⟨#[]⟩)
theorem out{x}:∀a,vo a=ah x->c a=ai/\v a=x:=λ_=>Lib.db
end uR

namespace BH
def b(kr:yD R)(a:aq):az R:=bif !lr.v (a.size:ax) 1 9000 then kr ⟨#[]⟩ ak else bif uR.c a then bif decide ((nJ.v (a.size:ax)).1.size+(uR.v a).size<=4611686018427387904)then bif decide (((nJ.v (a.size:ax)).1++uR.v a).size+a.size<=4611686018427387904)then kr ((nJ.v (a.size:ax)).1++uR.v a++a) ai else aj else aj else aj
def vo:=b λr0 r1=>ah (r0,r1)
def c:=λa=>(vo a).isSome
def v:=λa=>(vo a).getD (⟨#[]⟩,ak)
theorem out{x}:∀a,vo a=ah x->c a=ai/\v a=x:=λ_=>Lib.db
end BH

namespace mN
def b(kr:yD R)(a:aq)(d e:ax)(f:aq):az R:=bif !(Dv.v a d e f).2 then kr ⟨#[]⟩ ak else bif BH.c (Dv.v a d e f).1 then kr (BH.v (Dv.v a d e f).1).1 (BH.v (Dv.v a d e f).1).2 else aj
def vo:=b λr0 r1=>ah (r0,r1)
def c:=λa d e f=>(vo a d e f).isSome
def v:=λa d e f=>(vo a d e f).getD (⟨#[]⟩,ak)
theorem out{x}:∀a d e f,vo a d e f=ah x->c a d e f=ai/\v a d e f=x:=λ_ _ _ _=>Lib.db
end mN

namespace uP
def b(kr:HE R)(a:aq)(d e:ax)(f:aq):az R:=bif mN.c a d e f then bif !(mN.v a d e f).2 then kr [] ak else kr (aA (aA (aN [Ck.i ao,Ck.s,Ck.s,Ck.s] 2) 0 [.i .i64 1, .s {data:= #[aw 107,aw 101,aw 112,aw 116]}, .s (mN.v a d e f).1, .s ⟨#[]⟩]) 1 [.i .i64 2, .s {data:= #[aw 107,aw 101,aw 112,aw 116]}, .s ⟨#[]⟩, .s ⟨#[]⟩]) ai else aj
def vo:=b λr0 r1=>ah (r0,r1)
def c:=λa d e f=>(vo a d e f).isSome
def v:=λa d e f=>(vo a d e f).getD ([],ak)
theorem out{x}:∀a d e f,vo a d e f=ah x->c a d e f=ai/\v a d e f=x:=λ_ _ _ _=>Lib.db
end uP

namespace sU
def b(kr:aQ->az R)(a:aQ):az R:=bif cg ((aN [Ck.s,Ck.s,Ck.i ao] 0).length+a.length) 40 then kr (aN [Ck.s,Ck.s,Ck.i ao] 0++a)else aj
def vo:=b λr0=>ah r0
def c:=λa=>(vo a).isSome
def v:=λa=>(vo a).getD ([])
theorem out{x}:∀a,vo a=ah x->c a=ai/\v a=x:=λ_=>Lib.db
end sU

namespace J8
def b(kr:aW->az R)(a d:aq)(e:ax)(kJ:aq):az R:=kr (cF (aF a) (aF kJ))
def v(a0 a1:aq)(a2:ax)(kJ:aq):aW:=(cF (aF a0) (aF kJ))
theorem eh(kr:aW->az R)(a0 a1:aq)(a2:ax)(kJ:aq):b kr a0 a1 a2 kJ=kr (v a0 a1 a2 kJ):=by first|rfl|(unfold b v;simp only[cz];(repeat' split)<;>rfl)
end J8

namespace rY
def r2(N:aE)(g k0 k1:hZ R)(a:aQ)(d:aq)(e f h:ax):az R:=bif decide (h<f)then bif decide (0<=h)&&decide (h<(a.length:ax))then bif J8.v (bn (ar a h.toNat 0)) (bn (ar a h.toNat 1)) (bI (ar a h.toNat (1+1))) d then k0 a d h f h else g a d e f (bH (h+1))else aj else k1 a d e f h
def l2(N:aE)(k0 k1:hZ R):aE->hZ R
 |0=>λ_ _ _ _ _=>aj
 |n+1=>r2 N (l2 N k0 k1 n) k0 k1
def b(N:aE)(kr:ax->az R)(a:aQ)(kJ:aq):az R:=l2 N (λ_ _ d _ _=>kr d) (λ_ _ _ _ _=>kr (-1)) N a kJ 0 (a.length:ax) 0
def vo:=b Lib.cU λr0=>ah r0
def c:=λa d=>(vo a d).isSome
def v:=λa d=>(vo a d).getD (0)
theorem out{x}:∀a d,vo a d=ah x->c a d=ai/\v a d=x:=λ_ _=>Lib.db
end rY

namespace AB
def b(kr:aW->az R)(a d:aq)(e:ax)(kJ:aq):az R:=kr (cF (aF a) (aF kJ))
def v(a0 a1:aq)(a2:ax)(kJ:aq):aW:=(cF (aF a0) (aF kJ))
theorem eh(kr:aW->az R)(a0 a1:aq)(a2:ax)(kJ:aq):b kr a0 a1 a2 kJ=kr (v a0 a1 a2 kJ):=by first|rfl|(unfold b v;simp only[cz];(repeat' split)<;>rfl)
end AB

namespace nb
def r2(N:aE)(g k0 k1:hZ R)(a:aQ)(d:aq)(e f h:ax):az R:=bif decide (h<f)then bif decide (0<=h)&&decide (h<(a.length:ax))then bif AB.v (bn (ar a h.toNat 0)) (bn (ar a h.toNat 1)) (bI (ar a h.toNat (1+1))) d then k0 a d h f h else g a d e f (bH (h+1))else aj else k1 a d e f h
def l2(N:aE)(k0 k1:hZ R):aE->hZ R
 |0=>λ_ _ _ _ _=>aj
 |n+1=>r2 N (l2 N k0 k1 n) k0 k1
def b(N:aE)(kr:ax->az R)(a:aQ)(kJ:aq):az R:=l2 N (λ_ _ d _ _=>kr d) (λ_ _ _ _ _=>kr (-1)) N a kJ 0 (a.length:ax) 0
def vo:=b Lib.cU λr0=>ah r0
def c:=λa d=>(vo a d).isSome
def v:=λa d=>(vo a d).getD (0)
theorem out{x}:∀a d,vo a d=ah x->c a d=ai/\v a d=x:=λ_ _=>Lib.db
end nb

namespace eu
def b(kr:ax->az R)(a:aQ)(d:aq):az R:=bif rY.c a d then kr (rY.v a d)else aj
def vo:=b λr0=>ah r0
def c:=λa d=>(vo a d).isSome
def v:=λa d=>(vo a d).getD (0)
theorem out{x}:∀a d,vo a d=ah x->c a d=ai/\v a d=x:=λ_ _=>Lib.db
end eu

namespace ia
def r2(N:aE)(g k0 k1:E5 R)(a:aW)(d:aQ)(e f:ax)(h:aQ):az R:=bif decide (f<e)then bif decide (0<=f)&&decide (f<(d.length:ax))then bif !lr.v ((bn (ar d f.toNat 0)).size:ax) 1 8 then k0 ak d e f h else bif decide (((bn (ar d f.toNat 1)).size:ax)>20000)then k0 ak d e f h else bif !lr.v (bI (ar d f.toNat (1+1))) 0 ((bn (ar d f.toNat 1)).size:ax)then k0 ak d e f h else bif decide (f>0)then bif decide (0<=bH (f-1))&&decide (bH (f-1)<(h.length:ax))then bif !Op.bytesLess (bn (ar h (bH (f-1)).toNat 0)).toList (bn (ar d f.toNat 0)).toList then k0 ak d e f h else g a d e (bH (f+1)) h else aj else g a d e (bH (f+1)) h else aj else k1 a d e f h
def l2(N:aE)(k0 k1:E5 R):aE->E5 R
 |0=>λ_ _ _ _ _=>aj
 |n+1=>r2 N (l2 N k0 k1 n) k0 k1
def b(N:aE)(kr:aW->az R)(a:aQ):az R:=l2 N (λd _ _ _ _=>kr d) (λ_ _ _ _ d=>kr (decide ((d.length:ax)<=30))) N ak a (a.length:ax) 0 a
def vo:=b Lib.cU λr0=>ah r0
def c:=λa=>(vo a).isSome
def v:=λa=>(vo a).getD ak
theorem out{x}:∀a,vo a=ah x->c a=ai/\v a=x:=λ_=>Lib.db
end ia

namespace J9
def b(kr:aW->az R)(a:ax)(d e f:aq):az R:=bif lr.v a 1 4 then bif cF (aF e) (aF ⟨#[]⟩)then bif cF (aF f) (aF ⟨#[]⟩)then kr ai else kr (decide (a=3))else bif decide (a=1)then bif cF (aF f) (aF ⟨#[]⟩)then kr ai else kr (decide (a=3))else kr ak else kr ak
def v(a0:ax)(a1 a2 a3:aq):aW:=bif lr.v a0 1 4 then bif cF (aF a2) (aF {data:= #[]})then bif cF (aF a3) (aF {data:= #[]})then ai else decide (a0=3)else bif decide (a0=1)then bif cF (aF a3) (aF {data:= #[]})then ai else decide (a0=3)else ak else ak
theorem eh(kr:aW->az R)(a0:ax)(a1 a2 a3:aq):b kr a0 a1 a2 a3=kr (v a0 a1 a2 a3):=by first|rfl|(unfold b v;simp only[cz];(repeat' split)<;>rfl)
end J9

namespace wK
def r5(N:aE)(g k0:mf R)(a:aq)(d e:ax)(f:aQ):az R:=bif decide (e<(f.length:ax))then bif decide (0<=e)&&decide (e<(f.length:ax))then bif !AB.v (bn (ar f e.toNat 0)) (bn (ar f e.toNat 1)) (bI (ar f e.toNat (1+1))) a then bif decide (0<=d)&&decide (d<(f.length:ax))then g a (bH (d+1)) (bH (e+1)) (eA f d.toNat 0 [.s (bn (ar f e.toNat 0)), .s (bn (ar f e.toNat 1)), .i .i64 (bI (ar f e.toNat (1+1)))])else aj else g a d (bH (e+1)) f else aj else k0 a d e f
def l5(N:aE)(k0:mf R):aE->mf R
 |0=>λ_ _ _ _=>aj
 |n+1=>r5 N (l5 N k0 n) k0
def b(N:aE)(kr:aQ->az R)(a:aQ)(kJ:aq):az R:=bif nb.c a kJ then bif decide (nb.v a kJ=oS 1)then kr a else l5 N (λ_ d _ e=>bif iy d (e.length:ax) (e.length:ax)then bif iy 0 d ((gW d.toNat e++aN [Ck.s,Ck.s,Ck.i ao] ((e.length:ax).toNat-d.toNat)++m8 (e.length:ax).toNat e).length:ax)then kr (eW (gW d.toNat e++aN [Ck.s,Ck.s,Ck.i ao] ((e.length:ax).toNat-d.toNat)++m8 (e.length:ax).toNat e) (aZ 0) d.toNat)else aj else aj) N kJ (nb.v a kJ) (bH (nb.v a kJ+1)) a else aj
def vo:=b Lib.cU λr0=>ah r0
def c:=λa d=>(vo a d).isSome
def v:=λa d=>(vo a d).getD ([])
theorem out{x}:∀a d,vo a d=ah x->c a d=ai/\v a d=x:=λ_ _=>Lib.db
end wK

namespace iU
def b(kr:aQ->az R)(a:aQ)(d:aq):az R:=bif sU.c a then bif wK.c (sU.v a) d then kr (wK.v (sU.v a) d)else aj else aj
def vo:=b λr0=>ah r0
def c:=λa d=>(vo a d).isSome
def v:=λa d=>(vo a d).getD ([])
theorem out{x}:∀a d,vo a d=ah x->c a d=ai/\v a d=x:=λ_ _=>Lib.db
end iU


namespace gL
def r3(N:aE)(g k0:E_ R)(a:ax)(d e:aq)(f:ax)(h:aQ):az R:=bif decide (a<(h.length:ax))then bif decide (0<=a)&&decide (a<(h.length:ax))then bif bY (bn (ar h a.toNat 0)).toList (aF d)then g (bH (a+1)) d e f h else k0 a d e f h else aj else k0 a d e f h
def l3(N:aE)(k0:E_ R):aE->E_ R
 |0=>λ_ _ _ _ _=>aj
 |n+1=>r3 N (l3 N k0 n) k0
def b(N:aE)(kr:aQ->az R)(a:aQ)(d e:aq)(f:ax):az R:=bif iU.c a d then l3 N (λh i j l m=>bif decide (0<=h)&&decide (h<=(m.length:ax))&&cg (m.length+(aA (aN [Ck.s,Ck.s,Ck.i ao] 1) 0 [.s i, .s j, .i .i64 l]).length) 40 then kr (Pu.tu m h.toNat (aA (aN [Ck.s,Ck.s,Ck.i ao] 1) 0 [.s i, .s j, .i .i64 l]))else aj) N 0 d e f (iU.v a d)else aj
def vo:=b Lib.cU λr0=>ah r0
def c:=λa d e f=>(vo a d e f).isSome
def v:=λa d e f=>(vo a d e f).getD ([])
theorem out{x}:∀a d e f,vo a d e f=ah x->c a d e f=ai/\v a d e f=x:=λ_ _ _ _=>Lib.db
end gL

namespace rq
def b(kr:HE R)(a:aQ)(d:ax)(e f h:aq):az R:=bif eu.c a e then bif ia.c a then bif !ia.v a then kr [] ak else bif !J9.v d e f h then kr [] ak else bif decide (eu.v a e<0)then bif d !=1 then kr [] ak else bif decide (eu.v a e≥0)then bif decide (0<=eu.v a e)&&decide (eu.v a e<(a.length:ax))then bif decide (d=1)then bif decide ((bn (ar a (eu.v a e).toNat 1)).size+f.size<=4611686018427387904)then bif gL.c a (bn (ar a (eu.v a e).toNat 0)) (bn (ar a (eu.v a e).toNat 1)++f) (bI (ar a (eu.v a e).toNat (1+1)))then bif ia.c (gL.v a (bn (ar a (eu.v a e).toNat 0)) (bn (ar a (eu.v a e).toNat 1)++f) (bI (ar a (eu.v a e).toNat (1+1))))then bif !ia.v (gL.v a (bn (ar a (eu.v a e).toNat 0)) (bn (ar a (eu.v a e).toNat 1)++f) (bI (ar a (eu.v a e).toNat (1+1))))then kr [] ak else kr (gL.v a (bn (ar a (eu.v a e).toNat 0)) (bn (ar a (eu.v a e).toNat 1)++f) (bI (ar a (eu.v a e).toNat (1+1)))) ai else aj else aj else aj else bif decide (d=2)then bif gL.c a (bn (ar a (eu.v a e).toNat 0)) (bn (ar a (eu.v a e).toNat 1)) ((bn (ar a (eu.v a e).toNat 1)).size:ax)then bif ia.c (gL.v a (bn (ar a (eu.v a e).toNat 0)) (bn (ar a (eu.v a e).toNat 1)) ((bn (ar a (eu.v a e).toNat 1)).size:ax))then bif !ia.v (gL.v a (bn (ar a (eu.v a e).toNat 0)) (bn (ar a (eu.v a e).toNat 1)) ((bn (ar a (eu.v a e).toNat 1)).size:ax))then kr [] ak else kr (gL.v a (bn (ar a (eu.v a e).toNat 0)) (bn (ar a (eu.v a e).toNat 1)) ((bn (ar a (eu.v a e).toNat 1)).size:ax)) ai else aj else aj else bif decide (d=3)then bif bI (ar a (eu.v a e).toNat (1+1)) !=((bn (ar a (eu.v a e).toNat 1)).size:ax)then kr [] ak else bif cF (aF h) (aF e)then kr [] ak else bif iU.c a e then bif gL.c (iU.v a e) h (bn (ar a (eu.v a e).toNat 1)) (bI (ar a (eu.v a e).toNat (1+1)))then bif ia.c (gL.v (iU.v a e) h (bn (ar a (eu.v a e).toNat 1)) (bI (ar a (eu.v a e).toNat (1+1))))then bif !ia.v (gL.v (iU.v a e) h (bn (ar a (eu.v a e).toNat 1)) (bI (ar a (eu.v a e).toNat (1+1))))then kr [] ak else kr (gL.v (iU.v a e) h (bn (ar a (eu.v a e).toNat 1)) (bI (ar a (eu.v a e).toNat (1+1)))) ai else aj else aj else aj else bif iU.c a e then bif ia.c (iU.v a e)then bif !ia.v (iU.v a e)then kr [] ak else kr (iU.v a e) ai else aj else aj else aj else bif decide (d=1)then bif decide (cj ⟨#[]⟩+f.size<=4611686018427387904)then bif gL.c a e ({data:= #[]}++f) 0 then bif ia.c (gL.v a e ({data:= #[]}++f) 0)then bif !ia.v (gL.v a e ({data:= #[]}++f) 0)then kr [] ak else kr (gL.v a e ({data:= #[]}++f) 0) ai else aj else aj else aj else bif decide (d=2)then bif gL.c a e ⟨#[]⟩ (cj ⟨#[]⟩:ax)then bif ia.c (gL.v a e ⟨#[]⟩ (cj ⟨#[]⟩:ax))then bif !ia.v (gL.v a e ⟨#[]⟩ (cj ⟨#[]⟩:ax))then kr [] ak else kr (gL.v a e ⟨#[]⟩ (cj ⟨#[]⟩:ax)) ai else aj else aj else bif decide (d=3)then bif cF (aF h) (aF e)then kr [] ak else bif iU.c a e then bif gL.c (iU.v a e) h ⟨#[]⟩ 0 then bif ia.c (gL.v (iU.v a e) h ⟨#[]⟩ 0)then bif !ia.v (gL.v (iU.v a e) h ⟨#[]⟩ 0)then kr [] ak else kr (gL.v (iU.v a e) h ⟨#[]⟩ 0) ai else aj else aj else aj else bif iU.c a e then bif ia.c (iU.v a e)then bif !ia.v (iU.v a e)then kr [] ak else kr (iU.v a e) ai else aj else aj else bif decide (eu.v a e≥0)then bif decide (0<=eu.v a e)&&decide (eu.v a e<(a.length:ax))then bif decide (d=1)then bif decide ((bn (ar a (eu.v a e).toNat 1)).size+f.size<=4611686018427387904)then bif gL.c a (bn (ar a (eu.v a e).toNat 0)) (bn (ar a (eu.v a e).toNat 1)++f) (bI (ar a (eu.v a e).toNat (1+1)))then bif ia.c (gL.v a (bn (ar a (eu.v a e).toNat 0)) (bn (ar a (eu.v a e).toNat 1)++f) (bI (ar a (eu.v a e).toNat (1+1))))then bif !ia.v (gL.v a (bn (ar a (eu.v a e).toNat 0)) (bn (ar a (eu.v a e).toNat 1)++f) (bI (ar a (eu.v a e).toNat (1+1))))then kr [] ak else kr (gL.v a (bn (ar a (eu.v a e).toNat 0)) (bn (ar a (eu.v a e).toNat 1)++f) (bI (ar a (eu.v a e).toNat (1+1)))) ai else aj else aj else aj else bif decide (d=2)then bif gL.c a (bn (ar a (eu.v a e).toNat 0)) (bn (ar a (eu.v a e).toNat 1)) ((bn (ar a (eu.v a e).toNat 1)).size:ax)then bif ia.c (gL.v a (bn (ar a (eu.v a e).toNat 0)) (bn (ar a (eu.v a e).toNat 1)) ((bn (ar a (eu.v a e).toNat 1)).size:ax))then bif !ia.v (gL.v a (bn (ar a (eu.v a e).toNat 0)) (bn (ar a (eu.v a e).toNat 1)) ((bn (ar a (eu.v a e).toNat 1)).size:ax))then kr [] ak else kr (gL.v a (bn (ar a (eu.v a e).toNat 0)) (bn (ar a (eu.v a e).toNat 1)) ((bn (ar a (eu.v a e).toNat 1)).size:ax)) ai else aj else aj else bif decide (d=3)then bif bI (ar a (eu.v a e).toNat (1+1)) !=((bn (ar a (eu.v a e).toNat 1)).size:ax)then kr [] ak else bif cF (aF h) (aF e)then kr [] ak else bif iU.c a e then bif gL.c (iU.v a e) h (bn (ar a (eu.v a e).toNat 1)) (bI (ar a (eu.v a e).toNat (1+1)))then bif ia.c (gL.v (iU.v a e) h (bn (ar a (eu.v a e).toNat 1)) (bI (ar a (eu.v a e).toNat (1+1))))then bif !ia.v (gL.v (iU.v a e) h (bn (ar a (eu.v a e).toNat 1)) (bI (ar a (eu.v a e).toNat (1+1))))then kr [] ak else kr (gL.v (iU.v a e) h (bn (ar a (eu.v a e).toNat 1)) (bI (ar a (eu.v a e).toNat (1+1)))) ai else aj else aj else aj else bif iU.c a e then bif ia.c (iU.v a e)then bif !ia.v (iU.v a e)then kr [] ak else kr (iU.v a e) ai else aj else aj else aj else bif decide (d=1)then bif decide (cj ⟨#[]⟩+f.size<=4611686018427387904)then bif gL.c a e ({data:= #[]}++f) 0 then bif ia.c (gL.v a e ({data:= #[]}++f) 0)then bif !ia.v (gL.v a e ({data:= #[]}++f) 0)then kr [] ak else kr (gL.v a e ({data:= #[]}++f) 0) ai else aj else aj else aj else bif decide (d=2)then bif gL.c a e ⟨#[]⟩ (cj ⟨#[]⟩:ax)then bif ia.c (gL.v a e ⟨#[]⟩ (cj ⟨#[]⟩:ax))then bif !ia.v (gL.v a e ⟨#[]⟩ (cj ⟨#[]⟩:ax))then kr [] ak else kr (gL.v a e ⟨#[]⟩ (cj ⟨#[]⟩:ax)) ai else aj else aj else bif decide (d=3)then bif cF (aF h) (aF e)then kr [] ak else bif iU.c a e then bif gL.c (iU.v a e) h ⟨#[]⟩ 0 then bif ia.c (gL.v (iU.v a e) h ⟨#[]⟩ 0)then bif !ia.v (gL.v (iU.v a e) h ⟨#[]⟩ 0)then kr [] ak else kr (gL.v (iU.v a e) h ⟨#[]⟩ 0) ai else aj else aj else aj else bif iU.c a e then bif ia.c (iU.v a e)then bif !ia.v (iU.v a e)then kr [] ak else kr (iU.v a e) ai else aj else aj else aj else aj
def vo:=b λr0 r1=>ah (r0,r1)
def c:=λa d e f h=>(vo a d e f h).isSome
def v:=λa d e f h=>(vo a d e f h).getD ([],ak)
theorem out{x}:∀a d e f h,vo a d e f h=ah x->c a d e f h=ai/\v a d e f h=x:=λ_ _ _ _ _=>Lib.db
end rq

namespace vI
def r3(N:aE)(g k0 k1:Bx R)(a:aQ)(d:ax)(e:aQ)(f h:ax)(i:aQ):az R:=bif decide (h<f)then bif decide (0<=h)&&decide (h<(e.length:ax))then bif rq.c i (bI (ar e h.toNat 0)) (bn (ar e h.toNat 1)) (bn (ar e h.toNat (1+1))) (bn (ar e h.toNat (1+1+1)))then bif !(rq.v i (bI (ar e h.toNat 0)) (bn (ar e h.toNat 1)) (bn (ar e h.toNat (1+1))) (bn (ar e h.toNat (1+1+1)))).2 then k0 a h e f h i else g a d e f (bH (h+1)) (rq.v i (bI (ar e h.toNat 0)) (bn (ar e h.toNat 1)) (bn (ar e h.toNat (1+1))) (bn (ar e h.toNat (1+1+1)))).1 else aj else aj else k1 a d e f h i
def l3(N:aE)(k0 k1:Bx R):aE->Bx R
 |0=>λ_ _ _ _ _ _=>aj
 |n+1=>r3 N (l3 N k0 k1 n) k0 k1
def b(N:aE)(kr:Dd R)(a d:aQ):az R:=bif sU.c a then l3 N (λ_ e _ _ _ f=>kr f e) (λe _ _ _ _ f=>kr f (e.length:ax)) N d 0 d (d.length:ax) 0 (sU.v a)else aj
def vo:=b Lib.cU λr0 r1=>ah (r0,r1)
def c:=λa d=>(vo a d).isSome
def v:=λa d=>(vo a d).getD ([],0)
theorem out{x}:∀a d,vo a d=ah x->c a d=ai/\v a d=x:=λ_ _=>Lib.db
end vI

namespace VL
def b(kr:Ah R)(a:ax)(d e f h:aQ)(i:ax)(j l:aQ)(m:ax)(o p q:aQ)(r s:ax):az R:=bif Dm.c a d e f h i j l m r s then Lib.lt (Dm.v a d e f h i j l m r s) λt=>bif !t.2.2.2.2.2.2.2.2.2 then kr t.2.2.2.2.2.2.2.2.2 t.1 t.2.1 t.2.2.1 t.2.2.2.1 t.2.2.2.2.1 t.2.2.2.2.2.1 t.2.2.2.2.2.2.1 t.2.2.2.2.2.2.2.1 t.2.2.2.2.2.2.2.2.1 o p q else bif decide (s=0)then kr t.2.2.2.2.2.2.2.2.2 t.1 t.2.1 t.2.2.1 t.2.2.2.1 t.2.2.2.2.1 t.2.2.2.2.2.1 t.2.2.2.2.2.2.1 t.2.2.2.2.2.2.2.1 t.2.2.2.2.2.2.2.2.1 o p q else bif decide (0<=r)&&decide (r<(t.2.2.2.2.2.2.1.length:ax))then bif sq.c t.2.2.1 t.2.2.2.1 t.2.2.2.2.1 t.2.2.2.2.2.1 (bn (ar t.2.2.2.2.2.2.1 r.toNat 0))then Lib.lt (sq.v t.2.2.1 t.2.2.2.1 t.2.2.2.2.1 t.2.2.2.2.2.1 (bn (ar t.2.2.2.2.2.2.1 r.toNat 0))) λu=>bif u then bif cg (q.length+(aA (aN [Ck.s,Ck.i ao,Ck.i ao,Ck.s] 1) 0 [.s (bn (ar t.2.2.2.2.2.2.1 r.toNat 0)), .i .i64 (bI (ar t.2.2.2.2.2.2.1 r.toNat (1+1+1+1))), .i .i64 (bI (ar t.2.2.2.2.2.2.1 r.toNat (1+1+1))), .s (bn (ar t.2.2.2.2.2.2.1 r.toNat 1))]).length) 48 then bif uP.c (bn (ar t.2.2.2.2.2.2.1 r.toNat 0)) (bI (ar t.2.2.2.2.2.2.1 r.toNat (1+1+1+1))) (bI (ar t.2.2.2.2.2.2.1 r.toNat (1+1+1))) (bn (ar t.2.2.2.2.2.2.1 r.toNat 1))then Lib.lt (uP.v (bn (ar t.2.2.2.2.2.2.1 r.toNat 0)) (bI (ar t.2.2.2.2.2.2.1 r.toNat (1+1+1+1))) (bI (ar t.2.2.2.2.2.2.1 r.toNat (1+1+1))) (bn (ar t.2.2.2.2.2.2.1 r.toNat 1))) λw=>bif vI.c o w.1 then Lib.lt (vI.v o w.1) λy=>kr ai t.1 t.2.1 t.2.2.1 t.2.2.2.1 t.2.2.2.2.1 t.2.2.2.2.2.1 t.2.2.2.2.2.2.1 t.2.2.2.2.2.2.2.1 t.2.2.2.2.2.2.2.2.1 y.1 p (q++aA (aN [Ck.s,Ck.i ao,Ck.i ao,Ck.s] 1) 0 [.s (bn (ar t.2.2.2.2.2.2.1 r.toNat 0)), .i .i64 (bI (ar t.2.2.2.2.2.2.1 r.toNat (1+1+1+1))), .i .i64 (bI (ar t.2.2.2.2.2.2.1 r.toNat (1+1+1))), .s (bn (ar t.2.2.2.2.2.2.1 r.toNat 1))])else aj else aj else aj else kr ai t.1 t.2.1 t.2.2.1 t.2.2.2.1 t.2.2.2.2.1 t.2.2.2.2.2.1 t.2.2.2.2.2.2.1 t.2.2.2.2.2.2.2.1 t.2.2.2.2.2.2.2.2.1 o p q else aj else aj else aj
def vo:=b λr0 r1 r2 r3 r4 r5 r6 r7 r8 r9 z7 wg Ps=>ah (r0,r1,r2,r3,r4,r5,r6,r7,r8,r9,z7,wg,Ps)
def c:=λa d e f h i j l m o p q r s=>(vo a d e f h i j l m o p q r s).isSome
def v:=λa d e f h i j l m o p q r s=>(vo a d e f h i j l m o p q r s).getD (ak,0,[],[],[],[],0,[],[],0,[],[],[])
theorem out{x}:∀a d e f h i j l m o p q r s,vo a d e f h i j l m o p q r s=ah x->c a d e f h i j l m o p q r s=ai/\v a d e f h i j l m o p q r s=x:=λ_ _ _ _ _ _ _ _ _ _ _ _ _ _=>Lib.db
end VL

namespace VM
def b(kr:kQ R)(a:ax)(d e f h:aQ)(i:ax)(j l:aQ)(m o:ax):az R:=bif iL.c a d e f h i j l m then Lib.lt (iL.v a d e f h i j l m) λp=>bif uO.c a d e f h i j l m o then Lib.lt (uO.v a d e f h i j l m o) λq=>bif !q then kr p.1 p.2.1 p.2.2.1 p.2.2.2.1 p.2.2.2.2.1 p.2.2.2.2.2.1 p.2.2.2.2.2.2.1 p.2.2.2.2.2.2.2.1 p.2.2.2.2.2.2.2.2 ak else bif decide (0<=o)&&decide (o<(j.length:ax))then bif bI (ar j o.toNat 2) !=1 then kr p.1 p.2.1 p.2.2.1 p.2.2.2.1 p.2.2.2.2.1 p.2.2.2.2.2.1 p.2.2.2.2.2.2.1 p.2.2.2.2.2.2.2.1 p.2.2.2.2.2.2.2.2 ak else bif decide (0<=o)&&decide (o<(p.2.2.2.2.2.2.1.length:ax))then bif vJ.c p.1 p.2.1 p.2.2.1 p.2.2.2.1 p.2.2.2.2.1 p.2.2.2.2.2.1 (eA p.2.2.2.2.2.2.1 o.toNat 2 [.i .i64 3]) p.2.2.2.2.2.2.2.1 p.2.2.2.2.2.2.2.2 o 3 then Lib.lt (vJ.v p.1 p.2.1 p.2.2.1 p.2.2.2.1 p.2.2.2.2.1 p.2.2.2.2.2.1 (eA p.2.2.2.2.2.2.1 o.toNat 2 [.i .i64 3]) p.2.2.2.2.2.2.2.1 p.2.2.2.2.2.2.2.2 o 3) λr=>kr r.1 r.2.1 r.2.2.1 r.2.2.2.1 r.2.2.2.2.1 r.2.2.2.2.2.1 r.2.2.2.2.2.2.1 r.2.2.2.2.2.2.2.1 r.2.2.2.2.2.2.2.2 ai else aj else aj else aj else aj else aj
def vo:=b λr0 r1 r2 r3 r4 r5 r6 r7 r8 r9=>ah (r0,r1,r2,r3,r4,r5,r6,r7,r8,r9)
def c:=λa d e f h i j l m o=>(vo a d e f h i j l m o).isSome
def v:=λa d e f h i j l m o=>(vo a d e f h i j l m o).getD (0,[],[],[],[],0,[],[],0,ak)
theorem out{x}:∀a d e f h i j l m o,vo a d e f h i j l m o=ah x->c a d e f h i j l m o=ai/\v a d e f h i j l m o=x:=λ_ _ _ _ _ _ _ _ _ _=>Lib.db
end VM

namespace Ar
def b(kr:ax->az R)(a d:ax):az R:=bif !decide (d=0)then bif !decide (d=0)then kr (cK (bH (cK a d+d)) d)else aj else aj
def vo:=b λr0=>ah r0
def c:=λa d=>(vo a d).isSome
def v:=λa d=>(vo a d).getD (0)
theorem out{x}:∀a d,vo a d=ah x->c a d=ai/\v a d=x:=λ_ _=>Lib.db
end Ar

namespace Dh
def b(kr:eM R)(a:ax)(d e f h:aQ)(i:ax)(j l:aQ)(m o:ax):az R:=bif iL.c a d e f h i j l m then bif decide (a>bH (1000000000-Ar.v o 1000))then kr 1000000000 (iL.v a d e f h i j l m).2.1 (iL.v a d e f h i j l m).2.2.1 (iL.v a d e f h i j l m).2.2.2.1 (iL.v a d e f h i j l m).2.2.2.2.1 (iL.v a d e f h i j l m).2.2.2.2.2.1 (iL.v a d e f h i j l m).2.2.2.2.2.2.1 (iL.v a d e f h i j l m).2.2.2.2.2.2.2.1 (iL.v a d e f h i j l m).2.2.2.2.2.2.2.2 else kr (bH (a+Ar.v o 1000)) (iL.v a d e f h i j l m).2.1 (iL.v a d e f h i j l m).2.2.1 (iL.v a d e f h i j l m).2.2.2.1 (iL.v a d e f h i j l m).2.2.2.2.1 (iL.v a d e f h i j l m).2.2.2.2.2.1 (iL.v a d e f h i j l m).2.2.2.2.2.2.1 (iL.v a d e f h i j l m).2.2.2.2.2.2.2.1 (iL.v a d e f h i j l m).2.2.2.2.2.2.2.2 else aj
def vo:=b λr0 r1 r2 r3 r4 r5 r6 r7 r8=>ah (r0,r1,r2,r3,r4,r5,r6,r7,r8)
def c:=λa d e f h i j l m o=>(vo a d e f h i j l m o).isSome
def v:=λa d e f h i j l m o=>(vo a d e f h i j l m o).getD (0,[],[],[],[],0,[],[],0)
theorem out{x}:∀a d e f h i j l m o,vo a d e f h i j l m o=ah x->c a d e f h i j l m o=ai/\v a d e f h i j l m o=x:=λ_ _ _ _ _ _ _ _ _ _=>Lib.db
end Dh

namespace wA
def r5(N:aE)(g k0:iS R)(a d e:ax)(f:aQ):az R:=bif decide (e<(f.length:ax))then bif decide (0<=e)&&decide (e<(f.length:ax))then bif !Au.v (bI (ar f e.toNat 0)) (bn (ar f e.toNat 1)) (bI (ar f e.toNat (1+1))) (bI (ar f e.toNat (1+1+1))) (bI (ar f e.toNat (1+1+1+1))) (bn (ar f e.toNat (1+1+1+1+1))) (bI (ar f e.toNat (1+1+1+1+1+1))) a then bif decide (0<=d)&&decide (d<(f.length:ax))then g a (bH (d+1)) (bH (e+1)) (eA f d.toNat 0 [.i .i64 (bI (ar f e.toNat 0)), .s (bn (ar f e.toNat 1)), .i .i64 (bI (ar f e.toNat (1+1))), .i .i64 (bI (ar f e.toNat (1+1+1))), .i .i64 (bI (ar f e.toNat (1+1+1+1))), .s (bn (ar f e.toNat (1+1+1+1+1))), .i .i64 (bI (ar f e.toNat (1+1+1+1+1+1)))])else aj else g a d (bH (e+1)) f else aj else k0 a d e f
def l5(N:aE)(k0:iS R):aE->iS R
 |0=>λ_ _ _ _=>aj
 |n+1=>r5 N (l5 N k0 n) k0
def b(N:aE)(kr:aQ->az R)(a:aQ)(Cc:ax):az R:=bif na.c a Cc then bif decide (na.v a Cc=oS 1)then kr a else l5 N (λ_ d _ e=>bif iy d (e.length:ax) (e.length:ax)then bif iy 0 d ((gW d.toNat e++aN [Ck.i ao,Ck.s,Ck.i ao,Ck.i ao,Ck.i ao,Ck.s,Ck.i ao] ((e.length:ax).toNat-d.toNat)++m8 (e.length:ax).toNat e).length:ax)then kr (eW (gW d.toNat e++aN [Ck.i ao,Ck.s,Ck.i ao,Ck.i ao,Ck.i ao,Ck.s,Ck.i ao] ((e.length:ax).toNat-d.toNat)++m8 (e.length:ax).toNat e) (aZ 0) d.toNat)else aj else aj) N Cc (na.v a Cc) (bH (na.v a Cc+1)) a else aj
def vo:=b Lib.cU λr0=>ah r0
def c:=λa d=>(vo a d).isSome
def v:=λa d=>(vo a d).getD ([])
theorem out{x}:∀a d,vo a d=ah x->c a d=ai/\v a d=x:=λ_ _=>Lib.db
end wA

namespace Di
def b(kr:eM R)(a:ax)(d e f h:aQ)(i:ax)(j l:aQ)(m o:ax):az R:=bif iL.c a d e f h i j l m then bif wA.c (iL.v a d e f h i j l m).2.2.2.2.2.2.2.1 o then kr (iL.v a d e f h i j l m).1 (iL.v a d e f h i j l m).2.1 (iL.v a d e f h i j l m).2.2.1 (iL.v a d e f h i j l m).2.2.2.1 (iL.v a d e f h i j l m).2.2.2.2.1 (iL.v a d e f h i j l m).2.2.2.2.2.1 (iL.v a d e f h i j l m).2.2.2.2.2.2.1 (wA.v (iL.v a d e f h i j l m).2.2.2.2.2.2.2.1 o) (iL.v a d e f h i j l m).2.2.2.2.2.2.2.2 else aj else aj
def vo:=b λr0 r1 r2 r3 r4 r5 r6 r7 r8=>ah (r0,r1,r2,r3,r4,r5,r6,r7,r8)
def c:=λa d e f h i j l m o=>(vo a d e f h i j l m o).isSome
def v:=λa d e f h i j l m o=>(vo a d e f h i j l m o).getD (0,[],[],[],[],0,[],[],0)
theorem out{x}:∀a d e f h i j l m o,vo a d e f h i j l m o=ah x->c a d e f h i j l m o=ai/\v a d e f h i j l m o=x:=λ_ _ _ _ _ _ _ _ _ _=>Lib.db
end Di

namespace wB
def r5(N:aE)(g k0:Fb R)(a d:aQ)(e f:ax)(h:aQ):az R:=bif decide (f<e)then bif decide (0<=f)&&decide (f<(d.length:ax))then bif decide (f<(a.length:ax))then bif decide (0<=f)&&decide (f<(a.length:ax))then bif iy 0 (im ai (bI (ar d f.toNat (1+1))) (im ak (bI (ar a f.toNat 0)) ((bn (ar d f.toNat 1)).size:ax))) ((bn (ar d f.toNat 1)).size:ax)then bif decide (0<=f)&&decide (f<(h.length:ax))then g a d e (bH (f+1)) (eA h f.toNat 0 [.s (bn (ar d f.toNat 0)), .s (bO (bn (ar d f.toNat 1)) (aZ 0) (im ai (bI (ar d f.toNat (1+1))) (im ak (bI (ar a f.toNat 0)) ((bn (ar d f.toNat 1)).size:ax))).toNat), .i .i64 (im ai (bI (ar d f.toNat (1+1))) (im ak (bI (ar a f.toNat 0)) ((bn (ar d f.toNat 1)).size:ax)))])else aj else aj else aj else bif iy 0 (bI (ar d f.toNat (1+1))) ((bn (ar d f.toNat 1)).size:ax)then bif decide (0<=f)&&decide (f<(h.length:ax))then g a d e (bH (f+1)) (eA h f.toNat 0 [.s (bn (ar d f.toNat 0)), .s (bO (bn (ar d f.toNat 1)) (aZ 0) (bI (ar d f.toNat (1+1))).toNat), .i .i64 (bI (ar d f.toNat (1+1)))])else aj else aj else aj else k0 a d e f h
def l5(N:aE)(k0:Fb R):aE->Fb R
 |0=>λ_ _ _ _ _=>aj
 |n+1=>r5 N (l5 N k0 n) k0
def b(N:aE)(kr:HE R)(a d:aQ):az R:=bif ia.c a then bif !ia.v a then kr [] ak else bif sU.c a then l5 N (λ_ _ _ _ e=>kr e ai) N d a (a.length:ax) 0 (sU.v a)else aj else aj
def vo:=b Lib.cU λr0 r1=>ah (r0,r1)
def c:=λa d=>(vo a d).isSome
def v:=λa d=>(vo a d).getD ([],ak)
theorem out{x}:∀a d,vo a d=ah x->c a d=ai/\v a d=x:=λ_ _=>Lib.db
end wB

namespace uL
def b(kr:yD R)(a:aQ)(d:aq):az R:=bif eu.c a d then bif decide (eu.v a d<0)then kr ⟨#[]⟩ ak else bif decide (0<=eu.v a d)&&decide (eu.v a d<(a.length:ax))then kr (bn (ar a (eu.v a d).toNat 1)) ai else aj else aj
def vo:=b λr0 r1=>ah (r0,r1)
def c:=λa d=>(vo a d).isSome
def v:=λa d=>(vo a d).getD (⟨#[]⟩,ak)
theorem out{x}:∀a d,vo a d=ah x->c a d=ai/\v a d=x:=λ_ _=>Lib.db
end uL

namespace gn
def r5(N:aE)(g k0 k1:yE R)(a:aq)(d e f:ax)(h:aW)(i j:ax):az R:=bif decide (j<5)then bif decide (bH (d+j)<(a.size:ax))then bif decide (0<=bH (d+j))&&decide (bH (d+j)<(a.size:ax))then bif decide (0<=bH (7*j))then bif decide (bH (↑(gQ a (bH (d+j)).toNat):ax)>127)then g a d e f h (bH (i+bH (cK (bH (↑(gQ a (bH (d+j)).toNat):ax)) 128*gY 2 (if(bH (7*j)).toNat<=64 then(bH (7*j)).toNat else 64)))) (bH (j+1))else bif decide (j>0)then bif decide (bH (↑(gQ a (bH (d+j)).toNat):ax)=0)then k0 a d 0 0 ak (bH (i+bH (cK (bH (↑(gQ a (bH (d+j)).toNat):ax)) 128*gY 2 (if(bH (7*j)).toNat<=64 then(bH (7*j)).toNat else 64)))) j else bif decide (bH (i+bH (cK (bH (↑(gQ a (bH (d+j)).toNat):ax)) 128*gY 2 (if(bH (7*j)).toNat<=64 then(bH (7*j)).toNat else 64)))>1000000000)then k0 a d 0 0 ak (bH (i+bH (cK (bH (↑(gQ a (bH (d+j)).toNat):ax)) 128*gY 2 (if(bH (7*j)).toNat<=64 then(bH (7*j)).toNat else 64)))) j else k0 a d (bH (i+bH (cK (bH (↑(gQ a (bH (d+j)).toNat):ax)) 128*gY 2 (if(bH (7*j)).toNat<=64 then(bH (7*j)).toNat else 64)))) (bH (bH (d+j)+1)) ai (bH (i+bH (cK (bH (↑(gQ a (bH (d+j)).toNat):ax)) 128*gY 2 (if(bH (7*j)).toNat<=64 then(bH (7*j)).toNat else 64)))) j else bif decide (bH (i+bH (cK (bH (↑(gQ a (bH (d+j)).toNat):ax)) 128*gY 2 (if(bH (7*j)).toNat<=64 then(bH (7*j)).toNat else 64)))>1000000000)then k0 a d 0 0 ak (bH (i+bH (cK (bH (↑(gQ a (bH (d+j)).toNat):ax)) 128*gY 2 (if(bH (7*j)).toNat<=64 then(bH (7*j)).toNat else 64)))) j else k0 a d (bH (i+bH (cK (bH (↑(gQ a (bH (d+j)).toNat):ax)) 128*gY 2 (if(bH (7*j)).toNat<=64 then(bH (7*j)).toNat else 64)))) (bH (bH (d+j)+1)) ai (bH (i+bH (cK (bH (↑(gQ a (bH (d+j)).toNat):ax)) 128*gY 2 (if(bH (7*j)).toNat<=64 then(bH (7*j)).toNat else 64)))) j else aj else aj else k1 a d e f h i j else k1 a d e f h i j
def l5(N:aE)(k0 k1:yE R):aE->yE R
 |0=>λ_ _ _ _ _ _ _=>aj
 |n+1=>r5 N (l5 N k0 k1 n) k0 k1
def b(N:aE)(kr:LS R)(a:aq)(d:ax):az R:=bif !lr.v d 0 (a.size:ax)then kr 0 0 ak else l5 N (λ_ _ e f h _ _=>kr e f h) (λ_ _ _ _ _ _ _=>kr 0 0 ak) N a d 0 0 ak 0 0
def v(cT:aq)(gP:ax):ax×ax×aW:=if 0<=gP/\gP<=cT.size then Lib.rv cT gP.toNat 5 0 0 else(0,0,ak)
theorem eh(kr:LS R)(cT:aq)(gP:ax)(f0:DK cT):∃N,b N kr cT gP=kr (v cT gP).1 (v cT gP).2.1 (v cT gP).2.2:=by
 refine⟨6, ?_⟩
 unfold b v;by_cases hn:0<=gP/\gP<=cT.size
 ·have e:lr.v gP 0 (cT.size:ax)=true:=by simp[lr.v,hn]
  obtain⟨a,rfl⟩:∃a:aE,gP=(a:ax):=⟨gP.toNat,by omega⟩
  have ha:a<=cT.size:=by omega
  rw[e,bw hn,Lib.dZ];have hs:cT.size<=4611686018427387904:=f0;simp only[aY,ay]
  have:=Lib.fQ (λm (s:aE×ax)=>l5 6 (λy7 y8 y9 HB uC LP Hj=>kr y9 HB uC) (λV1 V2 Qc C_ E1 DS wc=>kr 0 0 ak) m cT a 0 0 ak s.2 s.1) (λs=>5-s.1) (λs=>s.1<=5/\0<=s.2/\s.2<128^s.1)
   (λs=>kr (Lib.rv cT a (5-s.1) s.1 s.2).1 (Lib.rv cT a (5-s.1) s.1 s.2).2.1 (Lib.rv cT a (5-s.1) s.1 s.2).2.2) (λm s hs5=>by
   obtain⟨j,n⟩:=s
   obtain⟨hj,h0,jm⟩:=hs5
   dsimp only at hj h0 jm⊢
   have hb:=Lib.Gm cT (a+j)
   by_cases hj5:j<5
   ·by_cases gz:a+j<cT.size
    ·have ew:bH ((a:ax)+(j:ax))=((a+j:aE):ax):=by rw[iE (by omega) (by omega)];omega
     have ew2:bH ((a+j:aE):ax)=((a+j:aE):ax):=iE (by omega) (by omega);have eb:bH (gQ cT (a+j):ax)=(gQ cT (a+j):ax):=iE (by omega) (by omega);have em:cK (gQ cT (a+j):ax) 128=(gQ cT (a+j):ax)%128:=ij (by omega);have e7:bH (7*(j:ax))=((7*j:aE):ax):=by rw[iE (by omega) (by omega)];omega
     have ep:gY 2 (if 7*j<=64 then 7*j else 64)=128^j:=by rw[bw (by omega)];show(2:ax)^(7*j)=128^j;rw[Int.pow_mul];rfl
     have hp:(128:ax)^j<=268435456/\(1:ax)<=128^j/\(128:ax)^(j+1)=128*128^j:=by
      obtain rfl|rfl|rfl|rfl|rfl:j=0\/j=1\/j=2\/j=3\/j=4:=by omega
      all_goals decide
     have hm0:0<=(gQ cT (a+j):ax)%128/\(gQ cT (a+j):ax)%128<=127:=by omega
     have hq:0<=(gQ cT (a+j):ax)%128*128^j/\(gQ cT (a+j):ax)%128*128^j<=127*128^j:=
      ⟨Int.mul_nonneg hm0.1 (by omega),De hm0.2 (by omega)⟩
     have eq1:bH ((gQ cT (a+j):ax)%128*128^j)=(gQ cT (a+j):ax)%128*128^j:=iE (by omega) (by omega);have eq2:bH (n+(gQ cT (a+j):ax)%128*128^j)=n+(gQ cT (a+j):ax)%128*128^j:=iE (by omega) (by omega);have ej:bH ((j:ax)+1)=((j+1:aE):ax):=Lib.c6 hj5 (by omega);have ef:5-j=(5-(j+1))+1:=by omega
     have c1:decide ((j:ax)<5)=true:=by simp;omega
     have c2:decide (((a+j:aE):ax)<(cT.size:ax))=true:=Lib.MP gz
     have Xa:Lib.rv cT a (5-j) j n=(if(gQ cT (a+j):ax)>127 then Lib.rv cT a (5-(j+1)) (j+1) (n+(gQ cT (a+j):ax)%128*128^j)
       else if(j>0/\gQ cT (a+j)=0)\/n+(gQ cT (a+j):ax)%128*128^j>1000000000 then(0,0,ak)
       else(n+(gQ cT (a+j):ax)%128*128^j,((a+j+1:aE):ax),ai)):=by
      rw[ef];simp only[Lib.rv];rw[bw gz]
     have en:bH (((a+j:aE):ax)+1)=((a+j+1:aE):ax):=Lib.c6 gz (by omega);simp only[l5,r5,c1,ew,c2,Lib.cE,Lib.dZ,eb,em,e7,ep,eq1,eq2,ej,en,au,aM];by_cases hc:(gQ cT (a+j):ax)>127
     ·right;rw[aG hc];exact⟨(j+1,n+(gQ cT (a+j):ax)%128*128^j),⟨by dsimp only;omega,by dsimp only;omega,by dsimp only;omega⟩,by dsimp only;omega,by dsimp only;rw[Xa,bw hc],rfl⟩
     ·left;rw[aK hc,ay,Xa,bG hc];by_cases hj0:(j:ax)>0
      ·rw[aG hj0,au];by_cases hz:(gQ cT (a+j):ax)=0
       ·rw[aG hz,bw (.inl ⟨by omega,by omega⟩)];rfl
       ·rw[aK hz,ay];by_cases tn:n+(gQ cT (a+j):ax)%128*128^j>1000000000
        ·rw[aG tn,bw (.inr tn)];rfl
        ·rw[aK tn,bG (by omega)];rfl
      ·rw[aK hj0,ay];by_cases tn:n+(gQ cT (a+j):ax)%128*128^j>1000000000
       ·rw[aG tn,bw (.inr tn)];rfl
       ·rw[aK tn,bG (by omega)];rfl
    ·left;have ew:bH ((a:ax)+(j:ax))=((a+j:aE):ax):=by rw[iE (by omega) (by omega)];omega
     have ef:5-j=(5-(j+1))+1:=by omega
     have Xa:Lib.rv cT a (5-j) j n=(0,0,ak):=by rw[ef];simp only[Lib.rv];rw[bG gz]
     simp only[l5,r5,show decide ((j:ax)<5)=ai by simp;omega,ew,Lib.RV gz,au,ay,Xa]
   ·left;have JK:j=5:=by omega
    subst JK;simp only[l5,r5,show decide (((5:aE):ax)<5)=ak from rfl,ay];rfl) 6 (0,0) ⟨by dsimp only;omega,by dsimp only;omega,by dsimp only;decide⟩ (by dsimp only;omega)
  exact this
 ·have e:lr.v gP 0 (cT.size:ax)=false:=by simp[lr.v];omega
  rw[e,bG hn];rfl
end gn

namespace U122
def r3(N:aE)(g k0:u6 R)(a:aq)(d:ax)(e:aQ):az R:=bif decide ((a.size:ax)<=20000)then bif !(gn.v a d).2.2 then k0 a d e else bif !lr.v (gn.v a d).1 1 9000 then k0 a d e else bif decide (bH ((gn.v a d).1+4)>bH ((a.size:ax)-(gn.v a d).2.1))then k0 a d e else bif iy (bH ((gn.v a d).2.1+4)) (bH (bH ((gn.v a d).2.1+4)+(gn.v a d).1)) (a.size:ax)then bif uR.c (bO a (bH ((gn.v a d).2.1+4)).toNat (bH (bH ((gn.v a d).2.1+4)+(gn.v a d).1)).toNat)then bif iy (gn.v a d).2.1 (bH ((gn.v a d).2.1+4)) (a.size:ax)then bif !List.beq (uR.v (bO a (bH ((gn.v a d).2.1+4)).toNat (bH (bH ((gn.v a d).2.1+4)+(gn.v a d).1)).toNat)).toList (bO a (gn.v a d).2.1.toNat (bH ((gn.v a d).2.1+4)).toNat).toList then k0 a d e else bif cg (e.length+(aA (aN [.s] 1) 0 [.s (bO a (bH ((gn.v a d).2.1+4)).toNat (bH (bH ((gn.v a d).2.1+4)+(gn.v a d).1)).toNat)]).length) 16 then g a (bH (bH ((gn.v a d).2.1+4)+(gn.v a d).1)) (e++aA (aN [.s] 1) 0 [.s (bO a (bH ((gn.v a d).2.1+4)).toNat (bH (bH ((gn.v a d).2.1+4)+(gn.v a d).1)).toNat)])else aj else aj else aj else aj else k0 a d e
def l3(N:aE)(k0:u6 R):aE->u6 R
 |0=>λ_ _ _=>aj
 |n+1=>r3 N (l3 N k0 n) k0
def b(N:aE)(kr:Dd R)(a:aq):az R:=l3 N (λ_ d e=>kr e d) N a 0 (aN [.s] 0)
def vo:=b Lib.cU λr0 r1=>ah (r0,r1)
def c:=λa=>(vo a).isSome
def v:=λa=>(vo a).getD ([],0)
theorem out{x}:∀a,vo a=ah x->c a=ai/\v a=x:=λ_=>Lib.db
end U122

namespace sS
def b(kr:LX R)(a:aq)(d:ax):az R:=bif !(gn.v a d).2.2 then kr ⟨#[]⟩ 0 ak else bif decide ((gn.v a d).1>20000)then kr ⟨#[]⟩ 0 ak else bif decide ((gn.v a d).1>bH ((a.size:ax)-(gn.v a d).2.1))then kr ⟨#[]⟩ 0 ak else bif iy (gn.v a d).2.1 (bH ((gn.v a d).2.1+(gn.v a d).1)) (a.size:ax)then kr (bO a (gn.v a d).2.1.toNat (bH ((gn.v a d).2.1+(gn.v a d).1)).toNat) (bH ((gn.v a d).2.1+(gn.v a d).1)) ai else aj
def v(cT:aq)(gP:ax):aq×ax×aW:=Lib.g6 cT gP
theorem eh(kr:LX R)(cT:aq)(gP:ax)(f0:DK cT):b kr cT gP=kr (v cT gP).1 (v cT gP).2.1 (v cT gP).2.2:=Lib.vl f0 gP kr
end sS

namespace vH
def b(kr:wq R)(a:aq):az R:=bif !(sS.v a 0).2.2 then kr ⟨#[]⟩ 0 0 ⟨#[]⟩ ak else bif !(gn.v a (sS.v a 0).2.1).2.2 then kr ⟨#[]⟩ 0 0 ⟨#[]⟩ ak else bif !(gn.v a (gn.v a (sS.v a 0).2.1).2.1).2.2 then kr ⟨#[]⟩ 0 0 ⟨#[]⟩ ak else bif iy (gn.v a (gn.v a (sS.v a 0).2.1).2.1).2.1 (a.size:ax) (a.size:ax)then bif !wz.v (sS.v a 0).1 (gn.v a (sS.v a 0).2.1).1 (gn.v a (gn.v a (sS.v a 0).2.1).2.1).1 (bO a (gn.v a (gn.v a (sS.v a 0).2.1).2.1).2.1.toNat (a.size:ax).toNat)then kr ⟨#[]⟩ 0 0 ⟨#[]⟩ ak else kr (sS.v a 0).1 (gn.v a (sS.v a 0).2.1).1 (gn.v a (gn.v a (sS.v a 0).2.1).2.1).1 (bO a (gn.v a (gn.v a (sS.v a 0).2.1).2.1).2.1.toNat (a.size:ax).toNat) ai else aj
def v(t0:aq):aq×ax×ax×aq×aW:=ru.v t0
theorem eh(kr:wq R)(t0:aq)(f0:DK t0):b kr t0=kr (v t0).1 (v t0).2.1 (v t0).2.2.1 (v t0).2.2.2.1 (v t0).2.2.2.2:=by
 have e1:sS.v=Lib.g6:=rfl;have e2:gn.v=Lib.eB:=rfl;have e3:∀a b c d,wz.v a b c d=nk.v a b c d:=λ_ _ _ _=>rfl;unfold b v ru.v;simp only[e1,e2,e3,Lib.dZ];cases h1:Lib.g6 t0 0 with
 |mk k r1=>
  obtain⟨a,ok1⟩:=r1;cases ok1 with
  |false=>rfl
  |true=>
   dsimp only;cases h2:Lib.eB t0 a with
   |mk s r2=>
    obtain⟨x,ok2⟩:=r2;cases ok2 with
    |false=>rfl
    |true=>
     dsimp only;cases h3:Lib.eB t0 x with
     |mk l r3=>
      obtain⟨y,ok3⟩:=r3;cases ok3 with
      |false=>rfl
      |true=>
       obtain⟨r1,r2,r3,r4,r5,r6⟩:=Lib.jV h3;dsimp only;simp only[aY,ay];rw[Lib.s6 (show iy y (t0.size:ax) (t0.size:ax)=ai by simp[iy];omega)];cases hE:nk.v k s l (t0.extract y.toNat t0.size)with
       |false=>rfl
       |true=>rfl
end vH

namespace U61
def r7(N:aE)(g k0:JW R)(a d:ax)(e f:aQ):az R:=bif decide (d<a)then bif decide (0<=d)&&decide (d<(f.length:ax))then bif(vH.v (bn (ar f d.toNat 0))).2.2.2.2 then bif uM.c e (vH.v (bn (ar f d.toNat 0))).1 (vH.v (bn (ar f d.toNat 0))).2.1 (vH.v (bn (ar f d.toNat 0))).2.2.1 (vH.v (bn (ar f d.toNat 0))).2.2.2.1 then g a (bH (d+1)) (uM.v e (vH.v (bn (ar f d.toNat 0))).1 (vH.v (bn (ar f d.toNat 0))).2.1 (vH.v (bn (ar f d.toNat 0))).2.2.1 (vH.v (bn (ar f d.toNat 0))).2.2.2.1) f else aj else g a (bH (d+1)) e f else aj else k0 a d e f
def l7(N:aE)(k0:JW R):aE->JW R
 |0=>λ_ _ _ _=>aj
 |n+1=>r7 N (l7 N k0 n) k0
def b(N:aE)(kr:aQ->az R)(a:aQ):az R:=bif ia.c a then bif !ia.v a then kr (aN [Ck.s,Ck.i ao,Ck.i ao,Ck.s] 0)else bif uL.c a {data:= #[aw 107,aw 101,aw 112,aw 116]}then bif U122.c (uL.v a {data:= #[aw 107,aw 101,aw 112,aw 116]}).1 then l7 N (λ_ _ d _=>kr d) N ((U122.v (uL.v a {data:= #[aw 107,aw 101,aw 112,aw 116]}).1).1.length:ax) 0 (aN [Ck.s,Ck.i ao,Ck.i ao,Ck.s] 0) (U122.v (uL.v a {data:= #[aw 107,aw 101,aw 112,aw 116]}).1).1 else aj else aj else aj
def vo:=b Lib.cU λr0=>ah r0
def c:=λa=>(vo a).isSome
def v:=λa=>(vo a).getD ([])
theorem out{x}:∀a,vo a=ah x->c a=ai/\v a=x:=λ_=>Lib.db
end U61

end Go.FG
