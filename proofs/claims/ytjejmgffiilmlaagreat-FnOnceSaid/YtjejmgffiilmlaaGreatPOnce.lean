/- Functions of the program, told as functions of numbers, texts and lists, and what each comes to. No condition but those that each states. -/
import Derived.Test.YtjejmgffiilmlaaGreatLib
set_option linter.unusedVariables false
set_option linter.unusedSimpArgs false
set_option maxRecDepth 100000
open BitVec renaming toNat->dR,and->i_,ofInt->b_,xor->lG
open Bool renaming cond_eq_ite->c_,true->ak,false->aq,false_eq_true->dp,true_and->bj,not_true->ba,and_self->aP,or_true->Ip,and_false->Gd,not_false->bX
open ByteArray renaming toList->aL,size->c5,extract->bR
open Go.IntKind renaming i64->ar,wrap->bK,u32->eh,u8->bk
open Go.Op renaming bytesLess->cf
open Int renaming toNat->bc,fdiv->kP,pow->g9,tmod->cG,tdiv->cT,tmod_eq_emod_of_nonneg->rV,neg->Mw
open List renaming set->aE,beq->dg,length->bW,range->cO,range'->lI,all_cons->rW,range'_zero->PG,range_eq_range'->PH,length_append->bP,length_singleton->bw,take->jb,drop->pe
open Nat renaming sub_zero->uD,lt_irrefl->bu
open Option renaming none->ao,some->aj
open UInt8 renaming ofNat->ax
open _root_ renaming Int->az,Option->aC,ByteArray->au,Bool->aY,Nat->aG,cond_true->ay,cond_false->aD,of_decide_eq_true->b9,decide_eq_decide->ch,decide_true->aR,decide_false->bm,decide_eq_true->aJ,if_neg->bM,if_pos->bC,decide_eq_false->aM
namespace Go.FG
variable {R:Type}
abbrev Kp(R:Type):=aW->az->az->aC R
abbrev Ad(R:Type):=az->az->az->aC R
abbrev mG(R:Type):=az->az->az->aW->aC R
abbrev Gf(R:Type):=aW->az->aC R
abbrev wK(R:Type):=aW->aW->aW->az->aC R
abbrev fa(R:Type):=az->aW->aW->aW->aW->az->aW->aW->az->aC R
abbrev Ou(R:Type):=az->aW->az->az->aC R
abbrev zu(R:Type):=az->aW->az->az->aW->aC R
abbrev T7(R:Type):=au->aW->az->az->aW->aC R
abbrev aav(R:Type):=au->aW->az->az->aC R
abbrev aat(R:Type):=aY->aW->az->az->aC R
abbrev gH(R:Type):=az->az->az->az->aW->az->az->aW->aW->aW->aW->aW->aW->aW->aW->aW->az->az->az->az->az->au->az->az->az->au->az->aW->aC R
abbrev ik(R:Type):=az->az->au->az->aW->aW->az->az->aW->aW->aW->aW->aW->aW->aW->aW->aW->aC R
abbrev qA(R:Type):=az->aW->az->az->az->aC R
abbrev ox(R:Type):=az->aW->az->az->az->aW->aC R
abbrev Iu(R:Type):=aW->au->aY->az->aC R
abbrev DN(R:Type):=aY->az->az->aW->az->aC R
abbrev Iq(R:Type):=aY->az->aW->az->aC R
abbrev wG(R:Type):=aY->az->aW->aW->aW->az->aW->aC R
abbrev gT(R:Type):=aY->az->az->aW->aW->aW->aW->az->aW->aW->az->aC R
abbrev kT(R:Type):=az->aY->az->az->aW->aW->aW->aW->az->aW->aW->az->au->au->az->az->az->aC R
abbrev lH(R:Type):=au->aY->az->az->aW->aW->aW->aW->az->aW->aW->az->au->az->az->au->aC R
abbrev zw(R:Type):=au->az->az->au->aY->aC R
abbrev wI(R:Type):=az->au->az->az->aC R
abbrev CO(R:Type):=az->au->az->aC R
abbrev sR(R:Type):=az->az->az->az->aW->aC R
abbrev DS(R:Type):=au->az->az->az->aW->aC R
abbrev wL(R:Type):=aW->au->az->aW->aC R
abbrev DT(R:Type):=au->az->az->aW->az->aC R
abbrev Kq(R:Type):=aW->aW->aW->az->au->aC R
abbrev kB(R:Type):=aW->az->az->au->az->az->az->au->az->aW->aC R
abbrev gh(R:Type):=au->aY->az->az->aW->aW->aW->aW->az->aW->aW->az->az->az->az->az->az->az->az->au->az->az->az->au->az->aW->aW->aW->aW->aW->aW->aC R
abbrev ir(R:Type):=az->au->az->az->az->aW->aW->aW->aW->az->aW->aW->az->az->az->az->az->az->az->aW->aW->aW->aW->aW->aW->aC R
abbrev vg(R:Type):=az->aW->aW->aW->aW->az->aW->aW->az->az->aC R
abbrev Ko(R:Type):=az->au->aW->aC R
abbrev DO(R:Type):=aY->az->az->au->aW->aC R
abbrev DQ(R:Type):=az->au->aW->aY->aC R
abbrev jl(R:Type):=az->az->az->az->az->az->aW->aW->aW->aW->aW->aW->aC R
abbrev kq(R:Type):=az->aW->aW->aW->aW->az->aW->aW->az->aY->aC R
abbrev oa(R:Type):=aW->az->au->az->az->au->aW->aC R
abbrev aau(R:Type):=az->aW->aC R
abbrev Ow(R:Type):=au->aY->aC R
abbrev T6(R:Type):=aW->aY->aC R
abbrev Oq(R:Type):=aY->az->aW->aC R
abbrev ny(R:Type):=au->az->az->aW->aC R
abbrev k_(R:Type):=az->aW->au->au->az->aW->aC R
abbrev qB(R:Type):=az->aW->au->au->az->aC R
abbrev tY(R:Type):=au->az->aW->aC R
abbrev uq(R:Type):=au->az->aW->aW->aC R
abbrev wJ(R:Type):=aW->az->az->aW->aC R
abbrev rj(R:Type):=az->az->aW->aW->aW->aW->az->aW->aW->az->aW->aW->aW->aC R
abbrev iO(R:Type):=az->az->az->aW->aW->aW->aW->az->aW->aW->az->az->az->az->az->az->az->aW->aW->aW->aW->aW->aW->aC R
abbrev Ag(R:Type):=aW->az->aW->aC R
abbrev um(R:Type):=aW->az->aW->aW->aC R
abbrev uo(R:Type):=au->az->az->az->aY->az->az->az->aC R
abbrev Ot(R:Type):=az->az->aY->aC R
abbrev Ox(R:Type):=au->az->aY->aC R
abbrev Ov(R:Type):=az->aW->aW->aC R
abbrev zv(R:Type):=aW->aY->au->az->aW->aC R
abbrev Ge(R:Type):=aW->aY->au->az->aW->aW->aC R
abbrev mc(R:Type):=az->aW->az->az->az->az->az->az->az->aW->aW->aW->aW->aW->aW->aC R
abbrev hZ(R:Type):=az->az->az->az->aW->aW->aW->aW->aW->aW->aW->aW->aW->aW->aW->aC R
abbrev rU(R:Type):=az->aW->aW->aW->aW->az->aW->aW->az->aW->aW->aW->aC R
abbrev jO(R:Type):=az->aW->az->az->az->az->az->az->az->az->aW->aW->aW->aW->aW->aW->aW->aW->aW->aC R
abbrev Ae(R:Type):=az->aW->aW->aW->aW->az->aW->aW->az->aW->az->az->aC R
abbrev kA(R:Type):=aW->az->az->az->az->aC R
abbrev oy(R:Type):=aW->az->az->az->az->aW->aC R
abbrev DR(R:Type):=aW->az->aW->az->az->aC R
abbrev iH(R:Type):=aW->au->az->az->az->aC R
abbrev qz(R:Type):=aY->aW->aW->az->az->aW->az->az->aW->az->aC R
abbrev Ab(R:Type):=aY->aW->az->az->aW->az->aC R
abbrev uj(R:Type):=aY->az->az->aW->aW->aW->az->aW->aC R
abbrev eF(R:Type):=aY->aW->az->az->az->aW->aW->aW->aW->az->aW->aW->az->aC R
abbrev pE(R:Type):=aW->az->au->az->az->az->au->az->az->az->az->aC R
abbrev uk(R:Type):=aG->az->az->az->az->az->az->aW->aC R
abbrev Ah(R:Type):=au->az->az->az->az->aW->aC R
abbrev DU(R:Type):=au->az->aW->az->az->aC R
abbrev kU(R:Type):=az->az->az->az->az->au->az->az->az->au->az->aW->aW->aW->aW->aW->aW->aC R
abbrev wH(R:Type):=aY->aW->az->az->az->au->aW->aC R
abbrev nv(R:Type):=az->az->az->az->az->az->az->aW->aW->aW->aW->aW->aW->aC R
abbrev Af(R:Type):=az->au->az->az->au->aW->aC R
abbrev jN(R:Type):=az->aY->az->az->aW->aW->aW->aW->az->aW->aW->az->az->au->az->az->az->au->az->aC R
abbrev Is(R:Type):=az->au->az->az->az->au->az->aY->aC R
abbrev fA(R:Type):=aY->aY->aY->az->aY->aY->az->az->az->az->az->az->az->az->az->az->aW->aW->aW->aW->aW->aW->aW->aW->aW->aW->aW->aW->aW->aW->aW->aW->aW->aW->aC R
abbrev nu(R:Type):=aY->az->az->az->az->az->aW->aW->aW->aW->aW->aW->aW->aC R
abbrev ov(R:Type):=aY->az->az->az->az->aW->aW->aW->aW->aW->aW->aW->aC R
abbrev wM(R:Type):=au->az->az->az->aY->az->az->aC R
abbrev DP(R:Type):=aY->aW->az->az->aW->aC R
abbrev Ir(R:Type):=az->az->aW->aW->aC R

namespace U15
def b(kr:aY->aC R)(a:aW):aC R:=kr (decide ((a.length:az)>1048576))
def v(a0:aW):aY:=(decide ((a0.length:az)>1048576))
theorem fM(kr:aY->aC R)(a0:aW):b kr a0=kr (v a0):=by first|rfl|(unfold b v;simp only[c_];(repeat' split)<;>rfl)
end U15

namespace IJ
def r3(N:aG)(g k0:Kp R)(a:aW)(d e:az):aC R:=bif decide (e<(a.length:az))then bif decide (e<4000)then bif decide (0<=e)&&decide (e<(a.length:az))then g a (bN (↑(dR (i_ (b_ 64 (bN (bN (bN (d*131)+bN (bY (aw a e.toNat 0)))+7))) (b_ 64 1073741823))):az)) (bN (e+1))else ao else k0 a d e else k0 a d e
def l3(N:aG)(k0:Kp R):aG->Kp R
 |0=>λ_ _ _=>ao
 |n+1=>r3 N (l3 N k0 n) k0
def b(N:aG)(kr:Kp R)(a:aW):aC R:=l3 N (λd e _=>kr d 0 e) N a (bN (34901+(a.length:az))) 0
def vo:=b Lib.c9 λr0 r1 r2=>aj (r0,r1,r2)
def c:=λa=>(vo a).isSome
def v:=λa=>(vo a).getD ([],0,0)
theorem out{x}:∀a,vo a=aj x->c a=ak/\v a=x:=λ_=>Lib.dB
end IJ

namespace Ey
def r3(N:aG)(g:Ad R)(g1:mG R)(k0:Ad R)(k1:mG R)(a d e:az):aC R:=bif decide (a<3)then g1 (bN (a+1)) d e ([]++aE (aT [Ck.l 3] 1) 0 [CV.l 3 (aT [Ck.i ar] (bc 16))])else k0 a d e
def zV(N:aG)(g:Ad R)(g1:mG R)(k0:Ad R)(k1:mG R)(a d e:az)(f:aW):aC R:=bif decide (a<3)then bif cK (f.length+(aE (aT [Ck.l 3] 1) 0 [CV.l 3 (aT [Ck.i ar] (bc 16))]).length) 24 then g1 (bN (a+1)) d e (f++aE (aT [Ck.l 3] 1) 0 [CV.l 3 (aT [Ck.i ar] (bc 16))])else ao else k1 a d e f
def tT(N:aG)(k0:Ad R)(k1:mG R):aG->mG R
 |0=>λ_ _ _ _=>ao
 |n+1=>zV N (λx0 x1 x2=>ao) (tT N k0 k1 n) k0 k1
def l3(N:aG)(k0:Ad R)(k1:mG R):aG->Ad R
 |0=>λ_ _ _=>ao
 |n+1=>r3 N (l3 N k0 k1 n) (tT N k0 k1 n) k0 k1
def b(N:aG)(kr:Gf R):aC R:=l3 N (λ_ _ a=>kr [] a) (λ_ _ a d=>kr d a) N 0 0 0
def vo:=b Lib.c9 λr0 r1=>aj (r0,r1)
def c:=vo.isSome
def v:=vo.getD ([],0)
end Ey

namespace Uk
def b(kr:wK R):aC R:=kr [] [] ([]++aE (aT [Ck.l 3] 1) 0 [CV.l 3 (aT [Ck.i ar] (bc 16))]++aE (aT [Ck.l 3] 1) 0 [CV.l 3 (aT [Ck.i ar] (bc 16))]++aE (aT [Ck.l 3] 1) 0 [CV.l 3 (aT [Ck.i ar] (bc 16))]) 0
def v:aW×aW×aW×az:=([],[],[]++aE (aT [Ck.l 3] 1) 0 [CV.l 3 (aT [Ck.i ar] (bc 16))]++aE (aT [Ck.l 3] 1) 0 [CV.l 3 (aT [Ck.i ar] (bc 16))]++aE (aT [Ck.l 3] 1) 0 [CV.l 3 (aT [Ck.i ar] (bc 16))],0)
theorem fM(kr:wK R):b kr=kr v.1 v.2.1 v.2.2.1 v.2.2.2:=by first|rfl|(unfold b v;simp only[c_];(repeat' split)<;>rfl)
end Uk

namespace Uj
def b(kr:fa R):aC R:=kr 1 [] [] [] ([]++aE (aT [Ck.l 3] 1) 0 [CV.l 3 (aT [Ck.i ar] (bc 16))]++aE (aT [Ck.l 3] 1) 0 [CV.l 3 (aT [Ck.i ar] (bc 16))]++aE (aT [Ck.l 3] 1) 0 [CV.l 3 (aT [Ck.i ar] (bc 16))]) 0 [] [] 0
def v:az×aW×aW×aW×aW×az×aW×aW×az:=(1,[],[],[],[]++aE (aT [Ck.l 3] 1) 0 [CV.l 3 (aT [Ck.i ar] (bc 16))]++aE (aT [Ck.l 3] 1) 0 [CV.l 3 (aT [Ck.i ar] (bc 16))]++aE (aT [Ck.l 3] 1) 0 [CV.l 3 (aT [Ck.i ar] (bc 16))],0,[],[],0)
theorem fM(kr:fa R):b kr=kr v.1 v.2.1 v.2.2.1 v.2.2.2.1 v.2.2.2.2.1 v.2.2.2.2.2.1 v.2.2.2.2.2.2.1 v.2.2.2.2.2.2.2.1 v.2.2.2.2.2.2.2.2:=by first|rfl|(unfold b v;simp only[c_];(repeat' split)<;>rfl)
end Uj

namespace bS
def b(kr:Ou R)(a:aW)(d e:az):aC R:=bif decide (d<(a.length:az))then bif decide (0<=d)&&decide (d<(a.length:az))then kr (bN (↑(dR (i_ (b_ 64 (bN (bN (↑(dR (i_ (b_ 64 (bN (↑(dR (lG (b_ 64 (kP (bN (bN (e*6364136223846793005)+1442695040888963407)) (g9 2 (if bc 33<=64 then bc 33 else 64)))) (b_ 64 (kP (bN (bN (e*6364136223846793005)+1442695040888963407)) (g9 2 (if bc 45<=64 then bc 45 else 64)))))):az))) (b_ 64 255))):az)+bN (bY (aw a d.toNat 0))))) (b_ 64 255))):az)) a (bN (d+1)) (bN (bN (e*6364136223846793005)+1442695040888963407))else ao else kr (bN (↑(dR (i_ (b_ 64 (bN (↑(dR (lG (b_ 64 (kP (bN (bN (e*6364136223846793005)+1442695040888963407)) (g9 2 (if bc 33<=64 then bc 33 else 64)))) (b_ 64 (kP (bN (bN (e*6364136223846793005)+1442695040888963407)) (g9 2 (if bc 45<=64 then bc 45 else 64)))))):az))) (b_ 64 255))):az)) a d (bN (bN (e*6364136223846793005)+1442695040888963407))
def vo:=b λr0 r1 r2 r3=>aj (r0,r1,r2,r3)
def c:=λa d e=>(vo a d e).isSome
def v:=λa d e=>(vo a d e).getD (0,[],0,0)
theorem out{x}:∀a d e,vo a d e=aj x->c a d e=ak/\v a d e=x:=λ_ _ _=>Lib.dB
end bS

namespace gL
def b(kr:Ou R)(a:aW)(d e f:az):aC R:=bif decide (f<=0)then kr 0 a d e else bif decide (f<=256)then bif bS.c a d e then bif !decide (f=0)then kr (cG (bS.v a d e).1 f) (bS.v a d e).2.1 (bS.v a d e).2.2.1 (bS.v a d e).2.2.2 else ao else ao else bif bS.c a d e then bif bS.c (bS.v a d e).2.1 (bS.v a d e).2.2.1 (bS.v a d e).2.2.2 then bif bS.c (bS.v (bS.v a d e).2.1 (bS.v a d e).2.2.1 (bS.v a d e).2.2.2).2.1 (bS.v (bS.v a d e).2.1 (bS.v a d e).2.2.1 (bS.v a d e).2.2.2).2.2.1 (bS.v (bS.v a d e).2.1 (bS.v a d e).2.2.1 (bS.v a d e).2.2.2).2.2.2 then bif bS.c (bS.v (bS.v (bS.v a d e).2.1 (bS.v a d e).2.2.1 (bS.v a d e).2.2.2).2.1 (bS.v (bS.v a d e).2.1 (bS.v a d e).2.2.1 (bS.v a d e).2.2.2).2.2.1 (bS.v (bS.v a d e).2.1 (bS.v a d e).2.2.1 (bS.v a d e).2.2.2).2.2.2).2.1 (bS.v (bS.v (bS.v a d e).2.1 (bS.v a d e).2.2.1 (bS.v a d e).2.2.2).2.1 (bS.v (bS.v a d e).2.1 (bS.v a d e).2.2.1 (bS.v a d e).2.2.2).2.2.1 (bS.v (bS.v a d e).2.1 (bS.v a d e).2.2.1 (bS.v a d e).2.2.2).2.2.2).2.2.1 (bS.v (bS.v (bS.v a d e).2.1 (bS.v a d e).2.2.1 (bS.v a d e).2.2.2).2.1 (bS.v (bS.v a d e).2.1 (bS.v a d e).2.2.1 (bS.v a d e).2.2.2).2.2.1 (bS.v (bS.v a d e).2.1 (bS.v a d e).2.2.1 (bS.v a d e).2.2.2).2.2.2).2.2.2 then bif !decide (f=0)then kr (cG (bN (bN (bN (bN ((bS.v a d e).1*16777216)+bN ((bS.v (bS.v a d e).2.1 (bS.v a d e).2.2.1 (bS.v a d e).2.2.2).1*65536))+bN ((bS.v (bS.v (bS.v a d e).2.1 (bS.v a d e).2.2.1 (bS.v a d e).2.2.2).2.1 (bS.v (bS.v a d e).2.1 (bS.v a d e).2.2.1 (bS.v a d e).2.2.2).2.2.1 (bS.v (bS.v a d e).2.1 (bS.v a d e).2.2.1 (bS.v a d e).2.2.2).2.2.2).1*256))+(bS.v (bS.v (bS.v (bS.v a d e).2.1 (bS.v a d e).2.2.1 (bS.v a d e).2.2.2).2.1 (bS.v (bS.v a d e).2.1 (bS.v a d e).2.2.1 (bS.v a d e).2.2.2).2.2.1 (bS.v (bS.v a d e).2.1 (bS.v a d e).2.2.1 (bS.v a d e).2.2.2).2.2.2).2.1 (bS.v (bS.v (bS.v a d e).2.1 (bS.v a d e).2.2.1 (bS.v a d e).2.2.2).2.1 (bS.v (bS.v a d e).2.1 (bS.v a d e).2.2.1 (bS.v a d e).2.2.2).2.2.1 (bS.v (bS.v a d e).2.1 (bS.v a d e).2.2.1 (bS.v a d e).2.2.2).2.2.2).2.2.1 (bS.v (bS.v (bS.v a d e).2.1 (bS.v a d e).2.2.1 (bS.v a d e).2.2.2).2.1 (bS.v (bS.v a d e).2.1 (bS.v a d e).2.2.1 (bS.v a d e).2.2.2).2.2.1 (bS.v (bS.v a d e).2.1 (bS.v a d e).2.2.1 (bS.v a d e).2.2.2).2.2.2).2.2.2).1)) f) (bS.v (bS.v (bS.v (bS.v a d e).2.1 (bS.v a d e).2.2.1 (bS.v a d e).2.2.2).2.1 (bS.v (bS.v a d e).2.1 (bS.v a d e).2.2.1 (bS.v a d e).2.2.2).2.2.1 (bS.v (bS.v a d e).2.1 (bS.v a d e).2.2.1 (bS.v a d e).2.2.2).2.2.2).2.1 (bS.v (bS.v (bS.v a d e).2.1 (bS.v a d e).2.2.1 (bS.v a d e).2.2.2).2.1 (bS.v (bS.v a d e).2.1 (bS.v a d e).2.2.1 (bS.v a d e).2.2.2).2.2.1 (bS.v (bS.v a d e).2.1 (bS.v a d e).2.2.1 (bS.v a d e).2.2.2).2.2.2).2.2.1 (bS.v (bS.v (bS.v a d e).2.1 (bS.v a d e).2.2.1 (bS.v a d e).2.2.2).2.1 (bS.v (bS.v a d e).2.1 (bS.v a d e).2.2.1 (bS.v a d e).2.2.2).2.2.1 (bS.v (bS.v a d e).2.1 (bS.v a d e).2.2.1 (bS.v a d e).2.2.2).2.2.2).2.2.2).2.1 (bS.v (bS.v (bS.v (bS.v a d e).2.1 (bS.v a d e).2.2.1 (bS.v a d e).2.2.2).2.1 (bS.v (bS.v a d e).2.1 (bS.v a d e).2.2.1 (bS.v a d e).2.2.2).2.2.1 (bS.v (bS.v a d e).2.1 (bS.v a d e).2.2.1 (bS.v a d e).2.2.2).2.2.2).2.1 (bS.v (bS.v (bS.v a d e).2.1 (bS.v a d e).2.2.1 (bS.v a d e).2.2.2).2.1 (bS.v (bS.v a d e).2.1 (bS.v a d e).2.2.1 (bS.v a d e).2.2.2).2.2.1 (bS.v (bS.v a d e).2.1 (bS.v a d e).2.2.1 (bS.v a d e).2.2.2).2.2.2).2.2.1 (bS.v (bS.v (bS.v a d e).2.1 (bS.v a d e).2.2.1 (bS.v a d e).2.2.2).2.1 (bS.v (bS.v a d e).2.1 (bS.v a d e).2.2.1 (bS.v a d e).2.2.2).2.2.1 (bS.v (bS.v a d e).2.1 (bS.v a d e).2.2.1 (bS.v a d e).2.2.2).2.2.2).2.2.2).2.2.1 (bS.v (bS.v (bS.v (bS.v a d e).2.1 (bS.v a d e).2.2.1 (bS.v a d e).2.2.2).2.1 (bS.v (bS.v a d e).2.1 (bS.v a d e).2.2.1 (bS.v a d e).2.2.2).2.2.1 (bS.v (bS.v a d e).2.1 (bS.v a d e).2.2.1 (bS.v a d e).2.2.2).2.2.2).2.1 (bS.v (bS.v (bS.v a d e).2.1 (bS.v a d e).2.2.1 (bS.v a d e).2.2.2).2.1 (bS.v (bS.v a d e).2.1 (bS.v a d e).2.2.1 (bS.v a d e).2.2.2).2.2.1 (bS.v (bS.v a d e).2.1 (bS.v a d e).2.2.1 (bS.v a d e).2.2.2).2.2.2).2.2.1 (bS.v (bS.v (bS.v a d e).2.1 (bS.v a d e).2.2.1 (bS.v a d e).2.2.2).2.1 (bS.v (bS.v a d e).2.1 (bS.v a d e).2.2.1 (bS.v a d e).2.2.2).2.2.1 (bS.v (bS.v a d e).2.1 (bS.v a d e).2.2.1 (bS.v a d e).2.2.2).2.2.2).2.2.2).2.2.2 else ao else ao else ao else ao else ao
def vo:=b λr0 r1 r2 r3=>aj (r0,r1,r2,r3)
def c:=λa d e f=>(vo a d e f).isSome
def v:=λa d e f=>(vo a d e f).getD (0,[],0,0)
theorem out{x}:∀a d e f,vo a d e f=aj x->c a d e f=ak/\v a d e f=x:=λ_ _ _ _=>Lib.dB
end gL

namespace yG
def b(kr:zu R)(a:aW)(d e:az)(f:aW):aC R:=bif gL.c a d e (f.length:az)then bif decide (0<=(gL.v a d e (f.length:az)).1)&&decide ((gL.v a d e (f.length:az)).1<(f.length:az))then kr (bY (aw f (gL.v a d e (f.length:az)).1.toNat 0)) (gL.v a d e (f.length:az)).2.1 (gL.v a d e (f.length:az)).2.2.1 (gL.v a d e (f.length:az)).2.2.2 f else ao else ao
def vo:=b λr0 r1 r2 r3 r4=>aj (r0,r1,r2,r3,r4)
def c:=λa d e f=>(vo a d e f).isSome
def v:=λa d e f=>(vo a d e f).getD (0,[],0,0,[])
theorem out{x}:∀a d e f,vo a d e f=aj x->c a d e f=ak/\v a d e f=x:=λ_ _ _ _=>Lib.dB
end yG

namespace o6
def b(kr:T7 R)(a:aW)(d e:az)(f:aW):aC R:=bif gL.c a d e (f.length:az)then bif decide (0<=(gL.v a d e (f.length:az)).1)&&decide ((gL.v a d e (f.length:az)).1<(f.length:az))then kr (bH (aw f (gL.v a d e (f.length:az)).1.toNat 0)) (gL.v a d e (f.length:az)).2.1 (gL.v a d e (f.length:az)).2.2.1 (gL.v a d e (f.length:az)).2.2.2 f else ao else ao
def vo:=b λr0 r1 r2 r3 r4=>aj (r0,r1,r2,r3,r4)
def c:=λa d e f=>(vo a d e f).isSome
def v:=λa d e f=>(vo a d e f).getD (⟨#[]⟩,[],0,0,[])
theorem out{x}:∀a d e f,vo a d e f=aj x->c a d e f=ak/\v a d e f=x:=λ_ _ _ _=>Lib.dB
end o6

namespace tJ
def b(kr:aav R)(a:aW)(d e:az):aC R:=bif o6.c a d e (aE (aE (aE (aE (aE (aE (aE (aE (aT [.s] 8) 0 [.s {data:= #[ax 47,ax 97]}]) 1 [.s {data:= #[ax 47,ax 98]}]) 2 [.s {data:= #[ax 47,ax 99]}]) 3 [.s {data:= #[ax 47,ax 100]}]) 4 [.s {data:= #[ax 47,ax 101]}]) 5 [.s {data:= #[ax 47,ax 102]}]) 6 [.s {data:= #[ax 47,ax 103]}]) 7 [.s {data:= #[ax 47,ax 104]}])then kr (o6.v a d e (aE (aE (aE (aE (aE (aE (aE (aE (aT [.s] 8) 0 [.s {data:= #[ax 47,ax 97]}]) 1 [.s {data:= #[ax 47,ax 98]}]) 2 [.s {data:= #[ax 47,ax 99]}]) 3 [.s {data:= #[ax 47,ax 100]}]) 4 [.s {data:= #[ax 47,ax 101]}]) 5 [.s {data:= #[ax 47,ax 102]}]) 6 [.s {data:= #[ax 47,ax 103]}]) 7 [.s {data:= #[ax 47,ax 104]}])).1 (o6.v a d e (aE (aE (aE (aE (aE (aE (aE (aE (aT [.s] 8) 0 [.s {data:= #[ax 47,ax 97]}]) 1 [.s {data:= #[ax 47,ax 98]}]) 2 [.s {data:= #[ax 47,ax 99]}]) 3 [.s {data:= #[ax 47,ax 100]}]) 4 [.s {data:= #[ax 47,ax 101]}]) 5 [.s {data:= #[ax 47,ax 102]}]) 6 [.s {data:= #[ax 47,ax 103]}]) 7 [.s {data:= #[ax 47,ax 104]}])).2.1 (o6.v a d e (aE (aE (aE (aE (aE (aE (aE (aE (aT [.s] 8) 0 [.s {data:= #[ax 47,ax 97]}]) 1 [.s {data:= #[ax 47,ax 98]}]) 2 [.s {data:= #[ax 47,ax 99]}]) 3 [.s {data:= #[ax 47,ax 100]}]) 4 [.s {data:= #[ax 47,ax 101]}]) 5 [.s {data:= #[ax 47,ax 102]}]) 6 [.s {data:= #[ax 47,ax 103]}]) 7 [.s {data:= #[ax 47,ax 104]}])).2.2.1 (o6.v a d e (aE (aE (aE (aE (aE (aE (aE (aE (aT [.s] 8) 0 [.s {data:= #[ax 47,ax 97]}]) 1 [.s {data:= #[ax 47,ax 98]}]) 2 [.s {data:= #[ax 47,ax 99]}]) 3 [.s {data:= #[ax 47,ax 100]}]) 4 [.s {data:= #[ax 47,ax 101]}]) 5 [.s {data:= #[ax 47,ax 102]}]) 6 [.s {data:= #[ax 47,ax 103]}]) 7 [.s {data:= #[ax 47,ax 104]}])).2.2.2.1 else ao
def vo:=b λr0 r1 r2 r3=>aj (r0,r1,r2,r3)
def c:=λa d e=>(vo a d e).isSome
def v:=λa d e=>(vo a d e).getD (⟨#[]⟩,[],0,0)
theorem out{x}:∀a d e,vo a d e=aj x->c a d e=ak/\v a d e=x:=λ_ _ _=>Lib.dB
end tJ

namespace tK
def b(kr:aat R)(a:aW)(d e f:az):aC R:=bif gL.c a d e f then kr (decide ((gL.v a d e f).1=0)) (gL.v a d e f).2.1 (gL.v a d e f).2.2.1 (gL.v a d e f).2.2.2 else ao
def vo:=b λr0 r1 r2 r3=>aj (r0,r1,r2,r3)
def c:=λa d e f=>(vo a d e f).isSome
def v:=λa d e f=>(vo a d e f).getD (aq,[],0,0)
theorem out{x}:∀a d e f,vo a d e f=aj x->c a d e f=ak/\v a d e f=x:=λ_ _ _ _=>Lib.dB
end tK

namespace uH
def r4(N:aG)(g k0:gH R)(a d e f:az)(h:aW)(i j:az)(l m o p q r s t u:aW)(w y z α xa:az)(xb:au)(xc xd xe:az)(xf:au)(xg:az)(xh:aW):aC R:=bif decide (f<(q.length:az))then bif decide (0<=f)&&decide (f<(q.length:az))then bif decide (bY (aw q f.toNat 2)=1)then bif cK (xh.length+(aE (aT [Ck.i ar] 1) 0 [.i .i64 f]).length) 8 then g a d e (bN (f+1)) h i j l m o p q r s t u w y z α xa xb xc xd xe xf xg (xh++aE (aT [Ck.i ar] 1) 0 [.i .i64 f])else ao else g a d e (bN (f+1)) h i j l m o p q r s t u w y z α xa xb xc xd xe xf xg xh else ao else k0 a d e f h i j l m o p q r s t u w y z α xa xb xc xd xe xf xg xh
def l4(N:aG)(k0:gH R):aG->gH R
 |0=>λ_ _ _ _ _ _ _ _ _ _ _ _ _ _ _ _ _ _ _ _ _ _ _ _ _ _ _ _=>ao
 |n+1=>r4 N (l4 N k0 n) k0
abbrev h0{R:Type}(kr:ik R)(w:aW)(y z:az)(α xa xb xc xd xe xf xg xh:aW)(xi:az)(xk:au)(xl:az)(xm:aW):aC R:=bif gL.c w y z 3 then Lib.lt (gL.v w y z 3) λxn=>bif decide ((xm.length:az)>0)then bif tK.c xn.2.1 xn.2.2.1 xn.2.2.2 6 then Lib.lt (tK.v xn.2.1 xn.2.2.1 xn.2.2.2 6) λxo=>bif !xo.1 then bif gL.c xo.2.1 xo.2.2.1 xo.2.2.2 (xm.length:az)then Lib.lt (gL.v xo.2.1 xo.2.2.1 xo.2.2.2 (xm.length:az)) λxp=>bif decide (0<=xp.1)&&decide (xp.1<(xm.length:az))then bif decide (xi=2)then bif o6.c xp.2.1 xp.2.2.1 xp.2.2.2 (aE (aE (aE (aE (aT [.s] 4) 0 [.s {data:= #[ax 120]}]) 1 [.s {data:= #[ax 104,ax 101,ax 108,ax 108,ax 111]}]) 2 [.s {data:= #[ax 109,ax 111,ax 114,ax 101,ax 32]}]) 3 [.s {data:= #[ax 48,ax 49,ax 50,ax 51,ax 52,ax 53,ax 54,ax 55,ax 56,ax 57]}])then Lib.lt (o6.v xp.2.1 xp.2.2.1 xp.2.2.2 (aE (aE (aE (aE (aT [.s] 4) 0 [.s {data:= #[ax 120]}]) 1 [.s {data:= #[ax 104,ax 101,ax 108,ax 108,ax 111]}]) 2 [.s {data:= #[ax 109,ax 111,ax 114,ax 101,ax 32]}]) 3 [.s {data:= #[ax 48,ax 49,ax 50,ax 51,ax 52,ax 53,ax 54,ax 55,ax 56,ax 57]}])) λxq=>bif decide (xi=3)then bif yG.c xq.2.1 xq.2.2.1 xq.2.2.2.1 (aE (aE (aE (aE (aE (aT [Ck.i ar] 5) 0 [.i .i64 0]) 1 [.i .i64 3]) 2 [.i .i64 20]) 3 [.i .i64 60]) 4 [.i .i64 60])then Lib.lt (yG.v xq.2.1 xq.2.2.1 xq.2.2.2.1 (aE (aE (aE (aE (aE (aT [Ck.i ar] 5) 0 [.i .i64 0]) 1 [.i .i64 3]) 2 [.i .i64 20]) 3 [.i .i64 60]) 4 [.i .i64 60])) λxr=>kr xi (bY (aw xm xp.1.toNat 0)) xq.1 xr.1 [] xr.2.1 xr.2.2.1 xr.2.2.2.1 α xa xb xc xd xe xf xg xh else ao else kr xi (bY (aw xm xp.1.toNat 0)) xq.1 xl [] xq.2.1 xq.2.2.1 xq.2.2.2.1 α xa xb xc xd xe xf xg xh else ao else bif decide (xi=3)then bif yG.c xp.2.1 xp.2.2.1 xp.2.2.2 (aE (aE (aE (aE (aE (aT [Ck.i ar] 5) 0 [.i .i64 0]) 1 [.i .i64 3]) 2 [.i .i64 20]) 3 [.i .i64 60]) 4 [.i .i64 60])then Lib.lt (yG.v xp.2.1 xp.2.2.1 xp.2.2.2 (aE (aE (aE (aE (aE (aT [Ck.i ar] 5) 0 [.i .i64 0]) 1 [.i .i64 3]) 2 [.i .i64 20]) 3 [.i .i64 60]) 4 [.i .i64 60])) λxq=>kr xi (bY (aw xm xp.1.toNat 0)) xk xq.1 [] xq.2.1 xq.2.2.1 xq.2.2.2.1 α xa xb xc xd xe xf xg xh else ao else kr xi (bY (aw xm xp.1.toNat 0)) xk xl [] xp.2.1 xp.2.2.1 xp.2.2.2 α xa xb xc xd xe xf xg xh else ao else ao else bif decide (xi=2)then bif o6.c xo.2.1 xo.2.2.1 xo.2.2.2 (aE (aE (aE (aE (aT [.s] 4) 0 [.s {data:= #[ax 120]}]) 1 [.s {data:= #[ax 104,ax 101,ax 108,ax 108,ax 111]}]) 2 [.s {data:= #[ax 109,ax 111,ax 114,ax 101,ax 32]}]) 3 [.s {data:= #[ax 48,ax 49,ax 50,ax 51,ax 52,ax 53,ax 54,ax 55,ax 56,ax 57]}])then Lib.lt (o6.v xo.2.1 xo.2.2.1 xo.2.2.2 (aE (aE (aE (aE (aT [.s] 4) 0 [.s {data:= #[ax 120]}]) 1 [.s {data:= #[ax 104,ax 101,ax 108,ax 108,ax 111]}]) 2 [.s {data:= #[ax 109,ax 111,ax 114,ax 101,ax 32]}]) 3 [.s {data:= #[ax 48,ax 49,ax 50,ax 51,ax 52,ax 53,ax 54,ax 55,ax 56,ax 57]}])) λxp=>bif decide (xi=3)then bif yG.c xp.2.1 xp.2.2.1 xp.2.2.2.1 (aE (aE (aE (aE (aE (aT [Ck.i ar] 5) 0 [.i .i64 0]) 1 [.i .i64 3]) 2 [.i .i64 20]) 3 [.i .i64 60]) 4 [.i .i64 60])then Lib.lt (yG.v xp.2.1 xp.2.2.1 xp.2.2.2.1 (aE (aE (aE (aE (aE (aT [Ck.i ar] 5) 0 [.i .i64 0]) 1 [.i .i64 3]) 2 [.i .i64 20]) 3 [.i .i64 60]) 4 [.i .i64 60])) λxq=>kr xi xn.1 xp.1 xq.1 [] xq.2.1 xq.2.2.1 xq.2.2.2.1 α xa xb xc xd xe xf xg xh else ao else kr xi xn.1 xp.1 xl [] xp.2.1 xp.2.2.1 xp.2.2.2.1 α xa xb xc xd xe xf xg xh else ao else bif decide (xi=3)then bif yG.c xo.2.1 xo.2.2.1 xo.2.2.2 (aE (aE (aE (aE (aE (aT [Ck.i ar] 5) 0 [.i .i64 0]) 1 [.i .i64 3]) 2 [.i .i64 20]) 3 [.i .i64 60]) 4 [.i .i64 60])then Lib.lt (yG.v xo.2.1 xo.2.2.1 xo.2.2.2 (aE (aE (aE (aE (aE (aT [Ck.i ar] 5) 0 [.i .i64 0]) 1 [.i .i64 3]) 2 [.i .i64 20]) 3 [.i .i64 60]) 4 [.i .i64 60])) λxp=>kr xi xn.1 xk xp.1 [] xp.2.1 xp.2.2.1 xp.2.2.2.1 α xa xb xc xd xe xf xg xh else ao else kr xi xn.1 xk xl [] xo.2.1 xo.2.2.1 xo.2.2.2 α xa xb xc xd xe xf xg xh else ao else bif decide (xi=2)then bif o6.c xn.2.1 xn.2.2.1 xn.2.2.2 (aE (aE (aE (aE (aT [.s] 4) 0 [.s {data:= #[ax 120]}]) 1 [.s {data:= #[ax 104,ax 101,ax 108,ax 108,ax 111]}]) 2 [.s {data:= #[ax 109,ax 111,ax 114,ax 101,ax 32]}]) 3 [.s {data:= #[ax 48,ax 49,ax 50,ax 51,ax 52,ax 53,ax 54,ax 55,ax 56,ax 57]}])then Lib.lt (o6.v xn.2.1 xn.2.2.1 xn.2.2.2 (aE (aE (aE (aE (aT [.s] 4) 0 [.s {data:= #[ax 120]}]) 1 [.s {data:= #[ax 104,ax 101,ax 108,ax 108,ax 111]}]) 2 [.s {data:= #[ax 109,ax 111,ax 114,ax 101,ax 32]}]) 3 [.s {data:= #[ax 48,ax 49,ax 50,ax 51,ax 52,ax 53,ax 54,ax 55,ax 56,ax 57]}])) λxo=>bif decide (xi=3)then bif yG.c xo.2.1 xo.2.2.1 xo.2.2.2.1 (aE (aE (aE (aE (aE (aT [Ck.i ar] 5) 0 [.i .i64 0]) 1 [.i .i64 3]) 2 [.i .i64 20]) 3 [.i .i64 60]) 4 [.i .i64 60])then Lib.lt (yG.v xo.2.1 xo.2.2.1 xo.2.2.2.1 (aE (aE (aE (aE (aE (aT [Ck.i ar] 5) 0 [.i .i64 0]) 1 [.i .i64 3]) 2 [.i .i64 20]) 3 [.i .i64 60]) 4 [.i .i64 60])) λxp=>kr xi xn.1 xo.1 xp.1 [] xp.2.1 xp.2.2.1 xp.2.2.2.1 α xa xb xc xd xe xf xg xh else ao else kr xi xn.1 xo.1 xl [] xo.2.1 xo.2.2.1 xo.2.2.2.1 α xa xb xc xd xe xf xg xh else ao else bif decide (xi=3)then bif yG.c xn.2.1 xn.2.2.1 xn.2.2.2 (aE (aE (aE (aE (aE (aT [Ck.i ar] 5) 0 [.i .i64 0]) 1 [.i .i64 3]) 2 [.i .i64 20]) 3 [.i .i64 60]) 4 [.i .i64 60])then Lib.lt (yG.v xn.2.1 xn.2.2.1 xn.2.2.2 (aE (aE (aE (aE (aE (aT [Ck.i ar] 5) 0 [.i .i64 0]) 1 [.i .i64 3]) 2 [.i .i64 20]) 3 [.i .i64 60]) 4 [.i .i64 60])) λxo=>kr xi xn.1 xk xo.1 [] xo.2.1 xo.2.2.1 xo.2.2.2.1 α xa xb xc xd xe xf xg xh else ao else kr xi xn.1 xk xl [] xn.2.1 xn.2.2.1 xn.2.2.2 α xa xb xc xd xe xf xg xh else ao
abbrev h1{R:Type}(kr:ik R)(w:aW)(y z:az)(α xa xb xc xd xe xf xg xh:aW)(xi xj:az)(xk:au)(xl:az):aC R:=bif decide (xi=5)then bif yG.c w y z (aE (aE (aE (aE (aT [Ck.i ar] 4) 0 [.i .i64 1]) 1 [.i .i64 2]) 2 [.i .i64 5]) 3 [.i .i64 30])then Lib.lt (yG.v w y z (aE (aE (aE (aE (aT [Ck.i ar] 4) 0 [.i .i64 1]) 1 [.i .i64 2]) 2 [.i .i64 5]) 3 [.i .i64 30])) λxn=>kr xi xj xk xn.1 [] xn.2.1 xn.2.2.1 xn.2.2.2.1 α xa xb xc xd xe xf xg xh else ao else bif decide (xi=6)then bif gL.c w y z 9 then Lib.lt (gL.v w y z 9) λxn=>bif decide ((xe.length:az)>0)then bif tK.c xn.2.1 xn.2.2.1 xn.2.2.2 4 then Lib.lt (tK.v xn.2.1 xn.2.2.1 xn.2.2.2 4) λxo=>bif !xo.1 then bif gL.c xo.2.1 xo.2.2.1 xo.2.2.2 (xe.length:az)then Lib.lt (gL.v xo.2.1 xo.2.2.1 xo.2.2.2 (xe.length:az)) λxp=>bif decide (0<=xp.1)&&decide (xp.1<(xe.length:az))then kr xi (bY (aw xe xp.1.toNat 0)) xk xl [] xp.2.1 xp.2.2.1 xp.2.2.2 α xa xb xc xd xe xf xg xh else ao else ao else kr xi (bN (1+xn.1)) xk xl [] xo.2.1 xo.2.2.1 xo.2.2.2 α xa xb xc xd xe xf xg xh else ao else kr xi (bN (1+xn.1)) xk xl [] xn.2.1 xn.2.2.1 xn.2.2.2 α xa xb xc xd xe xf xg xh else ao else kr xi xj xk xl [] w y z α xa xb xc xd xe xf xg xh
abbrev h2{R:Type}(kr:ik R)(w:aW)(y z:az)(α xa xb xc xd xe xf xg xh:aW)(xk:au)(xl:az):aC R:=bif gL.c w y z 9 then Lib.lt (gL.v w y z 9) λxn=>bif decide ((xe.length:az)>0)then bif tK.c xn.2.1 xn.2.2.1 xn.2.2.2 4 then Lib.lt (tK.v xn.2.1 xn.2.2.1 xn.2.2.2 4) λxo=>bif !xo.1 then bif gL.c xo.2.1 xo.2.2.1 xo.2.2.2 (xe.length:az)then Lib.lt (gL.v xo.2.1 xo.2.2.1 xo.2.2.2 (xe.length:az)) λxp=>bif decide (0<=xp.1)&&decide (xp.1<(xe.length:az))then kr 6 (bY (aw xe xp.1.toNat 0)) xk xl [] xp.2.1 xp.2.2.1 xp.2.2.2 α xa xb xc xd xe xf xg xh else ao else ao else kr 6 (bN (1+xn.1)) xk xl [] xo.2.1 xo.2.2.1 xo.2.2.2 α xa xb xc xd xe xf xg xh else ao else kr 6 (bN (1+xn.1)) xk xl [] xn.2.1 xn.2.2.1 xn.2.2.2 α xa xb xc xd xe xf xg xh else ao
abbrev h3{R:Type}(kr:ik R)(w:aW)(y z:az)(α xa xb xc xd xe xf xg xh:aW)(xi xl:az):aC R:=bif gL.c w y z 9 then Lib.lt (gL.v w y z 9) λxn=>bif tJ.c xn.2.1 xn.2.2.1 xn.2.2.2 then Lib.lt (tJ.v xn.2.1 xn.2.2.1 xn.2.2.2) λxo=>kr xi (bN (1+xn.1)) xo.1 xl [] xo.2.1 xo.2.2.1 xo.2.2.2 α xa xb xc xd xe xf xg xh else ao else ao
def b(N:aG)(kr:ik R)(a:aW)(d e f:az)(h i j l:aW)(m:az)(o p:aW)(q:az)(r s t:aW):aC R:=bif yG.c a d e (aE (aE (aE (aE (aE (aE (aE (aE (aE (aE (aE (aE (aE (aE (aT [Ck.i ar] 14) 0 [.i .i64 1]) 1 [.i .i64 1]) 2 [.i .i64 1]) 3 [.i .i64 1]) 4 [.i .i64 2]) 5 [.i .i64 2]) 6 [.i .i64 2]) 7 [.i .i64 3]) 8 [.i .i64 3]) 9 [.i .i64 3]) 10 [.i .i64 4]) 11 [.i .i64 5]) 12 [.i .i64 6]) 13 [.i .i64 6])then Lib.lt (yG.v a d e (aE (aE (aE (aE (aE (aE (aE (aE (aE (aE (aE (aE (aE (aE (aT [Ck.i ar] 14) 0 [.i .i64 1]) 1 [.i .i64 1]) 2 [.i .i64 1]) 3 [.i .i64 1]) 4 [.i .i64 2]) 5 [.i .i64 2]) 6 [.i .i64 2]) 7 [.i .i64 3]) 8 [.i .i64 3]) 9 [.i .i64 3]) 10 [.i .i64 4]) 11 [.i .i64 5]) 12 [.i .i64 6]) 13 [.i .i64 6])) λu=>l4 N (λ_ _ _ _ w y z α xa xb xc xd xe xf xg xh _ _ _ _ _ _ _ xi xj xk xl xm=>bif decide ((xm.length:az)=0)then bif decide (xi=2)then bif decide ((xe.length:az)≥6)then h2 kr w y z α xa xb xc xd xe xf xg xh xk xl else bif gL.c w y z 9 then Lib.lt (gL.v w y z 9) λxn=>bif tJ.c xn.2.1 xn.2.2.1 xn.2.2.2 then Lib.lt (tJ.v xn.2.1 xn.2.2.1 xn.2.2.2) λxo=>kr 1 (bN (1+xn.1)) xo.1 xl [] xo.2.1 xo.2.2.1 xo.2.2.2 α xa xb xc xd xe xf xg xh else ao else ao else bif decide (xi=3)then bif decide ((xe.length:az)≥6)then h2 kr w y z α xa xb xc xd xe xf xg xh xk xl else bif gL.c w y z 9 then Lib.lt (gL.v w y z 9) λxn=>bif tJ.c xn.2.1 xn.2.2.1 xn.2.2.2 then Lib.lt (tJ.v xn.2.1 xn.2.2.1 xn.2.2.2) λxo=>kr 1 (bN (1+xn.1)) xo.1 xl [] xo.2.1 xo.2.2.1 xo.2.2.2 α xa xb xc xd xe xf xg xh else ao else ao else bif decide ((xe.length:az)≥6)then bif decide (xi=1)then h2 kr w y z α xa xb xc xd xe xf xg xh xk xl else bif decide (xi=1)then h3 kr w y z α xa xb xc xd xe xf xg xh xi xl else bif decide (xi=2)then h0 kr w y z α xa xb xc xd xe xf xg xh xi xk xl xm else bif decide (xi=3)then h0 kr w y z α xa xb xc xd xe xf xg xh xi xk xl xm else bif decide (xi=4)then h0 kr w y z α xa xb xc xd xe xf xg xh xi xk xl xm else h1 kr w y z α xa xb xc xd xe xf xg xh xi xj xk xl else bif decide (xi=1)then h3 kr w y z α xa xb xc xd xe xf xg xh xi xl else bif decide (xi=2)then h0 kr w y z α xa xb xc xd xe xf xg xh xi xk xl xm else bif decide (xi=3)then h0 kr w y z α xa xb xc xd xe xf xg xh xi xk xl xm else bif decide (xi=4)then h0 kr w y z α xa xb xc xd xe xf xg xh xi xk xl xm else h1 kr w y z α xa xb xc xd xe xf xg xh xi xj xk xl else bif decide ((xe.length:az)≥6)then bif decide (xi=1)then h2 kr w y z α xa xb xc xd xe xf xg xh xk xl else bif decide (xi=1)then h3 kr w y z α xa xb xc xd xe xf xg xh xi xl else bif decide (xi=2)then h0 kr w y z α xa xb xc xd xe xf xg xh xi xk xl xm else bif decide (xi=3)then h0 kr w y z α xa xb xc xd xe xf xg xh xi xk xl xm else bif decide (xi=4)then h0 kr w y z α xa xb xc xd xe xf xg xh xi xk xl xm else h1 kr w y z α xa xb xc xd xe xf xg xh xi xj xk xl else bif decide (xi=1)then h3 kr w y z α xa xb xc xd xe xf xg xh xi xl else bif decide (xi=2)then h0 kr w y z α xa xb xc xd xe xf xg xh xi xk xl xm else bif decide (xi=3)then h0 kr w y z α xa xb xc xd xe xf xg xh xi xk xl xm else bif decide (xi=4)then h0 kr w y z α xa xb xc xd xe xf xg xh xi xk xl xm else h1 kr w y z α xa xb xc xd xe xf xg xh xi xj xk xl) N f m q 0 u.2.1 u.2.2.1 u.2.2.2.1 h i j l o p r s t f m q 0 0 ⟨#[]⟩ 0 u.1 0 ⟨#[]⟩ 0 (aT [Ck.i ar] 0)else ao
def vo:=b Lib.c9 λr0 r1 r2 r3 r4 r5 r6 r7 r8 r9 R4 zU r12 r13 r14 r15 r16=>aj (r0,r1,r2,r3,r4,r5,r6,r7,r8,r9,R4,zU,r12,r13,r14,r15,r16)
def c:=λa d e f h i j l m o p q r s t=>(vo a d e f h i j l m o p q r s t).isSome
def v:=λa d e f h i j l m o p q r s t=>(vo a d e f h i j l m o p q r s t).getD (0,0,⟨#[]⟩,0,[],[],0,0,[],[],[],[],[],[],[],[],[])
theorem out{x}:∀a d e f h i j l m o p q r s t,vo a d e f h i j l m o p q r s t=aj x->c a d e f h i j l m o p q r s t=ak/\v a d e f h i j l m o p q r s t=x:=λ_ _ _ _ _ _ _ _ _ _ _ _ _ _ _=>Lib.dB
end uH

namespace nz
def r3(N:aG)(g:qA R)(g1:ox R)(k0:qA R)(k1:ox R)(a:az)(d:aW)(e f h:az):aC R:=bif decide (a<(d.length:az))then bif decide (0<=a)&&decide (a<(d.length:az))then bif cK ((aT [Ck.i ar] 0).length+(jx (aw d a.toNat 0)).length) 8 then g1 (bN (a+1)) d e f h ([]++aE (aT [Ck.l 3] 1) 0 [CV.l 3 (aT [Ck.i ar] 0++jx (aw d a.toNat 0))])else ao else ao else k0 a d e f h
def zV(N:aG)(g:qA R)(g1:ox R)(k0:qA R)(k1:ox R)(a:az)(d:aW)(e f h:az)(i:aW):aC R:=bif decide (a<(d.length:az))then bif decide (0<=a)&&decide (a<(d.length:az))then bif cK ((aT [Ck.i ar] 0).length+(jx (aw d a.toNat 0)).length) 8 then bif cK (i.length+(aE (aT [Ck.l 3] 1) 0 [CV.l 3 (aT [Ck.i ar] 0++jx (aw d a.toNat 0))]).length) 24 then g1 (bN (a+1)) d e f h (i++aE (aT [Ck.l 3] 1) 0 [CV.l 3 (aT [Ck.i ar] 0++jx (aw d a.toNat 0))])else ao else ao else ao else k1 a d e f h i
def tT(N:aG)(k0:qA R)(k1:ox R):aG->ox R
 |0=>λ_ _ _ _ _ _=>ao
 |n+1=>zV N (λx0 x1 x2 x3 x4=>ao) (tT N k0 k1 n) k0 k1
def l3(N:aG)(k0:qA R)(k1:ox R):aG->qA R
 |0=>λ_ _ _ _ _=>ao
 |n+1=>r3 N (l3 N k0 k1 n) (tT N k0 k1 n) k0 k1
def b(N:aG)(kr:Gf R)(a:aW)(d:az):aC R:=l3 N (λ_ _ _ _ e=>kr [] e) (λ_ _ _ _ e f=>kr f e) N 0 a d 0 d
def vo:=b Lib.c9 λr0 r1=>aj (r0,r1)
def c:=λa d=>(vo a d).isSome
def v:=λa d=>(vo a d).getD ([],0)
theorem out{x}:∀a d,vo a d=aj x->c a d=ak/\v a d=x:=λ_ _=>Lib.dB
end nz

namespace fS
def b(kr:wK R)(a d e:aW)(f:az):aC R:=bif cK ((aT [.s] 0).length+a.length) 16 then bif cK ((aT [.s] 0).length+d.length) 16 then bif nz.c e f then kr (aT [.s] 0++a) (aT [.s] 0++d) (nz.v e f).1 (nz.v e f).2 else ao else ao else ao
def vo:=b λr0 r1 r2 r3=>aj (r0,r1,r2,r3)
def c:=λa d e f=>(vo a d e f).isSome
def v:=λa d e f=>(vo a d e f).getD ([],[],[],0)
theorem out{x}:∀a d e f,vo a d e f=aj x->c a d e f=ak/\v a d e f=x:=λ_ _ _ _=>Lib.dB
end fS

namespace kZ
def b(kr:fa R)(a:az)(d e f h:aW)(i:az)(j l:aW)(m:az):aC R:=bif cK ((aT [Ck.s,Ck.i ar,Ck.i ar,Ck.s] 0).length+d.length) 48 then bif fS.c e f h i then bif cK ((aT [Ck.s,Ck.s,Ck.i ar,Ck.i ar,Ck.i ar] 0).length+j.length) 56 then bif cK ((aT [Ck.i ar,Ck.s,Ck.i ar,Ck.i ar,Ck.i ar,Ck.s,Ck.i ar] 0).length+l.length) 72 then kr a (aT [Ck.s,Ck.i ar,Ck.i ar,Ck.s] 0++d) (fS.v e f h i).1 (fS.v e f h i).2.1 (fS.v e f h i).2.2.1 (fS.v e f h i).2.2.2 (aT [Ck.s,Ck.s,Ck.i ar,Ck.i ar,Ck.i ar] 0++j) (aT [Ck.i ar,Ck.s,Ck.i ar,Ck.i ar,Ck.i ar,Ck.s,Ck.i ar] 0++l) m else ao else ao else ao else ao
def vo:=b λr0 r1 r2 r3 r4 r5 r6 r7 r8=>aj (r0,r1,r2,r3,r4,r5,r6,r7,r8)
def c:=λa d e f h i j l m=>(vo a d e f h i j l m).isSome
def v:=λa d e f h i j l m=>(vo a d e f h i j l m).getD (0,[],[],[],[],0,[],[],0)
theorem out{x}:∀a d e f h i j l m,vo a d e f h i j l m=aj x->c a d e f h i j l m=ak/\v a d e f h i j l m=x:=λ_ _ _ _ _ _ _ _ _=>Lib.dB
end kZ

namespace kG
def b(kr:aY->aC R)(a d e:az):aC R:=bif decide (a≥d)then kr (decide (a<=e))else kr aq
def v(a0 a1 a2:az):aY:=bif decide (a0≥a1)then decide (a0<=a2)else aq
theorem fM(kr:aY->aC R)(a0 a1 a2:az):b kr a0 a1 a2=kr (v a0 a1 a2):=by first|rfl|(unfold b v;simp only[c_];(repeat' split)<;>rfl)
end kG

namespace Gr
def b(kr:aY->aC R)(a:au):aC R:=kr (kG.v (a.size:az) 1 30)
def v(a0:au):aY:=(kG.v (a0.size:az) 1 30)
theorem fM(kr:aY->aC R)(a0:au):b kr a0=kr (v a0):=by first|rfl|(unfold b v;simp only[c_];(repeat' split)<;>rfl)
end Gr

namespace iM
def b(kr:aY->aC R)(a:au)(d e:az)(f:au):aC R:=bif Gr.v a then bif kG.v d 0 1000000000 then bif kG.v e 1 999999 then kr (decide ((f.size:az)<=400))else kr aq else kr aq else kr aq
def v(a0:au)(a1 a2:az)(a3:au):aY:=bif Gr.v a0 then bif kG.v a1 0 1000000000 then bif kG.v a2 1 999999 then decide ((a3.size:az)<=400)else aq else aq else aq
theorem fM(kr:aY->aC R)(a0:au)(a1 a2:az)(a3:au):b kr a0 a1 a2 a3=kr (v a0 a1 a2 a3):=by first|rfl|(unfold b v;simp only[c_];(repeat' split)<;>rfl)
theorem F7{k:au}{s l:az}{b:au}(h:v k s l b=ak):(1<=k.size/\k.size<=30)/\(0<=s/\s<=1000000000)/\(1<=l/\l<=999999)/\b.size<=400:=by unfold v at h;cases h1:Gr.v k<;>rw[h1]at h<;>simp only[ay,aD,dp]at h;cases h2:kG.v s 0 1000000000<;>rw[h2]at h<;>simp only[ay,aD,dp]at h;cases h3:kG.v l 1 999999<;>rw[h3]at h<;>simp only[ay,aD,dp]at h;simp[Gr.v,kG.v]at h1 h2 h3;have:=b9 h;omega
end iM

namespace eW
def r2(N:aG)(g k0 k1:Iu R)(a:aW)(d:au)(e:aY)(f:az):aC R:=bif decide (f<(a.length:az))then bif decide (0<=f)&&decide (f<(a.length:az))then bif dg (bH (aw a f.toNat 0)).toList (aL d)then k0 a d ak f else g a d e (bN (f+1))else ao else k1 a d e f
def l2(N:aG)(k0 k1:Iu R):aG->Iu R
 |0=>λ_ _ _ _=>ao
 |n+1=>r2 N (l2 N k0 k1 n) k0 k1
def b(N:aG)(kr:aY->aC R)(a:aW)(d:au):aC R:=l2 N (λ_ _ e _=>kr e) (λ_ _ _ _=>kr aq) N a d aq 0
def vo:=b Lib.c9 λr0=>aj r0
def c:=λa d=>(vo a d).isSome
def v:=λa d=>(vo a d).getD aq
theorem out{x}:∀a d,vo a d=aj x->c a d=ak/\v a d=x:=λ_ _=>Lib.dB
end eW

namespace rX
def b(kr:aY->aC R)(a d e:aW)(f:az)(h:au):aC R:=bif eW.c a h then bif eW.v a h then kr ak else bif eW.c d h then kr (eW.v d h)else ao else ao
def vo:=b λr0=>aj r0
def c:=λa d e f h=>(vo a d e f h).isSome
def v:=λa d e f h=>(vo a d e f h).getD aq
theorem out{x}:∀a d e f h,vo a d e f h=aj x->c a d e f h=ak/\v a d e f h=x:=λ_ _ _ _ _=>Lib.dB
end rX

namespace fy
def r9(N:aG)(g k0 k1:DN R)(a:aY)(d e:az)(f:aW)(h:az):aC R:=bif decide (0<=d)&&decide (d<(f.length:az))then bif decide (e<((jx (aw f d.toNat 0)).length:az))then bif decide (0<=d)&&decide (d<(f.length:az))then bif decide (0<=e)&&decide (e<((jx (aw f d.toNat 0)).length:az))then bif !kG.v (bY (aw (jx (aw f d.toNat 0)) e.toNat 0)) 0 15 then k0 aq d e f h else g a d (bN (e+1)) f h else ao else ao else k1 a d e f h else ao
def l9(N:aG)(k0 k1:DN R):aG->DN R
 |0=>λ_ _ _ _ _=>ao
 |n+1=>r9 N (l9 N k0 k1 n) k0 k1
def r4(N:aG)(g k0 k1:Iq R)(a:aY)(d:az)(e:aW)(f:az):aC R:=bif decide (d<(e.length:az))then bif decide (0<=d)&&decide (d<(e.length:az))then bif((jx (aw e d.toNat 0)).length:az) !=16 then k0 aq d e f else l9 N (λh i _ j l=>k0 h i j l) (λh i _ j l=>g h (bN (i+1)) j l) N a d 0 e f else ao else k1 a d e f
def l4(N:aG)(k0 k1:Iq R):aG->Iq R
 |0=>λ_ _ _ _=>ao
 |n+1=>r4 N (l4 N k0 k1 n) k0 k1
def b(N:aG)(kr:aY->aC R)(a:aW)(d:az):aC R:=bif(a.length:az) !=3 then kr aq else bif !kG.v d 0 63 then kr aq else l4 N (λe _ _ _=>kr e) (λ_ _ _ _=>kr ak) N aq 0 a d
def vo:=b Lib.c9 λr0=>aj r0
def c:=λa d=>(vo a d).isSome
def v:=λa d=>(vo a d).getD aq
theorem out{x}:∀a d,vo a d=aj x->c a d=ak/\v a d=x:=λ_ _=>Lib.dB
end fy

namespace jm
def r3(N:aG)(g k0 k1:wG R)(a:aY)(d:az)(e f h:aW)(i:az)(j:aW):aC R:=bif decide (d<(j.length:az))then bif decide (0<=d)&&decide (d<(j.length:az))then bif !Gr.v (bH (aw j d.toNat 0))then k0 aq d e f h i j else bif iQ 0 d (j.length:az)then bif decide (0<=d)&&decide (d<(j.length:az))then bif eW.c (eT j (bc 0) d.toNat) (bH (aw j d.toNat 0))then bif eW.v (eT j (bc 0) d.toNat) (bH (aw j d.toNat 0))then k0 aq d e f h i j else g a (bN (d+1)) e f h i j else ao else ao else ao else ao else k1 a d e f h i j
def l3(N:aG)(k0 k1:wG R):aG->wG R
 |0=>λ_ _ _ _ _ _ _=>ao
 |n+1=>r3 N (l3 N k0 k1 n) k0 k1
def b(N:aG)(kr:aY->aC R)(a d e:aW)(f:az):aC R:=bif cK ((aT [.s] 0).length+a.length) 16 then bif cK ((aT [.s] 0++a).length+d.length) 16 then l3 N (λh _ _ _ _ _ _=>kr h) (λ_ _ h i j l _=>bif decide ((h.length:az)<=2)then bif decide ((i.length:az)<=4)then bif fy.c j l then kr (fy.v j l)else ao else kr aq else kr aq) N aq 0 a d e f (aT [.s] 0++a++d)else ao else ao
def vo:=b Lib.c9 λr0=>aj r0
def c:=λa d e f=>(vo a d e f).isSome
def v:=λa d e f=>(vo a d e f).getD aq
theorem out{x}:∀a d e f,vo a d e f=aj x->c a d e f=ak/\v a d e f=x:=λ_ _ _ _=>Lib.dB
end jm

namespace m7
def r2(N:aG)(g k0 k1:gT R)(a:aY)(d e:az)(f h i j:aW)(l:az)(m o:aW)(p:az):aC R:=bif decide (d<(f.length:az))then bif decide (0<=d)&&decide (d<(f.length:az))then bif !iM.v (bH (aw f d.toNat 0)) (bY (aw f d.toNat 1)) (bY (aw f d.toNat (1+1))) (bH (aw f d.toNat (1+1+1)))then k0 aq d e f h i j l m o p else bif decide (d>0)then bif decide (0<=bN (d-1))&&decide (bN (d-1)<(f.length:az))then bif decide (0<=d)&&decide (d<(f.length:az))then bif !Op.bytesLess (bH (aw f (bN (d-1)).toNat 0)).toList (bH (aw f d.toNat 0)).toList then k0 aq d e f h i j l m o p else bif decide (0<=d)&&decide (d<(f.length:az))then bif rX.c h i j l (bH (aw f d.toNat 0))then bif !rX.v h i j l (bH (aw f d.toNat 0))then k0 aq d e f h i j l m o p else g a (bN (d+1)) e f h i j l m o p else ao else ao else ao else ao else bif decide (0<=d)&&decide (d<(f.length:az))then bif rX.c h i j l (bH (aw f d.toNat 0))then bif !rX.v h i j l (bH (aw f d.toNat 0))then k0 aq d e f h i j l m o p else g a (bN (d+1)) e f h i j l m o p else ao else ao else ao else k1 a d e f h i j l m o p
def l2(N:aG)(k0 k1:gT R):aG->gT R
 |0=>λ_ _ _ _ _ _ _ _ _ _ _=>ao
 |n+1=>r2 N (l2 N k0 k1 n) k0 k1
def b(N:aG)(kr:aY->aC R)(a:az)(d e f h:aW)(i:az)(j l:aW)(m:az):aC R:=l2 N (λo _ _ _ _ _ _ _ _ _ _=>kr o) (λ_ _ _ o p q r s _ _ _=>bif jm.c p q r s then bif jm.v p q r s then kr (decide ((o.length:az)=bN ((p.length:az)+(q.length:az))))else kr aq else ao) N aq 0 a d e f h i j l m
def vo:=b Lib.c9 λr0=>aj r0
def c:=λa d e f h i j l m=>(vo a d e f h i j l m).isSome
def v:=λa d e f h i j l m=>(vo a d e f h i j l m).getD aq
theorem out{x}:∀a d e f h i j l m,vo a d e f h i j l m=aj x->c a d e f h i j l m=ak/\v a d e f h i j l m=x:=λ_ _ _ _ _ _ _ _ _=>Lib.dB
end m7

namespace m8
def r5(N:aG)(g k0 k1:kT R)(a:az)(d:aY)(e f:az)(h i j l:aW)(m:az)(o p:aW)(q:az)(r s:au)(t u w:az):aC R:=bif decide (e<a)then bif decide (0<=e)&&decide (e<(o.length:az))then bif dg (bH (aw o e.toNat 0)).toList (aL r)then bif decide (0<=e)&&decide (e<(o.length:az))then bif decide (bY (aw o e.toNat 2)=1)then bif decide (t=1)then k0 a aq e f h i j l m o p q r s t u w else g a d (bN (e+1)) f h i j l m o p q r s t u w else g a d (bN (e+1)) f h i j l m o p q r s t u w else ao else g a d (bN (e+1)) f h i j l m o p q r s t u w else ao else k1 a d e f h i j l m o p q r s t u w
def l5(N:aG)(k0 k1:kT R):aG->kT R
 |0=>λ_ _ _ _ _ _ _ _ _ _ _ _ _ _ _ _ _=>ao
 |n+1=>r5 N (l5 N k0 k1 n) k0 k1
def b(N:aG)(kr:aY->aC R)(a:az)(d e f h:aW)(i:az)(j l:aW)(m o:az):aC R:=bif decide (0<=o)&&decide (o<(j.length:az))then bif !Gr.v (bH (aw j o.toNat 0))then kr aq else bif decide (((bH (aw j o.toNat 1)).size:az)>400)then kr aq else bif !kG.v (bY (aw j o.toNat (1+1))) 1 3 then kr aq else bif !kG.v (bY (aw j o.toNat (1+1+1))) 0 999999 then kr aq else bif !kG.v (bY (aw j o.toNat (1+1+1+1))) 0 a then kr aq else l5 N (λ_ p _ _ _ _ _ _ _ _ _ _ _ _ _ _ _=>kr p) (λ_ _ _ _ _ _ _ _ _ _ _ _ _ _ _ _ _=>kr ak) N o aq 0 a d e f h i j l m (bH (aw j o.toNat 0)) (bH (aw j o.toNat 1)) (bY (aw j o.toNat (1+1))) (bY (aw j o.toNat (1+1+1))) (bY (aw j o.toNat (1+1+1+1)))else ao
def vo:=b Lib.c9 λr0=>aj r0
def c:=λa d e f h i j l m o=>(vo a d e f h i j l m o).isSome
def v:=λa d e f h i j l m o=>(vo a d e f h i j l m o).getD aq
theorem out{x}:∀a d e f h i j l m o,vo a d e f h i j l m o=aj x->c a d e f h i j l m o=ak/\v a d e f h i j l m o=x:=λ_ _ _ _ _ _ _ _ _ _=>Lib.dB
end m8

namespace pY
def r9(N:aG)(g k0 k1:gT R)(a:aY)(d e:az)(f h i j:aW)(l:az)(m o:aW)(p:az):aC R:=bif decide (d<(o.length:az))then bif decide (0<=d)&&decide (d<(o.length:az))then bif !kG.v (bY (aw o d.toNat 0)) 1 9 then k0 aq d e f h i j l m o p else bif decide (d>0)then bif decide (0<=bN (d-1))&&decide (bN (d-1)<(o.length:az))then bif decide (bY (aw o (bN (d-1)).toNat 0)≥bY (aw o d.toNat 0))then k0 aq d e f h i j l m o p else bif !Gr.v (bH (aw o d.toNat 1))then k0 aq d e f h i j l m o p else bif !kG.v (bY (aw o d.toNat (1+1+1+1))) 1 3 then k0 aq d e f h i j l m o p else bif !kG.v (bY (aw o d.toNat (1+1))) 0 (m.length:az)then k0 aq d e f h i j l m o p else bif decide (((bH (aw o d.toNat (1+1+1+1+1))).size:az)>400)then k0 aq d e f h i j l m o p else bif !kG.v (bY (aw o d.toNat (1+1+1))) 0 e then k0 aq d e f h i j l m o p else bif decide (bY (aw o d.toNat (1+1+1+1+1+1))<0)then k0 aq d e f h i j l m o p else g a (bN (d+1)) e f h i j l m o p else ao else bif !Gr.v (bH (aw o d.toNat 1))then k0 aq d e f h i j l m o p else bif !kG.v (bY (aw o d.toNat (1+1+1+1))) 1 3 then k0 aq d e f h i j l m o p else bif !kG.v (bY (aw o d.toNat (1+1))) 0 (m.length:az)then k0 aq d e f h i j l m o p else bif decide (((bH (aw o d.toNat (1+1+1+1+1))).size:az)>400)then k0 aq d e f h i j l m o p else bif !kG.v (bY (aw o d.toNat (1+1+1))) 0 e then k0 aq d e f h i j l m o p else bif decide (bY (aw o d.toNat (1+1+1+1+1+1))<0)then k0 aq d e f h i j l m o p else g a (bN (d+1)) e f h i j l m o p else ao else k1 a d e f h i j l m o p
def l9(N:aG)(k0 k1:gT R):aG->gT R
 |0=>λ_ _ _ _ _ _ _ _ _ _ _=>ao
 |n+1=>r9 N (l9 N k0 k1 n) k0 k1
def r4(N:aG)(g k0 k1:gT R)(a:aY)(d e:az)(f h i j:aW)(l:az)(m o:aW)(p:az):aC R:=bif decide (d<(m.length:az))then bif m8.c e f h i j l m o p d then bif !m8.v e f h i j l m o p d then k0 aq d e f h i j l m o p else g a (bN (d+1)) e f h i j l m o p else ao else k1 a d e f h i j l m o p
def l4(N:aG)(k0 k1:gT R):aG->gT R
 |0=>λ_ _ _ _ _ _ _ _ _ _ _=>ao
 |n+1=>r4 N (l4 N k0 k1 n) k0 k1
def b(N:aG)(kr:aY->aC R)(a:az)(d e f h:aW)(i:az)(j l:aW)(m:az):aC R:=bif !kG.v a 1 1000000000 then kr aq else bif m7.c a d e f h i j l m then bif !m7.v a d e f h i j l m then kr aq else bif decide ((j.length:az)>20)then kr aq else bif decide ((l.length:az)>6)then kr aq else bif !kG.v m 0 1000000000 then kr aq else l4 N (λo _ _ _ _ _ _ _ _ _ _=>kr o) (λo _ p q r s t u w y z=>l9 N (λα _ _ _ _ _ _ _ _ _ _=>kr α) (λ_ _ _ _ _ _ _ _ _ _ _=>kr ak) N o 0 p q r s t u w y z) N aq 0 a d e f h i j l m else ao
def vo:=b Lib.c9 λr0=>aj r0
def c:=λa d e f h i j l m=>(vo a d e f h i j l m).isSome
def v:=λa d e f h i j l m=>(vo a d e f h i j l m).getD aq
theorem out{x}:∀a d e f h i j l m,vo a d e f h i j l m=aj x->c a d e f h i j l m=ak/\v a d e f h i j l m=x:=λ_ _ _ _ _ _ _ _ _=>Lib.dB
end pY

namespace KT
def r2(N:aG)(g k0 k1:lH R)(a:au)(d:aY)(e f:az)(h i j l:aW)(m:az)(o p:aW)(q:az)(r:au)(s t:az)(u:au):aC R:=bif decide (e<(h.length:az))then bif decide (0<=e)&&decide (e<(h.length:az))then bif dg (bH (aw h e.toNat 0)).toList (aL a)then bif decide (0<=e)&&decide (e<(h.length:az))then k0 a ak e f h i j l m o p q (bH (aw h e.toNat 0)) (bY (aw h e.toNat 1)) (bY (aw h e.toNat (1+1))) (bH (aw h e.toNat (1+1+1)))else ao else g a d (bN (e+1)) f h i j l m o p q r s t u else ao else k1 a d e f h i j l m o p q r s t u
def l2(N:aG)(k0 k1:lH R):aG->lH R
 |0=>λ_ _ _ _ _ _ _ _ _ _ _ _ _ _ _ _=>ao
 |n+1=>r2 N (l2 N k0 k1 n) k0 k1
def b(N:aG)(kr:zw R)(a:az)(d e f h:aW)(i:az)(j l:aW)(m:az)(o:au):aC R:=l2 N (λ_ p _ _ _ _ _ _ _ _ _ _ q r s t=>kr q r s t p) (λ_ _ _ _ _ _ _ _ _ _ _ _ _ _ _ _=>kr ⟨#[]⟩ 0 0 ⟨#[]⟩ aq) N o aq 0 a d e f h i j l m ⟨#[]⟩ 0 0 ⟨#[]⟩
def vo:=b Lib.c9 λr0 r1 r2 r3 r4=>aj (r0,r1,r2,r3,r4)
def c:=λa d e f h i j l m o=>(vo a d e f h i j l m o).isSome
def v:=λa d e f h i j l m o=>(vo a d e f h i j l m o).getD (⟨#[]⟩,0,0,⟨#[]⟩,aq)
theorem out{x}:∀a d e f h i j l m o,vo a d e f h i j l m o=aj x->c a d e f h i j l m o=ak/\v a d e f h i j l m o=x:=λ_ _ _ _ _ _ _ _ _ _=>Lib.dB
end KT

namespace Ez
def b(kr:aY->aC R)(a:au)(d e:az)(f:au)(h:az):aC R:=bif iM.v a d e f then bif kG.v h d 1000000000 then kr (decide (bN (h-d)<e))else kr aq else kr aq
def v(a0:au)(a1 a2:az)(a3:au)(a4:az):aY:=bif iM.v a0 a1 a2 a3 then bif kG.v a4 a1 1000000000 then decide (bN (a4-a1)<a2)else aq else aq
theorem fM(kr:aY->aC R)(a0:au)(a1 a2:az)(a3:au)(a4:az):b kr a0 a1 a2 a3 a4=kr (v a0 a1 a2 a3 a4):=by first|rfl|(unfold b v;simp only[c_];(repeat' split)<;>rfl)
end Ez

namespace jw
def r6(N:aG)(g k0:wI R)(a:az)(d:au)(e f:az):aC R:=bif decide (f<8)then bif decide (cG a 2=1)then g (bK eh (↑(dR (lG (b_ 32 (bK eh (cT a 2))) (b_ 32 3558460437))):az)) d e (bN (f+1))else g (bK eh (cT a 2)) d e (bN (f+1))else k0 a d e f
def l6(N:aG)(k0:wI R):aG->wI R
 |0=>λ_ _ _ _=>ao
 |n+1=>r6 N (l6 N k0 n) k0
def r2(N:aG)(g k0:CO R)(a:az)(d:au)(e:az):aC R:=bif decide (e<(d.size:az))then bif decide (0<=e)&&decide (e<(d.size:az))then l6 N (λf h i _=>g f h (bN (i+1))) N (bK eh (↑(dR (lG (b_ 32 a) (b_ 32 (bK eh (↑(iI d e.toNat):az))))):az)) d e 0 else ao else k0 a d e
def l2(N:aG)(k0:CO R):aG->CO R
 |0=>λ_ _ _=>ao
 |n+1=>r2 N (l2 N k0 n) k0
def b(N:aG)(kr:az->aC R)(a:az)(d:au):aC R:=l2 N (λe _ _=>kr e) N a d 0
def vo:=b Lib.c9 λr0=>aj r0
def c:=λa d=>(vo a d).isSome
def v:=λa d=>(vo a d).getD (0)
theorem out{x}:∀a d,vo a d=aj x->c a d=ak/\v a d=x:=λ_ _=>Lib.dB
end jw

namespace uJ
def b(kr:az->aC R)(a:au):aC R:=bif jw.c 4294967295 a then kr (jw.v 4294967295 a)else ao
def vo:=b λr0=>aj r0
def c:=λa=>(vo a).isSome
def v:=λa=>(vo a).getD (0)
theorem out{x}:∀a,vo a=aj x->c a=ak/\v a=x:=λ_=>Lib.dB
end uJ

namespace f_
def b(kr:az->aC R)(a:az)(d:au):aC R:=bif decide (d.size+(bytesOf (aE (aT [Ck.i bk] 1) 0 [CV.i bk (bK bk a)])).size<=4611686018427387904)then bif uJ.c (d++bytesOf (aE (aT [Ck.i bk] 1) 0 [CV.i bk (bK bk a)]))then kr (bN (cG (uJ.v (d++bytesOf (aE (aT [Ck.i bk] 1) 0 [CV.i bk (bK bk a)]))) 16))else ao else ao
def vo:=b λr0=>aj r0
def c:=λa d=>(vo a d).isSome
def v:=λa d=>(vo a d).getD (0)
theorem out{x}:∀a d,vo a d=aj x->c a d=ak/\v a d=x:=λ_ _=>Lib.dB
end f_

namespace fK
def r17(N:aG)(g k0:sR R)(a d e f:az)(h:aW):aC R:=bif decide (0<=a)&&decide (a<(h.length:az))then bif decide (d<((jx (aw h a.toNat 0)).length:az))then bif decide (0<=a)&&decide (a<(h.length:az))then bif decide (0<=a)&&decide (a<(h.length:az))then bif decide (0<=d)&&decide (d<((jx (aw h a.toNat 0)).length:az))then bif decide (0<=d)&&decide (d<((jx (aw h a.toNat 0)).length:az))then g a (bN (d+1)) e f (eA h a.toNat 0 [CV.l 3 (eA (jx (aw h a.toNat 0)) d.toNat 0 [.i .i64 (bN (cT (bY (aw (jx (aw h a.toNat 0)) d.toNat 0)) 2))])])else ao else ao else ao else ao else k0 a d e f h else ao
def l17(N:aG)(k0:sR R):aG->sR R
 |0=>λ_ _ _ _ _=>ao
 |n+1=>r17 N (l17 N k0 n) k0
def r14(N:aG)(g k0:mG R)(a d e:az)(f:aW):aC R:=bif decide (a<(f.length:az))then l17 N (λh _ i j l=>g (bN (h+1)) i j l) N a 0 d e f else k0 a d e f
def l14(N:aG)(k0:mG R):aG->mG R
 |0=>λ_ _ _ _=>ao
 |n+1=>r14 N (l14 N k0 n) k0
def r5(N:aG)(g k0:DS R)(a:au)(d e f:az)(h:aW):aC R:=bif decide (d<(h.length:az))then bif f_.c d a then bif decide (0<=d)&&decide (d<(h.length:az))then bif decide (0<=f_.v d a)&&decide (f_.v d a<((jx (aw h d.toNat 0)).length:az))then bif decide (bY (aw (jx (aw h d.toNat 0)) (f_.v d a).toNat 0)<15)then bif decide (0<=d)&&decide (d<(h.length:az))then bif decide (0<=f_.v d a)&&decide (f_.v d a<((jx (aw h d.toNat 0)).length:az))then bif decide (0<=f_.v d a)&&decide (f_.v d a<((jx (aw h d.toNat 0)).length:az))then g a (bN (d+1)) e f (eA h d.toNat 0 [CV.l 3 (eA (jx (aw h d.toNat 0)) (f_.v d a).toNat 0 [.i .i64 (bN (bY (aw (jx (aw h d.toNat 0)) (f_.v d a).toNat 0)+1))])])else ao else ao else ao else g a (bN (d+1)) e f h else ao else ao else ao else k0 a d e f h
def l5(N:aG)(k0:DS R):aG->DS R
 |0=>λ_ _ _ _ _=>ao
 |n+1=>r5 N (l5 N k0 n) k0
def b(N:aG)(kr:Gf R)(a:aW)(d:az)(e:au):aC R:=bif nz.c a d then bif fy.c a d then bif !fy.v a d then kr (nz.v a d).1 (nz.v a d).2 else l5 N (λ_ _ f h i=>bif decide (bN (h+1)=64)then l14 N (λ_ _ j l=>kr l j) N 0 f 0 i else kr i (bN (h+1))) N e 0 0 (nz.v a d).2 (nz.v a d).1 else ao else ao
def vo:=b Lib.c9 λr0 r1=>aj (r0,r1)
def c:=λa d e=>(vo a d e).isSome
def v:=λa d e=>(vo a d e).getD ([],0)
theorem out{x}:∀a d e,vo a d e=aj x->c a d e=ak/\v a d e=x:=λ_ _ _=>Lib.dB
end fK

namespace oA
def r3(N:aG)(g k0:wL R)(a:aW)(d:au)(e:az)(f:aW):aC R:=bif decide (e<(a.length:az))then bif decide (0<=e)&&decide (e<(a.length:az))then bif !List.beq (bH (aw a e.toNat 0)).toList (aL d)then bif decide (0<=e)&&decide (e<(a.length:az))then bif cK (f.length+(aE (aT [.s] 1) 0 [.s (bH (aw a e.toNat 0))]).length) 16 then g a d (bN (e+1)) (f++aE (aT [.s] 1) 0 [.s (bH (aw a e.toNat 0))])else ao else ao else g a d (bN (e+1)) f else ao else k0 a d e f
def l3(N:aG)(k0:wL R):aG->wL R
 |0=>λ_ _ _ _=>ao
 |n+1=>r3 N (l3 N k0 n) k0
def b(N:aG)(kr:aW->aC R)(a:aW)(d:au):aC R:=l3 N (λ_ _ _ e=>kr e) N a d 0 (aT [.s] 0)
def vo:=b Lib.c9 λr0=>aj r0
def c:=λa d=>(vo a d).isSome
def v:=λa d=>(vo a d).getD ([])
theorem out{x}:∀a d,vo a d=aj x->c a d=ak/\v a d=x:=λ_ _=>Lib.dB
end oA

namespace lX
def r5(N:aG)(g k0:DT R)(a:au)(d e:az)(f:aW)(h:az):aC R:=bif decide (e<(f.length:az))then bif decide (0<=e)&&decide (e<(f.length:az))then bif f_.c e a then bif decide (0<=f_.v e a)&&decide (f_.v e a<((jx (aw f e.toNat 0)).length:az))then bif decide (bY (aw (jx (aw f e.toNat 0)) (f_.v e a).toNat 0)<d)then g a (bY (aw (jx (aw f e.toNat 0)) (f_.v e a).toNat 0)) (bN (e+1)) f h else g a d (bN (e+1)) f h else ao else ao else ao else k0 a d e f h
def l5(N:aG)(k0:DT R):aG->DT R
 |0=>λ_ _ _ _ _=>ao
 |n+1=>r5 N (l5 N k0 n) k0
def b(N:aG)(kr:az->aC R)(a:aW)(d:az)(e:au):aC R:=bif fy.c a d then bif !fy.v a d then kr 0 else l5 N (λ_ f _ _ _=>kr f) N e 15 0 a d else ao
def vo:=b Lib.c9 λr0=>aj r0
def c:=λa d e=>(vo a d e).isSome
def v:=λa d e=>(vo a d e).getD (0)
theorem out{x}:∀a d e,vo a d e=aj x->c a d e=ak/\v a d e=x:=λ_ _ _=>Lib.dB
end lX

namespace jv
def b(kr:Kq R)(a d e:aW)(f:az)(h:au):aC R:=bif fS.c a d e f then bif jm.c a d e f then bif !jm.v a d e f then kr (fS.v a d e f).1 (fS.v a d e f).2.1 (fS.v a d e f).2.2.1 (fS.v a d e f).2.2.2 ⟨#[]⟩else bif !Gr.v h then kr (fS.v a d e f).1 (fS.v a d e f).2.1 (fS.v a d e f).2.2.1 (fS.v a d e f).2.2.2 ⟨#[]⟩else bif fK.c e f h then bif eW.c a h then bif eW.v a h then bif oA.c a h then bif cK ((oA.v a h).length+(aE (aT [.s] 1) 0 [.s h]).length) 16 then kr (oA.v a h++aE (aT [.s] 1) 0 [.s h]) (fS.v a d e f).2.1 (fK.v e f h).1 (fK.v e f h).2 ⟨#[]⟩else ao else ao else bif eW.c d h then bif eW.v d h then bif oA.c d h then bif cK ((oA.v d h).length+(aE (aT [.s] 1) 0 [.s h]).length) 16 then kr (fS.v a d e f).1 (oA.v d h++aE (aT [.s] 1) 0 [.s h]) (fK.v e f h).1 (fK.v e f h).2 ⟨#[]⟩else ao else ao else bif cK ((fS.v a d e f).1.length+(aE (aT [.s] 1) 0 [.s h]).length) 16 then bif decide ((((fS.v a d e f).1++aE (aT [.s] 1) 0 [.s h]).length:az)<=2)then kr ((fS.v a d e f).1++aE (aT [.s] 1) 0 [.s h]) (fS.v a d e f).2.1 (fK.v e f h).1 (fK.v e f h).2 ⟨#[]⟩else bif decide (0<(((fS.v a d e f).1++aE (aT [.s] 1) 0 [.s h]).length:az))then bif iQ 1 (((fS.v a d e f).1++aE (aT [.s] 1) 0 [.s h]).length:az) (((fS.v a d e f).1++aE (aT [.s] 1) 0 [.s h]).length:az)then bif cK ((aT [.s] 0).length+(eT ((fS.v a d e f).1++aE (aT [.s] 1) 0 [.s h]) (bc 1) (((fS.v a d e f).1++aE (aT [.s] 1) 0 [.s h]).length:az).toNat).length) 16 then bif decide (((fS.v a d e f).2.1.length:az)<4)then bif cK ((fS.v a d e f).2.1.length+(aE (aT [.s] 1) 0 [.s (bH (aw ((fS.v a d e f).1++aE (aT [.s] 1) 0 [.s h]) (bc 0) 0))]).length) 16 then kr (aT [.s] 0++eT ((fS.v a d e f).1++aE (aT [.s] 1) 0 [.s h]) (bc 1) (((fS.v a d e f).1++aE (aT [.s] 1) 0 [.s h]).length:az).toNat) ((fS.v a d e f).2.1++aE (aT [.s] 1) 0 [.s (bH (aw ((fS.v a d e f).1++aE (aT [.s] 1) 0 [.s h]) (bc 0) 0))]) (fK.v e f h).1 (fK.v e f h).2 ⟨#[]⟩else ao else bif lX.c (fK.v e f h).1 (fK.v e f h).2 (bH (aw ((fS.v a d e f).1++aE (aT [.s] 1) 0 [.s h]) (bc 0) 0))then bif decide (0<((fS.v a d e f).2.1.length:az))then bif lX.c (fK.v e f h).1 (fK.v e f h).2 (bH (aw (fS.v a d e f).2.1 (bc 0) 0))then bif decide (lX.v (fK.v e f h).1 (fK.v e f h).2 (bH (aw ((fS.v a d e f).1++aE (aT [.s] 1) 0 [.s h]) (bc 0) 0))>lX.v (fK.v e f h).1 (fK.v e f h).2 (bH (aw (fS.v a d e f).2.1 (bc 0) 0)))then bif decide (0<((fS.v a d e f).2.1.length:az))then bif iQ 1 ((fS.v a d e f).2.1.length:az) ((fS.v a d e f).2.1.length:az)then bif cK ((aT [.s] 0).length+(eT (fS.v a d e f).2.1 (bc 1) ((fS.v a d e f).2.1.length:az).toNat).length) 16 then bif cK ((aT [.s] 0++eT (fS.v a d e f).2.1 (bc 1) ((fS.v a d e f).2.1.length:az).toNat).length+(aE (aT [.s] 1) 0 [.s (bH (aw ((fS.v a d e f).1++aE (aT [.s] 1) 0 [.s h]) (bc 0) 0))]).length) 16 then kr (aT [.s] 0++eT ((fS.v a d e f).1++aE (aT [.s] 1) 0 [.s h]) (bc 1) (((fS.v a d e f).1++aE (aT [.s] 1) 0 [.s h]).length:az).toNat) (aT [.s] 0++eT (fS.v a d e f).2.1 (bc 1) ((fS.v a d e f).2.1.length:az).toNat++aE (aT [.s] 1) 0 [.s (bH (aw ((fS.v a d e f).1++aE (aT [.s] 1) 0 [.s h]) (bc 0) 0))]) (fK.v e f h).1 (fK.v e f h).2 (bH (aw (fS.v a d e f).2.1 (bc 0) 0))else ao else ao else ao else ao else kr (aT [.s] 0++eT ((fS.v a d e f).1++aE (aT [.s] 1) 0 [.s h]) (bc 1) (((fS.v a d e f).1++aE (aT [.s] 1) 0 [.s h]).length:az).toNat) (fS.v a d e f).2.1 (fK.v e f h).1 (fK.v e f h).2 (bH (aw ((fS.v a d e f).1++aE (aT [.s] 1) 0 [.s h]) (bc 0) 0))else ao else ao else ao else ao else ao else ao else ao else ao else ao else ao else ao else ao
def vo:=b λr0 r1 r2 r3 r4=>aj (r0,r1,r2,r3,r4)
def c:=λa d e f h=>(vo a d e f h).isSome
def v:=λa d e f h=>(vo a d e f h).getD ([],[],[],0,⟨#[]⟩)
theorem out{x}:∀a d e f h,vo a d e f h=aj x->c a d e f h=ak/\v a d e f h=x:=λ_ _ _ _ _=>Lib.dB
end jv

namespace ub
def r9(N:aG)(g k0:kB R)(a:aW)(d e:az)(f:au)(h i j:az)(l:au)(m:az)(o:aW):aC R:=bif decide (d<(a.length:az))then bif decide (0<=d)&&decide (d<(a.length:az))then bif decide (bY (aw a d.toNat 0)>e)then bif decide (0<=d)&&decide (d<(a.length:az))then bif cK (o.length+(aE (aT [Ck.i ar,Ck.s,Ck.i ar,Ck.i ar,Ck.i ar,Ck.s,Ck.i ar] 1) 0 [.i .i64 (bY (aw a d.toNat 0)), .s (bH (aw a d.toNat 1)), .i .i64 (bY (aw a d.toNat (1+1))), .i .i64 (bY (aw a d.toNat (1+1+1))), .i .i64 (bY (aw a d.toNat (1+1+1+1))), .s (bH (aw a d.toNat (1+1+1+1+1))), .i .i64 (bY (aw a d.toNat (1+1+1+1+1+1)))]).length) 72 then g a (bN (d+1)) e f h i j l m (o++aE (aT [Ck.i ar,Ck.s,Ck.i ar,Ck.i ar,Ck.i ar,Ck.s,Ck.i ar] 1) 0 [.i .i64 (bY (aw a d.toNat 0)), .s (bH (aw a d.toNat 1)), .i .i64 (bY (aw a d.toNat (1+1))), .i .i64 (bY (aw a d.toNat (1+1+1))), .i .i64 (bY (aw a d.toNat (1+1+1+1))), .s (bH (aw a d.toNat (1+1+1+1+1))), .i .i64 (bY (aw a d.toNat (1+1+1+1+1+1)))])else ao else ao else g a (bN (d+1)) e f h i j l m o else ao else k0 a d e f h i j l m o
def l9(N:aG)(k0:kB R):aG->kB R
 |0=>λ_ _ _ _ _ _ _ _ _ _=>ao
 |n+1=>r9 N (l9 N k0 n) k0
def r3(N:aG)(g k0:kB R)(a:aW)(d e:az)(f:au)(h i j:az)(l:au)(m:az)(o:aW):aC R:=bif decide (d<(a.length:az))then bif decide (0<=d)&&decide (d<(a.length:az))then bif decide (bY (aw a d.toNat 0)<e)then bif decide (0<=d)&&decide (d<(a.length:az))then bif cK (o.length+(aE (aT [Ck.i ar,Ck.s,Ck.i ar,Ck.i ar,Ck.i ar,Ck.s,Ck.i ar] 1) 0 [.i .i64 (bY (aw a d.toNat 0)), .s (bH (aw a d.toNat 1)), .i .i64 (bY (aw a d.toNat (1+1))), .i .i64 (bY (aw a d.toNat (1+1+1))), .i .i64 (bY (aw a d.toNat (1+1+1+1))), .s (bH (aw a d.toNat (1+1+1+1+1))), .i .i64 (bY (aw a d.toNat (1+1+1+1+1+1)))]).length) 72 then g a (bN (d+1)) e f h i j l m (o++aE (aT [Ck.i ar,Ck.s,Ck.i ar,Ck.i ar,Ck.i ar,Ck.s,Ck.i ar] 1) 0 [.i .i64 (bY (aw a d.toNat 0)), .s (bH (aw a d.toNat 1)), .i .i64 (bY (aw a d.toNat (1+1))), .i .i64 (bY (aw a d.toNat (1+1+1))), .i .i64 (bY (aw a d.toNat (1+1+1+1))), .s (bH (aw a d.toNat (1+1+1+1+1))), .i .i64 (bY (aw a d.toNat (1+1+1+1+1+1)))])else ao else ao else g a (bN (d+1)) e f h i j l m o else ao else k0 a d e f h i j l m o
def l3(N:aG)(k0:kB R):aG->kB R
 |0=>λ_ _ _ _ _ _ _ _ _ _=>ao
 |n+1=>r3 N (l3 N k0 n) k0
def b(N:aG)(kr:aW->aC R)(a:aW)(d:az)(e:au)(f h i:az)(j:au)(l:az):aC R:=l3 N (λm _ o p q r s t u w=>bif cK (w.length+(aE (aT [Ck.i ar,Ck.s,Ck.i ar,Ck.i ar,Ck.i ar,Ck.s,Ck.i ar] 1) 0 [.i .i64 o, .s p, .i .i64 q, .i .i64 r, .i .i64 s, .s t, .i .i64 u]).length) 72 then l9 N (λ_ _ _ _ _ _ _ _ _ y=>kr y) N m 0 o p q r s t u (w++aE (aT [Ck.i ar,Ck.s,Ck.i ar,Ck.i ar,Ck.i ar,Ck.s,Ck.i ar] 1) 0 [.i .i64 o, .s p, .i .i64 q, .i .i64 r, .i .i64 s, .s t, .i .i64 u])else ao) N a 0 d e f h i j l (aT [Ck.i ar,Ck.s,Ck.i ar,Ck.i ar,Ck.i ar,Ck.s,Ck.i ar] 0)
def vo:=b Lib.c9 λr0=>aj r0
def c:=λa d e f h i j l=>(vo a d e f h i j l).isSome
def v:=λa d e f h i j l=>(vo a d e f h i j l).getD ([])
theorem out{x}:∀a d e f h i j l,vo a d e f h i j l=aj x->c a d e f h i j l=ak/\v a d e f h i j l=x:=λ_ _ _ _ _ _ _ _=>Lib.dB
end ub

namespace Ci
def r3(N:aG)(g k0:wL R)(a:aW)(d:au)(e:az)(f:aW):aC R:=bif decide (e<(a.length:az))then bif decide (0<=e)&&decide (e<(a.length:az))then bif !List.beq (bH (aw a e.toNat 0)).toList (aL d)then bif decide (0<=e)&&decide (e<(a.length:az))then bif cK (f.length+(aE (aT [Ck.s,Ck.i ar,Ck.i ar,Ck.s] 1) 0 [.s (bH (aw a e.toNat 0)), .i .i64 (bY (aw a e.toNat 1)), .i .i64 (bY (aw a e.toNat (1+1))), .s (bH (aw a e.toNat (1+1+1)))]).length) 48 then g a d (bN (e+1)) (f++aE (aT [Ck.s,Ck.i ar,Ck.i ar,Ck.s] 1) 0 [.s (bH (aw a e.toNat 0)), .i .i64 (bY (aw a e.toNat 1)), .i .i64 (bY (aw a e.toNat (1+1))), .s (bH (aw a e.toNat (1+1+1)))])else ao else ao else g a d (bN (e+1)) f else ao else k0 a d e f
def l3(N:aG)(k0:wL R):aG->wL R
 |0=>λ_ _ _ _=>ao
 |n+1=>r3 N (l3 N k0 n) k0
def b(N:aG)(kr:aW->aC R)(a:aW)(d:au):aC R:=l3 N (λ_ _ _ e=>kr e) N a d 0 (aT [Ck.s,Ck.i ar,Ck.i ar,Ck.s] 0)
def vo:=b Lib.c9 λr0=>aj r0
def c:=λa d=>(vo a d).isSome
def v:=λa d=>(vo a d).getD ([])
theorem out{x}:∀a d,vo a d=aj x->c a d=ak/\v a d=x:=λ_ _=>Lib.dB
end Ci

namespace H_
def b(kr:wK R)(a d e:aW)(f:az)(h:au):aC R:=bif oA.c a h then bif oA.c d h then bif nz.c e f then kr (oA.v a h) (oA.v d h) (nz.v e f).1 (nz.v e f).2 else ao else ao else ao
def vo:=b λr0 r1 r2 r3=>aj (r0,r1,r2,r3)
def c:=λa d e f h=>(vo a d e f h).isSome
def v:=λa d e f h=>(vo a d e f h).getD ([],[],[],0)
theorem out{x}:∀a d e f h,vo a d e f h=aj x->c a d e f h=ak/\v a d e f h=x:=λ_ _ _ _ _=>Lib.dB
end H_

namespace U9
def r22(N:aG)(g k0:gh R)(a:au)(d:aY)(e f:az)(h i j l:aW)(m:az)(o p:aW)(q r s t u w y z:az)(α:au)(xa xb xc:az)(xd:au)(xe:az)(xf xg xh xi xj xk:aW):aC R:=bif decide (e<(o.length:az))then bif decide (0<=e)&&decide (e<(o.length:az))then bif dg (bH (aw o e.toNat 0)).toList (aL a)then bif decide (0<=e)&&decide (e<(o.length:az))then bif decide (bY (aw o e.toNat 2)=1)then bif decide (0<=e)&&decide (e<(o.length:az))then g a d (bN (e+1)) f h i j l m o p q r s t u w y z α (bN (e+1)) xb xc (bH (aw o e.toNat 1)) xe xf xg xh xi xj xk else ao else g a d (bN (e+1)) f h i j l m o p q r s t u w y z α xa xb xc xd xe xf xg xh xi xj xk else ao else g a d (bN (e+1)) f h i j l m o p q r s t u w y z α xa xb xc xd xe xf xg xh xi xj xk else ao else k0 a d e f h i j l m o p q r s t u w y z α xa xb xc xd xe xf xg xh xi xj xk
def Vn(N:aG)(k0:gh R):aG->gh R
 |0=>λ_ _ _ _ _ _ _ _ _ _ _ _ _ _ _ _ _ _ _ _ _ _ _ _ _ _ _ _ _ _ _=>ao
 |n+1=>r22 N (Vn N k0 n) k0
def r5(N:aG)(g k0 k1:ir R)(a:az)(d:au)(e f h:az)(i j l m:aW)(o:az)(p q:aW)(r s t u w y z:az)(α xa xb xc xd xe:aW):aC R:=bif decide (f<(q.length:az))then bif decide (0<=f)&&decide (f<(q.length:az))then bif decide (bY (aw q f.toNat 0)=a)then k0 a d 1 f h i j l m o p q r w y z w y z α xa xb xc xd xe else g a d e (bN (f+1)) h i j l m o p q r s t u w y z α xa xb xc xd xe else ao else k1 a d e f h i j l m o p q r s t u w y z α xa xb xc xd xe
def l5(N:aG)(k0 k1:ir R):aG->ir R
 |0=>λ_ _ _ _ _ _ _ _ _ _ _ _ _ _ _ _ _ _ _ _ _ _ _ _ _=>ao
 |n+1=>r5 N (l5 N k0 k1 n) k0 k1
def b(N:aG)(kr:vg R)(a:az)(d e f h:aW)(i:az)(j l:aW)(m o:az)(p:au):aC R:=bif kZ.c a d e f h i j l m then Lib.lt (kZ.v a d e f h i j l m) λq=>bif pY.c a d e f h i j l m then Lib.lt (pY.v a d e f h i j l m) λr=>bif !r then kr q.1 q.2.1 q.2.2.1 q.2.2.2.1 q.2.2.2.2.1 q.2.2.2.2.2.1 q.2.2.2.2.2.2.1 q.2.2.2.2.2.2.2.1 q.2.2.2.2.2.2.2.2 1 else bif !kG.v o 1 9 then kr q.1 q.2.1 q.2.2.1 q.2.2.2.1 q.2.2.2.2.1 q.2.2.2.2.2.1 q.2.2.2.2.2.2.1 q.2.2.2.2.2.2.2.1 q.2.2.2.2.2.2.2.2 1 else bif !Gr.v p then kr q.1 q.2.1 q.2.2.1 q.2.2.2.1 q.2.2.2.2.1 q.2.2.2.2.2.1 q.2.2.2.2.2.2.1 q.2.2.2.2.2.2.2.1 q.2.2.2.2.2.2.2.2 1 else bif decide ((l.length:az)≥6)then kr q.1 q.2.1 q.2.2.1 q.2.2.2.1 q.2.2.2.2.1 q.2.2.2.2.2.1 q.2.2.2.2.2.2.1 q.2.2.2.2.2.2.2.1 q.2.2.2.2.2.2.2.2 1 else l5 N (λ_ _ s _ _ _ _ _ _ _ _ _ _ t u w _ _ _ y z α xa xb xc=>kr t y z α xa u xb xc w s) (λs t _ _ u w y z α xa xb xc xd xe xf xg xh xi xj xk xl xm xn xo xp=>bif KT.c u w y z α xa xb xc xd t then Lib.lt (KT.v u w y z α xa xb xc xd t) λxq=>bif xq.2.2.2.2 then bif Ez.v xq.1 xq.2.1 xq.2.2.1 xq.2.2.2.1 u then bif jv.c y z α xa t then Lib.lt (jv.v y z α xa t) λxr=>bif decide (xj<1000000000)then bif ub.c xp s t 0 xq.2.1 2 xq.2.2.2.1 (bN (u-xq.2.1))then Lib.lt (ub.v xp s t 0 xq.2.1 2 xq.2.2.2.1 (bN (u-xq.2.1))) λxs=>kr xh xk xr.1 xr.2.1 xr.2.2.1 xr.2.2.2.1 xo xs (bN (xj+1)) 0 else ao else bif ub.c xp s t 0 xq.2.1 2 xq.2.2.2.1 (bN (u-xq.2.1))then Lib.lt (ub.v xp s t 0 xq.2.1 2 xq.2.2.2.1 (bN (u-xq.2.1))) λxs=>kr xh xk xr.1 xr.2.1 xr.2.2.1 xr.2.2.2.1 xo xs xj 0 else ao else ao else Vn N (λxr xs _ _ _ _ _ _ _ xt _ _ _ _ _ xu xv xw xx xy xz ya yb yc yd ye yf yg yh yi yj=>bif decide (xz=0)then bif decide ((xt.length:az)≥20)then kr xu ye yf yg yh xv yi yj xw 2 else bif cK (yi.length+(aE (aT [Ck.s,Ck.s,Ck.i ar,Ck.i ar,Ck.i ar] 1) 0 [.s xr, .s ⟨#[]⟩, .i .i64 1, .i .i64 0, .i .i64 0]).length) 56 then bif xs then bif Ci.c ye xr then Lib.lt (Ci.v ye xr) λyk=>bif H_.c yf yg yh xv xr then Lib.lt (H_.v yf yg yh xv xr) λyl=>bif fK.c yl.2.2.1 yl.2.2.2 xr then Lib.lt (fK.v yl.2.2.1 yl.2.2.2 xr) λym=>bif ub.c yj xx xy ((yi++aE (aT [Ck.s,Ck.s,Ck.i ar,Ck.i ar,Ck.i ar] 1) 0 [.s xr, .s ⟨#[]⟩, .i .i64 1, .i .i64 0, .i .i64 0]).length:az) ya yb yc yd then Lib.lt (ub.v yj xx xy ((yi++aE (aT [Ck.s,Ck.s,Ck.i ar,Ck.i ar,Ck.i ar] 1) 0 [.s xr, .s ⟨#[]⟩, .i .i64 1, .i .i64 0, .i .i64 0]).length:az) ya yb yc yd) λyn=>kr xu yk yl.1 yl.2.1 ym.1 ym.2 (yi++aE (aT [Ck.s,Ck.s,Ck.i ar,Ck.i ar,Ck.i ar] 1) 0 [.s xr, .s ⟨#[]⟩, .i .i64 1, .i .i64 0, .i .i64 0]) yn xw 0 else ao else ao else ao else ao else bif fK.c yh xv xr then Lib.lt (fK.v yh xv xr) λyk=>bif ub.c yj xx xy ((yi++aE (aT [Ck.s,Ck.s,Ck.i ar,Ck.i ar,Ck.i ar] 1) 0 [.s xr, .s ⟨#[]⟩, .i .i64 1, .i .i64 0, .i .i64 0]).length:az) ya yb yc yd then Lib.lt (ub.v yj xx xy ((yi++aE (aT [Ck.s,Ck.s,Ck.i ar,Ck.i ar,Ck.i ar] 1) 0 [.s xr, .s ⟨#[]⟩, .i .i64 1, .i .i64 0, .i .i64 0]).length:az) ya yb yc yd) λyl=>kr xu ye yf yg yk.1 yk.2 (yi++aE (aT [Ck.s,Ck.s,Ck.i ar,Ck.i ar,Ck.i ar] 1) 0 [.s xr, .s ⟨#[]⟩, .i .i64 1, .i .i64 0, .i .i64 0]) yl xw 0 else ao else ao else ao else bif xs then bif Ci.c ye xr then Lib.lt (Ci.v ye xr) λyk=>bif H_.c yf yg yh xv xr then Lib.lt (H_.v yf yg yh xv xr) λyl=>bif fK.c yl.2.2.1 yl.2.2.2 xr then Lib.lt (fK.v yl.2.2.1 yl.2.2.2 xr) λym=>bif ub.c yj xx xy xz ya yb yc yd then Lib.lt (ub.v yj xx xy xz ya yb yc yd) λyn=>kr xu yk yl.1 yl.2.1 ym.1 ym.2 yi yn xw 0 else ao else ao else ao else ao else bif fK.c yh xv xr then Lib.lt (fK.v yh xv xr) λyk=>bif ub.c yj xx xy xz ya yb yc yd then Lib.lt (ub.v yj xx xy xz ya yb yc yd) λyl=>kr xu ye yf yg yk.1 yk.2 yi yl xw 0 else ao else ao) N t xq.2.2.2.2 0 u w y z α xa xb xc xd xe xf xg xh xi xj s t 0 0 1 ⟨#[]⟩ 0 xk xl xm xn xo xp else Vn N (λxr xs _ _ _ _ _ _ _ xt _ _ _ _ _ xu xv xw xx xy xz ya yb yc yd ye yf yg yh yi yj=>bif decide (xz=0)then bif decide ((xt.length:az)≥20)then kr xu ye yf yg yh xv yi yj xw 2 else bif cK (yi.length+(aE (aT [Ck.s,Ck.s,Ck.i ar,Ck.i ar,Ck.i ar] 1) 0 [.s xr, .s ⟨#[]⟩, .i .i64 1, .i .i64 0, .i .i64 0]).length) 56 then bif xs then bif Ci.c ye xr then Lib.lt (Ci.v ye xr) λyk=>bif H_.c yf yg yh xv xr then Lib.lt (H_.v yf yg yh xv xr) λyl=>bif fK.c yl.2.2.1 yl.2.2.2 xr then Lib.lt (fK.v yl.2.2.1 yl.2.2.2 xr) λym=>bif ub.c yj xx xy ((yi++aE (aT [Ck.s,Ck.s,Ck.i ar,Ck.i ar,Ck.i ar] 1) 0 [.s xr, .s ⟨#[]⟩, .i .i64 1, .i .i64 0, .i .i64 0]).length:az) ya yb yc yd then Lib.lt (ub.v yj xx xy ((yi++aE (aT [Ck.s,Ck.s,Ck.i ar,Ck.i ar,Ck.i ar] 1) 0 [.s xr, .s ⟨#[]⟩, .i .i64 1, .i .i64 0, .i .i64 0]).length:az) ya yb yc yd) λyn=>kr xu yk yl.1 yl.2.1 ym.1 ym.2 (yi++aE (aT [Ck.s,Ck.s,Ck.i ar,Ck.i ar,Ck.i ar] 1) 0 [.s xr, .s ⟨#[]⟩, .i .i64 1, .i .i64 0, .i .i64 0]) yn xw 0 else ao else ao else ao else ao else bif fK.c yh xv xr then Lib.lt (fK.v yh xv xr) λyk=>bif ub.c yj xx xy ((yi++aE (aT [Ck.s,Ck.s,Ck.i ar,Ck.i ar,Ck.i ar] 1) 0 [.s xr, .s ⟨#[]⟩, .i .i64 1, .i .i64 0, .i .i64 0]).length:az) ya yb yc yd then Lib.lt (ub.v yj xx xy ((yi++aE (aT [Ck.s,Ck.s,Ck.i ar,Ck.i ar,Ck.i ar] 1) 0 [.s xr, .s ⟨#[]⟩, .i .i64 1, .i .i64 0, .i .i64 0]).length:az) ya yb yc yd) λyl=>kr xu ye yf yg yk.1 yk.2 (yi++aE (aT [Ck.s,Ck.s,Ck.i ar,Ck.i ar,Ck.i ar] 1) 0 [.s xr, .s ⟨#[]⟩, .i .i64 1, .i .i64 0, .i .i64 0]) yl xw 0 else ao else ao else ao else bif xs then bif Ci.c ye xr then Lib.lt (Ci.v ye xr) λyk=>bif H_.c yf yg yh xv xr then Lib.lt (H_.v yf yg yh xv xr) λyl=>bif fK.c yl.2.2.1 yl.2.2.2 xr then Lib.lt (fK.v yl.2.2.1 yl.2.2.2 xr) λym=>bif ub.c yj xx xy xz ya yb yc yd then Lib.lt (ub.v yj xx xy xz ya yb yc yd) λyn=>kr xu yk yl.1 yl.2.1 ym.1 ym.2 yi yn xw 0 else ao else ao else ao else ao else bif fK.c yh xv xr then Lib.lt (fK.v yh xv xr) λyk=>bif ub.c yj xx xy xz ya yb yc yd then Lib.lt (ub.v yj xx xy xz ya yb yc yd) λyl=>kr xu ye yf yg yk.1 yk.2 yi yl xw 0 else ao else ao) N t xq.2.2.2.2 0 u w y z α xa xb xc xd xe xf xg xh xi xj s t 0 0 1 ⟨#[]⟩ 0 xk xl xm xn xo xp else ao) N o p 0 0 a d e f h i j l m 0 0 0 q.1 q.2.2.2.2.2.1 q.2.2.2.2.2.2.2.2 q.2.1 q.2.2.1 q.2.2.2.1 q.2.2.2.2.1 q.2.2.2.2.2.2.1 q.2.2.2.2.2.2.2.1 else ao else ao
def vo:=b Lib.c9 λr0 r1 r2 r3 r4 r5 r6 r7 r8 r9=>aj (r0,r1,r2,r3,r4,r5,r6,r7,r8,r9)
def c:=λa d e f h i j l m o p=>(vo a d e f h i j l m o p).isSome
def v:=λa d e f h i j l m o p=>(vo a d e f h i j l m o p).getD (0,[],[],[],[],0,[],[],0,0)
theorem out{x}:∀a d e f h i j l m o p,vo a d e f h i j l m o p=aj x->c a d e f h i j l m o p=ak/\v a d e f h i j l m o p=x:=λ_ _ _ _ _ _ _ _ _ _ _=>Lib.dB
end U9

namespace tL
def b(kr:aY->aC R)(a:az)(d e f h:aW)(i:az)(j l:aW)(m o:az):aC R:=bif pY.c a d e f h i j l m then bif pY.v a d e f h i j l m then bif kG.v o 0 (bN ((j.length:az)-1))then bif decide (0<=o)&&decide (o<(j.length:az))then kr (decide (bY (aw j o.toNat 2)=1))else ao else kr aq else kr aq else ao
def vo:=b λr0=>aj r0
def c:=λa d e f h i j l m o=>(vo a d e f h i j l m o).isSome
def v:=λa d e f h i j l m o=>(vo a d e f h i j l m o).getD aq
theorem out{x}:∀a d e f h i j l m o,vo a d e f h i j l m o=aj x->c a d e f h i j l m o=ak/\v a d e f h i j l m o=x:=λ_ _ _ _ _ _ _ _ _ _=>Lib.dB
end tL

namespace ID
def b(kr:Ko R)(a:az)(d:au)(e:aW):aC R:=bif cK ((aT [Ck.i ar,Ck.i ar] 0).length+e.length) 16 then kr a d (aT [Ck.i ar,Ck.i ar] 0++e)else ao
def v(fN:az)(eM:au)(dz:aW):az×au×aW:=(fN,eM,dz)
def c(fN:az)(eM:au)(dz:aW):aY:=decide (dz.length<=4294967296)
theorem fM(kr:Ko R)(fN:az)(eM:au)(dz:aW)(hc:c fN eM dz=ak):b kr fN eM dz=kr (v fN eM dz).1 (v fN eM dz).2.1 (v fN eM dz).2.2:=by have h:dz.length<=4294967296:=b9 hc;unfold b;rw[show bW (aT [Ck.i ar,Ck.i ar] 0)+dz.length=dz.length by simp[aT],Lib.cy (by omega) (by omega)];rfl
end ID

namespace kY
def r2(N:aG)(g k0 k1:DO R)(a:aY)(d e:az)(f:au)(h:aW):aC R:=bif decide (d<(h.length:az))then bif decide (0<=d)&&decide (d<(h.length:az))then bif !kG.v (bY (aw h d.toNat 0)) 1 9 then k0 aq d e f h else bif decide (d>0)then bif decide (0<=bN (d-1))&&decide (bN (d-1)<(h.length:az))then bif decide (bY (aw h (bN (d-1)).toNat 0)≥bY (aw h d.toNat 0))then k0 aq d e f h else bif !kG.v (bY (aw h d.toNat 1)) 0 (f.size:az)then k0 aq d e f h else g a (bN (d+1)) e f h else ao else bif !kG.v (bY (aw h d.toNat 1)) 0 (f.size:az)then k0 aq d e f h else g a (bN (d+1)) e f h else ao else k1 a d e f h
def l2(N:aG)(k0 k1:DO R):aG->DO R
 |0=>λ_ _ _ _ _=>ao
 |n+1=>r2 N (l2 N k0 k1 n) k0 k1
def b(N:aG)(kr:aY->aC R)(a:az)(d:au)(e:aW):aC R:=l2 N (λf _ _ _ _=>kr f) (λ_ _ f h i=>bif kG.v f 1 3 then bif decide ((h.size:az)<=400)then kr (decide ((i.length:az)<=6))else kr aq else kr aq) N aq 0 a d e
def el(t:au)(rs:aW)(i:aG):aY:=decide (1<=bY (aw rs i 0)/\bY (aw rs i 0)<=9)&&(decide (0<=bY (aw rs i 1)/\bY (aw rs i 1)<=t.size)&&(i==0||decide (bY (aw rs (i-1) 0)<bY (aw rs i 0))))
def rest(st:az)(t:au)(rs:aW):aY:=decide (1<=st/\st<=3)&&(decide (t.size<=400)&&decide (rs.length<=6))
def v(fN:az)(eM:au)(dz:aW):aY:=(cO dz.length).all (el eM dz)&&rest fN eM dz
theorem mo(n a b:az):kG.v n a b=decide (a<=n/\n<=b):=by unfold kG.v;by_cases h:a<=n<;>by_cases h2:n<=b<;>simp[h,h2]
theorem LU(st:az)(t:au)(rs:aW){R:Type}(kr:aY->aC R):(bif kG.v st 1 3 then bif decide ((t.size:az)<=400)then kr (decide ((rs.length:az)<=6))else kr aq else kr aq)=kr (rest st t rs):=by
 unfold rest;rw[mo];have e1:decide ((t.size:az)<=400)=decide (t.size<=400):=by rw[ch];omega
 have e2:decide ((rs.length:az)<=6)=decide (rs.length<=6):=by rw[ch];omega
 rw[e1,e2];cases decide (1<=st/\st<=3)<;>cases decide (t.size<=400)<;>rfl
theorem BO{i:aG}(h:0<i)(hn:i<=9223372036854775807):bN ((i:az)-1)=((i-1:aG):az):=by rw[jS (by omega) (by omega)];omega
theorem Gw(p:aG->aY){i n:aG}(h:i<n):(lI i (n-i)).all p=(p i&&(lI (i+1) (n-(i+1))).all p):=by rw[show n-i=(n-(i+1))+1 by omega,List.range'_succ,rW]
theorem fM(kr:aY->aC R)(fN:az)(eM:au)(dz:aW)(f0:F2 eM)(f1:ur dz):∃N,b N kr fN eM dz=kr (v fN eM dz):=by
 refine⟨dz.length+1, ?_⟩
 unfold b;simp only[LU]
 have:=Lib.il (λn (i:aG)=>l2 (dz.length+1) (λy5 y6 y7 y8 y9=>kr y5) (λMm yA Oc F9 W6=>kr (rest Oc F9 W6)) n aq i fN eM dz) (λi=>dz.length-i) (λi=>i<=dz.length)
  (λi=>kr ((lI i (dz.length-i)).all (el eM dz)&&rest fN eM dz)) (λn i hi=>by
  simp only[l2,r2,Lib.dE,Lib.cS,Lib.eG,bj,mo]
  by_cases h:i<dz.length
  ·rw[Gw _ h];simp only[h,aR,ay,Lib.de h f1.1];cases h1:decide (1<=bY (aw dz i 0)/\bY (aw dz i 0)<=9)with
   |false=>left;simp[el,h1]
   |true=>
    simp only[ba,aD];by_cases hz:0<i
    ·have e0:decide ((i:az)>0)=true:=by simp;omega
     have hp:i-1<dz.length:=by omega
     have hi0:(i==0)=false:=by simp;omega
     simp only[e0,ay,BO hz (by have:=f1.1;omega),Lib.cS,Lib.dE,Lib.eG,hp,aR,aP];cases h2:decide (bY (aw dz (i-1) 0)≥bY (aw dz i 0))with
     |true=>
      left;have e3:decide (bY (aw dz (i-1) 0)<bY (aw dz i 0))=false:=by simp at h2⊢;omega
      simp[el,e3,hi0]
     |false=>
      have e3:decide (bY (aw dz (i-1) 0)<bY (aw dz i 0))=true:=by simp at h2⊢;omega
      cases h3:decide (0<=bY (aw dz i 1)/\bY (aw dz i 1)<=eM.size)with
      |false=>left;simp[el,h3]
      |true=>right;exact⟨i+1,h,by omega,by simp only[el,h1,h3,e3,Ip,bj],rfl⟩
    ·have hz:i=0:=by omega
     subst hz;simp only[show decide (((0:aG):az)>0)=aq from rfl,aD];cases h3:decide (0<=bY (aw dz 0 1)/\bY (aw dz 0 1)<=eM.size)with
     |false=>left;simp[el,h3]
     |true=>right;exact⟨1,h,by omega,by simp only[el,h1,h3,bj];rfl,rfl⟩
  ·left;have h0:dz.length-i=0:=by omega
   simp only[h,bm,aD,h0,PG,List.all_nil,bj]) (dz.length+1) 0 (by omega) (by omega)
 refine this.trans ?_;unfold v;rw[uD,<-PH]
end kY

namespace Et
def b(kr:DQ R)(a:az)(d:au)(e:aW)(f:au):aC R:=bif ID.c a d e then bif !kY.v a d e then kr a d e aq else bif a !=1 then kr a d e aq else bif !kG.v (f.size:az) 1 40 then kr a d e aq else bif decide (bN ((d.size:az)+(f.size:az))>400)then kr a d e aq else bif decide (d.size+f.size<=4611686018427387904)then kr a (d++f) e ak else ao else ao
def v(fN:az)(eM:au)(dz:aW)(gb:au):az×au×aW×aY:=
 if kY.v fN eM dz=ak/\fN=1/\1<=gb.size/\gb.size<=40/\eM.size+gb.size<=400 then(fN,eM++gb,dz,ak)else(fN,eM,dz,aq)
def c(fN:az)(eM:au)(dz:aW)(gb:au):aY:=decide (dz.length<=4294967296)
theorem fM(kr:DQ R)(fN:az)(eM:au)(dz:aW)(gb:au)(hc:c fN eM dz gb=ak)(f0:F2 eM)(f1:ur dz)(f2:F2 gb):b kr fN eM dz gb=kr (v fN eM dz gb).1 (v fN eM dz gb).2.1 (v fN eM dz gb).2.2.1 (v fN eM dz gb).2.2.2:=by
 have hs1:eM.size<=4611686018427387904:=f0;have Lv:gb.size<=4611686018427387904:=f2;have e1:ID.c fN eM dz=true:=hc;have e2:∀a b c,kY.v a b c=kY.v a b c:=λ_ _ _=>rfl;have e3:∀n a b,kG.v n a b=decide (a<=n/\n<=b):=kY.mo;unfold b v;rw[e1,e2,e3,ay];cases h1:kY.v fN eM dz with
 |false=>simp
 |true=>
  by_cases h2:fN=1
  ·by_cases h3:1<=(gb.size:az)/\(gb.size:az)<=40
   ·have e4:bN ((eM.size:az)+(gb.size:az))=eM.size+gb.size:=jS (by omega) (by omega);rw[e4,aJ h3];by_cases h4:(eM.size:az)+(gb.size:az)>400
    ·rw[Lib.AM h4,bM (by omega)];simp[h2]
    ·rw[Lib.GQ h4,bC (by refine⟨rfl,h2, ?_, ?_, ?_⟩<;>omega),Lib.AM (show eM.size+gb.size<=4611686018427387904 by omega)];simp[h2]
   ·rw[aM h3,bM (by omega)];simp
  ·have ic:(fN !=1)=true:=bne_iff_ne.mpr h2;rw[bM (by simp[h2]),ic];rfl
end Et

namespace rH
def r1(N:aG)(g k0:jl R)(a d e f h i:az)(j l m o p q:aW):aC R:=bif decide (e<(q.length:az))then bif decide (0<=e)&&decide (e<(q.length:az))then bif decide (bY (aw q e.toNat 2)=bN (a+1))then bif decide (0<=e)&&decide (e<(q.length:az))then bif decide (bY (aw q e.toNat 4)=1)then bif decide (0<=a)&&decide (a<(p.length:az))then bif decide (0<=e)&&decide (e<(q.length:az))then bif decide (0<=e)&&decide (e<((eA q e.toNat 5 [.s (bH (aw p a.toNat 1))]).length:az))then g a d (bN (e+1)) f h i j l m o p (eA (eA q e.toNat 5 [.s (bH (aw p a.toNat 1))]) e.toNat 4 [.i .i64 d])else ao else ao else ao else g a d (bN (e+1)) f h i j l m o p q else ao else g a d (bN (e+1)) f h i j l m o p q else ao else k0 a d e f h i j l m o p q
def l1(N:aG)(k0:jl R):aG->jl R
 |0=>λ_ _ _ _ _ _ _ _ _ _ _ _=>ao
 |n+1=>r1 N (l1 N k0 n) k0
def b(N:aG)(kr:fa R)(a:az)(d e f h:aW)(i:az)(j l:aW)(m o p:az):aC R:=l1 N (λ_ _ _ q r s t u w y z α=>kr q t u w y r z α s) N o p 0 a i m d e f h j l
def vo:=b Lib.c9 λr0 r1 r2 r3 r4 r5 r6 r7 r8=>aj (r0,r1,r2,r3,r4,r5,r6,r7,r8)
def c:=λa d e f h i j l m o p=>(vo a d e f h i j l m o p).isSome
def v:=λa d e f h i j l m o p=>(vo a d e f h i j l m o p).getD (0,[],[],[],[],0,[],[],0)
theorem out{x}:∀a d e f h i j l m o p,vo a d e f h i j l m o p=aj x->c a d e f h i j l m o p=ak/\v a d e f h i j l m o p=x:=λ_ _ _ _ _ _ _ _ _ _ _=>Lib.dB
end rH

namespace TF
def b(kr:kq R)(a:az)(d e f h:aW)(i:az)(j l:aW)(m o:az)(p:au):aC R:=bif kZ.c a d e f h i j l m then Lib.lt (kZ.v a d e f h i j l m) λq=>bif tL.c a d e f h i j l m o then Lib.lt (tL.v a d e f h i j l m o) λr=>bif !r then kr q.1 q.2.1 q.2.2.1 q.2.2.2.1 q.2.2.2.2.1 q.2.2.2.2.2.1 q.2.2.2.2.2.2.1 q.2.2.2.2.2.2.2.1 q.2.2.2.2.2.2.2.2 aq else bif decide (0<=o)&&decide (o<(j.length:az))then bif !(Et.v 1 (bH (aw j o.toNat 1)) [] p).2.2.2 then kr q.1 q.2.1 q.2.2.1 q.2.2.2.1 q.2.2.2.2.1 q.2.2.2.2.2.1 q.2.2.2.2.2.2.1 q.2.2.2.2.2.2.2.1 q.2.2.2.2.2.2.2.2 aq else bif decide (0<=o)&&decide (o<(q.2.2.2.2.2.2.1.length:az))then bif rH.c q.1 q.2.1 q.2.2.1 q.2.2.2.1 q.2.2.2.2.1 q.2.2.2.2.2.1 (eA q.2.2.2.2.2.2.1 o.toNat 1 [.s (Et.v 1 (bH (aw j o.toNat 1)) [] p).2.1]) q.2.2.2.2.2.2.2.1 q.2.2.2.2.2.2.2.2 o 1 then Lib.lt (rH.v q.1 q.2.1 q.2.2.1 q.2.2.2.1 q.2.2.2.2.1 q.2.2.2.2.2.1 (eA q.2.2.2.2.2.2.1 o.toNat 1 [.s (Et.v 1 (bH (aw j o.toNat 1)) [] p).2.1]) q.2.2.2.2.2.2.2.1 q.2.2.2.2.2.2.2.2 o 1) λs=>kr s.1 s.2.1 s.2.2.1 s.2.2.2.1 s.2.2.2.2.1 s.2.2.2.2.2.1 s.2.2.2.2.2.2.1 s.2.2.2.2.2.2.2.1 s.2.2.2.2.2.2.2.2 ak else ao else ao else ao else ao else ao
def vo:=b λr0 r1 r2 r3 r4 r5 r6 r7 r8 r9=>aj (r0,r1,r2,r3,r4,r5,r6,r7,r8,r9)
def c:=λa d e f h i j l m o p=>(vo a d e f h i j l m o p).isSome
def v:=λa d e f h i j l m o p=>(vo a d e f h i j l m o p).getD (0,[],[],[],[],0,[],[],0,aq)
theorem out{x}:∀a d e f h i j l m o p,vo a d e f h i j l m o p=aj x->c a d e f h i j l m o p=ak/\v a d e f h i j l m o p=x:=λ_ _ _ _ _ _ _ _ _ _ _=>Lib.dB
end TF

namespace fL
def r9(N:aG)(g k0:oa R)(a:aW)(d:az)(e:au)(f h:az)(i:au)(j:aW):aC R:=bif decide (d<(a.length:az))then bif decide (0<=d)&&decide (d<(a.length:az))then bif !(cf (bH (aw a d.toNat 0)).toList (aL e)||List.beq (bH (aw a d.toNat 0)).toList (aL e))then bif decide (0<=d)&&decide (d<(a.length:az))then bif cK (j.length+(aE (aT [Ck.s,Ck.i ar,Ck.i ar,Ck.s] 1) 0 [.s (bH (aw a d.toNat 0)), .i .i64 (bY (aw a d.toNat 1)), .i .i64 (bY (aw a d.toNat (1+1))), .s (bH (aw a d.toNat (1+1+1)))]).length) 48 then g a (bN (d+1)) e f h i (j++aE (aT [Ck.s,Ck.i ar,Ck.i ar,Ck.s] 1) 0 [.s (bH (aw a d.toNat 0)), .i .i64 (bY (aw a d.toNat 1)), .i .i64 (bY (aw a d.toNat (1+1))), .s (bH (aw a d.toNat (1+1+1)))])else ao else ao else g a (bN (d+1)) e f h i j else ao else k0 a d e f h i j
def l9(N:aG)(k0:oa R):aG->oa R
 |0=>λ_ _ _ _ _ _ _=>ao
 |n+1=>r9 N (l9 N k0 n) k0
def r3(N:aG)(g k0:oa R)(a:aW)(d:az)(e:au)(f h:az)(i:au)(j:aW):aC R:=bif decide (d<(a.length:az))then bif decide (0<=d)&&decide (d<(a.length:az))then bif cf (bH (aw a d.toNat 0)).toList (aL e)then bif decide (0<=d)&&decide (d<(a.length:az))then bif cK (j.length+(aE (aT [Ck.s,Ck.i ar,Ck.i ar,Ck.s] 1) 0 [.s (bH (aw a d.toNat 0)), .i .i64 (bY (aw a d.toNat 1)), .i .i64 (bY (aw a d.toNat (1+1))), .s (bH (aw a d.toNat (1+1+1)))]).length) 48 then g a (bN (d+1)) e f h i (j++aE (aT [Ck.s,Ck.i ar,Ck.i ar,Ck.s] 1) 0 [.s (bH (aw a d.toNat 0)), .i .i64 (bY (aw a d.toNat 1)), .i .i64 (bY (aw a d.toNat (1+1))), .s (bH (aw a d.toNat (1+1+1)))])else ao else ao else g a (bN (d+1)) e f h i j else ao else k0 a d e f h i j
def l3(N:aG)(k0:oa R):aG->oa R
 |0=>λ_ _ _ _ _ _ _=>ao
 |n+1=>r3 N (l3 N k0 n) k0
def b(N:aG)(kr:aW->aC R)(a:aW)(d:au)(e f:az)(h:au):aC R:=l3 N (λi _ j l m o p=>bif cK (p.length+(aE (aT [Ck.s,Ck.i ar,Ck.i ar,Ck.s] 1) 0 [.s j, .i .i64 l, .i .i64 m, .s o]).length) 48 then l9 N (λ_ _ _ _ _ _ q=>kr q) N i 0 j l m o (p++aE (aT [Ck.s,Ck.i ar,Ck.i ar,Ck.s] 1) 0 [.s j, .i .i64 l, .i .i64 m, .s o])else ao) N a 0 d e f h (aT [Ck.s,Ck.i ar,Ck.i ar,Ck.s] 0)
def vo:=b Lib.c9 λr0=>aj r0
def c:=λa d e f h=>(vo a d e f h).isSome
def v:=λa d e f h=>(vo a d e f h).getD ([])
theorem out{x}:∀a d e f h,vo a d e f h=aj x->c a d e f h=ak/\v a d e f h=x:=λ_ _ _ _ _=>Lib.dB
end fL

namespace xJ
def b(kr:fa R)(a:az)(d e f h:aW)(i:az)(j l:aW)(m:az)(o:au)(p q:az)(r:au):aC R:=bif jv.c e f h i o then Lib.lt (jv.v e f h i o) λs=>bif !List.beq (aL s.2.2.2.2) (aL ⟨#[]⟩)then bif Ci.c d s.2.2.2.2 then Lib.lt (Ci.v d s.2.2.2.2) λt=>bif rX.c s.1 s.2.1 s.2.2.1 s.2.2.2.1 o then Lib.lt (rX.v s.1 s.2.1 s.2.2.1 s.2.2.2.1 o) λu=>bif u then bif fL.c t o p q r then Lib.lt (fL.v t o p q r) λw=>kr a w s.1 s.2.1 s.2.2.1 s.2.2.2.1 j l m else ao else kr a t s.1 s.2.1 s.2.2.1 s.2.2.2.1 j l m else ao else ao else bif rX.c s.1 s.2.1 s.2.2.1 s.2.2.2.1 o then Lib.lt (rX.v s.1 s.2.1 s.2.2.1 s.2.2.2.1 o) λt=>bif t then bif fL.c d o p q r then Lib.lt (fL.v d o p q r) λu=>kr a u s.1 s.2.1 s.2.2.1 s.2.2.2.1 j l m else ao else kr a d s.1 s.2.1 s.2.2.1 s.2.2.2.1 j l m else ao else ao
def vo:=b λr0 r1 r2 r3 r4 r5 r6 r7 r8=>aj (r0,r1,r2,r3,r4,r5,r6,r7,r8)
def c:=λa d e f h i j l m o p q r=>(vo a d e f h i j l m o p q r).isSome
def v:=λa d e f h i j l m o p q r=>(vo a d e f h i j l m o p q r).getD (0,[],[],[],[],0,[],[],0)
theorem out{x}:∀a d e f h i j l m o p q r,vo a d e f h i j l m o p q r=aj x->c a d e f h i j l m o p q r=ak/\v a d e f h i j l m o p q r=x:=λ_ _ _ _ _ _ _ _ _ _ _ _ _=>Lib.dB
end xJ

namespace TG
def b(kr:kq R)(a:az)(d e f h:aW)(i:az)(j l:aW)(m o p:az):aC R:=bif kZ.c a d e f h i j l m then Lib.lt (kZ.v a d e f h i j l m) λq=>bif tL.c a d e f h i j l m o then Lib.lt (tL.v a d e f h i j l m o) λr=>bif !r then kr q.1 q.2.1 q.2.2.1 q.2.2.2.1 q.2.2.2.2.1 q.2.2.2.2.2.1 q.2.2.2.2.2.2.1 q.2.2.2.2.2.2.2.1 q.2.2.2.2.2.2.2.2 aq else bif !kG.v p 0 999999 then kr q.1 q.2.1 q.2.2.1 q.2.2.2.1 q.2.2.2.2.1 q.2.2.2.2.2.1 q.2.2.2.2.2.2.1 q.2.2.2.2.2.2.2.1 q.2.2.2.2.2.2.2.2 aq else bif decide (0<=o)&&decide (o<(j.length:az))then bif decide (0<=o)&&decide (o<(q.2.2.2.2.2.2.1.length:az))then bif rH.c q.1 q.2.1 q.2.2.1 q.2.2.2.1 q.2.2.2.2.1 q.2.2.2.2.2.1 (eA q.2.2.2.2.2.2.1 o.toNat 0 [.s (bH (aw j o.toNat 0)), .s (bH (aw j o.toNat 1)), .i .i64 2, .i .i64 p, .i .i64 a]) q.2.2.2.2.2.2.2.1 q.2.2.2.2.2.2.2.2 o 2 then Lib.lt (rH.v q.1 q.2.1 q.2.2.1 q.2.2.2.1 q.2.2.2.2.1 q.2.2.2.2.2.1 (eA q.2.2.2.2.2.2.1 o.toNat 0 [.s (bH (aw j o.toNat 0)), .s (bH (aw j o.toNat 1)), .i .i64 2, .i .i64 p, .i .i64 a]) q.2.2.2.2.2.2.2.1 q.2.2.2.2.2.2.2.2 o 2) λs=>bif decide (p>0)then bif xJ.c s.1 s.2.1 s.2.2.1 s.2.2.2.1 s.2.2.2.2.1 s.2.2.2.2.2.1 s.2.2.2.2.2.2.1 s.2.2.2.2.2.2.2.1 s.2.2.2.2.2.2.2.2 (bH (aw j o.toNat 0)) a p (bH (aw j o.toNat 1))then Lib.lt (xJ.v s.1 s.2.1 s.2.2.1 s.2.2.2.1 s.2.2.2.2.1 s.2.2.2.2.2.1 s.2.2.2.2.2.2.1 s.2.2.2.2.2.2.2.1 s.2.2.2.2.2.2.2.2 (bH (aw j o.toNat 0)) a p (bH (aw j o.toNat 1))) λt=>kr t.1 t.2.1 t.2.2.1 t.2.2.2.1 t.2.2.2.2.1 t.2.2.2.2.2.1 t.2.2.2.2.2.2.1 t.2.2.2.2.2.2.2.1 t.2.2.2.2.2.2.2.2 ak else ao else kr s.1 s.2.1 s.2.2.1 s.2.2.2.1 s.2.2.2.2.1 s.2.2.2.2.2.1 s.2.2.2.2.2.2.1 s.2.2.2.2.2.2.2.1 s.2.2.2.2.2.2.2.2 ak else ao else ao else ao else ao else ao
def vo:=b λr0 r1 r2 r3 r4 r5 r6 r7 r8 r9=>aj (r0,r1,r2,r3,r4,r5,r6,r7,r8,r9)
def c:=λa d e f h i j l m o p=>(vo a d e f h i j l m o p).isSome
def v:=λa d e f h i j l m o p=>(vo a d e f h i j l m o p).getD (0,[],[],[],[],0,[],[],0,aq)
theorem out{x}:∀a d e f h i j l m o p,vo a d e f h i j l m o p=aj x->c a d e f h i j l m o p=ak/\v a d e f h i j l m o p=x:=λ_ _ _ _ _ _ _ _ _ _ _=>Lib.dB
end TG

namespace jX
def r2(N:aG)(g k0:aau R)(a:az)(d:aW):aC R:=bif decide (a>127)then bif cK (d.length+(aE (aT [Ck.i bk] 1) 0 [CV.i bk (bK bk (bN (cG a 128+128)))]).length) 1 then g (bN (cT a 128)) (d++aE (aT [Ck.i bk] 1) 0 [CV.i bk (bK bk (bN (cG a 128+128)))])else ao else k0 a d
def l2(N:aG)(k0:aau R):aG->aau R
 |0=>λ_ _=>ao
 |n+1=>r2 N (l2 N k0 n) k0
def b(N:aG)(kr:au->aC R)(a:az):aC R:=l2 N (λd e=>bif cK (e.length+(aE (aT [Ck.i bk] 1) 0 [CV.i bk (bK bk d)]).length) 1 then bif decide ((e++aE (aT [Ck.i bk] 1) 0 [CV.i bk (bK bk d)]).length<=4611686018427387904)then kr (bytesOf (e++aE (aT [Ck.i bk] 1) 0 [CV.i bk (bK bk d)]))else ao else ao) N a (aT [Ck.i bk] 0)
def v(n0:az):au:=bytesOf (Lib.vb n0)
def c(n0:az):aY:=decide (n0<=9223372036854775807)
theorem fM(kr:au->aC R)(n0:az)(hc:c n0=ak):∃N,b N kr n0=kr (v n0):=by
 refine⟨n0.toNat+1, ?_⟩
 refine Lib.W1 (λn x acc=>l2 (n0.toNat+1) _ n x acc) kr (λn x acc h hl=> ?_) (λn x acc h hl=> ?_) n0 (b9 hc)
 ·simp only[l2,r2,h,aR,ay,Lib.jM,show acc.length+bW [[CV.i bk (bK bk (bN (cG x 128+128)))]]=acc.length+1 from rfl,Lib.Sa (show acc.length+1<=140737488355328 by omega),show decide ((128:az)=0)=aq from rfl,Gd,bX]
 ·simp only[l2,r2,h,bm,aD,Lib.jM,show acc.length+bW [[CV.i bk (bK bk x)]]=acc.length+1 from rfl,Lib.Sa (show acc.length+1<=140737488355328 by omega),ay];exact Lib.yI (Lib.AM (by rw[bP,bw];omega))
end jX

namespace jP
def b(kr:Ow R)(a:au)(d e:az)(f:au):aC R:=bif !iM.v a d e f then kr ⟨#[]⟩ aq else bif jX.c (a.size:az)then bif decide ((jX.v (a.size:az)).size+a.size<=4611686018427387904)then bif jX.c d then bif decide ((jX.v (a.size:az)++a).size+(jX.v d).size<=4611686018427387904)then bif jX.c e then bif decide ((jX.v (a.size:az)++a++jX.v d).size+(jX.v e).size<=4611686018427387904)then bif decide ((jX.v (a.size:az)++a++jX.v d++jX.v e).size+f.size<=4611686018427387904)then kr (jX.v (a.size:az)++a++jX.v d++jX.v e++f) ak else ao else ao else ao else ao else ao else ao else ao
def rR(k:au)(s l:az)(b:au):au:=bytesOf (Lib.vb k.size)++k++bytesOf (Lib.vb s)++bytesOf (Lib.vb l)++b
def v(Cn:au)(Co:az)(Cp:az)(I6:au):au×aY:=if iM.v Cn Co Cp I6=ak then(rR Cn Co Cp I6,ak)else(⟨#[]⟩,aq)
theorem fM(kr:Ow R)(Cn:au)(Co:az)(Cp:az)(I6:au):b kr Cn Co Cp I6=kr (v Cn Co Cp I6).1 (v Cn Co Cp I6).2:=by
 unfold b v;cases h:iM.v Cn Co Cp I6 with
 |false=>rfl
 |true=>have hr:=iM.F7 h;have cc:∀x:az,x<=9223372036854775807->jX.c x=true:=λx hx=>aJ hx;have z1:(jX.v (Cn.size:az)).size<=64:=Lib.np (x:=(Cn.size:az)) (by omega);have z2:(jX.v Co).size<=64:=Lib.np (x:=Co) (by omega);have z3:(jX.v Cp).size<=64:=Lib.np (x:=Cp) (by omega);simp(disch:=omega) only[ba,aD,cc _ (show(Cn.size:az)<=9223372036854775807 by omega),cc Co (by omega),cc Cp (by omega),ay,if_true,Lib.ly,Lib.aeI];rfl
end jP

namespace o7
def b(kr:au->aC R)(a:az):aC R:=kr (bytesOf (aE (aE (aE (aE (aT [Ck.i bk] 4) 0 [CV.i bk (bK bk (kP a (g9 2 (if bc 24<=32 then bc 24 else 32))))]) 1 [CV.i bk (bK bk (kP a (g9 2 (if bc 16<=32 then bc 16 else 32))))]) 2 [CV.i bk (bK bk (kP a (g9 2 (if bc 8<=32 then bc 8 else 32))))]) 3 [CV.i bk (bK bk a)]))
def v(a0:az):au:=(bytesOf (aE (aE (aE (aE (aT [Ck.i bk] 4) 0 [CV.i bk (bK bk (kP a0 (g9 2 (if bc 24<=32 then bc 24 else 32))))]) 1 [CV.i bk (bK bk (kP a0 (g9 2 (if bc 16<=32 then bc 16 else 32))))]) 2 [CV.i bk (bK bk (kP a0 (g9 2 (if bc 8<=32 then bc 8 else 32))))]) 3 [CV.i bk (bK bk a0)]))
theorem fM(kr:au->aC R)(a0:az):b kr a0=kr (v a0):=by first|rfl|(unfold b v;simp only[c_];(repeat' split)<;>rfl)
end o7

namespace fU
def b(kr:Ow R)(a:au):aC R:=bif !kG.v (a.size:az) 1 9000 then kr ⟨#[]⟩ aq else bif jX.c (a.size:az)then bif uJ.c a then bif decide ((jX.v (a.size:az)).size+(o7.v (uJ.v a)).size<=4611686018427387904)then bif decide ((jX.v (a.size:az)++o7.v (uJ.v a)).size+a.size<=4611686018427387904)then kr (jX.v (a.size:az)++o7.v (uJ.v a)++a) ak else ao else ao else ao else ao
def vo:=b λr0 r1=>aj (r0,r1)
def c:=λa=>(vo a).isSome
def v:=λa=>(vo a).getD (⟨#[]⟩,aq)
theorem out{x}:∀a,vo a=aj x->c a=ak/\v a=x:=λ_=>Lib.dB
end fU

namespace Cg
def b(kr:T6 R)(a:au)(d e:az)(f:au):aC R:=bif fU.c (jP.v a d e f).1 then bif !(jP.v a d e f).2 then kr (aT [Ck.i ar,Ck.s,Ck.s,Ck.s] 0) aq else bif !(fU.v (jP.v a d e f).1).2 then kr (aT [Ck.i ar,Ck.s,Ck.s,Ck.s] 0) aq else kr (aE (aE (aT [Ck.i ar,Ck.s,Ck.s,Ck.s] 2) 0 [.i .i64 1, .s {data:= #[ax 107,ax 101,ax 112,ax 116]}, .s (fU.v (jP.v a d e f).1).1, .s ⟨#[]⟩]) 1 [.i .i64 2, .s {data:= #[ax 107,ax 101,ax 112,ax 116]}, .s ⟨#[]⟩, .s ⟨#[]⟩]) ak else ao
def vo:=b λr0 r1=>aj (r0,r1)
def c:=λa d e f=>(vo a d e f).isSome
def v:=λa d e f=>(vo a d e f).getD ([],aq)
theorem out{x}:∀a d e f,vo a d e f=aj x->c a d e f=ak/\v a d e f=x:=λ_ _ _ _=>Lib.dB
end Cg

namespace pJ
def b(kr:aY->aC R)(a:au):aC R:=kr (kG.v (a.size:az) 1 8)
def v(a0:au):aY:=(kG.v (a0.size:az) 1 8)
theorem fM(kr:aY->aC R)(a0:au):b kr a0=kr (v a0):=by first|rfl|(unfold b v;simp only[c_];(repeat' split)<;>rfl)
end pJ

namespace dF
def r4(N:aG)(g k0 k1:Oq R)(a:aY)(d:az)(e:aW):aC R:=bif decide (d<(e.length:az))then bif decide (0<=d)&&decide (d<(e.length:az))then bif !pJ.v (bH (aw e d.toNat 0))then k0 aq d e else bif decide (((bH (aw e d.toNat 1)).size:az)>20000)then k0 aq d e else bif !kG.v (bY (aw e d.toNat (1+1))) 0 ((bH (aw e d.toNat 1)).size:az)then k0 aq d e else bif decide (d>0)then bif decide (0<=bN (d-1))&&decide (bN (d-1)<(e.length:az))then bif !Op.bytesLess (bH (aw e (bN (d-1)).toNat 0)).toList (bH (aw e d.toNat 0)).toList then k0 aq d e else g a (bN (d+1)) e else ao else g a (bN (d+1)) e else ao else k1 a d e
def l4(N:aG)(k0 k1:Oq R):aG->Oq R
 |0=>λ_ _ _=>ao
 |n+1=>r4 N (l4 N k0 k1 n) k0 k1
def b(N:aG)(kr:aY->aC R)(a:aW):aC R:=bif decide ((a.length:az)>30)then kr aq else l4 N (λd _ _=>kr d) (λ_ _ _=>kr ak) N aq 0 a
def vo:=b Lib.c9 λr0=>aj r0
def c:=λa=>(vo a).isSome
def v:=λa=>(vo a).getD aq
theorem out{x}:∀a,vo a=aj x->c a=ak/\v a=x:=λ_=>Lib.dB
end dF

namespace jf
def r2(N:aG)(g k0 k1:ny R)(a:au)(d e:az)(f:aW):aC R:=bif decide (e<(f.length:az))then bif decide (0<=e)&&decide (e<(f.length:az))then bif dg (bH (aw f e.toNat 0)).toList (aL a)then k0 a e e f else g a d (bN (e+1)) f else ao else k1 a d e f
def l2(N:aG)(k0 k1:ny R):aG->ny R
 |0=>λ_ _ _ _=>ao
 |n+1=>r2 N (l2 N k0 k1 n) k0 k1
def b(N:aG)(kr:az->aC R)(a:aW)(d:au):aC R:=l2 N (λ_ e _ _=>kr e) (λ_ _ _ _=>kr (-1)) N d 0 0 a
def vo:=b Lib.c9 λr0=>aj r0
def c:=λa d=>(vo a d).isSome
def v:=λa d=>(vo a d).getD (0)
theorem out{x}:∀a d,vo a d=aj x->c a d=ak/\v a d=x:=λ_ _=>Lib.dB
end jf

namespace d_
def r9(N:aG)(g k0:k_ R)(a:az)(d:aW)(e f:au)(h:az)(i:aW):aC R:=bif decide (a<(d.length:az))then bif decide (0<=a)&&decide (a<(d.length:az))then bif !(cf (bH (aw d a.toNat 0)).toList (aL e)||List.beq (bH (aw d a.toNat 0)).toList (aL e))then bif decide (0<=a)&&decide (a<(d.length:az))then bif cK (i.length+(aE (aT [Ck.s,Ck.s,Ck.i ar] 1) 0 [.s (bH (aw d a.toNat 0)), .s (bH (aw d a.toNat 1)), .i .i64 (bY (aw d a.toNat (1+1)))]).length) 40 then g (bN (a+1)) d e f h (i++aE (aT [Ck.s,Ck.s,Ck.i ar] 1) 0 [.s (bH (aw d a.toNat 0)), .s (bH (aw d a.toNat 1)), .i .i64 (bY (aw d a.toNat (1+1)))])else ao else ao else g (bN (a+1)) d e f h i else ao else k0 a d e f h i
def l9(N:aG)(k0:k_ R):aG->k_ R
 |0=>λ_ _ _ _ _ _=>ao
 |n+1=>r9 N (l9 N k0 n) k0
def r3(N:aG)(g:qB R)(g1:k_ R)(k0:qB R)(k1:k_ R)(a:az)(d:aW)(e f:au)(h:az):aC R:=bif decide (a<(d.length:az))then bif decide (0<=a)&&decide (a<(d.length:az))then bif cf (bH (aw d a.toNat 0)).toList (aL e)then bif decide (0<=a)&&decide (a<(d.length:az))then g1 (bN (a+1)) d e f h ([]++aE (aT [Ck.s,Ck.s,Ck.i ar] 1) 0 [.s (bH (aw d a.toNat 0)), .s (bH (aw d a.toNat 1)), .i .i64 (bY (aw d a.toNat (1+1)))])else ao else g (bN (a+1)) d e f h else ao else k0 a d e f h
def zV(N:aG)(g:qB R)(g1:k_ R)(k0:qB R)(k1:k_ R)(a:az)(d:aW)(e f:au)(h:az)(i:aW):aC R:=bif decide (a<(d.length:az))then bif decide (0<=a)&&decide (a<(d.length:az))then bif cf (bH (aw d a.toNat 0)).toList (aL e)then bif decide (0<=a)&&decide (a<(d.length:az))then bif cK (i.length+(aE (aT [Ck.s,Ck.s,Ck.i ar] 1) 0 [.s (bH (aw d a.toNat 0)), .s (bH (aw d a.toNat 1)), .i .i64 (bY (aw d a.toNat (1+1)))]).length) 40 then g1 (bN (a+1)) d e f h (i++aE (aT [Ck.s,Ck.s,Ck.i ar] 1) 0 [.s (bH (aw d a.toNat 0)), .s (bH (aw d a.toNat 1)), .i .i64 (bY (aw d a.toNat (1+1)))])else ao else ao else g1 (bN (a+1)) d e f h i else ao else k1 a d e f h i
def tT(N:aG)(k0:qB R)(k1:k_ R):aG->k_ R
 |0=>λ_ _ _ _ _ _=>ao
 |n+1=>zV N (λx0 x1 x2 x3 x4=>ao) (tT N k0 k1 n) k0 k1
def l3(N:aG)(k0:qB R)(k1:k_ R):aG->qB R
 |0=>λ_ _ _ _ _=>ao
 |n+1=>r3 N (l3 N k0 k1 n) (tT N k0 k1 n) k0 k1
def b(N:aG)(kr:aW->aC R)(a:aW)(d e:au)(f:az):aC R:=l3 N (λ_ h i j l=>l9 N (λ_ _ _ _ _ m=>kr m) N 0 h i j l ([]++aE (aT [Ck.s,Ck.s,Ck.i ar] 1) 0 [.s i, .s j, .i .i64 l])) (λ_ h i j l m=>bif cK (m.length+(aE (aT [Ck.s,Ck.s,Ck.i ar] 1) 0 [.s i, .s j, .i .i64 l]).length) 40 then l9 N (λ_ _ _ _ _ o=>kr o) N 0 h i j l (m++aE (aT [Ck.s,Ck.s,Ck.i ar] 1) 0 [.s i, .s j, .i .i64 l])else ao) N 0 a d e f
def vo:=b Lib.c9 λr0=>aj r0
def c:=λa d e f=>(vo a d e f).isSome
def v:=λa d e f=>(vo a d e f).getD ([])
theorem out{x}:∀a d e f,vo a d e f=aj x->c a d e f=ak/\v a d e f=x:=λ_ _ _ _=>Lib.dB
end d_

namespace eC
def r3(N:aG)(g:tY R)(g1:uq R)(k0:tY R)(k1:uq R)(a:au)(d:az)(e:aW):aC R:=bif decide (d<(e.length:az))then bif decide (0<=d)&&decide (d<(e.length:az))then bif !List.beq (bH (aw e d.toNat 0)).toList (aL a)then bif decide (0<=d)&&decide (d<(e.length:az))then g1 a (bN (d+1)) e ([]++aE (aT [Ck.s,Ck.s,Ck.i ar] 1) 0 [.s (bH (aw e d.toNat 0)), .s (bH (aw e d.toNat 1)), .i .i64 (bY (aw e d.toNat (1+1)))])else ao else g a (bN (d+1)) e else ao else k0 a d e
def zV(N:aG)(g:tY R)(g1:uq R)(k0:tY R)(k1:uq R)(a:au)(d:az)(e f:aW):aC R:=bif decide (d<(e.length:az))then bif decide (0<=d)&&decide (d<(e.length:az))then bif !List.beq (bH (aw e d.toNat 0)).toList (aL a)then bif decide (0<=d)&&decide (d<(e.length:az))then bif cK (f.length+(aE (aT [Ck.s,Ck.s,Ck.i ar] 1) 0 [.s (bH (aw e d.toNat 0)), .s (bH (aw e d.toNat 1)), .i .i64 (bY (aw e d.toNat (1+1)))]).length) 40 then g1 a (bN (d+1)) e (f++aE (aT [Ck.s,Ck.s,Ck.i ar] 1) 0 [.s (bH (aw e d.toNat 0)), .s (bH (aw e d.toNat 1)), .i .i64 (bY (aw e d.toNat (1+1)))])else ao else ao else g1 a (bN (d+1)) e f else ao else k1 a d e f
def tT(N:aG)(k0:tY R)(k1:uq R):aG->uq R
 |0=>λ_ _ _ _=>ao
 |n+1=>zV N (λx0 x1 x2=>ao) (tT N k0 k1 n) k0 k1
def l3(N:aG)(k0:tY R)(k1:uq R):aG->tY R
 |0=>λ_ _ _=>ao
 |n+1=>r3 N (l3 N k0 k1 n) (tT N k0 k1 n) k0 k1
def b(N:aG)(kr:aW->aC R)(a:aW)(d:au):aC R:=l3 N (λ_ _ _=>kr []) (λ_ _ _ e=>kr e) N d 0 a
def vo:=b Lib.c9 λr0=>aj r0
def c:=λa d=>(vo a d).isSome
def v:=λa d=>(vo a d).getD ([])
theorem out{x}:∀a d,vo a d=aj x->c a d=ak/\v a d=x:=λ_ _=>Lib.dB
end eC

namespace Aw
def b(kr:T6 R)(a:aW)(d:az)(e f h:au):aC R:=bif dF.c a then bif !dF.v a then kr [] aq else bif !pJ.v e then kr [] aq else bif d !=3 then bif !List.beq (aL h) (aL ⟨#[]⟩)then kr [] aq else bif d !=1 then bif !List.beq (aL f) (aL ⟨#[]⟩)then kr [] aq else bif jf.c a e then Lib.lt (jf.v a e) λi=>bif decide (i≥0)then bif decide (0<=i)&&decide (i<(a.length:az))then bif decide (d=1)then bif decide ((bH (aw a i.toNat 1)).size+f.size<=4611686018427387904)then bif d_.c a (bH (aw a i.toNat 0)) (bH (aw a i.toNat 1)++f) (bY (aw a i.toNat (1+1)))then Lib.lt (d_.v a (bH (aw a i.toNat 0)) (bH (aw a i.toNat 1)++f) (bY (aw a i.toNat (1+1)))) λj=>bif dF.c j then bif !dF.v j then kr [] aq else kr j ak else ao else ao else ao else bif decide (i<0)then kr [] aq else bif decide (d=2)then bif d_.c a (bH (aw a i.toNat 0)) (bH (aw a i.toNat 1)) ((bH (aw a i.toNat 1)).size:az)then Lib.lt (d_.v a (bH (aw a i.toNat 0)) (bH (aw a i.toNat 1)) ((bH (aw a i.toNat 1)).size:az)) λj=>bif dF.c j then bif !dF.v j then kr [] aq else kr j ak else ao else ao else bif decide (d=3)then bif decide (bY (aw a i.toNat (1+1))<((bH (aw a i.toNat 1)).size:az))then kr [] aq else bif dg (aL h) (aL e)then kr [] aq else bif !pJ.v h then kr [] aq else bif eC.c a e then bif d_.c (eC.v a e) h (bH (aw a i.toNat 1)) (bY (aw a i.toNat (1+1)))then bif dF.c (d_.v (eC.v a e) h (bH (aw a i.toNat 1)) (bY (aw a i.toNat (1+1))))then bif !dF.v (d_.v (eC.v a e) h (bH (aw a i.toNat 1)) (bY (aw a i.toNat (1+1))))then kr [] aq else kr (d_.v (eC.v a e) h (bH (aw a i.toNat 1)) (bY (aw a i.toNat (1+1)))) ak else ao else ao else ao else bif decide (d=4)then bif eC.c a e then bif dF.c (eC.v a e)then bif !dF.v (eC.v a e)then kr [] aq else kr (eC.v a e) ak else ao else ao else kr [] aq else ao else bif decide (d=1)then bif decide (c5 ⟨#[]⟩+f.size<=4611686018427387904)then bif d_.c a e ({data:= #[]}++f) 0 then bif dF.c (d_.v a e ({data:= #[]}++f) 0)then bif !dF.v (d_.v a e ({data:= #[]}++f) 0)then kr [] aq else kr (d_.v a e ({data:= #[]}++f) 0) ak else ao else ao else ao else bif decide (i<0)then kr [] aq else bif decide (d=2)then bif d_.c a e ⟨#[]⟩ (c5 ⟨#[]⟩:az)then bif dF.c (d_.v a e ⟨#[]⟩ (c5 ⟨#[]⟩:az))then bif !dF.v (d_.v a e ⟨#[]⟩ (c5 ⟨#[]⟩:az))then kr [] aq else kr (d_.v a e ⟨#[]⟩ (c5 ⟨#[]⟩:az)) ak else ao else ao else bif decide (d=3)then bif dg (aL h) (aL e)then kr [] aq else bif !pJ.v h then kr [] aq else bif eC.c a e then bif d_.c (eC.v a e) h ⟨#[]⟩ 0 then bif dF.c (d_.v (eC.v a e) h ⟨#[]⟩ 0)then bif !dF.v (d_.v (eC.v a e) h ⟨#[]⟩ 0)then kr [] aq else kr (d_.v (eC.v a e) h ⟨#[]⟩ 0) ak else ao else ao else ao else bif decide (d=4)then bif eC.c a e then bif dF.c (eC.v a e)then bif !dF.v (eC.v a e)then kr [] aq else kr (eC.v a e) ak else ao else ao else kr [] aq else ao else bif jf.c a e then Lib.lt (jf.v a e) λi=>bif decide (i≥0)then bif decide (0<=i)&&decide (i<(a.length:az))then bif decide (d=1)then bif decide ((bH (aw a i.toNat 1)).size+f.size<=4611686018427387904)then bif d_.c a (bH (aw a i.toNat 0)) (bH (aw a i.toNat 1)++f) (bY (aw a i.toNat (1+1)))then Lib.lt (d_.v a (bH (aw a i.toNat 0)) (bH (aw a i.toNat 1)++f) (bY (aw a i.toNat (1+1)))) λj=>bif dF.c j then bif !dF.v j then kr [] aq else kr j ak else ao else ao else ao else bif decide (i<0)then kr [] aq else bif decide (d=2)then bif d_.c a (bH (aw a i.toNat 0)) (bH (aw a i.toNat 1)) ((bH (aw a i.toNat 1)).size:az)then Lib.lt (d_.v a (bH (aw a i.toNat 0)) (bH (aw a i.toNat 1)) ((bH (aw a i.toNat 1)).size:az)) λj=>bif dF.c j then bif !dF.v j then kr [] aq else kr j ak else ao else ao else bif decide (d=3)then bif decide (bY (aw a i.toNat (1+1))<((bH (aw a i.toNat 1)).size:az))then kr [] aq else bif dg (aL h) (aL e)then kr [] aq else bif !pJ.v h then kr [] aq else bif eC.c a e then bif d_.c (eC.v a e) h (bH (aw a i.toNat 1)) (bY (aw a i.toNat (1+1)))then bif dF.c (d_.v (eC.v a e) h (bH (aw a i.toNat 1)) (bY (aw a i.toNat (1+1))))then bif !dF.v (d_.v (eC.v a e) h (bH (aw a i.toNat 1)) (bY (aw a i.toNat (1+1))))then kr [] aq else kr (d_.v (eC.v a e) h (bH (aw a i.toNat 1)) (bY (aw a i.toNat (1+1)))) ak else ao else ao else ao else bif decide (d=4)then bif eC.c a e then bif dF.c (eC.v a e)then bif !dF.v (eC.v a e)then kr [] aq else kr (eC.v a e) ak else ao else ao else kr [] aq else ao else bif decide (d=1)then bif decide (c5 ⟨#[]⟩+f.size<=4611686018427387904)then bif d_.c a e ({data:= #[]}++f) 0 then bif dF.c (d_.v a e ({data:= #[]}++f) 0)then bif !dF.v (d_.v a e ({data:= #[]}++f) 0)then kr [] aq else kr (d_.v a e ({data:= #[]}++f) 0) ak else ao else ao else ao else bif decide (i<0)then kr [] aq else bif decide (d=2)then bif d_.c a e ⟨#[]⟩ (c5 ⟨#[]⟩:az)then bif dF.c (d_.v a e ⟨#[]⟩ (c5 ⟨#[]⟩:az))then bif !dF.v (d_.v a e ⟨#[]⟩ (c5 ⟨#[]⟩:az))then kr [] aq else kr (d_.v a e ⟨#[]⟩ (c5 ⟨#[]⟩:az)) ak else ao else ao else bif decide (d=3)then bif dg (aL h) (aL e)then kr [] aq else bif !pJ.v h then kr [] aq else bif eC.c a e then bif d_.c (eC.v a e) h ⟨#[]⟩ 0 then bif dF.c (d_.v (eC.v a e) h ⟨#[]⟩ 0)then bif !dF.v (d_.v (eC.v a e) h ⟨#[]⟩ 0)then kr [] aq else kr (d_.v (eC.v a e) h ⟨#[]⟩ 0) ak else ao else ao else ao else bif decide (d=4)then bif eC.c a e then bif dF.c (eC.v a e)then bif !dF.v (eC.v a e)then kr [] aq else kr (eC.v a e) ak else ao else ao else kr [] aq else ao else bif d !=1 then bif !List.beq (aL f) (aL ⟨#[]⟩)then kr [] aq else bif jf.c a e then Lib.lt (jf.v a e) λi=>bif decide (i≥0)then bif decide (0<=i)&&decide (i<(a.length:az))then bif decide (d=1)then bif decide ((bH (aw a i.toNat 1)).size+f.size<=4611686018427387904)then bif d_.c a (bH (aw a i.toNat 0)) (bH (aw a i.toNat 1)++f) (bY (aw a i.toNat (1+1)))then Lib.lt (d_.v a (bH (aw a i.toNat 0)) (bH (aw a i.toNat 1)++f) (bY (aw a i.toNat (1+1)))) λj=>bif dF.c j then bif !dF.v j then kr [] aq else kr j ak else ao else ao else ao else bif decide (i<0)then kr [] aq else bif decide (d=2)then bif d_.c a (bH (aw a i.toNat 0)) (bH (aw a i.toNat 1)) ((bH (aw a i.toNat 1)).size:az)then Lib.lt (d_.v a (bH (aw a i.toNat 0)) (bH (aw a i.toNat 1)) ((bH (aw a i.toNat 1)).size:az)) λj=>bif dF.c j then bif !dF.v j then kr [] aq else kr j ak else ao else ao else bif decide (d=3)then bif decide (bY (aw a i.toNat (1+1))<((bH (aw a i.toNat 1)).size:az))then kr [] aq else bif dg (aL h) (aL e)then kr [] aq else bif !pJ.v h then kr [] aq else bif eC.c a e then bif d_.c (eC.v a e) h (bH (aw a i.toNat 1)) (bY (aw a i.toNat (1+1)))then bif dF.c (d_.v (eC.v a e) h (bH (aw a i.toNat 1)) (bY (aw a i.toNat (1+1))))then bif !dF.v (d_.v (eC.v a e) h (bH (aw a i.toNat 1)) (bY (aw a i.toNat (1+1))))then kr [] aq else kr (d_.v (eC.v a e) h (bH (aw a i.toNat 1)) (bY (aw a i.toNat (1+1)))) ak else ao else ao else ao else bif decide (d=4)then bif eC.c a e then bif dF.c (eC.v a e)then bif !dF.v (eC.v a e)then kr [] aq else kr (eC.v a e) ak else ao else ao else kr [] aq else ao else bif decide (d=1)then bif decide (c5 ⟨#[]⟩+f.size<=4611686018427387904)then bif d_.c a e ({data:= #[]}++f) 0 then bif dF.c (d_.v a e ({data:= #[]}++f) 0)then bif !dF.v (d_.v a e ({data:= #[]}++f) 0)then kr [] aq else kr (d_.v a e ({data:= #[]}++f) 0) ak else ao else ao else ao else bif decide (i<0)then kr [] aq else bif decide (d=2)then bif d_.c a e ⟨#[]⟩ (c5 ⟨#[]⟩:az)then bif dF.c (d_.v a e ⟨#[]⟩ (c5 ⟨#[]⟩:az))then bif !dF.v (d_.v a e ⟨#[]⟩ (c5 ⟨#[]⟩:az))then kr [] aq else kr (d_.v a e ⟨#[]⟩ (c5 ⟨#[]⟩:az)) ak else ao else ao else bif decide (d=3)then bif dg (aL h) (aL e)then kr [] aq else bif !pJ.v h then kr [] aq else bif eC.c a e then bif d_.c (eC.v a e) h ⟨#[]⟩ 0 then bif dF.c (d_.v (eC.v a e) h ⟨#[]⟩ 0)then bif !dF.v (d_.v (eC.v a e) h ⟨#[]⟩ 0)then kr [] aq else kr (d_.v (eC.v a e) h ⟨#[]⟩ 0) ak else ao else ao else ao else bif decide (d=4)then bif eC.c a e then bif dF.c (eC.v a e)then bif !dF.v (eC.v a e)then kr [] aq else kr (eC.v a e) ak else ao else ao else kr [] aq else ao else bif jf.c a e then Lib.lt (jf.v a e) λi=>bif decide (i≥0)then bif decide (0<=i)&&decide (i<(a.length:az))then bif decide (d=1)then bif decide ((bH (aw a i.toNat 1)).size+f.size<=4611686018427387904)then bif d_.c a (bH (aw a i.toNat 0)) (bH (aw a i.toNat 1)++f) (bY (aw a i.toNat (1+1)))then Lib.lt (d_.v a (bH (aw a i.toNat 0)) (bH (aw a i.toNat 1)++f) (bY (aw a i.toNat (1+1)))) λj=>bif dF.c j then bif !dF.v j then kr [] aq else kr j ak else ao else ao else ao else bif decide (i<0)then kr [] aq else bif decide (d=2)then bif d_.c a (bH (aw a i.toNat 0)) (bH (aw a i.toNat 1)) ((bH (aw a i.toNat 1)).size:az)then Lib.lt (d_.v a (bH (aw a i.toNat 0)) (bH (aw a i.toNat 1)) ((bH (aw a i.toNat 1)).size:az)) λj=>bif dF.c j then bif !dF.v j then kr [] aq else kr j ak else ao else ao else bif decide (d=3)then bif decide (bY (aw a i.toNat (1+1))<((bH (aw a i.toNat 1)).size:az))then kr [] aq else bif dg (aL h) (aL e)then kr [] aq else bif !pJ.v h then kr [] aq else bif eC.c a e then bif d_.c (eC.v a e) h (bH (aw a i.toNat 1)) (bY (aw a i.toNat (1+1)))then bif dF.c (d_.v (eC.v a e) h (bH (aw a i.toNat 1)) (bY (aw a i.toNat (1+1))))then bif !dF.v (d_.v (eC.v a e) h (bH (aw a i.toNat 1)) (bY (aw a i.toNat (1+1))))then kr [] aq else kr (d_.v (eC.v a e) h (bH (aw a i.toNat 1)) (bY (aw a i.toNat (1+1)))) ak else ao else ao else ao else bif decide (d=4)then bif eC.c a e then bif dF.c (eC.v a e)then bif !dF.v (eC.v a e)then kr [] aq else kr (eC.v a e) ak else ao else ao else kr [] aq else ao else bif decide (d=1)then bif decide (c5 ⟨#[]⟩+f.size<=4611686018427387904)then bif d_.c a e ({data:= #[]}++f) 0 then bif dF.c (d_.v a e ({data:= #[]}++f) 0)then bif !dF.v (d_.v a e ({data:= #[]}++f) 0)then kr [] aq else kr (d_.v a e ({data:= #[]}++f) 0) ak else ao else ao else ao else bif decide (i<0)then kr [] aq else bif decide (d=2)then bif d_.c a e ⟨#[]⟩ (c5 ⟨#[]⟩:az)then bif dF.c (d_.v a e ⟨#[]⟩ (c5 ⟨#[]⟩:az))then bif !dF.v (d_.v a e ⟨#[]⟩ (c5 ⟨#[]⟩:az))then kr [] aq else kr (d_.v a e ⟨#[]⟩ (c5 ⟨#[]⟩:az)) ak else ao else ao else bif decide (d=3)then bif dg (aL h) (aL e)then kr [] aq else bif !pJ.v h then kr [] aq else bif eC.c a e then bif d_.c (eC.v a e) h ⟨#[]⟩ 0 then bif dF.c (d_.v (eC.v a e) h ⟨#[]⟩ 0)then bif !dF.v (d_.v (eC.v a e) h ⟨#[]⟩ 0)then kr [] aq else kr (d_.v (eC.v a e) h ⟨#[]⟩ 0) ak else ao else ao else ao else bif decide (d=4)then bif eC.c a e then bif dF.c (eC.v a e)then bif !dF.v (eC.v a e)then kr [] aq else kr (eC.v a e) ak else ao else ao else kr [] aq else ao else ao
def vo:=b λr0 r1=>aj (r0,r1)
def c:=λa d e f h=>(vo a d e f h).isSome
def v:=λa d e f h=>(vo a d e f h).getD ([],aq)
theorem out{x}:∀a d e f h,vo a d e f h=aj x->c a d e f h=ak/\v a d e f h=x:=λ_ _ _ _ _=>Lib.dB
end Aw

namespace pL
def r3(N:aG)(g k0 k1:wJ R)(a:aW)(d e:az)(f:aW):aC R:=bif decide (e<(a.length:az))then bif decide (0<=e)&&decide (e<(a.length:az))then bif Aw.c f (bY (aw a e.toNat 0)) (bH (aw a e.toNat 1)) (bH (aw a e.toNat (1+1))) (bH (aw a e.toNat (1+1+1)))then bif !(Aw.v f (bY (aw a e.toNat 0)) (bH (aw a e.toNat 1)) (bH (aw a e.toNat (1+1))) (bH (aw a e.toNat (1+1+1)))).2 then k0 a e e f else g a d (bN (e+1)) (Aw.v f (bY (aw a e.toNat 0)) (bH (aw a e.toNat 1)) (bH (aw a e.toNat (1+1))) (bH (aw a e.toNat (1+1+1)))).1 else ao else ao else k1 a d e f
def l3(N:aG)(k0 k1:wJ R):aG->wJ R
 |0=>λ_ _ _ _=>ao
 |n+1=>r3 N (l3 N k0 k1 n) k0 k1
def b(N:aG)(kr:Gf R)(a d:aW):aC R:=bif cK ((aT [Ck.s,Ck.s,Ck.i ar] 0).length+a.length) 40 then l3 N (λ_ e _ f=>kr f e) (λe _ _ f=>kr f (e.length:az)) N d 0 0 (aT [Ck.s,Ck.s,Ck.i ar] 0++a)else ao
def vo:=b Lib.c9 λr0 r1=>aj (r0,r1)
def c:=λa d=>(vo a d).isSome
def v:=λa d=>(vo a d).getD ([],0)
theorem out{x}:∀a d,vo a d=aj x->c a d=ak/\v a d=x:=λ_ _=>Lib.dB
end pL

namespace zj
def b(kr:az->aC R)(a:aY):aC R:=bif a then kr 0 else kr 1
def v(a0:aY):az:=bif a0 then 0 else 1
theorem fM(kr:az->aC R)(a0:aY):b kr a0=kr (v a0):=by first|rfl|(unfold b v;simp only[c_];(repeat' split)<;>rfl)
end zj

namespace Ce
def b(kr:rj R)(a:az)(d e f h:aW)(i:az)(j l:aW)(m:az)(o p q:aW)(r s:az)(t:au)(u:az)(w:aW):aC R:=bif TG.c a d e f h i j l m s (cG u 1000000)then Lib.lt (TG.v a d e f h i j l m s (cG u 1000000)) λy=>bif y.2.2.2.2.2.2.2.2.2 then bif decide (cG u 1000000>0)then bif decide (0<=s)&&decide (s<(y.2.2.2.2.2.2.1.length:az))then bif cK ((aT [Ck.s,Ck.i ar,Ck.i ar,Ck.s] 0).length+q.length) 48 then bif cK ((aT [Ck.s,Ck.i ar,Ck.i ar,Ck.s] 0++q).length+(aE (aT [Ck.s,Ck.i ar,Ck.i ar,Ck.s] 1) 0 [.s (bH (aw y.2.2.2.2.2.2.1 s.toNat 0)), .i .i64 (bY (aw y.2.2.2.2.2.2.1 s.toNat (1+1+1+1))), .i .i64 (bY (aw y.2.2.2.2.2.2.1 s.toNat (1+1+1))), .s (bH (aw y.2.2.2.2.2.2.1 s.toNat 1))]).length) 48 then bif Cg.c (bH (aw y.2.2.2.2.2.2.1 s.toNat 0)) (bY (aw y.2.2.2.2.2.2.1 s.toNat (1+1+1+1))) (bY (aw y.2.2.2.2.2.2.1 s.toNat (1+1+1))) (bH (aw y.2.2.2.2.2.2.1 s.toNat 1))then Lib.lt (Cg.v (bH (aw y.2.2.2.2.2.2.1 s.toNat 0)) (bY (aw y.2.2.2.2.2.2.1 s.toNat (1+1+1+1))) (bY (aw y.2.2.2.2.2.2.1 s.toNat (1+1+1))) (bH (aw y.2.2.2.2.2.2.1 s.toNat 1))) λz=>bif z.2 then bif pL.c o z.1 then Lib.lt (pL.v o z.1) λα=>kr (zj.v y.2.2.2.2.2.2.2.2.2) y.1 y.2.1 y.2.2.1 y.2.2.2.1 y.2.2.2.2.1 y.2.2.2.2.2.1 y.2.2.2.2.2.2.1 y.2.2.2.2.2.2.2.1 y.2.2.2.2.2.2.2.2.1 α.1 p (aT [Ck.s,Ck.i ar,Ck.i ar,Ck.s] 0++q++aE (aT [Ck.s,Ck.i ar,Ck.i ar,Ck.s] 1) 0 [.s (bH (aw y.2.2.2.2.2.2.1 s.toNat 0)), .i .i64 (bY (aw y.2.2.2.2.2.2.1 s.toNat (1+1+1+1))), .i .i64 (bY (aw y.2.2.2.2.2.2.1 s.toNat (1+1+1))), .s (bH (aw y.2.2.2.2.2.2.1 s.toNat 1))])else ao else kr (zj.v y.2.2.2.2.2.2.2.2.2) y.1 y.2.1 y.2.2.1 y.2.2.2.1 y.2.2.2.2.1 y.2.2.2.2.2.1 y.2.2.2.2.2.2.1 y.2.2.2.2.2.2.2.1 y.2.2.2.2.2.2.2.2.1 o p (aT [Ck.s,Ck.i ar,Ck.i ar,Ck.s] 0++q++aE (aT [Ck.s,Ck.i ar,Ck.i ar,Ck.s] 1) 0 [.s (bH (aw y.2.2.2.2.2.2.1 s.toNat 0)), .i .i64 (bY (aw y.2.2.2.2.2.2.1 s.toNat (1+1+1+1))), .i .i64 (bY (aw y.2.2.2.2.2.2.1 s.toNat (1+1+1))), .s (bH (aw y.2.2.2.2.2.2.1 s.toNat 1))])else ao else ao else ao else ao else kr (zj.v y.2.2.2.2.2.2.2.2.2) y.1 y.2.1 y.2.2.1 y.2.2.2.1 y.2.2.2.2.1 y.2.2.2.2.2.1 y.2.2.2.2.2.2.1 y.2.2.2.2.2.2.2.1 y.2.2.2.2.2.2.2.2.1 o p q else kr (zj.v y.2.2.2.2.2.2.2.2.2) y.1 y.2.1 y.2.2.1 y.2.2.2.1 y.2.2.2.2.1 y.2.2.2.2.2.1 y.2.2.2.2.2.2.1 y.2.2.2.2.2.2.2.1 y.2.2.2.2.2.2.2.2.1 o p q else ao
def vo:=b λr0 r1 r2 r3 r4 r5 r6 r7 r8 r9 R4 zU r12=>aj (r0,r1,r2,r3,r4,r5,r6,r7,r8,r9,R4,zU,r12)
def c:=λa d e f h i j l m o p q r s t u w=>(vo a d e f h i j l m o p q r s t u w).isSome
def v:=λa d e f h i j l m o p q r s t u w=>(vo a d e f h i j l m o p q r s t u w).getD (0,0,[],[],[],[],0,[],[],0,[],[],[])
theorem out{x}:∀a d e f h i j l m o p q r s t u w,vo a d e f h i j l m o p q r s t u w=aj x->c a d e f h i j l m o p q r s t u w=ak/\v a d e f h i j l m o p q r s t u w=x:=λ_ _ _ _ _ _ _ _ _ _ _ _ _ _ _ _ _=>Lib.dB
end Ce

namespace TH
def b(kr:kq R)(a:az)(d e f h:aW)(i:az)(j l:aW)(m o:az):aC R:=bif kZ.c a d e f h i j l m then Lib.lt (kZ.v a d e f h i j l m) λp=>bif tL.c a d e f h i j l m o then Lib.lt (tL.v a d e f h i j l m o) λq=>bif !q then kr p.1 p.2.1 p.2.2.1 p.2.2.2.1 p.2.2.2.2.1 p.2.2.2.2.2.1 p.2.2.2.2.2.2.1 p.2.2.2.2.2.2.2.1 p.2.2.2.2.2.2.2.2 aq else bif decide (0<=o)&&decide (o<(p.2.2.2.2.2.2.1.length:az))then bif rH.c p.1 p.2.1 p.2.2.1 p.2.2.2.1 p.2.2.2.2.1 p.2.2.2.2.2.1 (eA p.2.2.2.2.2.2.1 o.toNat 2 [.i .i64 3]) p.2.2.2.2.2.2.2.1 p.2.2.2.2.2.2.2.2 o 3 then Lib.lt (rH.v p.1 p.2.1 p.2.2.1 p.2.2.2.1 p.2.2.2.2.1 p.2.2.2.2.2.1 (eA p.2.2.2.2.2.2.1 o.toNat 2 [.i .i64 3]) p.2.2.2.2.2.2.2.1 p.2.2.2.2.2.2.2.2 o 3) λr=>kr r.1 r.2.1 r.2.2.1 r.2.2.2.1 r.2.2.2.2.1 r.2.2.2.2.2.1 r.2.2.2.2.2.2.1 r.2.2.2.2.2.2.2.1 r.2.2.2.2.2.2.2.2 ak else ao else ao else ao else ao
def vo:=b λr0 r1 r2 r3 r4 r5 r6 r7 r8 r9=>aj (r0,r1,r2,r3,r4,r5,r6,r7,r8,r9)
def c:=λa d e f h i j l m o=>(vo a d e f h i j l m o).isSome
def v:=λa d e f h i j l m o=>(vo a d e f h i j l m o).getD (0,[],[],[],[],0,[],[],0,aq)
theorem out{x}:∀a d e f h i j l m o,vo a d e f h i j l m o=aj x->c a d e f h i j l m o=ak/\v a d e f h i j l m o=x:=λ_ _ _ _ _ _ _ _ _ _=>Lib.dB
end TH

namespace IE
def b(kr:fa R)(a:az)(d e f h:aW)(i:az)(j l:aW)(m o:az):aC R:=bif kZ.c a d e f h i j l m then bif decide (cG o 1000<0)then bif decide ((kZ.v a d e f h i j l m).1>bN (1000000000-bN (cG o 1000+1000)))then kr 1000000000 (kZ.v a d e f h i j l m).2.1 (kZ.v a d e f h i j l m).2.2.1 (kZ.v a d e f h i j l m).2.2.2.1 (kZ.v a d e f h i j l m).2.2.2.2.1 (kZ.v a d e f h i j l m).2.2.2.2.2.1 (kZ.v a d e f h i j l m).2.2.2.2.2.2.1 (kZ.v a d e f h i j l m).2.2.2.2.2.2.2.1 (kZ.v a d e f h i j l m).2.2.2.2.2.2.2.2 else kr (bN ((kZ.v a d e f h i j l m).1+bN (cG o 1000+1000))) (kZ.v a d e f h i j l m).2.1 (kZ.v a d e f h i j l m).2.2.1 (kZ.v a d e f h i j l m).2.2.2.1 (kZ.v a d e f h i j l m).2.2.2.2.1 (kZ.v a d e f h i j l m).2.2.2.2.2.1 (kZ.v a d e f h i j l m).2.2.2.2.2.2.1 (kZ.v a d e f h i j l m).2.2.2.2.2.2.2.1 (kZ.v a d e f h i j l m).2.2.2.2.2.2.2.2 else bif decide ((kZ.v a d e f h i j l m).1>bN (1000000000-cG o 1000))then kr 1000000000 (kZ.v a d e f h i j l m).2.1 (kZ.v a d e f h i j l m).2.2.1 (kZ.v a d e f h i j l m).2.2.2.1 (kZ.v a d e f h i j l m).2.2.2.2.1 (kZ.v a d e f h i j l m).2.2.2.2.2.1 (kZ.v a d e f h i j l m).2.2.2.2.2.2.1 (kZ.v a d e f h i j l m).2.2.2.2.2.2.2.1 (kZ.v a d e f h i j l m).2.2.2.2.2.2.2.2 else kr (bN ((kZ.v a d e f h i j l m).1+cG o 1000)) (kZ.v a d e f h i j l m).2.1 (kZ.v a d e f h i j l m).2.2.1 (kZ.v a d e f h i j l m).2.2.2.1 (kZ.v a d e f h i j l m).2.2.2.2.1 (kZ.v a d e f h i j l m).2.2.2.2.2.1 (kZ.v a d e f h i j l m).2.2.2.2.2.2.1 (kZ.v a d e f h i j l m).2.2.2.2.2.2.2.1 (kZ.v a d e f h i j l m).2.2.2.2.2.2.2.2 else ao
def vo:=b λr0 r1 r2 r3 r4 r5 r6 r7 r8=>aj (r0,r1,r2,r3,r4,r5,r6,r7,r8)
def c:=λa d e f h i j l m o=>(vo a d e f h i j l m o).isSome
def v:=λa d e f h i j l m o=>(vo a d e f h i j l m o).getD (0,[],[],[],[],0,[],[],0)
theorem out{x}:∀a d e f h i j l m o,vo a d e f h i j l m o=aj x->c a d e f h i j l m o=ak/\v a d e f h i j l m o=x:=λ_ _ _ _ _ _ _ _ _ _=>Lib.dB
end IE

namespace Gq
def r4(N:aG)(g k0:iO R)(a d e:az)(f h i j:aW)(l:az)(m o:aW)(p q r s t u w:az)(y z α xa xb xc:aW):aC R:=bif decide (d<(o.length:az))then bif decide (0<=d)&&decide (d<(o.length:az))then bif bY (aw o d.toNat 0) !=a then bif decide (0<=d)&&decide (d<(o.length:az))then bif cK (xc.length+(aE (aT [Ck.i ar,Ck.s,Ck.i ar,Ck.i ar,Ck.i ar,Ck.s,Ck.i ar] 1) 0 [.i .i64 (bY (aw o d.toNat 0)), .s (bH (aw o d.toNat 1)), .i .i64 (bY (aw o d.toNat (1+1))), .i .i64 (bY (aw o d.toNat (1+1+1))), .i .i64 (bY (aw o d.toNat (1+1+1+1))), .s (bH (aw o d.toNat (1+1+1+1+1))), .i .i64 (bY (aw o d.toNat (1+1+1+1+1+1)))]).length) 72 then g a (bN (d+1)) e f h i j l m o p q r s t u w y z α xa xb (xc++aE (aT [Ck.i ar,Ck.s,Ck.i ar,Ck.i ar,Ck.i ar,Ck.s,Ck.i ar] 1) 0 [.i .i64 (bY (aw o d.toNat 0)), .s (bH (aw o d.toNat 1)), .i .i64 (bY (aw o d.toNat (1+1))), .i .i64 (bY (aw o d.toNat (1+1+1))), .i .i64 (bY (aw o d.toNat (1+1+1+1))), .s (bH (aw o d.toNat (1+1+1+1+1))), .i .i64 (bY (aw o d.toNat (1+1+1+1+1+1)))])else ao else ao else g a (bN (d+1)) e f h i j l m o p q r s t u w y z α xa xb xc else ao else k0 a d e f h i j l m o p q r s t u w y z α xa xb xc
def l4(N:aG)(k0:iO R):aG->iO R
 |0=>λ_ _ _ _ _ _ _ _ _ _ _ _ _ _ _ _ _ _ _ _ _ _ _=>ao
 |n+1=>r4 N (l4 N k0 n) k0
def b(N:aG)(kr:fa R)(a:az)(d e f h:aW)(i:az)(j l:aW)(m o:az):aC R:=bif kZ.c a d e f h i j l m then l4 N (λ_ _ _ _ _ _ _ _ _ _ _ _ _ _ p q r s t u w y z=>kr p s t u w q y z r) N o 0 a d e f h i j l m 0 0 0 (kZ.v a d e f h i j l m).1 (kZ.v a d e f h i j l m).2.2.2.2.2.1 (kZ.v a d e f h i j l m).2.2.2.2.2.2.2.2 (kZ.v a d e f h i j l m).2.1 (kZ.v a d e f h i j l m).2.2.1 (kZ.v a d e f h i j l m).2.2.2.1 (kZ.v a d e f h i j l m).2.2.2.2.1 (kZ.v a d e f h i j l m).2.2.2.2.2.2.1 (aT [Ck.i ar,Ck.s,Ck.i ar,Ck.i ar,Ck.i ar,Ck.s,Ck.i ar] 0)else ao
def vo:=b Lib.c9 λr0 r1 r2 r3 r4 r5 r6 r7 r8=>aj (r0,r1,r2,r3,r4,r5,r6,r7,r8)
def c:=λa d e f h i j l m o=>(vo a d e f h i j l m o).isSome
def v:=λa d e f h i j l m o=>(vo a d e f h i j l m o).getD (0,[],[],[],[],0,[],[],0)
theorem out{x}:∀a d e f h i j l m o,vo a d e f h i j l m o=aj x->c a d e f h i j l m o=ak/\v a d e f h i j l m o=x:=λ_ _ _ _ _ _ _ _ _ _=>Lib.dB
end Gq

namespace vv
def r5(N:aG)(g:Ag R)(g1:um R)(k0:Ag R)(k1:um R)(a:aW)(d:az)(e:aW):aC R:=bif decide (d<(e.length:az))then bif decide (0<=d)&&decide (d<(e.length:az))then bif decide (d<(a.length:az))then bif decide (0<=d)&&decide (d<(a.length:az))then bif decide (bY (aw a d.toNat 0)>((bH (aw e d.toNat 1)).size:az))then bif decide (((bH (aw e d.toNat 1)).size:az)<bY (aw e d.toNat (1+1)))then bif iQ 0 (bY (aw e d.toNat (1+1))) ((bH (aw e d.toNat 1)).size:az)then g1 a (bN (d+1)) e ([]++aE (aT [Ck.s,Ck.s,Ck.i ar] 1) 0 [.s (bH (aw e d.toNat 0)), .s (bR (bH (aw e d.toNat 1)) (bc 0) (bY (aw e d.toNat (1+1))).toNat), .i .i64 (bY (aw e d.toNat (1+1)))])else ao else bif iQ 0 ((bH (aw e d.toNat 1)).size:az) ((bH (aw e d.toNat 1)).size:az)then g1 a (bN (d+1)) e ([]++aE (aT [Ck.s,Ck.s,Ck.i ar] 1) 0 [.s (bH (aw e d.toNat 0)), .s (bR (bH (aw e d.toNat 1)) (bc 0) ((bH (aw e d.toNat 1)).size:az).toNat), .i .i64 ((bH (aw e d.toNat 1)).size:az)])else ao else bif decide (bY (aw a d.toNat 0)<bY (aw e d.toNat (1+1)))then bif iQ 0 (bY (aw e d.toNat (1+1))) ((bH (aw e d.toNat 1)).size:az)then g1 a (bN (d+1)) e ([]++aE (aT [Ck.s,Ck.s,Ck.i ar] 1) 0 [.s (bH (aw e d.toNat 0)), .s (bR (bH (aw e d.toNat 1)) (bc 0) (bY (aw e d.toNat (1+1))).toNat), .i .i64 (bY (aw e d.toNat (1+1)))])else ao else bif iQ 0 (bY (aw a d.toNat 0)) ((bH (aw e d.toNat 1)).size:az)then g1 a (bN (d+1)) e ([]++aE (aT [Ck.s,Ck.s,Ck.i ar] 1) 0 [.s (bH (aw e d.toNat 0)), .s (bR (bH (aw e d.toNat 1)) (bc 0) (bY (aw a d.toNat 0)).toNat), .i .i64 (bY (aw a d.toNat 0))])else ao else ao else bif decide (0<bY (aw e d.toNat (1+1)))then bif iQ 0 (bY (aw e d.toNat (1+1))) ((bH (aw e d.toNat 1)).size:az)then g1 a (bN (d+1)) e ([]++aE (aT [Ck.s,Ck.s,Ck.i ar] 1) 0 [.s (bH (aw e d.toNat 0)), .s (bR (bH (aw e d.toNat 1)) (bc 0) (bY (aw e d.toNat (1+1))).toNat), .i .i64 (bY (aw e d.toNat (1+1)))])else ao else g1 a (bN (d+1)) e ([]++aE (aT [Ck.s,Ck.s,Ck.i ar] 1) 0 [.s (bH (aw e d.toNat 0)), .s (bR (bH (aw e d.toNat 1)) (bc 0) (bc 0)), .i .i64 0])else ao else k0 a d e
def r5a(N:aG)(g:Ag R)(g1:um R)(k0:Ag R)(k1:um R)(a:aW)(d:az)(e f:aW):aC R:=bif decide (d<(e.length:az))then bif decide (0<=d)&&decide (d<(e.length:az))then bif decide (d<(a.length:az))then bif decide (0<=d)&&decide (d<(a.length:az))then bif decide (bY (aw a d.toNat 0)>((bH (aw e d.toNat 1)).size:az))then bif decide (((bH (aw e d.toNat 1)).size:az)<bY (aw e d.toNat (1+1)))then bif iQ 0 (bY (aw e d.toNat (1+1))) ((bH (aw e d.toNat 1)).size:az)then bif cK (f.length+(aE (aT [Ck.s,Ck.s,Ck.i ar] 1) 0 [.s (bH (aw e d.toNat 0)), .s (bR (bH (aw e d.toNat 1)) (bc 0) (bY (aw e d.toNat (1+1))).toNat), .i .i64 (bY (aw e d.toNat (1+1)))]).length) 40 then g1 a (bN (d+1)) e (f++aE (aT [Ck.s,Ck.s,Ck.i ar] 1) 0 [.s (bH (aw e d.toNat 0)), .s (bR (bH (aw e d.toNat 1)) (bc 0) (bY (aw e d.toNat (1+1))).toNat), .i .i64 (bY (aw e d.toNat (1+1)))])else ao else ao else bif iQ 0 ((bH (aw e d.toNat 1)).size:az) ((bH (aw e d.toNat 1)).size:az)then bif cK (f.length+(aE (aT [Ck.s,Ck.s,Ck.i ar] 1) 0 [.s (bH (aw e d.toNat 0)), .s (bR (bH (aw e d.toNat 1)) (bc 0) ((bH (aw e d.toNat 1)).size:az).toNat), .i .i64 ((bH (aw e d.toNat 1)).size:az)]).length) 40 then g1 a (bN (d+1)) e (f++aE (aT [Ck.s,Ck.s,Ck.i ar] 1) 0 [.s (bH (aw e d.toNat 0)), .s (bR (bH (aw e d.toNat 1)) (bc 0) ((bH (aw e d.toNat 1)).size:az).toNat), .i .i64 ((bH (aw e d.toNat 1)).size:az)])else ao else ao else bif decide (bY (aw a d.toNat 0)<bY (aw e d.toNat (1+1)))then bif iQ 0 (bY (aw e d.toNat (1+1))) ((bH (aw e d.toNat 1)).size:az)then bif cK (f.length+(aE (aT [Ck.s,Ck.s,Ck.i ar] 1) 0 [.s (bH (aw e d.toNat 0)), .s (bR (bH (aw e d.toNat 1)) (bc 0) (bY (aw e d.toNat (1+1))).toNat), .i .i64 (bY (aw e d.toNat (1+1)))]).length) 40 then g1 a (bN (d+1)) e (f++aE (aT [Ck.s,Ck.s,Ck.i ar] 1) 0 [.s (bH (aw e d.toNat 0)), .s (bR (bH (aw e d.toNat 1)) (bc 0) (bY (aw e d.toNat (1+1))).toNat), .i .i64 (bY (aw e d.toNat (1+1)))])else ao else ao else bif iQ 0 (bY (aw a d.toNat 0)) ((bH (aw e d.toNat 1)).size:az)then bif cK (f.length+(aE (aT [Ck.s,Ck.s,Ck.i ar] 1) 0 [.s (bH (aw e d.toNat 0)), .s (bR (bH (aw e d.toNat 1)) (bc 0) (bY (aw a d.toNat 0)).toNat), .i .i64 (bY (aw a d.toNat 0))]).length) 40 then g1 a (bN (d+1)) e (f++aE (aT [Ck.s,Ck.s,Ck.i ar] 1) 0 [.s (bH (aw e d.toNat 0)), .s (bR (bH (aw e d.toNat 1)) (bc 0) (bY (aw a d.toNat 0)).toNat), .i .i64 (bY (aw a d.toNat 0))])else ao else ao else ao else bif decide (0<bY (aw e d.toNat (1+1)))then bif iQ 0 (bY (aw e d.toNat (1+1))) ((bH (aw e d.toNat 1)).size:az)then bif cK (f.length+(aE (aT [Ck.s,Ck.s,Ck.i ar] 1) 0 [.s (bH (aw e d.toNat 0)), .s (bR (bH (aw e d.toNat 1)) (bc 0) (bY (aw e d.toNat (1+1))).toNat), .i .i64 (bY (aw e d.toNat (1+1)))]).length) 40 then g1 a (bN (d+1)) e (f++aE (aT [Ck.s,Ck.s,Ck.i ar] 1) 0 [.s (bH (aw e d.toNat 0)), .s (bR (bH (aw e d.toNat 1)) (bc 0) (bY (aw e d.toNat (1+1))).toNat), .i .i64 (bY (aw e d.toNat (1+1)))])else ao else ao else bif cK (f.length+(aE (aT [Ck.s,Ck.s,Ck.i ar] 1) 0 [.s (bH (aw e d.toNat 0)), .s (bR (bH (aw e d.toNat 1)) (bc 0) (bc 0)), .i .i64 0]).length) 40 then g1 a (bN (d+1)) e (f++aE (aT [Ck.s,Ck.s,Ck.i ar] 1) 0 [.s (bH (aw e d.toNat 0)), .s (bR (bH (aw e d.toNat 1)) (bc 0) (bc 0)), .i .i64 0])else ao else ao else k1 a d e f
def l5a(N:aG)(k0:Ag R)(k1:um R):aG->um R
 |0=>λ_ _ _ _=>ao
 |n+1=>r5a N (λx0 x1 x2=>ao) (l5a N k0 k1 n) k0 k1
def l5(N:aG)(k0:Ag R)(k1:um R):aG->Ag R
 |0=>λ_ _ _=>ao
 |n+1=>r5 N (l5 N k0 k1 n) (l5a N k0 k1 n) k0 k1
def b(N:aG)(kr:T6 R)(a d:aW):aC R:=bif dF.c a then bif !dF.v a then kr [] aq else l5 N (λ_ _ _=>kr [] ak) (λ_ _ _ e=>kr e ak) N d 0 a else ao
def vo:=b Lib.c9 λr0 r1=>aj (r0,r1)
def c:=λa d=>(vo a d).isSome
def v:=λa d=>(vo a d).getD ([],aq)
theorem out{x}:∀a d,vo a d=aj x->c a d=ak/\v a d=x:=λ_ _=>Lib.dB
end vv

namespace mK
def b(kr:Ow R)(a:aW)(d:au):aC R:=bif jf.c a d then bif decide (jf.v a d<0)then kr ⟨#[]⟩ aq else bif decide (0<=jf.v a d)&&decide (jf.v a d<(a.length:az))then kr (bH (aw a (jf.v a d).toNat 1)) ak else ao else ao
def vo:=b λr0 r1=>aj (r0,r1)
def c:=λa d=>(vo a d).isSome
def v:=λa d=>(vo a d).getD (⟨#[]⟩,aq)
theorem out{x}:∀a d,vo a d=aj x->c a d=ak/\v a d=x:=λ_ _=>Lib.dB
end mK

namespace fD
def r6(N:aG)(g k0 k1:uo R)(a:au)(d e f:az)(h:aY)(i j l:az):aC R:=bif decide (l<(a.size:az))then bif decide (l<bN (d+5))then bif decide (0<=l)&&decide (l<(a.size:az))then bif decide (0<=l)&&decide (l<(a.size:az))then bif decide ((↑(iI a l.toNat):az)<128)then bif decide (bN (i+bN (cG (bN (↑(iI a l.toNat):az)) 128*j))>1000000000)then k0 a d 0 0 aq (bN (i+bN (cG (bN (↑(iI a l.toNat):az)) 128*j))) (bN (j*128)) l else bif jX.c (bN (i+bN (cG (bN (↑(iI a l.toNat):az)) 128*j)))then bif iQ d (bN (l+1)) (a.size:az)then bif !List.beq (jX.v (bN (i+bN (cG (bN (↑(iI a l.toNat):az)) 128*j)))).toList (bR a d.toNat (bN (l+1)).toNat).toList then k0 a d 0 0 aq (bN (i+bN (cG (bN (↑(iI a l.toNat):az)) 128*j))) (bN (j*128)) l else k0 a d (bN (i+bN (cG (bN (↑(iI a l.toNat):az)) 128*j))) (bN (l+1)) ak (bN (i+bN (cG (bN (↑(iI a l.toNat):az)) 128*j))) (bN (j*128)) l else ao else ao else g a d e f h (bN (i+bN (cG (bN (↑(iI a l.toNat):az)) 128*j))) (bN (j*128)) (bN (l+1))else ao else ao else k1 a d e f h i j l else k1 a d e f h i j l
def l6(N:aG)(k0 k1:uo R):aG->uo R
 |0=>λ_ _ _ _ _ _ _ _=>ao
 |n+1=>r6 N (l6 N k0 k1 n) k0 k1
def b(N:aG)(kr:Ot R)(a:au)(d:az):aC R:=bif !kG.v d 0 (a.size:az)then kr 0 0 aq else l6 N (λ_ _ e f h _ _ _=>kr e f h) (λ_ _ _ _ _ _ _ _=>kr 0 0 aq) N a d 0 0 aq 0 1 d
def v(dZ:au)(iu:az):az×az×aY:=if 0<=iu/\iu<=dZ.size then Lib.rv dZ iu.toNat 5 0 0 else(0,0,aq)
theorem fM(kr:Ot R)(dZ:au)(iu:az)(f0:F2 dZ):∃N,b N kr dZ iu=kr (v dZ iu).1 (v dZ iu).2.1 (v dZ iu).2.2:=by
 refine⟨6, ?_⟩
 unfold b v;by_cases hn:0<=iu/\iu<=dZ.size
 ·have e:kG.v iu 0 (dZ.size:az)=true:=by simp[kG.v,hn]
  obtain⟨a,rfl⟩:∃a:aG,iu=(a:az):=⟨iu.toNat,by omega⟩
  have ha:a<=dZ.size:=by omega
  rw[e,bC hn,Lib.eG];have hs:dZ.size<=4611686018427387904:=f0;simp only[ba,aD]
  have:=Lib.il (λm (s:aG×az)=>l6 6 (λy8 y9 Mm yA Oc F9 W6 W7=>kr Mm yA Oc) (λTn FH FI B6 tz F_ Ga NQ=>kr 0 0 aq) m dZ a 0 0 aq s.2 (128^s.1) ((a+s.1:aG):az)) (λs=>5-s.1) (λs=>s.1<=5/\s.2=Lib.num dZ a s.1/\∀i,i<s.1->128<=iI dZ (a+i))
   (λs=>kr (Lib.rv dZ a (5-s.1) s.1 s.2).1 (Lib.rv dZ a (5-s.1) s.1 s.2).2.1 (Lib.rv dZ a (5-s.1) s.1 s.2).2.2) (λm s hs5=>by
   obtain⟨j,n⟩:=s
   obtain⟨hj,abz,X2⟩:=hs5
   dsimp only at hj abz X2⊢
   have hb:=Lib.IQ dZ (a+j)
   have e5:bN ((a:az)+5)=((a+5:aG):az):=by rw[jS (by omega) (by omega)];omega
   by_cases gQ:a+j<dZ.size
   ·by_cases hj5:j<5
    ·have eb:bN (iI dZ (a+j):az)=(iI dZ (a+j):az):=jS (by omega) (by omega);have em:cG (iI dZ (a+j):az) 128=(iI dZ (a+j):az)%128:=rV (by omega);have hp:(128:az)^j<=268435456/\(1:az)<=128^j/\(128:az)^(j+1)=128^j*128:=by
      obtain rfl|rfl|rfl|rfl|rfl:j=0\/j=1\/j=2\/j=3\/j=4:=by omega
      all_goals decide
     have hrg:=Lib.zS dZ j a;rw[<-abz]at hrg;have hm0:0<=(iI dZ (a+j):az)%128/\(iI dZ (a+j):az)%128<=127:=by omega
     have hq:0<=(iI dZ (a+j):az)%128*128^j/\(iI dZ (a+j):az)%128*128^j<=127*128^j:=
      ⟨Int.mul_nonneg hm0.1 (by omega),Int.mul_le_mul_of_nonneg_right hm0.2 (by omega)⟩
     have eq1:bN ((iI dZ (a+j):az)%128*128^j)=(iI dZ (a+j):az)%128*128^j:=jS (by omega) (by omega);have eq2:bN (n+(iI dZ (a+j):az)%128*128^j)=n+(iI dZ (a+j):az)%128*128^j:=jS (by omega) (by omega);have eq3:bN ((128:az)^j*128)=128^(j+1):=by rw[hp.2.2];exact jS (by omega) (by omega)
     have ef:5-j=(5-(j+1))+1:=by omega
     have U0:n+(iI dZ (a+j):az)%128*128^j=Lib.num dZ a (j+1):=by rw[Lib.vV,<-abz]
     have en:bN (((a+j:aG):az)+1)=((a+(j+1):aG):az):=Lib.de gQ (by omega);have c2:decide (((a+j:aG):az)<((a+5:aG):az))=true:=Lib.Qc (by omega)
     have hrv:Lib.rv dZ a (5-j) j n=(if(iI dZ (a+j):az)>127 then Lib.rv dZ a (5-(j+1)) (j+1) (n+(iI dZ (a+j):az)%128*128^j)
       else if(j>0/\iI dZ (a+j)=0)\/n+(iI dZ (a+j):az)%128*128^j>1000000000 then(0,0,aq)
       else(n+(iI dZ (a+j):az)%128*128^j,((a+j+1:aG):az),ak)):=by
      rw[ef];simp only[Lib.rv];rw[bC gQ]
     simp only[l6,r6,Lib.Qc gQ,e5,c2,Lib.cS,Lib.eG,eb,em,eq1,eq2,eq3,en,ay,aP];by_cases hc:(iI dZ (a+j):az)<128
     ·left;rw[aJ hc,ay,hrv,bM (by omega)];by_cases EX:n+(iI dZ (a+j):az)%128*128^j>1000000000
      ·rw[aJ EX,bC (.inr EX)];rfl
      ·have ec:jX.c (n+(iI dZ (a+j):az)%128*128^j)=true:=aJ (by omega);have ein:iQ (a:az) ((a+(j+1):aG):az) (dZ.size:az)=true:=by simp[iQ];omega
       rw[aM EX,aD,ec,ay,ein,ay,U0];have amq:=Lib.canon dZ j a (by omega) X2 (by omega) (by rw[<-U0];omega);unfold jX.v;rw[amq];by_cases hz:j>0/\iI dZ (a+j)=0
       ·rw[aJ hz,bC (.inl hz)];rfl
       ·rw[aM hz,bM (by rw[U0]at EX;omega)];rfl
     ·right;rw[aM hc];refine⟨(j+1,n+(iI dZ (a+j):az)%128*128^j),⟨by dsimp only;omega,U0,λi hi=> ?_⟩,by dsimp only;omega,by dsimp only;rw[hrv,bC (by omega)],rfl⟩
      by_cases M0:i<j
      ·exact X2 i M0
      ·have:i=j:=by dsimp only at hi;omega
       subst this;omega
    ·left;have Ls:j=5:=by omega
     subst Ls;simp only[l6,r6,Lib.Qc gQ,e5,Lib.XT (bu (a+5)),ay,aD];rfl
   ·left;have hrv:Lib.rv dZ a (5-j) j n=(0,0,aq):=by
     by_cases hj5:j<5
     ·have ef:5-j=(5-(j+1))+1:=by omega
      rw[ef];simp only[Lib.rv];rw[bM gQ]
     ·rw[show 5-j=0 by omega];rfl
    simp only[l6,r6,Lib.XT gQ,aD,hrv]) 6 (0,0) ⟨by dsimp only;omega,rfl,λi hi=>by dsimp only at hi;omega⟩ (by dsimp only;omega)
  exact this
 ·have e:kG.v iu 0 (dZ.size:az)=false:=by simp[kG.v];omega
  rw[e,bM hn];rfl
end fD

namespace rJ
def r5(N:aG)(g k0 k1:ny R)(a:au)(d e:az)(f:aW):aC R:=bif decide (e<(a.size:az))then bif !(fD.v a e).2.2 then k0 a e e f else bif decide ((fD.v a e).1>bN (bN ((a.size:az)-(fD.v a e).2.1)-4))then k0 a e e f else bif iQ (bN ((fD.v a e).2.1+4)) (bN (bN ((fD.v a e).2.1+4)+(fD.v a e).1)) (a.size:az)then bif fU.c (bR a (bN ((fD.v a e).2.1+4)).toNat (bN (bN ((fD.v a e).2.1+4)+(fD.v a e).1)).toNat)then bif !(fU.v (bR a (bN ((fD.v a e).2.1+4)).toNat (bN (bN ((fD.v a e).2.1+4)+(fD.v a e).1)).toNat)).2 then k0 a e e f else bif iQ e (bN (bN ((fD.v a e).2.1+4)+(fD.v a e).1)) (a.size:az)then bif !List.beq (fU.v (bR a (bN ((fD.v a e).2.1+4)).toNat (bN (bN ((fD.v a e).2.1+4)+(fD.v a e).1)).toNat)).1.toList (bR a e.toNat (bN (bN ((fD.v a e).2.1+4)+(fD.v a e).1)).toNat).toList then k0 a e e f else bif cK (f.length+(aE (aT [.s] 1) 0 [.s (bR a (bN ((fD.v a e).2.1+4)).toNat (bN (bN ((fD.v a e).2.1+4)+(fD.v a e).1)).toNat)]).length) 16 then g a d (bN (bN ((fD.v a e).2.1+4)+(fD.v a e).1)) (f++aE (aT [.s] 1) 0 [.s (bR a (bN ((fD.v a e).2.1+4)).toNat (bN (bN ((fD.v a e).2.1+4)+(fD.v a e).1)).toNat)])else ao else ao else ao else ao else k1 a d e f
def l5(N:aG)(k0 k1:ny R):aG->ny R
 |0=>λ_ _ _ _=>ao
 |n+1=>r5 N (l5 N k0 k1 n) k0 k1
def b(N:aG)(kr:Gf R)(a:au):aC R:=bif decide ((a.size:az)>20000)then kr (aT [.s] 0) 0 else l5 N (λ_ d _ e=>kr e d) (λ_ _ d e=>kr e d) N a 0 0 (aT [.s] 0)
def vo:=b Lib.c9 λr0 r1=>aj (r0,r1)
def c:=λa=>(vo a).isSome
def v:=λa=>(vo a).getD ([],0)
theorem out{x}:∀a,vo a=aj x->c a=ak/\v a=x:=λ_=>Lib.dB
end rJ

namespace pK
def b(kr:Ox R)(a:au)(d:az):aC R:=bif !(fD.v a d).2.2 then kr ⟨#[]⟩ 0 aq else bif decide ((fD.v a d).1>20000)then kr ⟨#[]⟩ 0 aq else bif decide ((fD.v a d).1>bN ((a.size:az)-(fD.v a d).2.1))then kr ⟨#[]⟩ 0 aq else bif iQ (fD.v a d).2.1 (bN ((fD.v a d).2.1+(fD.v a d).1)) (a.size:az)then kr (bR a (fD.v a d).2.1.toNat (bN ((fD.v a d).2.1+(fD.v a d).1)).toNat) (bN ((fD.v a d).2.1+(fD.v a d).1)) ak else ao
def v(dZ:au)(iu:az):au×az×aY:=Lib.iD dZ iu
theorem fM(kr:Ox R)(dZ:au)(iu:az)(f0:F2 dZ):b kr dZ iu=kr (v dZ iu).1 (v dZ iu).2.1 (v dZ iu).2.2:=Lib.CF f0 iu kr
end pK

namespace jL
def b(kr:zw R)(a:au):aC R:=bif !(pK.v a 0).2.2 then kr ⟨#[]⟩ 0 0 ⟨#[]⟩ aq else bif !(fD.v a (pK.v a 0).2.1).2.2 then kr ⟨#[]⟩ 0 0 ⟨#[]⟩ aq else bif !(fD.v a (fD.v a (pK.v a 0).2.1).2.1).2.2 then kr ⟨#[]⟩ 0 0 ⟨#[]⟩ aq else bif iQ (fD.v a (fD.v a (pK.v a 0).2.1).2.1).2.1 (a.size:az) (a.size:az)then bif !(jP.v (pK.v a 0).1 (fD.v a (pK.v a 0).2.1).1 (fD.v a (fD.v a (pK.v a 0).2.1).2.1).1 (bR a (fD.v a (fD.v a (pK.v a 0).2.1).2.1).2.1.toNat (a.size:az).toNat)).2 then kr ⟨#[]⟩ 0 0 ⟨#[]⟩ aq else bif !List.beq (jP.v (pK.v a 0).1 (fD.v a (pK.v a 0).2.1).1 (fD.v a (fD.v a (pK.v a 0).2.1).2.1).1 (bR a (fD.v a (fD.v a (pK.v a 0).2.1).2.1).2.1.toNat (a.size:az).toNat)).1.toList (aL a)then kr ⟨#[]⟩ 0 0 ⟨#[]⟩ aq else kr (pK.v a 0).1 (fD.v a (pK.v a 0).2.1).1 (fD.v a (fD.v a (pK.v a 0).2.1).2.1).1 (bR a (fD.v a (fD.v a (pK.v a 0).2.1).2.1).2.1.toNat (a.size:az).toNat) ak else ao
def no:au×az×az×au×aY:=(⟨#[]⟩,0,0,⟨#[]⟩,aq)
def v(t0:au):au×az×az×au×aY:=
 match Lib.iD t0 0 with
 |(k,a,ak)=>(match Lib.eD t0 a with
  |(s,x,ak)=>(match Lib.eD t0 x with
   |(l,y,ak)=>if iM.v k s l (t0.extract y.toNat t0.size)=ak then(k,s,l,t0.extract y.toNat t0.size,ak)else no
   |_=>no)
  |_=>no)
 |_=>no
theorem fM(kr:zw R)(t0:au)(f0:F2 t0):b kr t0=kr (v t0).1 (v t0).2.1 (v t0).2.2.1 (v t0).2.2.2.1 (v t0).2.2.2.2:=by
 have e1:pK.v=Lib.iD:=rfl;have e2:fD.v=Lib.eD:=rfl;unfold b v;simp only[e1,e2,Lib.eG];cases h1:Lib.iD t0 0 with
 |mk k r1=>
  obtain⟨a,ok1⟩:=r1;cases ok1 with
  |false=>rfl
  |true=>
   dsimp only;cases h2:Lib.eD t0 a with
   |mk s r2=>
    obtain⟨x,ok2⟩:=r2;cases ok2 with
    |false=>rfl
    |true=>
     dsimp only;cases h3:Lib.eD t0 x with
     |mk l r3=>
      obtain⟨y,ok3⟩:=r3;cases ok3 with
      |false=>rfl
      |true=>
       obtain⟨p1,p2,p3,p4,p5⟩:=Lib.Fp h1;obtain⟨q1,q2,q3,q4,q5,q6⟩:=Lib.ki h2;obtain⟨r1,r2,r3,r4,r5,r6⟩:=Lib.ki h3;dsimp only;simp only[ba,aD];rw[Lib.yI (show iQ y (t0.size:az) (t0.size:az)=ak by simp[iQ];omega)];unfold jP.v;cases hE:iM.v k s l (t0.extract y.toNat t0.size)with
       |false=>rfl
       |true=>
        have ht:jP.rR k s l (t0.extract y.toNat t0.size)=t0:=by unfold jP.rR;rw[p5,q6,Lib.vI t0 (by omega) (by omega),r6,Lib.vI t0 (by omega) (by omega),Lib.vI t0 (by omega) (by omega)];exact Lib.K_ t0
        simp only[if_true,ba,aD,ht,Lib.qd]
end jL

namespace rG
def r7(N:aG)(g k0:Ov R)(a:az)(d e:aW):aC R:=bif decide (a<(e.length:az))then bif decide (0<=a)&&decide (a<(e.length:az))then bif(jL.v (bH (aw e a.toNat 0))).2.2.2.2 then bif fL.c d (jL.v (bH (aw e a.toNat 0))).1 (jL.v (bH (aw e a.toNat 0))).2.1 (jL.v (bH (aw e a.toNat 0))).2.2.1 (jL.v (bH (aw e a.toNat 0))).2.2.2.1 then g (bN (a+1)) (fL.v d (jL.v (bH (aw e a.toNat 0))).1 (jL.v (bH (aw e a.toNat 0))).2.1 (jL.v (bH (aw e a.toNat 0))).2.2.1 (jL.v (bH (aw e a.toNat 0))).2.2.2.1) e else ao else g (bN (a+1)) d e else ao else k0 a d e
def l7(N:aG)(k0:Ov R):aG->Ov R
 |0=>λ_ _ _=>ao
 |n+1=>r7 N (l7 N k0 n) k0
def b(N:aG)(kr:aW->aC R)(a:aW):aC R:=bif dF.c a then bif !dF.v a then kr (aT [Ck.s,Ck.i ar,Ck.i ar,Ck.s] 0)else bif mK.c a {data:= #[ax 107,ax 101,ax 112,ax 116]}then bif rJ.c (mK.v a {data:= #[ax 107,ax 101,ax 112,ax 116]}).1 then l7 N (λ_ d _=>kr d) N 0 (aT [Ck.s,Ck.i ar,Ck.i ar,Ck.s] 0) (rJ.v (mK.v a {data:= #[ax 107,ax 101,ax 112,ax 116]}).1).1 else ao else ao else ao
def vo:=b Lib.c9 λr0=>aj r0
def c:=λa=>(vo a).isSome
def v:=λa=>(vo a).getD ([])
theorem out{x}:∀a,vo a=aj x->c a=ak/\v a=x:=λ_=>Lib.dB
end rG

namespace mz
def r9(N:aG)(g:zv R)(k0:Ge R)(k1:zv R)(a:aW)(d:aY)(e:au)(f:az)(h:aW):aC R:=bif decide (f<(a.length:az))then bif decide (0<=f)&&decide (f<(a.length:az))then bif fU.c (jP.v (bH (aw a f.toNat 0)) (bY (aw a f.toNat 1)) (bY (aw a f.toNat (1+1))) (bH (aw a f.toNat (1+1+1)))).1 then bif !(jP.v (bH (aw a f.toNat 0)) (bY (aw a f.toNat 1)) (bY (aw a f.toNat (1+1))) (bH (aw a f.toNat (1+1+1)))).2 then k0 a aq e f (aT [Ck.i ar,Ck.s,Ck.s,Ck.s] 0) h else bif !(fU.v (jP.v (bH (aw a f.toNat 0)) (bY (aw a f.toNat 1)) (bY (aw a f.toNat (1+1))) (bH (aw a f.toNat (1+1+1)))).1).2 then k0 a aq e f (aT [Ck.i ar,Ck.s,Ck.s,Ck.s] 0) h else bif decide (e.size+(fU.v (jP.v (bH (aw a f.toNat 0)) (bY (aw a f.toNat 1)) (bY (aw a f.toNat (1+1))) (bH (aw a f.toNat (1+1+1)))).1).1.size<=4611686018427387904)then g a d (e++(fU.v (jP.v (bH (aw a f.toNat 0)) (bY (aw a f.toNat 1)) (bY (aw a f.toNat (1+1))) (bH (aw a f.toNat (1+1+1)))).1).1) (bN (f+1)) h else ao else ao else ao else k1 a d e f h
def l9(N:aG)(k0:Ge R)(k1:zv R):aG->zv R
 |0=>λ_ _ _ _ _=>ao
 |n+1=>r9 N (l9 N k0 k1 n) k0 k1
def b(N:aG)(kr:T6 R)(a d:aW):aC R:=bif dF.c a then bif !dF.v a then kr (aT [Ck.i ar,Ck.s,Ck.s,Ck.s] 0) aq else bif mK.c a {data:= #[ax 110,ax 101,ax 119]}then bif(mK.v a {data:= #[ax 110,ax 101,ax 119]}).2 then l9 N (λ_ e _ _ f _=>kr f e) (λ_ _ e _ f=>bif cK (f.length+(aE (aE (aE (aT [Ck.i ar,Ck.s,Ck.s,Ck.s] 3) 0 [.i .i64 1, .s {data:= #[ax 110,ax 101,ax 119]}, .s e, .s ⟨#[]⟩]) 1 [.i .i64 2, .s {data:= #[ax 110,ax 101,ax 119]}, .s ⟨#[]⟩, .s ⟨#[]⟩]) 2 [.i .i64 3, .s {data:= #[ax 110,ax 101,ax 119]}, .s ⟨#[]⟩, .s {data:= #[ax 107,ax 101,ax 112,ax 116]}]).length) 56 then kr (f++aE (aE (aE (aT [Ck.i ar,Ck.s,Ck.s,Ck.s] 3) 0 [.i .i64 1, .s {data:= #[ax 110,ax 101,ax 119]}, .s e, .s ⟨#[]⟩]) 1 [.i .i64 2, .s {data:= #[ax 110,ax 101,ax 119]}, .s ⟨#[]⟩, .s ⟨#[]⟩]) 2 [.i .i64 3, .s {data:= #[ax 110,ax 101,ax 119]}, .s ⟨#[]⟩, .s {data:= #[ax 107,ax 101,ax 112,ax 116]}]) ak else ao) N d aq ⟨#[]⟩ 0 (aT [Ck.i ar,Ck.s,Ck.s,Ck.s] 0++aE (aT [Ck.i ar,Ck.s,Ck.s,Ck.s] 1) 0 [.i .i64 4, .s {data:= #[ax 110,ax 101,ax 119]}, .s ⟨#[]⟩, .s ⟨#[]⟩])else l9 N (λ_ e _ _ f _=>kr f e) (λ_ _ e _ f=>bif cK (f.length+(aE (aE (aE (aT [Ck.i ar,Ck.s,Ck.s,Ck.s] 3) 0 [.i .i64 1, .s {data:= #[ax 110,ax 101,ax 119]}, .s e, .s ⟨#[]⟩]) 1 [.i .i64 2, .s {data:= #[ax 110,ax 101,ax 119]}, .s ⟨#[]⟩, .s ⟨#[]⟩]) 2 [.i .i64 3, .s {data:= #[ax 110,ax 101,ax 119]}, .s ⟨#[]⟩, .s {data:= #[ax 107,ax 101,ax 112,ax 116]}]).length) 56 then kr (f++aE (aE (aE (aT [Ck.i ar,Ck.s,Ck.s,Ck.s] 3) 0 [.i .i64 1, .s {data:= #[ax 110,ax 101,ax 119]}, .s e, .s ⟨#[]⟩]) 1 [.i .i64 2, .s {data:= #[ax 110,ax 101,ax 119]}, .s ⟨#[]⟩, .s ⟨#[]⟩]) 2 [.i .i64 3, .s {data:= #[ax 110,ax 101,ax 119]}, .s ⟨#[]⟩, .s {data:= #[ax 107,ax 101,ax 112,ax 116]}]) ak else ao) N d aq ⟨#[]⟩ 0 (aT [Ck.i ar,Ck.s,Ck.s,Ck.s] 0)else ao else ao
def vo:=b Lib.c9 λr0 r1=>aj (r0,r1)
def c:=λa d=>(vo a d).isSome
def v:=λa d=>(vo a d).getD ([],aq)
theorem out{x}:∀a d,vo a d=aj x->c a d=ak/\v a d=x:=λ_ _=>Lib.dB
end mz

namespace m9
def r4(N:aG)(g k0:mc R)(a:az)(d:aW)(e f h i j l m:az)(o p q r s t:aW):aC R:=bif decide (e<(d.length:az))then bif decide (0<=e)&&decide (e<(d.length:az))then bif iM.v (bH (aw d e.toNat 0)) (bY (aw d e.toNat 1)) (bY (aw d e.toNat (1+1))) (bH (aw d e.toNat (1+1+1)))then bif decide (0<=e)&&decide (e<(d.length:az))then bif Ez.v (bH (aw d e.toNat 0)) (bY (aw d e.toNat 1)) (bY (aw d e.toNat (1+1))) (bH (aw d e.toNat (1+1+1))) a then bif decide (0<=e)&&decide (e<(d.length:az))then bif xJ.c j o p q r l s t m (bH (aw d e.toNat 0)) (bY (aw d e.toNat 1)) (bY (aw d e.toNat (1+1))) (bH (aw d e.toNat (1+1+1)))then Lib.lt (xJ.v j o p q r l s t m (bH (aw d e.toNat 0)) (bY (aw d e.toNat 1)) (bY (aw d e.toNat (1+1))) (bH (aw d e.toNat (1+1+1)))) λu=>g a d (bN (e+1)) f h i u.1 u.2.2.2.2.2.1 u.2.2.2.2.2.2.2.2 u.2.1 u.2.2.1 u.2.2.2.1 u.2.2.2.2.1 u.2.2.2.2.2.2.1 u.2.2.2.2.2.2.2.1 else ao else ao else g a d (bN (e+1)) f h i j l m o p q r s t else ao else g a d (bN (e+1)) f h i j l m o p q r s t else ao else k0 a d e f h i j l m o p q r s t
def l4(N:aG)(k0:mc R):aG->mc R
 |0=>λ_ _ _ _ _ _ _ _ _ _ _ _ _ _ _=>ao
 |n+1=>r4 N (l4 N k0 n) k0
def b(N:aG)(kr:fa R)(a:az)(d:aW):aC R:=l4 N (λ_ _ _ _ _ _ e f h i j l m o p=>kr e i j l m f o p h) N a d 0 0 0 0 a 0 0 [] [] [] ([]++aE (aT [Ck.l 3] 1) 0 [CV.l 3 (aT [Ck.i ar] (bc 16))]++aE (aT [Ck.l 3] 1) 0 [CV.l 3 (aT [Ck.i ar] (bc 16))]++aE (aT [Ck.l 3] 1) 0 [CV.l 3 (aT [Ck.i ar] (bc 16))]) [] []
def vo:=b Lib.c9 λr0 r1 r2 r3 r4 r5 r6 r7 r8=>aj (r0,r1,r2,r3,r4,r5,r6,r7,r8)
def c:=λa d=>(vo a d).isSome
def v:=λa d=>(vo a d).getD (0,[],[],[],[],0,[],[],0)
theorem out{x}:∀a d,vo a d=aj x->c a d=ak/\v a d=x:=λ_ _=>Lib.dB
end m9

namespace vt
def r7(N:aG)(g g1 k0 k1:hZ R)(a d e f:az)(h i j l m o p q r s t:aW):aC R:=bif decide (a<(h.length:az))then bif decide (0<=a)&&decide (a<(h.length:az))then bif Ez.v (bH (aw h a.toNat 0)) (bY (aw h a.toNat 1)) (bY (aw h a.toNat (1+1))) (bH (aw h a.toNat (1+1+1))) d then bif decide (0<=a)&&decide (a<(h.length:az))then bif cK (i.length+(aE (aT [Ck.s,Ck.i ar,Ck.i ar,Ck.s] 1) 0 [.s (bH (aw h a.toNat 0)), .i .i64 (bY (aw h a.toNat 1)), .i .i64 (bY (aw h a.toNat (1+1))), .s (bH (aw h a.toNat (1+1+1)))]).length) 48 then g (bN (a+1)) d e f h (i++aE (aT [Ck.s,Ck.i ar,Ck.i ar,Ck.s] 1) 0 [.s (bH (aw h a.toNat 0)), .i .i64 (bY (aw h a.toNat 1)), .i .i64 (bY (aw h a.toNat (1+1))), .s (bH (aw h a.toNat (1+1+1)))]) j l m o p q r s t else ao else ao else g (bN (a+1)) d e f h i j l m o p q r s t else ao else k0 a d e f h i j l m o p q r s t
def r7a(N:aG)(g g1 k0 k1:hZ R)(a d e f:az)(h i j l m o p q r s t:aW):aC R:=bif decide (a<(h.length:az))then bif decide (0<=a)&&decide (a<(h.length:az))then bif Ez.v (bH (aw h a.toNat 0)) (bY (aw h a.toNat 1)) (bY (aw h a.toNat (1+1))) (bH (aw h a.toNat (1+1+1))) d then bif decide (0<=a)&&decide (a<(h.length:az))then bif cK (i.length+(aE (aT [Ck.s,Ck.i ar,Ck.i ar,Ck.s] 1) 0 [.s (bH (aw h a.toNat 0)), .i .i64 (bY (aw h a.toNat 1)), .i .i64 (bY (aw h a.toNat (1+1))), .s (bH (aw h a.toNat (1+1+1)))]).length) 48 then g1 (bN (a+1)) d e f h (i++aE (aT [Ck.s,Ck.i ar,Ck.i ar,Ck.s] 1) 0 [.s (bH (aw h a.toNat 0)), .i .i64 (bY (aw h a.toNat 1)), .i .i64 (bY (aw h a.toNat (1+1))), .s (bH (aw h a.toNat (1+1+1)))]) j l m o p q r s t else ao else ao else g1 (bN (a+1)) d e f h i j l m o p q r s t else ao else k1 a d e f h i j l m o p q r s t
def l7a(N:aG)(k0 k1:hZ R):aG->hZ R
 |0=>λ_ _ _ _ _ _ _ _ _ _ _ _ _ _ _=>ao
 |n+1=>r7a N (λx2 x3 x4 x5 x6 x7 x8 x9 x10 x11 Kj x13 x14 x15 x16=>ao) (l7a N k0 k1 n) k0 k1
def l7(N:aG)(k0 k1:hZ R):aG->hZ R
 |0=>λ_ _ _ _ _ _ _ _ _ _ _ _ _ _ _=>ao
 |n+1=>r7 N (l7 N k0 k1 n) (l7a N k0 k1 n) k0 k1
def b(N:aG)(kr:rU R)(a:az)(d e f h:aW)(i:az)(j l:aW)(m:az)(o p q:aW)(r s:az)(t:au)(u:az)(w:aW):aC R:=bif vv.c o w then Lib.lt (vv.v o w) λy=>bif y.2 then bif rG.c y.1 then Lib.lt (rG.v y.1) λz=>l7 N (λ_ α _ _ _ xa _ _ _ _ _ _ xb xc xd=>bif mz.c xb xa then Lib.lt (mz.v xb xa) λxe=>bif xe.2 then bif pL.c xb xe.1 then Lib.lt (pL.v xb xe.1) λxf=>bif m9.c α xa then Lib.lt (m9.v α xa) λxg=>kr xg.1 xg.2.1 xg.2.2.1 xg.2.2.2.1 xg.2.2.2.2.1 xg.2.2.2.2.2.1 xg.2.2.2.2.2.2.1 xg.2.2.2.2.2.2.2.1 xg.2.2.2.2.2.2.2.2 xf.1 xc xd else ao else ao else bif m9.c α xa then Lib.lt (m9.v α xa) λxf=>kr xf.1 xf.2.1 xf.2.2.1 xf.2.2.2.1 xf.2.2.2.2.1 xf.2.2.2.2.2.1 xf.2.2.2.2.2.2.1 xf.2.2.2.2.2.2.2.1 xf.2.2.2.2.2.2.2.2 xb xc xd else ao else ao) (λ_ α _ _ _ xa _ _ _ _ _ _ xb xc xd=>bif mz.c xb xa then Lib.lt (mz.v xb xa) λxe=>bif xe.2 then bif pL.c xb xe.1 then Lib.lt (pL.v xb xe.1) λxf=>bif m9.c α xa then Lib.lt (m9.v α xa) λxg=>kr xg.1 xg.2.1 xg.2.2.1 xg.2.2.2.1 xg.2.2.2.2.1 xg.2.2.2.2.2.1 xg.2.2.2.2.2.2.1 xg.2.2.2.2.2.2.2.1 xg.2.2.2.2.2.2.2.2 xf.1 xc xd else ao else ao else bif m9.c α xa then Lib.lt (m9.v α xa) λxf=>kr xf.1 xf.2.1 xf.2.2.1 xf.2.2.2.1 xf.2.2.2.2.1 xf.2.2.2.2.2.1 xf.2.2.2.2.2.2.1 xf.2.2.2.2.2.2.2.1 xf.2.2.2.2.2.2.2.2 xb xc xd else ao else ao) N 0 a i m z (aT [Ck.s,Ck.i ar,Ck.i ar,Ck.s] 0) d e f h j l y.1 p q else ao else bif rG.c o then Lib.lt (rG.v o) λz=>l7a N (λ_ α _ _ _ xa _ _ _ _ _ _ xb xc xd=>bif mz.c xb xa then Lib.lt (mz.v xb xa) λxe=>bif xe.2 then bif pL.c xb xe.1 then Lib.lt (pL.v xb xe.1) λxf=>bif m9.c α xa then Lib.lt (m9.v α xa) λxg=>kr xg.1 xg.2.1 xg.2.2.1 xg.2.2.2.1 xg.2.2.2.2.1 xg.2.2.2.2.2.1 xg.2.2.2.2.2.2.1 xg.2.2.2.2.2.2.2.1 xg.2.2.2.2.2.2.2.2 xf.1 xc xd else ao else ao else bif m9.c α xa then Lib.lt (m9.v α xa) λxf=>kr xf.1 xf.2.1 xf.2.2.1 xf.2.2.2.1 xf.2.2.2.2.1 xf.2.2.2.2.2.1 xf.2.2.2.2.2.2.1 xf.2.2.2.2.2.2.2.1 xf.2.2.2.2.2.2.2.2 xb xc xd else ao else ao) (λ_ α _ _ _ xa _ _ _ _ _ _ xb xc xd=>bif mz.c xb xa then Lib.lt (mz.v xb xa) λxe=>bif xe.2 then bif pL.c xb xe.1 then Lib.lt (pL.v xb xe.1) λxf=>bif m9.c α xa then Lib.lt (m9.v α xa) λxg=>kr xg.1 xg.2.1 xg.2.2.1 xg.2.2.2.1 xg.2.2.2.2.1 xg.2.2.2.2.2.1 xg.2.2.2.2.2.2.1 xg.2.2.2.2.2.2.2.1 xg.2.2.2.2.2.2.2.2 xf.1 xc xd else ao else ao else bif m9.c α xa then Lib.lt (m9.v α xa) λxf=>kr xf.1 xf.2.1 xf.2.2.1 xf.2.2.2.1 xf.2.2.2.2.1 xf.2.2.2.2.2.1 xf.2.2.2.2.2.2.1 xf.2.2.2.2.2.2.2.1 xf.2.2.2.2.2.2.2.2 xb xc xd else ao else ao) N 0 a i m z (aT [Ck.s,Ck.i ar,Ck.i ar,Ck.s] 0) d e f h j l o p q else ao else ao
def vo:=b Lib.c9 λr0 r1 r2 r3 r4 r5 r6 r7 r8 r9 R4 zU=>aj (r0,r1,r2,r3,r4,r5,r6,r7,r8,r9,R4,zU)
def c:=λa d e f h i j l m o p q r s t u w=>(vo a d e f h i j l m o p q r s t u w).isSome
def v:=λa d e f h i j l m o p q r s t u w=>(vo a d e f h i j l m o p q r s t u w).getD (0,[],[],[],[],0,[],[],0,[],[],[])
theorem out{x}:∀a d e f h i j l m o p q r s t u w,vo a d e f h i j l m o p q r s t u w=aj x->c a d e f h i j l m o p q r s t u w=ak/\v a d e f h i j l m o p q r s t u w=x:=λ_ _ _ _ _ _ _ _ _ _ _ _ _ _ _ _ _=>Lib.dB
end vt

namespace Cd
def b(kr:rj R)(a:az)(d e f h:aW)(i:az)(j l:aW)(m:az)(o p q:aW)(r s:az)(t:au)(u:az)(w:aW):aC R:=bif decide (r=1)then bif U9.c a d e f h i j l m s t then Lib.lt (U9.v a d e f h i j l m s t) λy=>kr y.2.2.2.2.2.2.2.2.2 y.1 y.2.1 y.2.2.1 y.2.2.2.1 y.2.2.2.2.1 y.2.2.2.2.2.1 y.2.2.2.2.2.2.1 y.2.2.2.2.2.2.2.1 y.2.2.2.2.2.2.2.2.1 o p q else ao else bif decide (r=2)then bif TF.c a d e f h i j l m s t then Lib.lt (TF.v a d e f h i j l m s t) λy=>kr (zj.v y.2.2.2.2.2.2.2.2.2) y.1 y.2.1 y.2.2.1 y.2.2.2.1 y.2.2.2.2.1 y.2.2.2.2.2.1 y.2.2.2.2.2.2.1 y.2.2.2.2.2.2.2.1 y.2.2.2.2.2.2.2.2.1 o p q else ao else bif decide (r=3)then bif Ce.c a d e f h i j l m o p q r s t u w then Lib.lt (Ce.v a d e f h i j l m o p q r s t u w) λy=>kr y.1 y.2.1 y.2.2.1 y.2.2.2.1 y.2.2.2.2.1 y.2.2.2.2.2.1 y.2.2.2.2.2.2.1 y.2.2.2.2.2.2.2.1 y.2.2.2.2.2.2.2.2.1 y.2.2.2.2.2.2.2.2.2.1 y.2.2.2.2.2.2.2.2.2.2.1 y.2.2.2.2.2.2.2.2.2.2.2.1 y.2.2.2.2.2.2.2.2.2.2.2.2 else ao else bif decide (r=4)then bif TH.c a d e f h i j l m s then Lib.lt (TH.v a d e f h i j l m s) λy=>kr (zj.v y.2.2.2.2.2.2.2.2.2) y.1 y.2.1 y.2.2.1 y.2.2.2.1 y.2.2.2.2.1 y.2.2.2.2.2.1 y.2.2.2.2.2.2.1 y.2.2.2.2.2.2.2.1 y.2.2.2.2.2.2.2.2.1 o p q else ao else bif decide (r=5)then bif IE.c a d e f h i j l m u then Lib.lt (IE.v a d e f h i j l m u) λy=>kr 0 y.1 y.2.1 y.2.2.1 y.2.2.2.1 y.2.2.2.2.1 y.2.2.2.2.2.1 y.2.2.2.2.2.2.1 y.2.2.2.2.2.2.2.1 y.2.2.2.2.2.2.2.2 o p q else ao else bif decide (r=6)then bif Gq.c a d e f h i j l m s then Lib.lt (Gq.v a d e f h i j l m s) λy=>kr (zj.v (decide ((y.2.2.2.2.2.2.2.1.length:az)<(l.length:az)))) y.1 y.2.1 y.2.2.1 y.2.2.2.1 y.2.2.2.2.1 y.2.2.2.2.2.1 y.2.2.2.2.2.2.1 y.2.2.2.2.2.2.2.1 y.2.2.2.2.2.2.2.2 o p q else ao else bif decide (r=7)then bif vt.c a d e f h i j l m o p q r s t u w then Lib.lt (vt.v a d e f h i j l m o p q r s t u w) λy=>kr 0 y.1 y.2.1 y.2.2.1 y.2.2.2.1 y.2.2.2.2.1 y.2.2.2.2.2.1 y.2.2.2.2.2.2.1 y.2.2.2.2.2.2.2.1 y.2.2.2.2.2.2.2.2.1 y.2.2.2.2.2.2.2.2.2.1 y.2.2.2.2.2.2.2.2.2.2.1 y.2.2.2.2.2.2.2.2.2.2.2 else ao else kr 0 a d e f h i j l m o p q
def vo:=b λr0 r1 r2 r3 r4 r5 r6 r7 r8 r9 R4 zU r12=>aj (r0,r1,r2,r3,r4,r5,r6,r7,r8,r9,R4,zU,r12)
def c:=λa d e f h i j l m o p q r s t u w=>(vo a d e f h i j l m o p q r s t u w).isSome
def v:=λa d e f h i j l m o p q r s t u w=>(vo a d e f h i j l m o p q r s t u w).getD (0,0,[],[],[],[],0,[],[],0,[],[],[])
theorem out{x}:∀a d e f h i j l m o p q r s t u w,vo a d e f h i j l m o p q r s t u w=aj x->c a d e f h i j l m o p q r s t u w=ak/\v a d e f h i j l m o p q r s t u w=x:=λ_ _ _ _ _ _ _ _ _ _ _ _ _ _ _ _ _=>Lib.dB
end Cd

namespace xK
def b(kr:rU R)(a:az)(d e f h:aW)(i:az)(j l:aW)(m:az)(o p q:aW)(r s:az)(t:au)(u:az)(w:aW):aC R:=bif Cd.c a d e f h i j l m o p q r s t u w then Lib.lt (Cd.v a d e f h i j l m o p q r s t u w) λy=>bif cK ((aT [Ck.i ar] 0).length+y.2.2.2.2.2.2.2.2.2.2.2.1.length) 8 then bif cK ((aT [Ck.i ar] 0++y.2.2.2.2.2.2.2.2.2.2.2.1).length+(aE (aT [Ck.i ar] 1) 0 [.i .i64 y.1]).length) 8 then kr y.2.1 y.2.2.1 y.2.2.2.1 y.2.2.2.2.1 y.2.2.2.2.2.1 y.2.2.2.2.2.2.1 y.2.2.2.2.2.2.2.1 y.2.2.2.2.2.2.2.2.1 y.2.2.2.2.2.2.2.2.2.1 y.2.2.2.2.2.2.2.2.2.2.1 (aT [Ck.i ar] 0++y.2.2.2.2.2.2.2.2.2.2.2.1++aE (aT [Ck.i ar] 1) 0 [.i .i64 y.1]) y.2.2.2.2.2.2.2.2.2.2.2.2 else ao else ao else ao
def vo:=b λr0 r1 r2 r3 r4 r5 r6 r7 r8 r9 R4 zU=>aj (r0,r1,r2,r3,r4,r5,r6,r7,r8,r9,R4,zU)
def c:=λa d e f h i j l m o p q r s t u w=>(vo a d e f h i j l m o p q r s t u w).isSome
def v:=λa d e f h i j l m o p q r s t u w=>(vo a d e f h i j l m o p q r s t u w).getD (0,[],[],[],[],0,[],[],0,[],[],[])
theorem out{x}:∀a d e f h i j l m o p q r s t u w,vo a d e f h i j l m o p q r s t u w=aj x->c a d e f h i j l m o p q r s t u w=ak/\v a d e f h i j l m o p q r s t u w=x:=λ_ _ _ _ _ _ _ _ _ _ _ _ _ _ _ _ _=>Lib.dB
end xK

namespace Ib
def r3(N:aG)(g k0:jO R)(a:az)(d:aW)(e f h i j l m o:az)(p q r s t u w y z:aW):aC R:=bif gL.c d e f 30 then Lib.lt (gL.v d e f 30) λα=>bif decide (a<α.1)then bif uH.c α.2.1 α.2.2.1 α.2.2.2 l p q r s m t u o w y z then Lib.lt (uH.v α.2.1 α.2.2.1 α.2.2.2 l p q r s m t u o w y z) λxa=>bif xK.c l xa.2.2.2.2.2.2.2.2.1 xa.2.2.2.2.2.2.2.2.2.1 xa.2.2.2.2.2.2.2.2.2.2.1 xa.2.2.2.2.2.2.2.2.2.2.2.1 m xa.2.2.2.2.2.2.2.2.2.2.2.2.1 xa.2.2.2.2.2.2.2.2.2.2.2.2.2.1 o xa.2.2.2.2.2.2.2.2.2.2.2.2.2.2.1 xa.2.2.2.2.2.2.2.2.2.2.2.2.2.2.2.1 xa.2.2.2.2.2.2.2.2.2.2.2.2.2.2.2.2 xa.1 xa.2.1 xa.2.2.1 xa.2.2.2.1 xa.2.2.2.2.1 then Lib.lt (xK.v l xa.2.2.2.2.2.2.2.2.1 xa.2.2.2.2.2.2.2.2.2.1 xa.2.2.2.2.2.2.2.2.2.2.1 xa.2.2.2.2.2.2.2.2.2.2.2.1 m xa.2.2.2.2.2.2.2.2.2.2.2.2.1 xa.2.2.2.2.2.2.2.2.2.2.2.2.2.1 o xa.2.2.2.2.2.2.2.2.2.2.2.2.2.2.1 xa.2.2.2.2.2.2.2.2.2.2.2.2.2.2.2.1 xa.2.2.2.2.2.2.2.2.2.2.2.2.2.2.2.2 xa.1 xa.2.1 xa.2.2.1 xa.2.2.2.1 xa.2.2.2.2.1) λxb=>g (bN (a+1)) xa.2.2.2.2.2.1 xa.2.2.2.2.2.2.1 xa.2.2.2.2.2.2.2.1 h i j xb.1 xb.2.2.2.2.2.1 xb.2.2.2.2.2.2.2.2.1 xb.2.1 xb.2.2.1 xb.2.2.2.1 xb.2.2.2.2.1 xb.2.2.2.2.2.2.1 xb.2.2.2.2.2.2.2.1 xb.2.2.2.2.2.2.2.2.2.1 xb.2.2.2.2.2.2.2.2.2.2.1 xb.2.2.2.2.2.2.2.2.2.2.2 else ao else ao else k0 a α.2.1 α.2.2.1 α.2.2.2 h i j l m o p q r s t u w y z else ao
def l3(N:aG)(k0:jO R):aG->jO R
 |0=>λ_ _ _ _ _ _ _ _ _ _ _ _ _ _ _ _ _ _ _=>ao
 |n+1=>r3 N (l3 N k0 n) k0
def b(N:aG)(kr:Ae R)(a:aW)(d e:az):aC R:=l3 N (λ_ f h i _ _ _ j l m o p q r s t _ _ _=>kr j o p q r l s t m f h i) N 0 a d e 0 0 0 1 0 0 [] [] [] ([]++aE (aT [Ck.l 3] 1) 0 [CV.l 3 (aT [Ck.i ar] (bc 16))]++aE (aT [Ck.l 3] 1) 0 [CV.l 3 (aT [Ck.i ar] (bc 16))]++aE (aT [Ck.l 3] 1) 0 [CV.l 3 (aT [Ck.i ar] (bc 16))]) [] [] [] [] []
def vo:=b Lib.c9 λr0 r1 r2 r3 r4 r5 r6 r7 r8 r9 R4 zU=>aj (r0,r1,r2,r3,r4,r5,r6,r7,r8,r9,R4,zU)
def c:=λa d e=>(vo a d e).isSome
def v:=λa d e=>(vo a d e).getD (0,[],[],[],[],0,[],[],0,[],0,0)
theorem out{x}:∀a d e,vo a d e=aj x->c a d e=ak/\v a d e=x:=λ_ _ _=>Lib.dB
end Ib

namespace BX
def b(kr:fa R)(a:aW):aC R:=bif IJ.c a then Lib.lt (IJ.v a) λd=>bif Ib.c d.1 d.2.1 d.2.2 then Lib.lt (Ib.v d.1 d.2.1 d.2.2) λe=>kr e.1 e.2.1 e.2.2.1 e.2.2.2.1 e.2.2.2.2.1 e.2.2.2.2.2.1 e.2.2.2.2.2.2.1 e.2.2.2.2.2.2.2.1 e.2.2.2.2.2.2.2.2.1 else ao else ao
def vo:=b λr0 r1 r2 r3 r4 r5 r6 r7 r8=>aj (r0,r1,r2,r3,r4,r5,r6,r7,r8)
def c:=λa=>(vo a).isSome
def v:=λa=>(vo a).getD (0,[],[],[],[],0,[],[],0)
theorem out{x}:∀a,vo a=aj x->c a=ak/\v a=x:=λ_=>Lib.dB
end BX

namespace NX
def r5(N:aG)(g k0:zu R)(a:az)(d:aW)(e f:az)(h:aW):aC R:=bif decide (a<12)then bif gL.c d e f 10000 then Lib.lt (gL.v d e f 10000) λi=>bif cK (h.length+(aE (aT [Ck.i ar] 1) 0 [.i .i64 i.1]).length) 8 then g (bN (a+1)) i.2.1 i.2.2.1 i.2.2.2 (h++aE (aT [Ck.i ar] 1) 0 [.i .i64 i.1])else ao else ao else k0 a d e f h
def l5(N:aG)(k0:zu R):aG->zu R
 |0=>λ_ _ _ _ _=>ao
 |n+1=>r5 N (l5 N k0 n) k0
def b(N:aG)(kr:aW->aC R)(a:aW):aC R:=bif IJ.c a then Lib.lt (IJ.v a) λd=>bif bS.c d.1 d.2.1 d.2.2 then Lib.lt (bS.v d.1 d.2.1 d.2.2) λe=>l5 N (λ_ _ _ _ f=>kr f) N 0 e.2.1 e.2.2.1 e.2.2.2 (aT [Ck.i ar] 0)else ao else ao
def vo:=b Lib.c9 λr0=>aj r0
def c:=λa=>(vo a).isSome
def v:=λa=>(vo a).getD ([])
theorem out{x}:∀a,vo a=aj x->c a=ak/\v a=x:=λ_=>Lib.dB
end NX

namespace vl
def b(kr:aW->aC R)(a:aW):aC R:=bif cK ((aT [Ck.s,Ck.i ar,Ck.i ar,Ck.s] 0).length+a.length) 48 then kr (aT [Ck.s,Ck.i ar,Ck.i ar,Ck.s] 0++a)else ao
def vo:=b λr0=>aj r0
def c:=λa=>(vo a).isSome
def v:=λa=>(vo a).getD ([])
theorem out{x}:∀a,vo a=aj x->c a=ak/\v a=x:=λ_=>Lib.dB
end vl

namespace rY
def b(kr:aW->aC R)(a:aW):aC R:=bif cK ((aT [.s] 0).length+a.length) 16 then kr (aT [.s] 0++a)else ao
def vo:=b λr0=>aj r0
def c:=λa=>(vo a).isSome
def v:=λa=>(vo a).getD ([])
theorem out{x}:∀a,vo a=aj x->c a=ak/\v a=x:=λ_=>Lib.dB
end rY

namespace uK
def b(kr:aW->aC R)(a:aW):aC R:=bif cK ((aT [Ck.i ar] 0).length+a.length) 8 then kr (aT [Ck.i ar] 0++a)else ao
def vo:=b λr0=>aj r0
def c:=λa=>(vo a).isSome
def v:=λa=>(vo a).getD ([])
theorem out{x}:∀a,vo a=aj x->c a=ak/\v a=x:=λ_=>Lib.dB
end uK

namespace iX
def r3(N:aG)(g:kA R)(g1:oy R)(k0:kA R)(k1:oy R)(a:aW)(d e f h:az):aC R:=bif decide (e<d)then bif decide (0<=e)&&decide (e<(a.length:az))then bif uK.c (jx (aw a e.toNat 0))then g1 a d (bN (e+1)) f h ([]++aE (aT [Ck.l 3] 1) 0 [CV.l 3 (uK.v (jx (aw a e.toNat 0)))])else ao else ao else k0 a d e f h
def zV(N:aG)(g:kA R)(g1:oy R)(k0:kA R)(k1:oy R)(a:aW)(d e f h:az)(i:aW):aC R:=bif decide (e<d)then bif decide (0<=e)&&decide (e<(a.length:az))then bif uK.c (jx (aw a e.toNat 0))then bif cK (i.length+(aE (aT [Ck.l 3] 1) 0 [CV.l 3 (uK.v (jx (aw a e.toNat 0)))]).length) 24 then g1 a d (bN (e+1)) f h (i++aE (aT [Ck.l 3] 1) 0 [CV.l 3 (uK.v (jx (aw a e.toNat 0)))])else ao else ao else ao else k1 a d e f h i
def tT(N:aG)(k0:kA R)(k1:oy R):aG->oy R
 |0=>λ_ _ _ _ _ _=>ao
 |n+1=>zV N (λx0 x1 x2 x3 x4=>ao) (tT N k0 k1 n) k0 k1
def l3(N:aG)(k0:kA R)(k1:oy R):aG->kA R
 |0=>λ_ _ _ _ _=>ao
 |n+1=>r3 N (l3 N k0 k1 n) (tT N k0 k1 n) k0 k1
def b(N:aG)(kr:Gf R)(a:aW)(d:az):aC R:=l3 N (λ_ _ _ _ e=>kr [] e) (λ_ _ _ _ e f=>kr f e) N a (a.length:az) 0 0 d
def vo:=b Lib.c9 λr0 r1=>aj (r0,r1)
def c:=λa d=>(vo a d).isSome
def v:=λa d=>(vo a d).getD ([],0)
theorem out{x}:∀a d,vo a d=aj x->c a d=ak/\v a d=x:=λ_ _=>Lib.dB
end iX

namespace ja
def b(kr:wK R)(a d e:aW)(f:az):aC R:=bif rY.c a then bif rY.c d then bif iX.c e f then kr (rY.v a) (rY.v d) (iX.v e f).1 (iX.v e f).2 else ao else ao else ao
def vo:=b λr0 r1 r2 r3=>aj (r0,r1,r2,r3)
def c:=λa d e f=>(vo a d e f).isSome
def v:=λa d e f=>(vo a d e f).getD ([],[],[],0)
theorem out{x}:∀a d e f,vo a d e f=aj x->c a d e f=ak/\v a d e f=x:=λ_ _ _ _=>Lib.dB
end ja

namespace uL
def b(kr:fa R)(a:az)(d e f h:aW)(i:az)(j l:aW)(m:az):aC R:=bif vl.c d then bif ja.c e f h i then bif cK ((aT [Ck.s,Ck.s,Ck.i ar,Ck.i ar,Ck.i ar] 0).length+j.length) 56 then bif cK ((aT [Ck.i ar,Ck.s,Ck.i ar,Ck.i ar,Ck.i ar,Ck.s,Ck.i ar] 0).length+l.length) 72 then kr a (vl.v d) (ja.v e f h i).1 (ja.v e f h i).2.1 (ja.v e f h i).2.2.1 (ja.v e f h i).2.2.2 (aT [Ck.s,Ck.s,Ck.i ar,Ck.i ar,Ck.i ar] 0++j) (aT [Ck.i ar,Ck.s,Ck.i ar,Ck.i ar,Ck.i ar,Ck.s,Ck.i ar] 0++l) m else ao else ao else ao else ao
def vo:=b λr0 r1 r2 r3 r4 r5 r6 r7 r8=>aj (r0,r1,r2,r3,r4,r5,r6,r7,r8)
def c:=λa d e f h i j l m=>(vo a d e f h i j l m).isSome
def v:=λa d e f h i j l m=>(vo a d e f h i j l m).getD (0,[],[],[],[],0,[],[],0)
theorem out{x}:∀a d e f h i j l m,vo a d e f h i j l m=aj x->c a d e f h i j l m=ak/\v a d e f h i j l m=x:=λ_ _ _ _ _ _ _ _ _=>Lib.dB
end uL

namespace IB
def b(kr:aY->aC R)(a:az)(d:au)(e f h:az)(i:au)(j A6:az):aC R:=kr (decide (a=A6))
def v(a0:az)(a1:au)(a2 a3 a4:az)(a5:au)(a6 A6:az):aY:=(decide (a0=A6))
theorem fM(kr:aY->aC R)(a0:az)(a1:au)(a2 a3 a4:az)(a5:au)(a6 A6:az):b kr a0 a1 a2 a3 a4 a5 a6 A6=kr (v a0 a1 a2 a3 a4 a5 a6 A6):=by first|rfl|(unfold b v;simp only[c_];(repeat' split)<;>rfl)
end IB

namespace p_
def r2(N:aG)(g k0 k1:kA R)(a:aW)(d e f h:az):aC R:=bif decide (h<f)then bif decide (0<=h)&&decide (h<(a.length:az))then bif IB.v (bY (aw a h.toNat 0)) (bH (aw a h.toNat 1)) (bY (aw a h.toNat (1+1))) (bY (aw a h.toNat (1+1+1))) (bY (aw a h.toNat (1+1+1+1))) (bH (aw a h.toNat (1+1+1+1+1))) (bY (aw a h.toNat (1+1+1+1+1+1))) d then k0 a d h f h else g a d e f (bN (h+1))else ao else k1 a d e f h
def l2(N:aG)(k0 k1:kA R):aG->kA R
 |0=>λ_ _ _ _ _=>ao
 |n+1=>r2 N (l2 N k0 k1 n) k0 k1
def b(N:aG)(kr:az->aC R)(a:aW)(A6:az):aC R:=l2 N (λ_ _ d _ _=>kr d) (λ_ _ _ _ _=>kr (-1)) N a A6 0 (a.length:az) 0
def vo:=b Lib.c9 λr0=>aj r0
def c:=λa d=>(vo a d).isSome
def v:=λa d=>(vo a d).getD (0)
theorem out{x}:∀a d,vo a d=aj x->c a d=ak/\v a d=x:=λ_ _=>Lib.dB
end p_

namespace N0
def b(kr:aY->aC R)(a:az)(d:au)(e f h:az)(i:au)(j A6:az):aC R:=kr (decide (a=A6))
def v(a0:az)(a1:au)(a2 a3 a4:az)(a5:au)(a6 A6:az):aY:=(decide (a0=A6))
theorem fM(kr:aY->aC R)(a0:az)(a1:au)(a2 a3 a4:az)(a5:au)(a6 A6:az):b kr a0 a1 a2 a3 a4 a5 a6 A6=kr (v a0 a1 a2 a3 a4 a5 a6 A6):=by first|rfl|(unfold b v;simp only[c_];(repeat' split)<;>rfl)
end N0

namespace mF
def r2(N:aG)(g k0 k1:kA R)(a:aW)(d e f h:az):aC R:=bif decide (h<f)then bif decide (0<=h)&&decide (h<(a.length:az))then bif N0.v (bY (aw a h.toNat 0)) (bH (aw a h.toNat 1)) (bY (aw a h.toNat (1+1))) (bY (aw a h.toNat (1+1+1))) (bY (aw a h.toNat (1+1+1+1))) (bH (aw a h.toNat (1+1+1+1+1))) (bY (aw a h.toNat (1+1+1+1+1+1))) d then k0 a d h f h else g a d e f (bN (h+1))else ao else k1 a d e f h
def l2(N:aG)(k0 k1:kA R):aG->kA R
 |0=>λ_ _ _ _ _=>ao
 |n+1=>r2 N (l2 N k0 k1 n) k0 k1
def b(N:aG)(kr:az->aC R)(a:aW)(A6:az):aC R:=l2 N (λ_ _ d _ _=>kr d) (λ_ _ _ _ _=>kr (-1)) N a A6 0 (a.length:az) 0
def vo:=b Lib.c9 λr0=>aj r0
def c:=λa d=>(vo a d).isSome
def v:=λa d=>(vo a d).getD (0)
theorem out{x}:∀a d,vo a d=aj x->c a d=ak/\v a d=x:=λ_ _=>Lib.dB
end mF

namespace KU
def r5(N:aG)(g k0:mG R)(a d e:az)(f:aW):aC R:=bif decide (e<(f.length:az))then bif decide (0<=e)&&decide (e<(f.length:az))then bif !N0.v (bY (aw f e.toNat 0)) (bH (aw f e.toNat 1)) (bY (aw f e.toNat (1+1))) (bY (aw f e.toNat (1+1+1))) (bY (aw f e.toNat (1+1+1+1))) (bH (aw f e.toNat (1+1+1+1+1))) (bY (aw f e.toNat (1+1+1+1+1+1))) a then bif decide (0<=d)&&decide (d<(f.length:az))then g a (bN (d+1)) (bN (e+1)) (eA f d.toNat 0 [.i .i64 (bY (aw f e.toNat 0)), .s (bH (aw f e.toNat 1)), .i .i64 (bY (aw f e.toNat (1+1))), .i .i64 (bY (aw f e.toNat (1+1+1))), .i .i64 (bY (aw f e.toNat (1+1+1+1))), .s (bH (aw f e.toNat (1+1+1+1+1))), .i .i64 (bY (aw f e.toNat (1+1+1+1+1+1)))])else ao else g a d (bN (e+1)) f else ao else k0 a d e f
def l5(N:aG)(k0:mG R):aG->mG R
 |0=>λ_ _ _ _=>ao
 |n+1=>r5 N (l5 N k0 n) k0
def b(N:aG)(kr:aW->aC R)(a:aW)(A6:az):aC R:=bif mF.c a A6 then bif decide (mF.v a A6=Mw 1)then kr a else l5 N (λ_ d _ e=>bif iQ d (e.length:az) (e.length:az)then bif iQ 0 d ((jb d.toNat e++aT [Ck.i ar,Ck.s,Ck.i ar,Ck.i ar,Ck.i ar,Ck.s,Ck.i ar] ((e.length:az).toNat-d.toNat)++pe (e.length:az).toNat e).length:az)then kr (eT (jb d.toNat e++aT [Ck.i ar,Ck.s,Ck.i ar,Ck.i ar,Ck.i ar,Ck.s,Ck.i ar] ((e.length:az).toNat-d.toNat)++pe (e.length:az).toNat e) (bc 0) d.toNat)else ao else ao) N A6 (mF.v a A6) (bN (mF.v a A6+1)) a else ao
def vo:=b Lib.c9 λr0=>aj r0
def c:=λa d=>(vo a d).isSome
def v:=λa d=>(vo a d).getD ([])
theorem out{x}:∀a d,vo a d=aj x->c a d=ak/\v a d=x:=λ_ _=>Lib.dB
end KU

namespace FQ
def b(kr:fa R)(a:az)(d e f h:aW)(i:az)(j l:aW)(m o:az):aC R:=bif uL.c a d e f h i j l m then bif KU.c (uL.v a d e f h i j l m).2.2.2.2.2.2.2.1 o then kr (uL.v a d e f h i j l m).1 (uL.v a d e f h i j l m).2.1 (uL.v a d e f h i j l m).2.2.1 (uL.v a d e f h i j l m).2.2.2.1 (uL.v a d e f h i j l m).2.2.2.2.1 (uL.v a d e f h i j l m).2.2.2.2.2.1 (uL.v a d e f h i j l m).2.2.2.2.2.2.1 (KU.v (uL.v a d e f h i j l m).2.2.2.2.2.2.2.1 o) (uL.v a d e f h i j l m).2.2.2.2.2.2.2.2 else ao else ao
def vo:=b λr0 r1 r2 r3 r4 r5 r6 r7 r8=>aj (r0,r1,r2,r3,r4,r5,r6,r7,r8)
def c:=λa d e f h i j l m o=>(vo a d e f h i j l m o).isSome
def v:=λa d e f h i j l m o=>(vo a d e f h i j l m o).getD (0,[],[],[],[],0,[],[],0)
theorem out{x}:∀a d e f h i j l m o,vo a d e f h i j l m o=aj x->c a d e f h i j l m o=ak/\v a d e f h i j l m o=x:=λ_ _ _ _ _ _ _ _ _ _=>Lib.dB
end FQ

namespace od
def b(kr:aY->aC R)(a d e:az):aC R:=bif decide (a≥d)then kr (decide (a<=e))else kr aq
def v(a0 a1 a2:az):aY:=bif decide (a0≥a1)then decide (a0<=a2)else aq
theorem fM(kr:aY->aC R)(a0 a1 a2:az):b kr a0 a1 a2=kr (v a0 a1 a2):=by first|rfl|(unfold b v;simp only[c_];(repeat' split)<;>rfl)
end od

namespace Mz
def b(kr:aY->aC R)(a:au):aC R:=kr (od.v (a.size:az) 1 30)
def v(a0:au):aY:=(od.v (a0.size:az) 1 30)
theorem fM(kr:aY->aC R)(a0:au):b kr a0=kr (v a0):=by first|rfl|(unfold b v;simp only[c_];(repeat' split)<;>rfl)
end Mz

namespace Aq
def b(kr:aY->aC R)(a:az):aC R:=kr (od.v a 0 1000000000)
def v(a0:az):aY:=(od.v a0 0 1000000000)
theorem fM(kr:aY->aC R)(a0:az):b kr a0=kr (v a0):=by first|rfl|(unfold b v;simp only[c_];(repeat' split)<;>rfl)
end Aq

namespace Ar
def b(kr:aY->aC R)(a:au)(d e:az)(f:au):aC R:=bif Mz.v a then bif Aq.v d then bif od.v e 1 999999 then kr (decide ((f.size:az)<=400))else kr aq else kr aq else kr aq
def v(a0:au)(a1 a2:az)(a3:au):aY:=bif Mz.v a0 then bif Aq.v a1 then bif od.v a2 1 999999 then decide ((a3.size:az)<=400)else aq else aq else aq
theorem fM(kr:aY->aC R)(a0:au)(a1 a2:az)(a3:au):b kr a0 a1 a2 a3=kr (v a0 a1 a2 a3):=by first|rfl|(unfold b v;simp only[c_];(repeat' split)<;>rfl)
end Ar

namespace Cf
def b(kr:aW->aC R)(a:az):aC R:=bif decide (a<0)then ao else bif decide (bN (a-bN (0-0))>0)then bif decide (0<=bN (a-bN (0-0)))&&cK (([]:aW).length+(bN (a-bN (0-0))).toNat) 16&&decide (bN (a-bN (0-0))<=9223372036854775807)then kr (eT ([]++aT [.s] (bN (a-bN (0-0))).toNat) (bc 0) (bc 0))else ao else kr []
def vo:=b λr0=>aj r0
def c:=λa=>(vo a).isSome
def v:=λa=>(vo a).getD ([])
theorem out{x}:∀a,vo a=aj x->c a=ak/\v a=x:=λ_=>Lib.dB
end Cf

namespace vn
def zU(N:aG)(g k0:wJ R)(a:aW)(d e:az)(f:aW):aC R:=bif decide (e<d)then bif decide (0<=e)&&decide (e<(a.length:az))then bif cK (f.length+(jx (aw a e.toNat 0)).length) 16 then g a d (bN (e+1)) (f++jx (aw a e.toNat 0))else ao else ao else k0 a d e f
def E6(N:aG)(k0:wJ R):aG->wJ R
 |0=>λ_ _ _ _=>ao
 |n+1=>zU N (E6 N k0 n) k0
def r3(N:aG)(g k0:DR R)(a:aW)(d:az)(e:aW)(f h:az):aC R:=bif decide (h<f)then bif decide (0<=h)&&decide (h<(e.length:az))then bif decide (bN (d+((jx (aw e h.toNat 0)).length:az))<0)then ao else g a (bN (d+((jx (aw e h.toNat 0)).length:az))) e f (bN (h+1))else ao else k0 a d e f h
def l3(N:aG)(k0:DR R):aG->DR R
 |0=>λ_ _ _ _ _=>ao
 |n+1=>r3 N (l3 N k0 n) k0
def b(N:aG)(kr:aW->aC R)(a:aW):aC R:=l3 N (λd e _ _ _=>bif Cf.c e then E6 N (λ_ _ _ f=>kr f) N d (d.length:az) 0 (Cf.v e)else ao) N a 0 a (a.length:az) 0
def vo:=b Lib.c9 λr0=>aj r0
def c:=λa=>(vo a).isSome
def v:=λa=>(vo a).getD ([])
theorem out{x}:∀a,vo a=aj x->c a=ak/\v a=x:=λ_=>Lib.dB
end vn

namespace qc
def b(kr:aW->aC R)(a d e:aW)(f:az):aC R:=bif vn.c (aE (aE (aT [Ck.l 9] 2) 0 [CV.l 9 a]) 1 [CV.l 9 d])then kr (vn.v (aE (aE (aT [Ck.l 9] 2) 0 [CV.l 9 a]) 1 [CV.l 9 d]))else ao
def vo:=b λr0=>aj r0
def c:=λa d e f=>(vo a d e f).isSome
def v:=λa d e f=>(vo a d e f).getD ([])
theorem out{x}:∀a d e f,vo a d e f=aj x->c a d e f=ak/\v a d e f=x:=λ_ _ _ _=>Lib.dB
end qc

namespace zh
def r2(N:aG)(g k0 k1:iH R)(a:aW)(d:au)(e f h:az):aC R:=bif decide (h<f)then bif decide (0<=h)&&decide (h<(a.length:az))then bif dg (aL d) (bH (aw a h.toNat 0)).toList then k0 a d h f h else g a d e f (bN (h+1))else ao else k1 a d e f h
def l2(N:aG)(k0 k1:iH R):aG->iH R
 |0=>λ_ _ _ _ _=>ao
 |n+1=>r2 N (l2 N k0 k1 n) k0 k1
def b(N:aG)(kr:az->aC R)(a:aW)(d:au):aC R:=l2 N (λ_ _ e _ _=>kr e) (λ_ _ _ _ _=>kr (-1)) N a d 0 (a.length:az) 0
def vo:=b Lib.c9 λr0=>aj r0
def c:=λa d=>(vo a d).isSome
def v:=λa d=>(vo a d).getD (0)
theorem out{x}:∀a d,vo a d=aj x->c a d=ak/\v a d=x:=λ_ _=>Lib.dB
end zh

namespace rI
def b(kr:aY->aC R)(a:aW)(d:au):aC R:=bif zh.c a d then kr (decide (zh.v a d≥0))else ao
def vo:=b λr0=>aj r0
def c:=λa d=>(vo a d).isSome
def v:=λa d=>(vo a d).getD aq
theorem out{x}:∀a d,vo a d=aj x->c a d=ak/\v a d=x:=λ_ _=>Lib.dB
end rI

namespace uI
def b(kr:aY->aC R)(a d e:aW)(f:az)(h:au):aC R:=bif qc.c a d e f then bif rI.c (qc.v a d e f) h then kr (rI.v (qc.v a d e f) h)else ao else ao
def vo:=b λr0=>aj r0
def c:=λa d e f h=>(vo a d e f h).isSome
def v:=λa d e f h=>(vo a d e f h).getD aq
theorem out{x}:∀a d e f h,vo a d e f h=aj x->c a d e f h=ak/\v a d e f h=x:=λ_ _ _ _ _=>Lib.dB
end uI

namespace o4
def r5(N:aG)(g k0 k1:qz R)(a:aY)(d e:aW)(f h:az)(i:aW)(j l:az)(m:aW)(o:az):aC R:=bif decide (l<j)then bif decide (0<=l)&&decide (l<(i.length:az))then bif !od.v (bY (aw i l.toNat 0)) 0 15 then k0 aq d e f h i j l m o else g a d e f h i j (bN (l+1)) m o else ao else k1 a d e f h i j l m o
def l5(N:aG)(k0 k1:qz R):aG->qz R
 |0=>λ_ _ _ _ _ _ _ _ _ _=>ao
 |n+1=>r5 N (l5 N k0 k1 n) k0 k1
def r2(N:aG)(g k0 k1:Ab R)(a:aY)(d:aW)(e f:az)(h:aW)(i:az):aC R:=bif decide (f<e)then bif decide (0<=f)&&decide (f<(d.length:az))then l5 N (λj _ l m o _ _ _ p q=>k0 j l m o p q) (λj l m o p _ _ _ q r=>bif(l.length:az) !=16 then k0 aq m o p q r else g j m o (bN (p+1)) q r) N a (jx (aw d f.toNat 0)) d e f (jx (aw d f.toNat 0)) ((jx (aw d f.toNat 0)).length:az) 0 h i else ao else k1 a d e f h i
def l2(N:aG)(k0 k1:Ab R):aG->Ab R
 |0=>λ_ _ _ _ _ _=>ao
 |n+1=>r2 N (l2 N k0 k1 n) k0 k1
def b(N:aG)(kr:aY->aC R)(a:aW)(d:az):aC R:=l2 N (λe _ _ _ _ _=>kr e) (λ_ _ _ _ e f=>bif decide ((e.length:az)=3)then kr (od.v f 0 63)else kr aq) N aq a (a.length:az) 0 a d
def vo:=b Lib.c9 λr0=>aj r0
def c:=λa d=>(vo a d).isSome
def v:=λa d=>(vo a d).getD aq
theorem out{x}:∀a d,vo a d=aj x->c a d=ak/\v a d=x:=λ_ _=>Lib.dB
end o4

namespace oC
def r3(N:aG)(g k0 k1:uj R)(a:aY)(d e:az)(f h i:aW)(j:az)(l:aW):aC R:=bif decide (e<d)then bif decide (0<=e)&&decide (e<(l.length:az))then bif !Mz.v (bH (aw l e.toNat 0))then k0 aq d e f h i j l else bif iQ 0 e (l.length:az)then bif rI.c (eT l (bc 0) e.toNat) (bH (aw l e.toNat 0))then bif rI.v (eT l (bc 0) e.toNat) (bH (aw l e.toNat 0))then k0 aq d e f h i j l else g a d (bN (e+1)) f h i j l else ao else ao else ao else k1 a d e f h i j l
def l3(N:aG)(k0 k1:uj R):aG->uj R
 |0=>λ_ _ _ _ _ _ _ _=>ao
 |n+1=>r3 N (l3 N k0 k1 n) k0 k1
def b(N:aG)(kr:aY->aC R)(a d e:aW)(f:az):aC R:=bif qc.c a d e f then l3 N (λh _ _ _ _ _ _ _=>kr h) (λ_ _ _ h i j l _=>bif decide ((h.length:az)<=2)then bif decide ((i.length:az)<=4)then bif o4.c j l then kr (o4.v j l)else ao else kr aq else kr aq) N aq ((qc.v a d e f).length:az) 0 a d e f (qc.v a d e f)else ao
def vo:=b Lib.c9 λr0=>aj r0
def c:=λa d e f=>(vo a d e f).isSome
def v:=λa d e f=>(vo a d e f).getD aq
theorem out{x}:∀a d e f,vo a d e f=aj x->c a d e f=ak/\v a d e f=x:=λ_ _ _ _=>Lib.dB
end oC

namespace N1
def r2(N:aG)(g k0 k1:eF R)(a:aY)(d:aW)(e f h:az)(i j l m:aW)(o:az)(p q:aW)(r:az):aC R:=bif decide (f<e)then bif decide (0<=f)&&decide (f<(d.length:az))then bif !Ar.v (bH (aw d f.toNat 0)) (bY (aw d f.toNat 1)) (bY (aw d f.toNat (1+1))) (bH (aw d f.toNat (1+1+1)))then k0 aq d e f h i j l m o p q r else bif decide (f>0)then bif decide (0<=bN (f-1))&&decide (bN (f-1)<(i.length:az))then bif !Op.bytesLess (bH (aw i (bN (f-1)).toNat 0)).toList (bH (aw d f.toNat 0)).toList then k0 aq d e f h i j l m o p q r else bif uI.c j l m o (bH (aw d f.toNat 0))then bif !uI.v j l m o (bH (aw d f.toNat 0))then k0 aq d e f h i j l m o p q r else g a d e (bN (f+1)) h i j l m o p q r else ao else ao else bif uI.c j l m o (bH (aw d f.toNat 0))then bif !uI.v j l m o (bH (aw d f.toNat 0))then k0 aq d e f h i j l m o p q r else g a d e (bN (f+1)) h i j l m o p q r else ao else ao else k1 a d e f h i j l m o p q r
def l2(N:aG)(k0 k1:eF R):aG->eF R
 |0=>λ_ _ _ _ _ _ _ _ _ _ _ _ _=>ao
 |n+1=>r2 N (l2 N k0 k1 n) k0 k1
def b(N:aG)(kr:aY->aC R)(a:az)(d e f h:aW)(i:az)(j l:aW)(m:az):aC R:=l2 N (λo _ _ _ _ _ _ _ _ _ _ _ _=>kr o) (λ_ _ _ _ _ o p q r s _ _ _=>bif oC.c p q r s then bif oC.v p q r s then bif qc.c p q r s then kr (decide (((qc.v p q r s).length:az)=(o.length:az)))else ao else kr aq else ao) N aq d (d.length:az) 0 a d e f h i j l m
def vo:=b Lib.c9 λr0=>aj r0
def c:=λa d e f h i j l m=>(vo a d e f h i j l m).isSome
def v:=λa d e f h i j l m=>(vo a d e f h i j l m).getD aq
theorem out{x}:∀a d e f h i j l m,vo a d e f h i j l m=aj x->c a d e f h i j l m=ak/\v a d e f h i j l m=x:=λ_ _ _ _ _ _ _ _ _=>Lib.dB
end N1

namespace Gm
def b(kr:aY->aC R)(a d:au)(e f h:az)(gz:au):aC R:=bif dg (aL a) (aL gz)then kr (decide (e=1))else kr aq
def v(a0 a1:au)(a2 a3 a4:az)(gz:au):aY:=bif dg (aL a0) (aL gz)then decide (a2=1)else aq
theorem fM(kr:aY->aC R)(a0 a1:au)(a2 a3 a4:az)(gz:au):b kr a0 a1 a2 a3 a4 gz=kr (v a0 a1 a2 a3 a4 gz):=by first|rfl|(unfold b v;simp only[c_];(repeat' split)<;>rfl)
end Gm

namespace qa
def r2(N:aG)(g k0 k1:iH R)(a:aW)(d:au)(e f h:az):aC R:=bif decide (h<f)then bif decide (0<=h)&&decide (h<(a.length:az))then bif Gm.v (bH (aw a h.toNat 0)) (bH (aw a h.toNat 1)) (bY (aw a h.toNat (1+1))) (bY (aw a h.toNat (1+1+1))) (bY (aw a h.toNat (1+1+1+1))) d then k0 a d h f h else g a d e f (bN (h+1))else ao else k1 a d e f h
def l2(N:aG)(k0 k1:iH R):aG->iH R
 |0=>λ_ _ _ _ _=>ao
 |n+1=>r2 N (l2 N k0 k1 n) k0 k1
def b(N:aG)(kr:az->aC R)(a:aW)(gz:au):aC R:=l2 N (λ_ _ d _ _=>kr d) (λ_ _ _ _ _=>kr (-1)) N a gz 0 (a.length:az) 0
def vo:=b Lib.c9 λr0=>aj r0
def c:=λa d=>(vo a d).isSome
def v:=λa d=>(vo a d).getD (0)
theorem out{x}:∀a d,vo a d=aj x->c a d=ak/\v a d=x:=λ_ _=>Lib.dB
end qa

namespace II
def b(kr:az->aC R)(a:az)(d e f h:aW)(i:az)(j l:aW)(m:az)(o:au):aC R:=bif qa.c j o then kr (qa.v j o)else ao
def vo:=b λr0=>aj r0
def c:=λa d e f h i j l m o=>(vo a d e f h i j l m o).isSome
def v:=λa d e f h i j l m o=>(vo a d e f h i j l m o).getD (0)
theorem out{x}:∀a d e f h i j l m o,vo a d e f h i j l m o=aj x->c a d e f h i j l m o=ak/\v a d e f h i j l m o=x:=λ_ _ _ _ _ _ _ _ _ _=>Lib.dB
end II

namespace vk
def r2(N:aG)(g k0 k1:eF R)(a:aY)(d:aW)(e f h:az)(i j l m:aW)(o:az)(p q:aW)(r:az):aC R:=bif decide (f<e)then bif decide (0<=f)&&decide (f<(d.length:az))then bif decide (bY (aw d f.toNat (1+1))=1)then bif II.c h i j l m o p q r (bH (aw d f.toNat 0))then bif II.v h i j l m o p q r (bH (aw d f.toNat 0)) !=f then k0 aq d e f h i j l m o p q r else g a d e (bN (f+1)) h i j l m o p q r else ao else g a d e (bN (f+1)) h i j l m o p q r else ao else k1 a d e f h i j l m o p q r
def l2(N:aG)(k0 k1:eF R):aG->eF R
 |0=>λ_ _ _ _ _ _ _ _ _ _ _ _ _=>ao
 |n+1=>r2 N (l2 N k0 k1 n) k0 k1
def b(N:aG)(kr:aY->aC R)(a:az)(d e f h:aW)(i:az)(j l:aW)(m:az):aC R:=l2 N (λo _ _ _ _ _ _ _ _ _ _ _ _=>kr o) (λ_ _ _ _ _ _ _ _ _ _ _ _ _=>kr ak) N aq j (j.length:az) 0 a d e f h i j l m
def vo:=b Lib.c9 λr0=>aj r0
def c:=λa d e f h i j l m=>(vo a d e f h i j l m).isSome
def v:=λa d e f h i j l m=>(vo a d e f h i j l m).getD aq
theorem out{x}:∀a d e f h i j l m,vo a d e f h i j l m=aj x->c a d e f h i j l m=ak/\v a d e f h i j l m=x:=λ_ _ _ _ _ _ _ _ _=>Lib.dB
end vk

namespace MB
def r2(N:aG)(g k0 k1:eF R)(a:aY)(d:aW)(e f h:az)(i j l m:aW)(o:az)(p q:aW)(r:az):aC R:=bif decide (f<e)then bif decide (0<=f)&&decide (f<(d.length:az))then bif !Mz.v (bH (aw d f.toNat 0))then k0 aq d e f h i j l m o p q r else bif decide (((bH (aw d f.toNat 1)).size:az)>400)then k0 aq d e f h i j l m o p q r else bif !od.v (bY (aw d f.toNat (1+1))) 1 3 then k0 aq d e f h i j l m o p q r else bif !od.v (bY (aw d f.toNat (1+1+1))) 0 999999 then k0 aq d e f h i j l m o p q r else bif !od.v (bY (aw d f.toNat (1+1+1+1))) 0 h then k0 aq d e f h i j l m o p q r else g a d e (bN (f+1)) h i j l m o p q r else ao else k1 a d e f h i j l m o p q r
def l2(N:aG)(k0 k1:eF R):aG->eF R
 |0=>λ_ _ _ _ _ _ _ _ _ _ _ _ _=>ao
 |n+1=>r2 N (l2 N k0 k1 n) k0 k1
def b(N:aG)(kr:aY->aC R)(a:az)(d e f h:aW)(i:az)(j l:aW)(m:az):aC R:=l2 N (λo _ _ _ _ _ _ _ _ _ _ _ _=>kr o) (λ_ _ _ _ o p q r s t u w y=>bif decide ((u.length:az)<=20)then bif vk.c o p q r s t u w y then kr (vk.v o p q r s t u w y)else ao else kr aq) N aq j (j.length:az) 0 a d e f h i j l m
def vo:=b Lib.c9 λr0=>aj r0
def c:=λa d e f h i j l m=>(vo a d e f h i j l m).isSome
def v:=λa d e f h i j l m=>(vo a d e f h i j l m).getD aq
theorem out{x}:∀a d e f h i j l m,vo a d e f h i j l m=aj x->c a d e f h i j l m=ak/\v a d e f h i j l m=x:=λ_ _ _ _ _ _ _ _ _=>Lib.dB
end MB

namespace N2
def r2(N:aG)(g k0 k1:eF R)(a:aY)(d:aW)(e f h:az)(i j l m:aW)(o:az)(p q:aW)(r:az):aC R:=bif decide (f<e)then bif decide (0<=f)&&decide (f<(d.length:az))then bif !od.v (bY (aw d f.toNat 0)) 1 9 then k0 aq d e f h i j l m o p q r else bif decide (f>0)then bif decide (0<=bN (f-1))&&decide (bN (f-1)<(q.length:az))then bif decide (bY (aw q (bN (f-1)).toNat 0)≥bY (aw d f.toNat 0))then k0 aq d e f h i j l m o p q r else bif !Mz.v (bH (aw d f.toNat 1))then k0 aq d e f h i j l m o p q r else bif !od.v (bY (aw d f.toNat (1+1+1+1))) 1 3 then k0 aq d e f h i j l m o p q r else bif !od.v (bY (aw d f.toNat (1+1))) 0 (p.length:az)then k0 aq d e f h i j l m o p q r else bif decide (((bH (aw d f.toNat (1+1+1+1+1))).size:az)>400)then k0 aq d e f h i j l m o p q r else bif !od.v (bY (aw d f.toNat (1+1+1))) 0 h then k0 aq d e f h i j l m o p q r else bif decide (bY (aw d f.toNat (1+1+1+1+1+1))<0)then k0 aq d e f h i j l m o p q r else g a d e (bN (f+1)) h i j l m o p q r else ao else bif !Mz.v (bH (aw d f.toNat 1))then k0 aq d e f h i j l m o p q r else bif !od.v (bY (aw d f.toNat (1+1+1+1))) 1 3 then k0 aq d e f h i j l m o p q r else bif !od.v (bY (aw d f.toNat (1+1))) 0 (p.length:az)then k0 aq d e f h i j l m o p q r else bif decide (((bH (aw d f.toNat (1+1+1+1+1))).size:az)>400)then k0 aq d e f h i j l m o p q r else bif !od.v (bY (aw d f.toNat (1+1+1))) 0 h then k0 aq d e f h i j l m o p q r else bif decide (bY (aw d f.toNat (1+1+1+1+1+1))<0)then k0 aq d e f h i j l m o p q r else g a d e (bN (f+1)) h i j l m o p q r else ao else k1 a d e f h i j l m o p q r
def l2(N:aG)(k0 k1:eF R):aG->eF R
 |0=>λ_ _ _ _ _ _ _ _ _ _ _ _ _=>ao
 |n+1=>r2 N (l2 N k0 k1 n) k0 k1
def b(N:aG)(kr:aY->aC R)(a:az)(d e f h:aW)(i:az)(j l:aW)(m:az):aC R:=l2 N (λo _ _ _ _ _ _ _ _ _ _ _ _=>kr o) (λ_ _ _ _ _ _ _ _ _ _ _ o _=>kr (decide ((o.length:az)<=6))) N aq l (l.length:az) 0 a d e f h i j l m
def vo:=b Lib.c9 λr0=>aj r0
def c:=λa d e f h i j l m=>(vo a d e f h i j l m).isSome
def v:=λa d e f h i j l m=>(vo a d e f h i j l m).getD aq
theorem out{x}:∀a d e f h i j l m,vo a d e f h i j l m=aj x->c a d e f h i j l m=ak/\v a d e f h i j l m=x:=λ_ _ _ _ _ _ _ _ _=>Lib.dB
end N2

namespace Ew
def b(kr:aY->aC R)(a:az)(d e f h:aW)(i:az)(j l:aW)(m:az):aC R:=bif od.v a 1 1000000000 then bif N1.c a d e f h i j l m then bif N1.v a d e f h i j l m then bif MB.c a d e f h i j l m then bif MB.v a d e f h i j l m then bif N2.c a d e f h i j l m then bif N2.v a d e f h i j l m then kr (Aq.v m)else kr aq else ao else kr aq else ao else kr aq else ao else kr aq
def vo:=b λr0=>aj r0
def c:=λa d e f h i j l m=>(vo a d e f h i j l m).isSome
def v:=λa d e f h i j l m=>(vo a d e f h i j l m).getD aq
theorem out{x}:∀a d e f h i j l m,vo a d e f h i j l m=aj x->c a d e f h i j l m=ak/\v a d e f h i j l m=x:=λ_ _ _ _ _ _ _ _ _=>Lib.dB
end Ew

namespace TJ
def b(kr:az->aC R)(a:az)(d e f h:aW)(i:az)(j l:aW)(m o:az):aC R:=bif p_.c l o then kr (p_.v l o)else ao
def vo:=b λr0=>aj r0
def c:=λa d e f h i j l m o=>(vo a d e f h i j l m o).isSome
def v:=λa d e f h i j l m o=>(vo a d e f h i j l m o).getD (0)
theorem out{x}:∀a d e f h i j l m o,vo a d e f h i j l m o=aj x->c a d e f h i j l m o=ak/\v a d e f h i j l m o=x:=λ_ _ _ _ _ _ _ _ _ _=>Lib.dB
end TJ

namespace U67
def b(kr:aY->aC R)(a:au)(d e:az)(f gz:au):aC R:=kr (dg (aL a) (aL gz))
def v(a0:au)(a1 a2:az)(a3 gz:au):aY:=(dg (aL a0) (aL gz))
theorem fM(kr:aY->aC R)(a0:au)(a1 a2:az)(a3 gz:au):b kr a0 a1 a2 a3 gz=kr (v a0 a1 a2 a3 gz):=by first|rfl|(unfold b v;simp only[c_];(repeat' split)<;>rfl)
end U67

namespace vx
def r2(N:aG)(g k0 k1:iH R)(a:aW)(d:au)(e f h:az):aC R:=bif decide (h<f)then bif decide (0<=h)&&decide (h<(a.length:az))then bif U67.v (bH (aw a h.toNat 0)) (bY (aw a h.toNat 1)) (bY (aw a h.toNat (1+1))) (bH (aw a h.toNat (1+1+1))) d then k0 a d h f h else g a d e f (bN (h+1))else ao else k1 a d e f h
def l2(N:aG)(k0 k1:iH R):aG->iH R
 |0=>λ_ _ _ _ _=>ao
 |n+1=>r2 N (l2 N k0 k1 n) k0 k1
def b(N:aG)(kr:az->aC R)(a:aW)(gz:au):aC R:=l2 N (λ_ _ d _ _=>kr d) (λ_ _ _ _ _=>kr (-1)) N a gz 0 (a.length:az) 0
def vo:=b Lib.c9 λr0=>aj r0
def c:=λa d=>(vo a d).isSome
def v:=λa d=>(vo a d).getD (0)
theorem out{x}:∀a d,vo a d=aj x->c a d=ak/\v a d=x:=λ_ _=>Lib.dB
end vx

namespace zf
def b(kr:aY->aC R)(a:au)(d e:az)(f gz:au):aC R:=kr (dg (aL a) (aL gz))
def v(a0:au)(a1 a2:az)(a3 gz:au):aY:=(dg (aL a0) (aL gz))
theorem fM(kr:aY->aC R)(a0:au)(a1 a2:az)(a3 gz:au):b kr a0 a1 a2 a3 gz=kr (v a0 a1 a2 a3 gz):=by first|rfl|(unfold b v;simp only[c_];(repeat' split)<;>rfl)
end zf

namespace rL
def r2(N:aG)(g k0 k1:iH R)(a:aW)(d:au)(e f h:az):aC R:=bif decide (h<f)then bif decide (0<=h)&&decide (h<(a.length:az))then bif zf.v (bH (aw a h.toNat 0)) (bY (aw a h.toNat 1)) (bY (aw a h.toNat (1+1))) (bH (aw a h.toNat (1+1+1))) d then k0 a d h f h else g a d e f (bN (h+1))else ao else k1 a d e f h
def l2(N:aG)(k0 k1:iH R):aG->iH R
 |0=>λ_ _ _ _ _=>ao
 |n+1=>r2 N (l2 N k0 k1 n) k0 k1
def b(N:aG)(kr:az->aC R)(a:aW)(gz:au):aC R:=l2 N (λ_ _ d _ _=>kr d) (λ_ _ _ _ _=>kr (-1)) N a gz 0 (a.length:az) 0
def vo:=b Lib.c9 λr0=>aj r0
def c:=λa d=>(vo a d).isSome
def v:=λa d=>(vo a d).getD (0)
theorem out{x}:∀a d,vo a d=aj x->c a d=ak/\v a d=x:=λ_ _=>Lib.dB
end rL

namespace PO
def b(kr:aY->aC R)(a:au)(d e:az)(f:au)(ME:az)(GD:au)(MF GF MG:az)(GG:au)(GH:az):aC R:=bif dg (aL a) (aL GD)then bif decide (d=GF)then bif dg (aL f) (aL GG)then kr (decide (e>GH))else kr aq else kr aq else kr aq
def v(a0:au)(a1 a2:az)(a3:au)(ME:az)(GD:au)(MF GF MG:az)(GG:au)(GH:az):aY:=bif dg (aL a0) (aL GD)then bif decide (a1=GF)then bif dg (aL a3) (aL GG)then decide (a2>GH)else aq else aq else aq
theorem fM(kr:aY->aC R)(a0:au)(a1 a2:az)(a3:au)(ME:az)(GD:au)(MF GF MG:az)(GG:au)(GH:az):b kr a0 a1 a2 a3 ME GD MF GF MG GG GH=kr (v a0 a1 a2 a3 ME GD MF GF MG GG GH):=by first|rfl|(unfold b v;simp only[c_];(repeat' split)<;>rfl)
end PO

namespace IG
def r2(N:aG)(g k0 k1:pE R)(a:aW)(d:az)(e:au)(f h i:az)(j:au)(l m o p:az):aC R:=bif decide (p<o)then bif decide (0<=p)&&decide (p<(a.length:az))then bif PO.v (bH (aw a p.toNat 0)) (bY (aw a p.toNat 1)) (bY (aw a p.toNat (1+1))) (bH (aw a p.toNat (1+1+1))) d e f h i j l then k0 a d e f h i j l p o p else g a d e f h i j l m o (bN (p+1))else ao else k1 a d e f h i j l m o p
def l2(N:aG)(k0 k1:pE R):aG->pE R
 |0=>λ_ _ _ _ _ _ _ _ _ _ _=>ao
 |n+1=>r2 N (l2 N k0 k1 n) k0 k1
def b(N:aG)(kr:az->aC R)(a:aW)(ME:az)(GD:au)(MF GF MG:az)(GG:au)(GH:az):aC R:=l2 N (λ_ _ _ _ _ _ _ _ d _ _=>kr d) (λ_ _ _ _ _ _ _ _ _ _ _=>kr (-1)) N a ME GD MF GF MG GG GH 0 (a.length:az) 0
def vo:=b Lib.c9 λr0=>aj r0
def c:=λa d e f h i j l=>(vo a d e f h i j l).isSome
def v:=λa d e f h i j l=>(vo a d e f h i j l).getD (0)
theorem out{x}:∀a d e f h i j l,vo a d e f h i j l=aj x->c a d e f h i j l=ak/\v a d e f h i j l=x:=λ_ _ _ _ _ _ _ _=>Lib.dB
end IG

namespace IH
def b(kr:aY->aC R)(a:au)(d e:az)(f:au)(h:az):aC R:=bif Ar.v a d e f then bif Aq.v h then kr (od.v h d (bN (bN (d+e)-1)))else kr aq else kr aq
def v(a0:au)(a1 a2:az)(a3:au)(a4:az):aY:=bif Ar.v a0 a1 a2 a3 then bif Aq.v a4 then od.v a4 a1 (bN (bN (a1+a2)-1))else aq else aq
theorem fM(kr:aY->aC R)(a0:au)(a1 a2:az)(a3:au)(a4:az):b kr a0 a1 a2 a3 a4=kr (v a0 a1 a2 a3 a4):=by first|rfl|(unfold b v;simp only[c_];(repeat' split)<;>rfl)
end IH

namespace vq
def r6(N:aG)(g k0:wI R)(a:az)(d:au)(e f:az):aC R:=bif decide (f<8)then bif decide (cG a 2=1)then g (bK eh (↑(dR (lG (b_ 32 (bK eh (cT a 2))) (b_ 32 3558460437))):az)) d e (bN (f+1))else g (bK eh (cT a 2)) d e (bN (f+1))else k0 a d e f
def l6(N:aG)(k0:wI R):aG->wI R
 |0=>λ_ _ _ _=>ao
 |n+1=>r6 N (l6 N k0 n) k0
def r2(N:aG)(g k0:CO R)(a:az)(d:au)(e:az):aC R:=bif decide (e<(d.size:az))then bif decide (0<=e)&&decide (e<(d.size:az))then l6 N (λf h i _=>g f h (bN (i+1))) N (bK eh (↑(dR (lG (b_ 32 a) (b_ 32 (bK eh (↑(iI d e.toNat):az))))):az)) d e 0 else ao else k0 a d e
def l2(N:aG)(k0:CO R):aG->CO R
 |0=>λ_ _ _=>ao
 |n+1=>r2 N (l2 N k0 n) k0
def b(N:aG)(kr:az->aC R)(a:az)(d:au):aC R:=l2 N (λe _ _=>kr e) N a d 0
def vo:=b Lib.c9 λr0=>aj r0
def c:=λa d=>(vo a d).isSome
def v:=λa d=>(vo a d).getD (0)
theorem out{x}:∀a d,vo a d=aj x->c a d=ak/\v a d=x:=λ_ _=>Lib.dB
end vq

namespace tN
def b(kr:az->aC R)(a:au):aC R:=bif vq.c 4294967295 a then kr (vq.v 4294967295 a)else ao
def vo:=b λr0=>aj r0
def c:=λa=>(vo a).isSome
def v:=λa=>(vo a).getD (0)
theorem out{x}:∀a,vo a=aj x->c a=ak/\v a=x:=λ_=>Lib.dB
end tN

namespace qb
def b(kr:az->aC R)(a:az)(d:au):aC R:=bif decide (d.size+(bytesOf (aE (aT [Ck.i bk] 1) 0 [CV.i bk (bK bk (bN (↑(dR (i_ (b_ 64 a) (b_ 64 255))):az)))])).size<=4611686018427387904)then bif tN.c (d++bytesOf (aE (aT [Ck.i bk] 1) 0 [CV.i bk (bK bk (bN (↑(dR (i_ (b_ 64 a) (b_ 64 255))):az)))]))then kr (cG (bN (tN.v (d++bytesOf (aE (aT [Ck.i bk] 1) 0 [CV.i bk (bK bk (bN (↑(dR (i_ (b_ 64 a) (b_ 64 255))):az)))])))) 16)else ao else ao
def vo:=b λr0=>aj r0
def c:=λa d=>(vo a d).isSome
def v:=λa d=>(vo a d).getD (0)
theorem out{x}:∀a d,vo a d=aj x->c a d=ak/\v a d=x:=λ_ _=>Lib.dB
end qb

namespace nM
def r18(N:aG)(g k0:uk R)(a:aG)(d e f h i j:az)(l:aW):aC R:=bif decide (h<f)then bif decide (0<=h)&&decide (h<((jx (aw l a 0)).length:az))then bif decide (0<=h)&&decide (h<((jx (aw l a 0)).length:az))then g a d e f (bN (h+1)) i j (eA l a 0 [CV.l 3 (eA (jx (aw l a 0)) h.toNat 0 [.i .i64 (bN (cT (bY (aw (jx (aw l a 0)) h.toNat 0)) 2))])])else ao else ao else k0 a d e f h i j l
def l18(N:aG)(k0:uk R):aG->uk R
 |0=>λ_ _ _ _ _ _ _ _=>ao
 |n+1=>r18 N (l18 N k0 n) k0
def r15(N:aG)(g k0:sR R)(a d e f:az)(h:aW):aC R:=bif decide (d<a)then bif decide (0<=d)&&decide (d<(h.length:az))then l18 N (λ_ i j _ _ l m o=>g i (bN (j+1)) l m o) N d.toNat a d ((jx (aw h d.toNat 0)).length:az) 0 e f h else ao else k0 a d e f h
def l15(N:aG)(k0:sR R):aG->sR R
 |0=>λ_ _ _ _ _=>ao
 |n+1=>r15 N (l15 N k0 n) k0
def r5(N:aG)(g k0:Ah R)(a:au)(d e f h:az)(i:aW):aC R:=bif decide (e<d)then bif decide (0<=e)&&decide (e<(i.length:az))then bif qb.c e a then bif decide (0<=qb.v e a)&&decide (qb.v e a<((jx (aw i e.toNat 0)).length:az))then bif decide (0<=qb.v e a)&&decide (qb.v e a<((jx (aw i e.toNat 0)).length:az))then g a d (bN (e+1)) f h (eA i e.toNat 0 [CV.l 3 (eA (jx (aw i e.toNat 0)) (qb.v e a).toNat 0 [.i .i64 (k8 aq (bN (bY (aw (jx (aw i e.toNat 0)) (qb.v e a).toNat 0)+1)) 15)])])else ao else ao else ao else ao else k0 a d e f h i
def l5(N:aG)(k0:Ah R):aG->Ah R
 |0=>λ_ _ _ _ _ _=>ao
 |n+1=>r5 N (l5 N k0 n) k0
def b(N:aG)(kr:Gf R)(a:aW)(d:az)(e:au):aC R:=bif iX.c a d then bif o4.c a d then bif !o4.v a d then kr (iX.v a d).1 (iX.v a d).2 else l5 N (λ_ _ _ f h i=>bif decide (bN (h+1)<64)then kr i (bN (h+1))else l15 N (λ_ _ _ j l=>kr l j) N (i.length:az) 0 f 0 i) N e ((iX.v a d).1.length:az) 0 0 (iX.v a d).2 (iX.v a d).1 else ao else ao
def vo:=b Lib.c9 λr0 r1=>aj (r0,r1)
def c:=λa d e=>(vo a d e).isSome
def v:=λa d e=>(vo a d e).getD ([],0)
theorem out{x}:∀a d e,vo a d e=aj x->c a d e=ak/\v a d e=x:=λ_ _ _=>Lib.dB
end nM

namespace zi
def b(kr:aY->aC R)(a gz:au):aC R:=kr (dg (aL a) (aL gz))
def v(a0 gz:au):aY:=(dg (aL a0) (aL gz))
theorem fM(kr:aY->aC R)(a0 gz:au):b kr a0 gz=kr (v a0 gz):=by first|rfl|(unfold b v;simp only[c_];(repeat' split)<;>rfl)
end zi

namespace rK
def r2(N:aG)(g k0 k1:iH R)(a:aW)(d:au)(e f h:az):aC R:=bif decide (h<f)then bif decide (0<=h)&&decide (h<(a.length:az))then bif zi.v (bH (aw a h.toNat 0)) d then k0 a d h f h else g a d e f (bN (h+1))else ao else k1 a d e f h
def l2(N:aG)(k0 k1:iH R):aG->iH R
 |0=>λ_ _ _ _ _=>ao
 |n+1=>r2 N (l2 N k0 k1 n) k0 k1
def b(N:aG)(kr:az->aC R)(a:aW)(gz:au):aC R:=l2 N (λ_ _ d _ _=>kr d) (λ_ _ _ _ _=>kr (-1)) N a gz 0 (a.length:az) 0
def vo:=b Lib.c9 λr0=>aj r0
def c:=λa d=>(vo a d).isSome
def v:=λa d=>(vo a d).getD (0)
theorem out{x}:∀a d,vo a d=aj x->c a d=ak/\v a d=x:=λ_ _=>Lib.dB
end rK

namespace vm
def r5(N:aG)(g k0:ny R)(a:au)(d e:az)(f:aW):aC R:=bif decide (e<(f.length:az))then bif decide (0<=e)&&decide (e<(f.length:az))then bif !zi.v (bH (aw f e.toNat 0)) a then bif decide (0<=d)&&decide (d<(f.length:az))then g a (bN (d+1)) (bN (e+1)) (eA f d.toNat 0 [.s (bH (aw f e.toNat 0))])else ao else g a d (bN (e+1)) f else ao else k0 a d e f
def l5(N:aG)(k0:ny R):aG->ny R
 |0=>λ_ _ _ _=>ao
 |n+1=>r5 N (l5 N k0 n) k0
def b(N:aG)(kr:aW->aC R)(a:aW)(gz:au):aC R:=bif rK.c a gz then bif decide (rK.v a gz=Mw 1)then kr a else l5 N (λ_ d _ e=>bif iQ d (e.length:az) (e.length:az)then bif iQ 0 d ((jb d.toNat e++aT [.s] ((e.length:az).toNat-d.toNat)++pe (e.length:az).toNat e).length:az)then kr (eT (jb d.toNat e++aT [.s] ((e.length:az).toNat-d.toNat)++pe (e.length:az).toNat e) (bc 0) d.toNat)else ao else ao) N gz (rK.v a gz) (bN (rK.v a gz+1)) a else ao
def vo:=b Lib.c9 λr0=>aj r0
def c:=λa d=>(vo a d).isSome
def v:=λa d=>(vo a d).getD ([])
theorem out{x}:∀a d,vo a d=aj x->c a d=ak/\v a d=x:=λ_ _=>Lib.dB
end vm

namespace jK
def b(kr:aW->aC R)(a:aW)(d:au):aC R:=bif rY.c a then bif vm.c (rY.v a) d then kr (vm.v (rY.v a) d)else ao else ao
def vo:=b λr0=>aj r0
def c:=λa d=>(vo a d).isSome
def v:=λa d=>(vo a d).getD ([])
theorem out{x}:∀a d,vo a d=aj x->c a d=ak/\v a d=x:=λ_ _=>Lib.dB
end jK

namespace uG
def r5(N:aG)(g k0:DU R)(a:au)(d:az)(e:aW)(f h:az):aC R:=bif decide (h<f)then bif decide (0<=h)&&decide (h<(e.length:az))then bif qb.c h a then bif decide (0<=qb.v h a)&&decide (qb.v h a<((jx (aw e h.toNat 0)).length:az))then g a (k8 aq d (bY (aw (jx (aw e h.toNat 0)) (qb.v h a).toNat 0))) e f (bN (h+1))else ao else ao else ao else k0 a d e f h
def l5(N:aG)(k0:DU R):aG->DU R
 |0=>λ_ _ _ _ _=>ao
 |n+1=>r5 N (l5 N k0 n) k0
def b(N:aG)(kr:az->aC R)(a:aW)(d:az)(e:au):aC R:=bif o4.c a d then bif !o4.v a d then kr 0 else l5 N (λ_ f _ _ _=>kr f) N e 15 a (a.length:az) 0 else ao
def vo:=b Lib.c9 λr0=>aj r0
def c:=λa d e=>(vo a d e).isSome
def v:=λa d e=>(vo a d e).getD (0)
theorem out{x}:∀a d e,vo a d e=aj x->c a d e=ak/\v a d e=x:=λ_ _ _=>Lib.dB
end uG

namespace MA
def b(kr:Kq R)(a d e:aW)(f:az)(h:au):aC R:=bif ja.c a d e f then bif oC.c a d e f then bif !oC.v a d e f then kr (ja.v a d e f).1 (ja.v a d e f).2.1 (ja.v a d e f).2.2.1 (ja.v a d e f).2.2.2 ⟨#[]⟩else bif !Mz.v h then kr (ja.v a d e f).1 (ja.v a d e f).2.1 (ja.v a d e f).2.2.1 (ja.v a d e f).2.2.2 ⟨#[]⟩else bif nM.c e f h then bif rI.c d h then bif rI.v d h then bif jK.c d h then bif cK ((jK.v d h).length+(aE (aT [.s] 1) 0 [.s h]).length) 16 then kr (ja.v a d e f).1 (jK.v d h++aE (aT [.s] 1) 0 [.s h]) (nM.v e f h).1 (nM.v e f h).2 ⟨#[]⟩else ao else ao else bif jK.c a h then bif cK ((jK.v a h).length+(aE (aT [.s] 1) 0 [.s h]).length) 16 then bif decide (((jK.v a h++aE (aT [.s] 1) 0 [.s h]).length:az)<=2)then kr (jK.v a h++aE (aT [.s] 1) 0 [.s h]) (ja.v a d e f).2.1 (nM.v e f h).1 (nM.v e f h).2 ⟨#[]⟩else bif decide (0<((jK.v a h++aE (aT [.s] 1) 0 [.s h]).length:az))then bif iQ 1 ((jK.v a h++aE (aT [.s] 1) 0 [.s h]).length:az) ((jK.v a h++aE (aT [.s] 1) 0 [.s h]).length:az)then bif decide (((ja.v a d e f).2.1.length:az)<4)then bif cK ((ja.v a d e f).2.1.length+(aE (aT [.s] 1) 0 [.s (bH (aw (jK.v a h++aE (aT [.s] 1) 0 [.s h]) (bc 0) 0))]).length) 16 then kr (eT (jK.v a h++aE (aT [.s] 1) 0 [.s h]) (bc 1) ((jK.v a h++aE (aT [.s] 1) 0 [.s h]).length:az).toNat) ((ja.v a d e f).2.1++aE (aT [.s] 1) 0 [.s (bH (aw (jK.v a h++aE (aT [.s] 1) 0 [.s h]) (bc 0) 0))]) (nM.v e f h).1 (nM.v e f h).2 ⟨#[]⟩else ao else bif decide (0<((ja.v a d e f).2.1.length:az))then bif uG.c (nM.v e f h).1 (nM.v e f h).2 (bH (aw (jK.v a h++aE (aT [.s] 1) 0 [.s h]) (bc 0) 0))then bif uG.c (nM.v e f h).1 (nM.v e f h).2 (bH (aw (ja.v a d e f).2.1 (bc 0) 0))then bif decide (uG.v (nM.v e f h).1 (nM.v e f h).2 (bH (aw (jK.v a h++aE (aT [.s] 1) 0 [.s h]) (bc 0) 0))>uG.v (nM.v e f h).1 (nM.v e f h).2 (bH (aw (ja.v a d e f).2.1 (bc 0) 0)))then bif iQ 1 ((ja.v a d e f).2.1.length:az) ((ja.v a d e f).2.1.length:az)then bif cK ((eT (ja.v a d e f).2.1 (bc 1) ((ja.v a d e f).2.1.length:az).toNat).length+(aE (aT [.s] 1) 0 [.s (bH (aw (jK.v a h++aE (aT [.s] 1) 0 [.s h]) (bc 0) 0))]).length) 16 then kr (eT (jK.v a h++aE (aT [.s] 1) 0 [.s h]) (bc 1) ((jK.v a h++aE (aT [.s] 1) 0 [.s h]).length:az).toNat) (eT (ja.v a d e f).2.1 (bc 1) ((ja.v a d e f).2.1.length:az).toNat++aE (aT [.s] 1) 0 [.s (bH (aw (jK.v a h++aE (aT [.s] 1) 0 [.s h]) (bc 0) 0))]) (nM.v e f h).1 (nM.v e f h).2 (bH (aw (ja.v a d e f).2.1 (bc 0) 0))else ao else ao else kr (eT (jK.v a h++aE (aT [.s] 1) 0 [.s h]) (bc 1) ((jK.v a h++aE (aT [.s] 1) 0 [.s h]).length:az).toNat) (ja.v a d e f).2.1 (nM.v e f h).1 (nM.v e f h).2 (bH (aw (jK.v a h++aE (aT [.s] 1) 0 [.s h]) (bc 0) 0))else ao else ao else ao else ao else ao else ao else ao else ao else ao else ao else ao
def vo:=b λr0 r1 r2 r3 r4=>aj (r0,r1,r2,r3,r4)
def c:=λa d e f h=>(vo a d e f h).isSome
def v:=λa d e f h=>(vo a d e f h).getD ([],[],[],0,⟨#[]⟩)
theorem out{x}:∀a d e f h,vo a d e f h=aj x->c a d e f h=ak/\v a d e f h=x:=λ_ _ _ _ _=>Lib.dB
end MA


namespace pj
def r2(N:aG)(g k0:kU R)(a d e f h:az)(i:au)(j l m:az)(o:au)(p:az)(q r s t u w:aW):aC R:=bif decide (a<(w.length:az))then bif decide (0<=a)&&decide (a<(w.length:az))then bif decide (bY (aw w a.toNat 0)<h)then g (bN (a+1)) d e f h i j l m o p q r s t u w else k0 a d e f h i j l m o p q r s t u w else ao else k0 a d e f h i j l m o p q r s t u w
def l2(N:aG)(k0:kU R):aG->kU R
 |0=>λ_ _ _ _ _ _ _ _ _ _ _ _ _ _ _ _ _=>ao
 |n+1=>r2 N (l2 N k0 n) k0
def b(N:aG)(kr:fa R)(a:az)(d e f h:aW)(i:az)(j l:aW)(m o:az)(p:au)(q r s:az)(t:au)(u:az):aC R:=l2 N (λw y z α xa xb xc xd xe xf xg xh xi xj xk xl xm=>bif decide (0<=w)&&decide (w<=(xm.length:az))&&cK (xm.length+(aE (aT [Ck.i ar,Ck.s,Ck.i ar,Ck.i ar,Ck.i ar,Ck.s,Ck.i ar] 1) 0 [.i .i64 xa, .s xb, .i .i64 xc, .i .i64 xd, .i .i64 xe, .s xf, .i .i64 xg]).length) 72 then kr y xh xi xj xk z xl (Pu.xS xm w.toNat (aE (aT [Ck.i ar,Ck.s,Ck.i ar,Ck.i ar,Ck.i ar,Ck.s,Ck.i ar] 1) 0 [.i .i64 xa, .s xb, .i .i64 xc, .i .i64 xd, .i .i64 xe, .s xf, .i .i64 xg])) α else ao) N 0 a i m o p q r s t u d e f h j l
def vo:=b Lib.c9 λr0 r1 r2 r3 r4 r5 r6 r7 r8=>aj (r0,r1,r2,r3,r4,r5,r6,r7,r8)
def c:=λa d e f h i j l m o p q r s t u=>(vo a d e f h i j l m o p q r s t u).isSome
def v:=λa d e f h i j l m o p q r s t u=>(vo a d e f h i j l m o p q r s t u).getD (0,[],[],[],[],0,[],[],0)
theorem out{x}:∀a d e f h i j l m o p q r s t u,vo a d e f h i j l m o p q r s t u=aj x->c a d e f h i j l m o p q r s t u=ak/\v a d e f h i j l m o p q r s t u=x:=λ_ _ _ _ _ _ _ _ _ _ _ _ _ _ _ _=>Lib.dB
end pj

namespace oD
def r5(N:aG)(g k0:ny R)(a:au)(d e:az)(f:aW):aC R:=bif decide (e<(f.length:az))then bif decide (0<=e)&&decide (e<(f.length:az))then bif !zf.v (bH (aw f e.toNat 0)) (bY (aw f e.toNat 1)) (bY (aw f e.toNat (1+1))) (bH (aw f e.toNat (1+1+1))) a then bif decide (0<=d)&&decide (d<(f.length:az))then g a (bN (d+1)) (bN (e+1)) (eA f d.toNat 0 [.s (bH (aw f e.toNat 0)), .i .i64 (bY (aw f e.toNat 1)), .i .i64 (bY (aw f e.toNat (1+1))), .s (bH (aw f e.toNat (1+1+1)))])else ao else g a d (bN (e+1)) f else ao else k0 a d e f
def l5(N:aG)(k0:ny R):aG->ny R
 |0=>λ_ _ _ _=>ao
 |n+1=>r5 N (l5 N k0 n) k0
def b(N:aG)(kr:aW->aC R)(a:aW)(gz:au):aC R:=bif rL.c a gz then bif decide (rL.v a gz=Mw 1)then kr a else l5 N (λ_ d _ e=>bif iQ d (e.length:az) (e.length:az)then bif iQ 0 d ((jb d.toNat e++aT [Ck.s,Ck.i ar,Ck.i ar,Ck.s] ((e.length:az).toNat-d.toNat)++pe (e.length:az).toNat e).length:az)then kr (eT (jb d.toNat e++aT [Ck.s,Ck.i ar,Ck.i ar,Ck.s] ((e.length:az).toNat-d.toNat)++pe (e.length:az).toNat e) (bc 0) d.toNat)else ao else ao) N gz (rL.v a gz) (bN (rL.v a gz+1)) a else ao
def vo:=b Lib.c9 λr0=>aj r0
def c:=λa d=>(vo a d).isSome
def v:=λa d=>(vo a d).getD ([])
theorem out{x}:∀a d,vo a d=aj x->c a d=ak/\v a d=x:=λ_ _=>Lib.dB
end oD

namespace BZ
def b(kr:aW->aC R)(a:aW)(d:au):aC R:=bif vl.c a then bif oD.c (vl.v a) d then kr (oD.v (vl.v a) d)else ao else ao
def vo:=b λr0=>aj r0
def c:=λa d=>(vo a d).isSome
def v:=λa d=>(vo a d).getD ([])
theorem out{x}:∀a d,vo a d=aj x->c a d=ak/\v a d=x:=λ_ _=>Lib.dB
end BZ

namespace Ia
def b(kr:wK R)(a d e:aW)(f:az)(h:au):aC R:=bif ja.c a d e f then bif jK.c a h then bif jK.c d h then kr (jK.v a h) (jK.v d h) (ja.v a d e f).2.2.1 (ja.v a d e f).2.2.2 else ao else ao else ao
def vo:=b λr0 r1 r2 r3=>aj (r0,r1,r2,r3)
def c:=λa d e f h=>(vo a d e f h).isSome
def v:=λa d e f h=>(vo a d e f h).getD ([],[],[],0)
theorem out{x}:∀a d e f h,vo a d e f h=aj x->c a d e f h=ak/\v a d e f h=x:=λ_ _ _ _ _=>Lib.dB
end Ia

namespace wB
def b(kr:vg R)(a:az)(d e f h:aW)(i:az)(j l:aW)(m o:az)(p:au):aC R:=bif uL.c a d e f h i j l m then Lib.lt (uL.v a d e f h i j l m) λq=>bif Ew.c a d e f h i j l m then Lib.lt (Ew.v a d e f h i j l m) λr=>bif !r then kr q.1 q.2.1 q.2.2.1 q.2.2.2.1 q.2.2.2.2.1 q.2.2.2.2.2.1 q.2.2.2.2.2.2.1 q.2.2.2.2.2.2.2.1 q.2.2.2.2.2.2.2.2 1 else bif !od.v o 1 9 then kr q.1 q.2.1 q.2.2.1 q.2.2.2.1 q.2.2.2.2.1 q.2.2.2.2.2.1 q.2.2.2.2.2.2.1 q.2.2.2.2.2.2.2.1 q.2.2.2.2.2.2.2.2 1 else bif !Mz.v p then kr q.1 q.2.1 q.2.2.1 q.2.2.2.1 q.2.2.2.2.1 q.2.2.2.2.2.1 q.2.2.2.2.2.2.1 q.2.2.2.2.2.2.2.1 q.2.2.2.2.2.2.2.2 1 else bif TJ.c a d e f h i j l m o then Lib.lt (TJ.v a d e f h i j l m o) λs=>bif decide (s≥0)then kr q.1 q.2.1 q.2.2.1 q.2.2.2.1 q.2.2.2.2.1 q.2.2.2.2.2.1 q.2.2.2.2.2.2.1 q.2.2.2.2.2.2.2.1 q.2.2.2.2.2.2.2.2 1 else bif decide ((l.length:az)=6)then kr q.1 q.2.1 q.2.2.1 q.2.2.2.1 q.2.2.2.2.1 q.2.2.2.2.2.1 q.2.2.2.2.2.2.1 q.2.2.2.2.2.2.2.1 q.2.2.2.2.2.2.2.2 1 else bif vx.c d p then Lib.lt (vx.v d p) λt=>bif decide (t≥0)then bif decide (0<=t)&&decide (t<(d.length:az))then bif IH.v (bH (aw d t.toNat 0)) (bY (aw d t.toNat 1)) (bY (aw d t.toNat (1+1))) (bH (aw d t.toNat (1+1+1))) a then bif decide (0<=t)&&decide (t<(d.length:az))then bif MA.c e f h i p then Lib.lt (MA.v e f h i p) λu=>bif pj.c q.1 q.2.1 u.1 u.2.1 u.2.2.1 u.2.2.2.1 q.2.2.2.2.2.2.1 q.2.2.2.2.2.2.2.1 q.2.2.2.2.2.2.2.2 o p 0 (bY (aw d t.toNat 1)) 2 (bH (aw d t.toNat (1+1+1))) (bN (a-bY (aw d t.toNat 1)))then Lib.lt (pj.v q.1 q.2.1 u.1 u.2.1 u.2.2.1 u.2.2.2.1 q.2.2.2.2.2.2.1 q.2.2.2.2.2.2.2.1 q.2.2.2.2.2.2.2.2 o p 0 (bY (aw d t.toNat 1)) 2 (bH (aw d t.toNat (1+1+1))) (bN (a-bY (aw d t.toNat 1)))) λw=>kr w.1 w.2.1 w.2.2.1 w.2.2.2.1 w.2.2.2.2.1 w.2.2.2.2.2.1 w.2.2.2.2.2.2.1 w.2.2.2.2.2.2.2.1 (k8 aq (bN (m+1)) 1000000000) 0 else ao else ao else ao else bif II.c a d e f h i j l m p then Lib.lt (II.v a d e f h i j l m p) λu=>bif decide (u<0)then bif decide ((j.length:az)=20)then kr q.1 q.2.1 q.2.2.1 q.2.2.2.1 q.2.2.2.2.1 q.2.2.2.2.2.1 q.2.2.2.2.2.2.1 q.2.2.2.2.2.2.2.1 q.2.2.2.2.2.2.2.2 2 else bif decide (t≥0)then bif BZ.c d p then Lib.lt (BZ.v d p) λw=>bif Ia.c e f h i p then Lib.lt (Ia.v e f h i p) λy=>bif nM.c h i p then Lib.lt (nM.v h i p) λz=>bif decide (u<0)then bif cK (q.2.2.2.2.2.2.1.length+(aE (aT [Ck.s,Ck.s,Ck.i ar,Ck.i ar,Ck.i ar] 1) 0 [.s p, .s ⟨#[]⟩, .i .i64 1, .i .i64 0, .i .i64 0]).length) 56 then bif decide ((j.length:az)<((q.2.2.2.2.2.2.1++aE (aT [Ck.s,Ck.s,Ck.i ar,Ck.i ar,Ck.i ar] 1) 0 [.s p, .s ⟨#[]⟩, .i .i64 1, .i .i64 0, .i .i64 0]).length:az))then bif pj.c q.1 w y.1 y.2.1 z.1 z.2 (q.2.2.2.2.2.2.1++aE (aT [Ck.s,Ck.s,Ck.i ar,Ck.i ar,Ck.i ar] 1) 0 [.s p, .s ⟨#[]⟩, .i .i64 1, .i .i64 0, .i .i64 0]) q.2.2.2.2.2.2.2.1 q.2.2.2.2.2.2.2.2 o p (bN ((j.length:az)+1)) 0 1 (bH (aw (q.2.2.2.2.2.2.1++aE (aT [Ck.s,Ck.s,Ck.i ar,Ck.i ar,Ck.i ar] 1) 0 [.s p, .s ⟨#[]⟩, .i .i64 1, .i .i64 0, .i .i64 0]) (j.length:az).toNat 1)) 0 then Lib.lt (pj.v q.1 w y.1 y.2.1 z.1 z.2 (q.2.2.2.2.2.2.1++aE (aT [Ck.s,Ck.s,Ck.i ar,Ck.i ar,Ck.i ar] 1) 0 [.s p, .s ⟨#[]⟩, .i .i64 1, .i .i64 0, .i .i64 0]) q.2.2.2.2.2.2.2.1 q.2.2.2.2.2.2.2.2 o p (bN ((j.length:az)+1)) 0 1 (bH (aw (q.2.2.2.2.2.2.1++aE (aT [Ck.s,Ck.s,Ck.i ar,Ck.i ar,Ck.i ar] 1) 0 [.s p, .s ⟨#[]⟩, .i .i64 1, .i .i64 0, .i .i64 0]) (j.length:az).toNat 1)) 0) λα=>kr α.1 α.2.1 α.2.2.1 α.2.2.2.1 α.2.2.2.2.1 α.2.2.2.2.2.1 α.2.2.2.2.2.2.1 α.2.2.2.2.2.2.2.1 α.2.2.2.2.2.2.2.2 0 else ao else ao else ao else bif decide (0<=u)&&decide (u<(q.2.2.2.2.2.2.1.length:az))then bif pj.c q.1 w y.1 y.2.1 z.1 z.2 q.2.2.2.2.2.2.1 q.2.2.2.2.2.2.2.1 q.2.2.2.2.2.2.2.2 o p (bN (u+1)) 0 1 (bH (aw q.2.2.2.2.2.2.1 u.toNat 1)) 0 then Lib.lt (pj.v q.1 w y.1 y.2.1 z.1 z.2 q.2.2.2.2.2.2.1 q.2.2.2.2.2.2.2.1 q.2.2.2.2.2.2.2.2 o p (bN (u+1)) 0 1 (bH (aw q.2.2.2.2.2.2.1 u.toNat 1)) 0) λα=>kr α.1 α.2.1 α.2.2.1 α.2.2.2.1 α.2.2.2.2.1 α.2.2.2.2.2.1 α.2.2.2.2.2.2.1 α.2.2.2.2.2.2.2.1 α.2.2.2.2.2.2.2.2 0 else ao else ao else ao else ao else ao else bif nM.c h i p then Lib.lt (nM.v h i p) λw=>bif decide (u<0)then bif cK (q.2.2.2.2.2.2.1.length+(aE (aT [Ck.s,Ck.s,Ck.i ar,Ck.i ar,Ck.i ar] 1) 0 [.s p, .s ⟨#[]⟩, .i .i64 1, .i .i64 0, .i .i64 0]).length) 56 then bif decide ((j.length:az)<((q.2.2.2.2.2.2.1++aE (aT [Ck.s,Ck.s,Ck.i ar,Ck.i ar,Ck.i ar] 1) 0 [.s p, .s ⟨#[]⟩, .i .i64 1, .i .i64 0, .i .i64 0]).length:az))then bif pj.c q.1 q.2.1 q.2.2.1 q.2.2.2.1 w.1 w.2 (q.2.2.2.2.2.2.1++aE (aT [Ck.s,Ck.s,Ck.i ar,Ck.i ar,Ck.i ar] 1) 0 [.s p, .s ⟨#[]⟩, .i .i64 1, .i .i64 0, .i .i64 0]) q.2.2.2.2.2.2.2.1 q.2.2.2.2.2.2.2.2 o p (bN ((j.length:az)+1)) 0 1 (bH (aw (q.2.2.2.2.2.2.1++aE (aT [Ck.s,Ck.s,Ck.i ar,Ck.i ar,Ck.i ar] 1) 0 [.s p, .s ⟨#[]⟩, .i .i64 1, .i .i64 0, .i .i64 0]) (j.length:az).toNat 1)) 0 then Lib.lt (pj.v q.1 q.2.1 q.2.2.1 q.2.2.2.1 w.1 w.2 (q.2.2.2.2.2.2.1++aE (aT [Ck.s,Ck.s,Ck.i ar,Ck.i ar,Ck.i ar] 1) 0 [.s p, .s ⟨#[]⟩, .i .i64 1, .i .i64 0, .i .i64 0]) q.2.2.2.2.2.2.2.1 q.2.2.2.2.2.2.2.2 o p (bN ((j.length:az)+1)) 0 1 (bH (aw (q.2.2.2.2.2.2.1++aE (aT [Ck.s,Ck.s,Ck.i ar,Ck.i ar,Ck.i ar] 1) 0 [.s p, .s ⟨#[]⟩, .i .i64 1, .i .i64 0, .i .i64 0]) (j.length:az).toNat 1)) 0) λy=>kr y.1 y.2.1 y.2.2.1 y.2.2.2.1 y.2.2.2.2.1 y.2.2.2.2.2.1 y.2.2.2.2.2.2.1 y.2.2.2.2.2.2.2.1 y.2.2.2.2.2.2.2.2 0 else ao else ao else ao else bif decide (0<=u)&&decide (u<(q.2.2.2.2.2.2.1.length:az))then bif pj.c q.1 q.2.1 q.2.2.1 q.2.2.2.1 w.1 w.2 q.2.2.2.2.2.2.1 q.2.2.2.2.2.2.2.1 q.2.2.2.2.2.2.2.2 o p (bN (u+1)) 0 1 (bH (aw q.2.2.2.2.2.2.1 u.toNat 1)) 0 then Lib.lt (pj.v q.1 q.2.1 q.2.2.1 q.2.2.2.1 w.1 w.2 q.2.2.2.2.2.2.1 q.2.2.2.2.2.2.2.1 q.2.2.2.2.2.2.2.2 o p (bN (u+1)) 0 1 (bH (aw q.2.2.2.2.2.2.1 u.toNat 1)) 0) λy=>kr y.1 y.2.1 y.2.2.1 y.2.2.2.1 y.2.2.2.2.1 y.2.2.2.2.2.1 y.2.2.2.2.2.2.1 y.2.2.2.2.2.2.2.1 y.2.2.2.2.2.2.2.2 0 else ao else ao else ao else bif decide (t≥0)then bif BZ.c d p then Lib.lt (BZ.v d p) λw=>bif Ia.c e f h i p then Lib.lt (Ia.v e f h i p) λy=>bif nM.c h i p then Lib.lt (nM.v h i p) λz=>bif decide (u<0)then bif cK (q.2.2.2.2.2.2.1.length+(aE (aT [Ck.s,Ck.s,Ck.i ar,Ck.i ar,Ck.i ar] 1) 0 [.s p, .s ⟨#[]⟩, .i .i64 1, .i .i64 0, .i .i64 0]).length) 56 then bif decide ((j.length:az)<((q.2.2.2.2.2.2.1++aE (aT [Ck.s,Ck.s,Ck.i ar,Ck.i ar,Ck.i ar] 1) 0 [.s p, .s ⟨#[]⟩, .i .i64 1, .i .i64 0, .i .i64 0]).length:az))then bif pj.c q.1 w y.1 y.2.1 z.1 z.2 (q.2.2.2.2.2.2.1++aE (aT [Ck.s,Ck.s,Ck.i ar,Ck.i ar,Ck.i ar] 1) 0 [.s p, .s ⟨#[]⟩, .i .i64 1, .i .i64 0, .i .i64 0]) q.2.2.2.2.2.2.2.1 q.2.2.2.2.2.2.2.2 o p (bN ((j.length:az)+1)) 0 1 (bH (aw (q.2.2.2.2.2.2.1++aE (aT [Ck.s,Ck.s,Ck.i ar,Ck.i ar,Ck.i ar] 1) 0 [.s p, .s ⟨#[]⟩, .i .i64 1, .i .i64 0, .i .i64 0]) (j.length:az).toNat 1)) 0 then Lib.lt (pj.v q.1 w y.1 y.2.1 z.1 z.2 (q.2.2.2.2.2.2.1++aE (aT [Ck.s,Ck.s,Ck.i ar,Ck.i ar,Ck.i ar] 1) 0 [.s p, .s ⟨#[]⟩, .i .i64 1, .i .i64 0, .i .i64 0]) q.2.2.2.2.2.2.2.1 q.2.2.2.2.2.2.2.2 o p (bN ((j.length:az)+1)) 0 1 (bH (aw (q.2.2.2.2.2.2.1++aE (aT [Ck.s,Ck.s,Ck.i ar,Ck.i ar,Ck.i ar] 1) 0 [.s p, .s ⟨#[]⟩, .i .i64 1, .i .i64 0, .i .i64 0]) (j.length:az).toNat 1)) 0) λα=>kr α.1 α.2.1 α.2.2.1 α.2.2.2.1 α.2.2.2.2.1 α.2.2.2.2.2.1 α.2.2.2.2.2.2.1 α.2.2.2.2.2.2.2.1 α.2.2.2.2.2.2.2.2 0 else ao else ao else ao else bif decide (0<=u)&&decide (u<(q.2.2.2.2.2.2.1.length:az))then bif pj.c q.1 w y.1 y.2.1 z.1 z.2 q.2.2.2.2.2.2.1 q.2.2.2.2.2.2.2.1 q.2.2.2.2.2.2.2.2 o p (bN (u+1)) 0 1 (bH (aw q.2.2.2.2.2.2.1 u.toNat 1)) 0 then Lib.lt (pj.v q.1 w y.1 y.2.1 z.1 z.2 q.2.2.2.2.2.2.1 q.2.2.2.2.2.2.2.1 q.2.2.2.2.2.2.2.2 o p (bN (u+1)) 0 1 (bH (aw q.2.2.2.2.2.2.1 u.toNat 1)) 0) λα=>kr α.1 α.2.1 α.2.2.1 α.2.2.2.1 α.2.2.2.2.1 α.2.2.2.2.2.1 α.2.2.2.2.2.2.1 α.2.2.2.2.2.2.2.1 α.2.2.2.2.2.2.2.2 0 else ao else ao else ao else ao else ao else bif nM.c h i p then Lib.lt (nM.v h i p) λw=>bif decide (u<0)then bif cK (q.2.2.2.2.2.2.1.length+(aE (aT [Ck.s,Ck.s,Ck.i ar,Ck.i ar,Ck.i ar] 1) 0 [.s p, .s ⟨#[]⟩, .i .i64 1, .i .i64 0, .i .i64 0]).length) 56 then bif decide ((j.length:az)<((q.2.2.2.2.2.2.1++aE (aT [Ck.s,Ck.s,Ck.i ar,Ck.i ar,Ck.i ar] 1) 0 [.s p, .s ⟨#[]⟩, .i .i64 1, .i .i64 0, .i .i64 0]).length:az))then bif pj.c q.1 q.2.1 q.2.2.1 q.2.2.2.1 w.1 w.2 (q.2.2.2.2.2.2.1++aE (aT [Ck.s,Ck.s,Ck.i ar,Ck.i ar,Ck.i ar] 1) 0 [.s p, .s ⟨#[]⟩, .i .i64 1, .i .i64 0, .i .i64 0]) q.2.2.2.2.2.2.2.1 q.2.2.2.2.2.2.2.2 o p (bN ((j.length:az)+1)) 0 1 (bH (aw (q.2.2.2.2.2.2.1++aE (aT [Ck.s,Ck.s,Ck.i ar,Ck.i ar,Ck.i ar] 1) 0 [.s p, .s ⟨#[]⟩, .i .i64 1, .i .i64 0, .i .i64 0]) (j.length:az).toNat 1)) 0 then Lib.lt (pj.v q.1 q.2.1 q.2.2.1 q.2.2.2.1 w.1 w.2 (q.2.2.2.2.2.2.1++aE (aT [Ck.s,Ck.s,Ck.i ar,Ck.i ar,Ck.i ar] 1) 0 [.s p, .s ⟨#[]⟩, .i .i64 1, .i .i64 0, .i .i64 0]) q.2.2.2.2.2.2.2.1 q.2.2.2.2.2.2.2.2 o p (bN ((j.length:az)+1)) 0 1 (bH (aw (q.2.2.2.2.2.2.1++aE (aT [Ck.s,Ck.s,Ck.i ar,Ck.i ar,Ck.i ar] 1) 0 [.s p, .s ⟨#[]⟩, .i .i64 1, .i .i64 0, .i .i64 0]) (j.length:az).toNat 1)) 0) λy=>kr y.1 y.2.1 y.2.2.1 y.2.2.2.1 y.2.2.2.2.1 y.2.2.2.2.2.1 y.2.2.2.2.2.2.1 y.2.2.2.2.2.2.2.1 y.2.2.2.2.2.2.2.2 0 else ao else ao else ao else bif decide (0<=u)&&decide (u<(q.2.2.2.2.2.2.1.length:az))then bif pj.c q.1 q.2.1 q.2.2.1 q.2.2.2.1 w.1 w.2 q.2.2.2.2.2.2.1 q.2.2.2.2.2.2.2.1 q.2.2.2.2.2.2.2.2 o p (bN (u+1)) 0 1 (bH (aw q.2.2.2.2.2.2.1 u.toNat 1)) 0 then Lib.lt (pj.v q.1 q.2.1 q.2.2.1 q.2.2.2.1 w.1 w.2 q.2.2.2.2.2.2.1 q.2.2.2.2.2.2.2.1 q.2.2.2.2.2.2.2.2 o p (bN (u+1)) 0 1 (bH (aw q.2.2.2.2.2.2.1 u.toNat 1)) 0) λy=>kr y.1 y.2.1 y.2.2.1 y.2.2.2.1 y.2.2.2.2.1 y.2.2.2.2.2.1 y.2.2.2.2.2.2.1 y.2.2.2.2.2.2.2.1 y.2.2.2.2.2.2.2.2 0 else ao else ao else ao else ao else ao else bif II.c a d e f h i j l m p then Lib.lt (II.v a d e f h i j l m p) λu=>bif decide (u<0)then bif decide ((j.length:az)=20)then kr q.1 q.2.1 q.2.2.1 q.2.2.2.1 q.2.2.2.2.1 q.2.2.2.2.2.1 q.2.2.2.2.2.2.1 q.2.2.2.2.2.2.2.1 q.2.2.2.2.2.2.2.2 2 else bif decide (t≥0)then bif BZ.c d p then Lib.lt (BZ.v d p) λw=>bif Ia.c e f h i p then Lib.lt (Ia.v e f h i p) λy=>bif nM.c h i p then Lib.lt (nM.v h i p) λz=>bif decide (u<0)then bif cK (q.2.2.2.2.2.2.1.length+(aE (aT [Ck.s,Ck.s,Ck.i ar,Ck.i ar,Ck.i ar] 1) 0 [.s p, .s ⟨#[]⟩, .i .i64 1, .i .i64 0, .i .i64 0]).length) 56 then bif decide ((j.length:az)<((q.2.2.2.2.2.2.1++aE (aT [Ck.s,Ck.s,Ck.i ar,Ck.i ar,Ck.i ar] 1) 0 [.s p, .s ⟨#[]⟩, .i .i64 1, .i .i64 0, .i .i64 0]).length:az))then bif pj.c q.1 w y.1 y.2.1 z.1 z.2 (q.2.2.2.2.2.2.1++aE (aT [Ck.s,Ck.s,Ck.i ar,Ck.i ar,Ck.i ar] 1) 0 [.s p, .s ⟨#[]⟩, .i .i64 1, .i .i64 0, .i .i64 0]) q.2.2.2.2.2.2.2.1 q.2.2.2.2.2.2.2.2 o p (bN ((j.length:az)+1)) 0 1 (bH (aw (q.2.2.2.2.2.2.1++aE (aT [Ck.s,Ck.s,Ck.i ar,Ck.i ar,Ck.i ar] 1) 0 [.s p, .s ⟨#[]⟩, .i .i64 1, .i .i64 0, .i .i64 0]) (j.length:az).toNat 1)) 0 then Lib.lt (pj.v q.1 w y.1 y.2.1 z.1 z.2 (q.2.2.2.2.2.2.1++aE (aT [Ck.s,Ck.s,Ck.i ar,Ck.i ar,Ck.i ar] 1) 0 [.s p, .s ⟨#[]⟩, .i .i64 1, .i .i64 0, .i .i64 0]) q.2.2.2.2.2.2.2.1 q.2.2.2.2.2.2.2.2 o p (bN ((j.length:az)+1)) 0 1 (bH (aw (q.2.2.2.2.2.2.1++aE (aT [Ck.s,Ck.s,Ck.i ar,Ck.i ar,Ck.i ar] 1) 0 [.s p, .s ⟨#[]⟩, .i .i64 1, .i .i64 0, .i .i64 0]) (j.length:az).toNat 1)) 0) λα=>kr α.1 α.2.1 α.2.2.1 α.2.2.2.1 α.2.2.2.2.1 α.2.2.2.2.2.1 α.2.2.2.2.2.2.1 α.2.2.2.2.2.2.2.1 α.2.2.2.2.2.2.2.2 0 else ao else ao else ao else bif decide (0<=u)&&decide (u<(q.2.2.2.2.2.2.1.length:az))then bif pj.c q.1 w y.1 y.2.1 z.1 z.2 q.2.2.2.2.2.2.1 q.2.2.2.2.2.2.2.1 q.2.2.2.2.2.2.2.2 o p (bN (u+1)) 0 1 (bH (aw q.2.2.2.2.2.2.1 u.toNat 1)) 0 then Lib.lt (pj.v q.1 w y.1 y.2.1 z.1 z.2 q.2.2.2.2.2.2.1 q.2.2.2.2.2.2.2.1 q.2.2.2.2.2.2.2.2 o p (bN (u+1)) 0 1 (bH (aw q.2.2.2.2.2.2.1 u.toNat 1)) 0) λα=>kr α.1 α.2.1 α.2.2.1 α.2.2.2.1 α.2.2.2.2.1 α.2.2.2.2.2.1 α.2.2.2.2.2.2.1 α.2.2.2.2.2.2.2.1 α.2.2.2.2.2.2.2.2 0 else ao else ao else ao else ao else ao else bif nM.c h i p then Lib.lt (nM.v h i p) λw=>bif decide (u<0)then bif cK (q.2.2.2.2.2.2.1.length+(aE (aT [Ck.s,Ck.s,Ck.i ar,Ck.i ar,Ck.i ar] 1) 0 [.s p, .s ⟨#[]⟩, .i .i64 1, .i .i64 0, .i .i64 0]).length) 56 then bif decide ((j.length:az)<((q.2.2.2.2.2.2.1++aE (aT [Ck.s,Ck.s,Ck.i ar,Ck.i ar,Ck.i ar] 1) 0 [.s p, .s ⟨#[]⟩, .i .i64 1, .i .i64 0, .i .i64 0]).length:az))then bif pj.c q.1 q.2.1 q.2.2.1 q.2.2.2.1 w.1 w.2 (q.2.2.2.2.2.2.1++aE (aT [Ck.s,Ck.s,Ck.i ar,Ck.i ar,Ck.i ar] 1) 0 [.s p, .s ⟨#[]⟩, .i .i64 1, .i .i64 0, .i .i64 0]) q.2.2.2.2.2.2.2.1 q.2.2.2.2.2.2.2.2 o p (bN ((j.length:az)+1)) 0 1 (bH (aw (q.2.2.2.2.2.2.1++aE (aT [Ck.s,Ck.s,Ck.i ar,Ck.i ar,Ck.i ar] 1) 0 [.s p, .s ⟨#[]⟩, .i .i64 1, .i .i64 0, .i .i64 0]) (j.length:az).toNat 1)) 0 then Lib.lt (pj.v q.1 q.2.1 q.2.2.1 q.2.2.2.1 w.1 w.2 (q.2.2.2.2.2.2.1++aE (aT [Ck.s,Ck.s,Ck.i ar,Ck.i ar,Ck.i ar] 1) 0 [.s p, .s ⟨#[]⟩, .i .i64 1, .i .i64 0, .i .i64 0]) q.2.2.2.2.2.2.2.1 q.2.2.2.2.2.2.2.2 o p (bN ((j.length:az)+1)) 0 1 (bH (aw (q.2.2.2.2.2.2.1++aE (aT [Ck.s,Ck.s,Ck.i ar,Ck.i ar,Ck.i ar] 1) 0 [.s p, .s ⟨#[]⟩, .i .i64 1, .i .i64 0, .i .i64 0]) (j.length:az).toNat 1)) 0) λy=>kr y.1 y.2.1 y.2.2.1 y.2.2.2.1 y.2.2.2.2.1 y.2.2.2.2.2.1 y.2.2.2.2.2.2.1 y.2.2.2.2.2.2.2.1 y.2.2.2.2.2.2.2.2 0 else ao else ao else ao else bif decide (0<=u)&&decide (u<(q.2.2.2.2.2.2.1.length:az))then bif pj.c q.1 q.2.1 q.2.2.1 q.2.2.2.1 w.1 w.2 q.2.2.2.2.2.2.1 q.2.2.2.2.2.2.2.1 q.2.2.2.2.2.2.2.2 o p (bN (u+1)) 0 1 (bH (aw q.2.2.2.2.2.2.1 u.toNat 1)) 0 then Lib.lt (pj.v q.1 q.2.1 q.2.2.1 q.2.2.2.1 w.1 w.2 q.2.2.2.2.2.2.1 q.2.2.2.2.2.2.2.1 q.2.2.2.2.2.2.2.2 o p (bN (u+1)) 0 1 (bH (aw q.2.2.2.2.2.2.1 u.toNat 1)) 0) λy=>kr y.1 y.2.1 y.2.2.1 y.2.2.2.1 y.2.2.2.2.1 y.2.2.2.2.2.1 y.2.2.2.2.2.2.1 y.2.2.2.2.2.2.2.1 y.2.2.2.2.2.2.2.2 0 else ao else ao else ao else bif decide (t≥0)then bif BZ.c d p then Lib.lt (BZ.v d p) λw=>bif Ia.c e f h i p then Lib.lt (Ia.v e f h i p) λy=>bif nM.c h i p then Lib.lt (nM.v h i p) λz=>bif decide (u<0)then bif cK (q.2.2.2.2.2.2.1.length+(aE (aT [Ck.s,Ck.s,Ck.i ar,Ck.i ar,Ck.i ar] 1) 0 [.s p, .s ⟨#[]⟩, .i .i64 1, .i .i64 0, .i .i64 0]).length) 56 then bif decide ((j.length:az)<((q.2.2.2.2.2.2.1++aE (aT [Ck.s,Ck.s,Ck.i ar,Ck.i ar,Ck.i ar] 1) 0 [.s p, .s ⟨#[]⟩, .i .i64 1, .i .i64 0, .i .i64 0]).length:az))then bif pj.c q.1 w y.1 y.2.1 z.1 z.2 (q.2.2.2.2.2.2.1++aE (aT [Ck.s,Ck.s,Ck.i ar,Ck.i ar,Ck.i ar] 1) 0 [.s p, .s ⟨#[]⟩, .i .i64 1, .i .i64 0, .i .i64 0]) q.2.2.2.2.2.2.2.1 q.2.2.2.2.2.2.2.2 o p (bN ((j.length:az)+1)) 0 1 (bH (aw (q.2.2.2.2.2.2.1++aE (aT [Ck.s,Ck.s,Ck.i ar,Ck.i ar,Ck.i ar] 1) 0 [.s p, .s ⟨#[]⟩, .i .i64 1, .i .i64 0, .i .i64 0]) (j.length:az).toNat 1)) 0 then Lib.lt (pj.v q.1 w y.1 y.2.1 z.1 z.2 (q.2.2.2.2.2.2.1++aE (aT [Ck.s,Ck.s,Ck.i ar,Ck.i ar,Ck.i ar] 1) 0 [.s p, .s ⟨#[]⟩, .i .i64 1, .i .i64 0, .i .i64 0]) q.2.2.2.2.2.2.2.1 q.2.2.2.2.2.2.2.2 o p (bN ((j.length:az)+1)) 0 1 (bH (aw (q.2.2.2.2.2.2.1++aE (aT [Ck.s,Ck.s,Ck.i ar,Ck.i ar,Ck.i ar] 1) 0 [.s p, .s ⟨#[]⟩, .i .i64 1, .i .i64 0, .i .i64 0]) (j.length:az).toNat 1)) 0) λα=>kr α.1 α.2.1 α.2.2.1 α.2.2.2.1 α.2.2.2.2.1 α.2.2.2.2.2.1 α.2.2.2.2.2.2.1 α.2.2.2.2.2.2.2.1 α.2.2.2.2.2.2.2.2 0 else ao else ao else ao else bif decide (0<=u)&&decide (u<(q.2.2.2.2.2.2.1.length:az))then bif pj.c q.1 w y.1 y.2.1 z.1 z.2 q.2.2.2.2.2.2.1 q.2.2.2.2.2.2.2.1 q.2.2.2.2.2.2.2.2 o p (bN (u+1)) 0 1 (bH (aw q.2.2.2.2.2.2.1 u.toNat 1)) 0 then Lib.lt (pj.v q.1 w y.1 y.2.1 z.1 z.2 q.2.2.2.2.2.2.1 q.2.2.2.2.2.2.2.1 q.2.2.2.2.2.2.2.2 o p (bN (u+1)) 0 1 (bH (aw q.2.2.2.2.2.2.1 u.toNat 1)) 0) λα=>kr α.1 α.2.1 α.2.2.1 α.2.2.2.1 α.2.2.2.2.1 α.2.2.2.2.2.1 α.2.2.2.2.2.2.1 α.2.2.2.2.2.2.2.1 α.2.2.2.2.2.2.2.2 0 else ao else ao else ao else ao else ao else bif nM.c h i p then Lib.lt (nM.v h i p) λw=>bif decide (u<0)then bif cK (q.2.2.2.2.2.2.1.length+(aE (aT [Ck.s,Ck.s,Ck.i ar,Ck.i ar,Ck.i ar] 1) 0 [.s p, .s ⟨#[]⟩, .i .i64 1, .i .i64 0, .i .i64 0]).length) 56 then bif decide ((j.length:az)<((q.2.2.2.2.2.2.1++aE (aT [Ck.s,Ck.s,Ck.i ar,Ck.i ar,Ck.i ar] 1) 0 [.s p, .s ⟨#[]⟩, .i .i64 1, .i .i64 0, .i .i64 0]).length:az))then bif pj.c q.1 q.2.1 q.2.2.1 q.2.2.2.1 w.1 w.2 (q.2.2.2.2.2.2.1++aE (aT [Ck.s,Ck.s,Ck.i ar,Ck.i ar,Ck.i ar] 1) 0 [.s p, .s ⟨#[]⟩, .i .i64 1, .i .i64 0, .i .i64 0]) q.2.2.2.2.2.2.2.1 q.2.2.2.2.2.2.2.2 o p (bN ((j.length:az)+1)) 0 1 (bH (aw (q.2.2.2.2.2.2.1++aE (aT [Ck.s,Ck.s,Ck.i ar,Ck.i ar,Ck.i ar] 1) 0 [.s p, .s ⟨#[]⟩, .i .i64 1, .i .i64 0, .i .i64 0]) (j.length:az).toNat 1)) 0 then Lib.lt (pj.v q.1 q.2.1 q.2.2.1 q.2.2.2.1 w.1 w.2 (q.2.2.2.2.2.2.1++aE (aT [Ck.s,Ck.s,Ck.i ar,Ck.i ar,Ck.i ar] 1) 0 [.s p, .s ⟨#[]⟩, .i .i64 1, .i .i64 0, .i .i64 0]) q.2.2.2.2.2.2.2.1 q.2.2.2.2.2.2.2.2 o p (bN ((j.length:az)+1)) 0 1 (bH (aw (q.2.2.2.2.2.2.1++aE (aT [Ck.s,Ck.s,Ck.i ar,Ck.i ar,Ck.i ar] 1) 0 [.s p, .s ⟨#[]⟩, .i .i64 1, .i .i64 0, .i .i64 0]) (j.length:az).toNat 1)) 0) λy=>kr y.1 y.2.1 y.2.2.1 y.2.2.2.1 y.2.2.2.2.1 y.2.2.2.2.2.1 y.2.2.2.2.2.2.1 y.2.2.2.2.2.2.2.1 y.2.2.2.2.2.2.2.2 0 else ao else ao else ao else bif decide (0<=u)&&decide (u<(q.2.2.2.2.2.2.1.length:az))then bif pj.c q.1 q.2.1 q.2.2.1 q.2.2.2.1 w.1 w.2 q.2.2.2.2.2.2.1 q.2.2.2.2.2.2.2.1 q.2.2.2.2.2.2.2.2 o p (bN (u+1)) 0 1 (bH (aw q.2.2.2.2.2.2.1 u.toNat 1)) 0 then Lib.lt (pj.v q.1 q.2.1 q.2.2.1 q.2.2.2.1 w.1 w.2 q.2.2.2.2.2.2.1 q.2.2.2.2.2.2.2.1 q.2.2.2.2.2.2.2.2 o p (bN (u+1)) 0 1 (bH (aw q.2.2.2.2.2.2.1 u.toNat 1)) 0) λy=>kr y.1 y.2.1 y.2.2.1 y.2.2.2.1 y.2.2.2.2.1 y.2.2.2.2.2.1 y.2.2.2.2.2.2.1 y.2.2.2.2.2.2.2.1 y.2.2.2.2.2.2.2.2 0 else ao else ao else ao else ao else ao else ao else ao else ao
def vo:=b λr0 r1 r2 r3 r4 r5 r6 r7 r8 r9=>aj (r0,r1,r2,r3,r4,r5,r6,r7,r8,r9)
def c:=λa d e f h i j l m o p=>(vo a d e f h i j l m o p).isSome
def v:=λa d e f h i j l m o p=>(vo a d e f h i j l m o p).getD (0,[],[],[],[],0,[],[],0,0)
theorem out{x}:∀a d e f h i j l m o p,vo a d e f h i j l m o p=aj x->c a d e f h i j l m o p=ak/\v a d e f h i j l m o p=x:=λ_ _ _ _ _ _ _ _ _ _ _=>Lib.dB
end wB

namespace tI
def b(kr:aY->aC R)(a:az)(d e f h:aW)(i:az)(j l:aW)(m o:az):aC R:=bif Ew.c a d e f h i j l m then bif Ew.v a d e f h i j l m then kr (od.v o 0 (bN ((j.length:az)-1)))else kr aq else ao
def vo:=b λr0=>aj r0
def c:=λa d e f h i j l m o=>(vo a d e f h i j l m o).isSome
def v:=λa d e f h i j l m o=>(vo a d e f h i j l m o).getD aq
theorem out{x}:∀a d e f h i j l m o,vo a d e f h i j l m o=aj x->c a d e f h i j l m o=ak/\v a d e f h i j l m o=x:=λ_ _ _ _ _ _ _ _ _ _=>Lib.dB
end tI

namespace IC
def b(kr:Ko R)(a:az)(d:au)(e:aW):aC R:=bif cK ((aT [Ck.i ar,Ck.i ar] 0).length+e.length) 16 then kr a d (aT [Ck.i ar,Ck.i ar] 0++e)else ao
def v(fN:az)(eM:au)(dz:aW):az×au×aW:=(fN,eM,dz)
def c(fN:az)(eM:au)(dz:aW):aY:=decide (dz.length<=4294967296)
theorem fM(kr:Ko R)(fN:az)(eM:au)(dz:aW)(hc:c fN eM dz=ak):b kr fN eM dz=kr (v fN eM dz).1 (v fN eM dz).2.1 (v fN eM dz).2.2:=by have h:dz.length<=4294967296:=b9 hc;unfold b;rw[show bW (aT [Ck.i ar,Ck.i ar] 0)+dz.length=dz.length by simp[aT],Lib.cy (by omega) (by omega)];rfl
end IC

namespace Gn
def r2(N:aG)(g k0 k1:wH R)(a:aY)(d:aW)(e f h:az)(i:au)(j:aW):aC R:=bif decide (f<e)then bif decide (0<=f)&&decide (f<(d.length:az))then bif !od.v (bY (aw d f.toNat 0)) 1 9 then k0 aq d e f h i j else bif !od.v (bY (aw d f.toNat 1)) 0 (i.size:az)then k0 aq d e f h i j else bif decide (f>0)then bif decide (0<=bN (f-1))&&decide (bN (f-1)<(j.length:az))then bif decide (bY (aw j (bN (f-1)).toNat 0)≥bY (aw d f.toNat 0))then k0 aq d e f h i j else g a d e (bN (f+1)) h i j else ao else g a d e (bN (f+1)) h i j else ao else k1 a d e f h i j
def l2(N:aG)(k0 k1:wH R):aG->wH R
 |0=>λ_ _ _ _ _ _ _=>ao
 |n+1=>r2 N (l2 N k0 k1 n) k0 k1
def b(N:aG)(kr:aY->aC R)(a:az)(d:au)(e:aW):aC R:=l2 N (λf _ _ _ _ _ _=>kr f) (λ_ _ _ _ f h i=>bif od.v f 1 3 then bif decide ((h.size:az)<=400)then kr (decide ((i.length:az)<=6))else kr aq else kr aq) N aq e (e.length:az) 0 a d e
def v(fN:az)(eM:au)(dz:aW):aY:=(cO dz.length).all (kY.el eM dz)&&kY.rest fN eM dz
theorem fM(kr:aY->aC R)(fN:az)(eM:au)(dz:aW)(f0:F2 eM)(f1:ur dz):∃N,b N kr fN eM dz=kr (v fN eM dz):=by
 refine⟨dz.length+1, ?_⟩
 unfold b;have ew:od.v=kG.v:=rfl;simp only[ew,kY.LU]
 have:=Lib.il (λn (i:aG)=>l2 (dz.length+1) (λy7 y8 y9 Mm yA Oc F9=>kr y7) (λW6 W7 Tn FH FI B6 tz=>kr (kY.rest FI B6 tz)) n aq dz dz.length i fN eM dz) (λi=>dz.length-i) (λi=>i<=dz.length)
  (λi=>kr ((lI i (dz.length-i)).all (kY.el eM dz)&&kY.rest fN eM dz)) (λn i hi=>by
  simp only[l2,r2,ew,Lib.dE,Lib.cS,Lib.eG,bj,kY.mo]
  by_cases h:i<dz.length
  ·rw[kY.Gw _ h];simp only[h,aR,ay,Lib.de h f1.1];cases h1:decide (1<=bY (aw dz i 0)/\bY (aw dz i 0)<=9)with
   |false=>left;simp[kY.el,h1]
   |true=>
    simp only[ba,aD];cases h3:decide (0<=bY (aw dz i 1)/\bY (aw dz i 1)<=eM.size)with
    |false=>left;simp[kY.el,h3]
    |true=>
     simp only[ba,aD];by_cases hz:0<i
     ·have e0:decide ((i:az)>0)=true:=by simp;omega
      have hp:i-1<dz.length:=by omega
      have hi0:(i==0)=false:=by simp;omega
      simp only[e0,ay,kY.BO hz (by have:=f1.1;omega),Lib.cS,Lib.dE,Lib.eG,hp,aR,aP];cases h2:decide (bY (aw dz (i-1) 0)≥bY (aw dz i 0))with
      |true=>
       left;have e3:decide (bY (aw dz (i-1) 0)<bY (aw dz i 0))=false:=by simp at h2⊢;omega
       simp[kY.el,e3,hi0]
      |false=>
       have e3:decide (bY (aw dz (i-1) 0)<bY (aw dz i 0))=true:=by simp at h2⊢;omega
       right;exact⟨i+1,h,by omega,by simp only[kY.el,h1,h3,e3,Ip,bj],rfl⟩
     ·have hz:i=0:=by omega
      subst hz;simp only[show decide (((0:aG):az)>0)=aq from rfl,aD];right;exact⟨1,h,by omega,by simp only[kY.el,h1,h3,bj];rfl,rfl⟩
  ·left;have h0:dz.length-i=0:=by omega
   simp only[h,bm,aD,h0,PG,List.all_nil,bj]) (dz.length+1) 0 (by omega) (by omega)
 refine this.trans ?_;unfold v;rw[uD,<-PH]
end Gn

namespace Cb
def b(kr:DQ R)(a:az)(d:au)(e:aW)(f:au):aC R:=bif IC.c a d e then bif !Gn.v a d e then kr a d e aq else bif a !=1 then kr a d e aq else bif !od.v (f.size:az) 1 40 then kr a d e aq else bif decide (bN ((d.size:az)+(f.size:az))>400)then kr a d e aq else bif decide (d.size+f.size<=4611686018427387904)then kr a (d++f) e ak else ao else ao
def v(fN:az)(eM:au)(dz:aW)(gb:au):az×au×aW×aY:=
 if kY.v fN eM dz=ak/\fN=1/\1<=gb.size/\gb.size<=40/\eM.size+gb.size<=400 then(fN,eM++gb,dz,ak)else(fN,eM,dz,aq)
def c(fN:az)(eM:au)(dz:aW)(gb:au):aY:=decide (dz.length<=4294967296)
theorem fM(kr:DQ R)(fN:az)(eM:au)(dz:aW)(gb:au)(hc:c fN eM dz gb=ak)(f0:F2 eM)(f1:ur dz)(f2:F2 gb):b kr fN eM dz gb=kr (v fN eM dz gb).1 (v fN eM dz gb).2.1 (v fN eM dz gb).2.2.1 (v fN eM dz gb).2.2.2:=by
 have hs1:eM.size<=4611686018427387904:=f0;have Lv:gb.size<=4611686018427387904:=f2;have e1:IC.c fN eM dz=true:=hc;have e2:∀a b c,Gn.v a b c=kY.v a b c:=λ_ _ _=>rfl;have e3:∀n a b,od.v n a b=decide (a<=n/\n<=b):=kY.mo;unfold b v;rw[e1,e2,e3,ay];cases h1:kY.v fN eM dz with
 |false=>simp
 |true=>
  by_cases h2:fN=1
  ·by_cases h3:1<=(gb.size:az)/\(gb.size:az)<=40
   ·have e4:bN ((eM.size:az)+(gb.size:az))=eM.size+gb.size:=jS (by omega) (by omega);rw[e4,aJ h3];by_cases h4:(eM.size:az)+(gb.size:az)>400
    ·rw[Lib.AM h4,bM (by omega)];simp[h2]
    ·rw[Lib.GQ h4,bC (by refine⟨rfl,h2, ?_, ?_, ?_⟩<;>omega),Lib.AM (show eM.size+gb.size<=4611686018427387904 by omega)];simp[h2]
   ·rw[aM h3,bM (by omega)];simp
  ·have ic:(fN !=1)=true:=bne_iff_ne.mpr h2;rw[bM (by simp[h2]),ic];rfl
end Cb

namespace ze
def r1(N:aG)(g k0:jl R)(a d e f h i:az)(j l m o p q:aW):aC R:=bif decide (e<d)then bif decide (0<=e)&&decide (e<(j.length:az))then bif decide (bY (aw j e.toNat (1+1))=bN (a+1))then bif decide (bY (aw j e.toNat (1+1+1+1))=1)then bif decide (0<=a)&&decide (a<(q.length:az))then bif decide (0<=e)&&decide (e<(j.length:az))then g a d (bN (e+1)) f h i (eA j e.toNat 5 [.s (bH (aw q a.toNat 1))]) l m o p q else ao else ao else g a d (bN (e+1)) f h i j l m o p q else g a d (bN (e+1)) f h i j l m o p q else ao else k0 a d e f h i j l m o p q
def l1(N:aG)(k0:jl R):aG->jl R
 |0=>λ_ _ _ _ _ _ _ _ _ _ _ _=>ao
 |n+1=>r1 N (l1 N k0 n) k0
def b(N:aG)(kr:fa R)(a:az)(d e f h:aW)(i:az)(j l:aW)(m o:az):aC R:=l1 N (λ_ _ _ p q r s t u w y z=>kr p t u w y q z s r) N o (l.length:az) 0 a i m l d e f h j
def vo:=b Lib.c9 λr0 r1 r2 r3 r4 r5 r6 r7 r8=>aj (r0,r1,r2,r3,r4,r5,r6,r7,r8)
def c:=λa d e f h i j l m o=>(vo a d e f h i j l m o).isSome
def v:=λa d e f h i j l m o=>(vo a d e f h i j l m o).getD (0,[],[],[],[],0,[],[],0)
theorem out{x}:∀a d e f h i j l m o,vo a d e f h i j l m o=aj x->c a d e f h i j l m o=ak/\v a d e f h i j l m o=x:=λ_ _ _ _ _ _ _ _ _ _=>Lib.dB
end ze

namespace KS
def b(kr:kq R)(a:az)(d e f h:aW)(i:az)(j l:aW)(m o:az)(p:au):aC R:=bif uL.c a d e f h i j l m then Lib.lt (uL.v a d e f h i j l m) λq=>bif tI.c a d e f h i j l m o then Lib.lt (tI.v a d e f h i j l m o) λr=>bif !r then kr q.1 q.2.1 q.2.2.1 q.2.2.2.1 q.2.2.2.2.1 q.2.2.2.2.2.1 q.2.2.2.2.2.2.1 q.2.2.2.2.2.2.2.1 q.2.2.2.2.2.2.2.2 aq else bif decide (0<=o)&&decide (o<(j.length:az))then bif decide (0<=o)&&decide (o<(j.length:az))then bif !(Cb.v (bY (aw j o.toNat 2)) (bH (aw j o.toNat 1)) [] p).2.2.2 then kr q.1 q.2.1 q.2.2.1 q.2.2.2.1 q.2.2.2.2.1 q.2.2.2.2.2.1 q.2.2.2.2.2.2.1 q.2.2.2.2.2.2.2.1 q.2.2.2.2.2.2.2.2 aq else bif decide (0<=o)&&decide (o<(q.2.2.2.2.2.2.1.length:az))then bif ze.c q.1 q.2.1 q.2.2.1 q.2.2.2.1 q.2.2.2.2.1 q.2.2.2.2.2.1 (eA q.2.2.2.2.2.2.1 o.toNat 1 [.s (Cb.v (bY (aw j o.toNat 2)) (bH (aw j o.toNat 1)) [] p).2.1]) q.2.2.2.2.2.2.2.1 q.2.2.2.2.2.2.2.2 o then Lib.lt (ze.v q.1 q.2.1 q.2.2.1 q.2.2.2.1 q.2.2.2.2.1 q.2.2.2.2.2.1 (eA q.2.2.2.2.2.2.1 o.toNat 1 [.s (Cb.v (bY (aw j o.toNat 2)) (bH (aw j o.toNat 1)) [] p).2.1]) q.2.2.2.2.2.2.2.1 q.2.2.2.2.2.2.2.2 o) λs=>kr s.1 s.2.1 s.2.2.1 s.2.2.2.1 s.2.2.2.2.1 s.2.2.2.2.2.1 s.2.2.2.2.2.2.1 s.2.2.2.2.2.2.2.1 s.2.2.2.2.2.2.2.2 ak else ao else ao else ao else ao else ao else ao
def vo:=b λr0 r1 r2 r3 r4 r5 r6 r7 r8 r9=>aj (r0,r1,r2,r3,r4,r5,r6,r7,r8,r9)
def c:=λa d e f h i j l m o p=>(vo a d e f h i j l m o p).isSome
def v:=λa d e f h i j l m o p=>(vo a d e f h i j l m o p).getD (0,[],[],[],[],0,[],[],0,aq)
theorem out{x}:∀a d e f h i j l m o p,vo a d e f h i j l m o p=aj x->c a d e f h i j l m o p=ak/\v a d e f h i j l m o p=x:=λ_ _ _ _ _ _ _ _ _ _ _=>Lib.dB
end KS

namespace uF
def r1(N:aG)(g k0:nv R)(a d e f h i j:az)(l m o p q r:aW):aC R:=bif decide (f<e)then bif decide (0<=f)&&decide (f<(l.length:az))then bif decide (bY (aw l f.toNat (1+1))=bN (a+1))then bif decide (bY (aw l f.toNat (1+1+1+1))=1)then bif decide (0<=a)&&decide (a<(r.length:az))then bif decide (0<=f)&&decide (f<(l.length:az))then bif decide (0<=f)&&decide (f<((eA l f.toNat 4 [.i .i64 d]).length:az))then g a d e (bN (f+1)) h i j (eA (eA l f.toNat 4 [.i .i64 d]) f.toNat 5 [.s (bH (aw r a.toNat 1))]) m o p q r else ao else ao else ao else g a d e (bN (f+1)) h i j l m o p q r else g a d e (bN (f+1)) h i j l m o p q r else ao else k0 a d e f h i j l m o p q r
def l1(N:aG)(k0:nv R):aG->nv R
 |0=>λ_ _ _ _ _ _ _ _ _ _ _ _ _=>ao
 |n+1=>r1 N (l1 N k0 n) k0
def b(N:aG)(kr:fa R)(a:az)(d e f h:aW)(i:az)(j l:aW)(m o p:az):aC R:=l1 N (λ_ _ _ _ q r s t u w y z α=>kr q u w y z r α t s) N o p (l.length:az) 0 a i m l d e f h j
def vo:=b Lib.c9 λr0 r1 r2 r3 r4 r5 r6 r7 r8=>aj (r0,r1,r2,r3,r4,r5,r6,r7,r8)
def c:=λa d e f h i j l m o p=>(vo a d e f h i j l m o p).isSome
def v:=λa d e f h i j l m o p=>(vo a d e f h i j l m o p).getD (0,[],[],[],[],0,[],[],0)
theorem out{x}:∀a d e f h i j l m o p,vo a d e f h i j l m o p=aj x->c a d e f h i j l m o p=ak/\v a d e f h i j l m o p=x:=λ_ _ _ _ _ _ _ _ _ _ _=>Lib.dB
end uF


namespace tM
def r3(N:aG)(g k0:Af R)(a:az)(d:au)(e f:az)(h:au)(i:aW):aC R:=bif decide (a<(i.length:az))then bif decide (0<=a)&&decide (a<(i.length:az))then bif cf (bH (aw i a.toNat 0)).toList (aL d)then g (bN (a+1)) d e f h i else k0 a d e f h i else ao else k0 a d e f h i
def l3(N:aG)(k0:Af R):aG->Af R
 |0=>λ_ _ _ _ _ _=>ao
 |n+1=>r3 N (l3 N k0 n) k0
def b(N:aG)(kr:aW->aC R)(a:aW)(d:au)(e f:az)(h:au):aC R:=bif BZ.c a d then l3 N (λi j l m o p=>bif decide (0<=i)&&decide (i<=(p.length:az))&&cK (p.length+(aE (aT [Ck.s,Ck.i ar,Ck.i ar,Ck.s] 1) 0 [.s j, .i .i64 l, .i .i64 m, .s o]).length) 48 then kr (Pu.xS p i.toNat (aE (aT [Ck.s,Ck.i ar,Ck.i ar,Ck.s] 1) 0 [.s j, .i .i64 l, .i .i64 m, .s o]))else ao) N 0 d e f h (BZ.v a d)else ao
def vo:=b Lib.c9 λr0=>aj r0
def c:=λa d e f h=>(vo a d e f h).isSome
def v:=λa d e f h=>(vo a d e f h).getD ([])
theorem out{x}:∀a d e f h,vo a d e f h=aj x->c a d e f h=ak/\v a d e f h=x:=λ_ _ _ _ _=>Lib.dB
end tM

namespace Cc
def b(kr:fa R)(a:az)(d e f h:aW)(i:az)(j l:aW)(m:az)(o:au)(p q:az)(r:au):aC R:=bif MA.c e f h i o then Lib.lt (MA.v e f h i o) λs=>bif BZ.c d s.2.2.2.2 then Lib.lt (BZ.v d s.2.2.2.2) λt=>bif uI.c s.1 s.2.1 s.2.2.1 s.2.2.2.1 o then Lib.lt (uI.v s.1 s.2.1 s.2.2.1 s.2.2.2.1 o) λu=>bif u then bif tM.c t o p q r then Lib.lt (tM.v t o p q r) λw=>kr a w s.1 s.2.1 s.2.2.1 s.2.2.2.1 j l m else ao else kr a t s.1 s.2.1 s.2.2.1 s.2.2.2.1 j l m else ao else ao else ao
def vo:=b λr0 r1 r2 r3 r4 r5 r6 r7 r8=>aj (r0,r1,r2,r3,r4,r5,r6,r7,r8)
def c:=λa d e f h i j l m o p q r=>(vo a d e f h i j l m o p q r).isSome
def v:=λa d e f h i j l m o p q r=>(vo a d e f h i j l m o p q r).getD (0,[],[],[],[],0,[],[],0)
theorem out{x}:∀a d e f h i j l m o p q r,vo a d e f h i j l m o p q r=aj x->c a d e f h i j l m o p q r=ak/\v a d e f h i j l m o p q r=x:=λ_ _ _ _ _ _ _ _ _ _ _ _ _=>Lib.dB
end Cc

namespace NY
def b(kr:kq R)(a:az)(d e f h:aW)(i:az)(j l:aW)(m o p:az):aC R:=bif uL.c a d e f h i j l m then Lib.lt (uL.v a d e f h i j l m) λq=>bif tI.c a d e f h i j l m o then Lib.lt (tI.v a d e f h i j l m o) λr=>bif !r then kr q.1 q.2.1 q.2.2.1 q.2.2.2.1 q.2.2.2.2.1 q.2.2.2.2.2.1 q.2.2.2.2.2.2.1 q.2.2.2.2.2.2.2.1 q.2.2.2.2.2.2.2.2 aq else bif decide (0<=o)&&decide (o<(j.length:az))then bif bY (aw j o.toNat 2) !=1 then kr q.1 q.2.1 q.2.2.1 q.2.2.2.1 q.2.2.2.2.1 q.2.2.2.2.2.1 q.2.2.2.2.2.2.1 q.2.2.2.2.2.2.2.1 q.2.2.2.2.2.2.2.2 aq else bif !od.v p 0 999999 then kr q.1 q.2.1 q.2.2.1 q.2.2.2.1 q.2.2.2.2.1 q.2.2.2.2.2.1 q.2.2.2.2.2.2.1 q.2.2.2.2.2.2.2.1 q.2.2.2.2.2.2.2.2 aq else bif decide (0<=o)&&decide (o<(q.2.2.2.2.2.2.1.length:az))then bif uF.c q.1 q.2.1 q.2.2.1 q.2.2.2.1 q.2.2.2.2.1 q.2.2.2.2.2.1 (eA (eA (eA q.2.2.2.2.2.2.1 o.toNat 2 [.i .i64 2]) o.toNat 3 [.i .i64 p]) o.toNat 4 [.i .i64 a]) q.2.2.2.2.2.2.2.1 q.2.2.2.2.2.2.2.2 o 2 then Lib.lt (uF.v q.1 q.2.1 q.2.2.1 q.2.2.2.1 q.2.2.2.2.1 q.2.2.2.2.2.1 (eA (eA (eA q.2.2.2.2.2.2.1 o.toNat 2 [.i .i64 2]) o.toNat 3 [.i .i64 p]) o.toNat 4 [.i .i64 a]) q.2.2.2.2.2.2.2.1 q.2.2.2.2.2.2.2.2 o 2) λs=>bif decide (p>0)then bif Cc.c s.1 s.2.1 s.2.2.1 s.2.2.2.1 s.2.2.2.2.1 s.2.2.2.2.2.1 s.2.2.2.2.2.2.1 s.2.2.2.2.2.2.2.1 s.2.2.2.2.2.2.2.2 (bH (aw s.2.2.2.2.2.2.1 o.toNat 0)) a p (bH (aw s.2.2.2.2.2.2.1 o.toNat 1))then Lib.lt (Cc.v s.1 s.2.1 s.2.2.1 s.2.2.2.1 s.2.2.2.2.1 s.2.2.2.2.2.1 s.2.2.2.2.2.2.1 s.2.2.2.2.2.2.2.1 s.2.2.2.2.2.2.2.2 (bH (aw s.2.2.2.2.2.2.1 o.toNat 0)) a p (bH (aw s.2.2.2.2.2.2.1 o.toNat 1))) λt=>kr t.1 t.2.1 t.2.2.1 t.2.2.2.1 t.2.2.2.2.1 t.2.2.2.2.2.1 t.2.2.2.2.2.2.1 t.2.2.2.2.2.2.2.1 t.2.2.2.2.2.2.2.2 ak else ao else kr s.1 s.2.1 s.2.2.1 s.2.2.2.1 s.2.2.2.2.1 s.2.2.2.2.2.1 s.2.2.2.2.2.2.1 s.2.2.2.2.2.2.2.1 s.2.2.2.2.2.2.2.2 ak else ao else ao else ao else ao else ao
def vo:=b λr0 r1 r2 r3 r4 r5 r6 r7 r8 r9=>aj (r0,r1,r2,r3,r4,r5,r6,r7,r8,r9)
def c:=λa d e f h i j l m o p=>(vo a d e f h i j l m o p).isSome
def v:=λa d e f h i j l m o p=>(vo a d e f h i j l m o p).getD (0,[],[],[],[],0,[],[],0,aq)
theorem out{x}:∀a d e f h i j l m o p,vo a d e f h i j l m o p=aj x->c a d e f h i j l m o p=ak/\v a d e f h i j l m o p=x:=λ_ _ _ _ _ _ _ _ _ _ _=>Lib.dB
end NY

namespace NZ
def b(kr:kq R)(a:az)(d e f h:aW)(i:az)(j l:aW)(m o:az):aC R:=bif uL.c a d e f h i j l m then Lib.lt (uL.v a d e f h i j l m) λp=>bif tI.c a d e f h i j l m o then Lib.lt (tI.v a d e f h i j l m o) λq=>bif !q then kr p.1 p.2.1 p.2.2.1 p.2.2.2.1 p.2.2.2.2.1 p.2.2.2.2.2.1 p.2.2.2.2.2.2.1 p.2.2.2.2.2.2.2.1 p.2.2.2.2.2.2.2.2 aq else bif decide (0<=o)&&decide (o<(j.length:az))then bif bY (aw j o.toNat 2) !=1 then kr p.1 p.2.1 p.2.2.1 p.2.2.2.1 p.2.2.2.2.1 p.2.2.2.2.2.1 p.2.2.2.2.2.2.1 p.2.2.2.2.2.2.2.1 p.2.2.2.2.2.2.2.2 aq else bif decide (0<=o)&&decide (o<(p.2.2.2.2.2.2.1.length:az))then bif uF.c p.1 p.2.1 p.2.2.1 p.2.2.2.1 p.2.2.2.2.1 p.2.2.2.2.2.1 (eA p.2.2.2.2.2.2.1 o.toNat 2 [.i .i64 3]) p.2.2.2.2.2.2.2.1 p.2.2.2.2.2.2.2.2 o 3 then Lib.lt (uF.v p.1 p.2.1 p.2.2.1 p.2.2.2.1 p.2.2.2.2.1 p.2.2.2.2.2.1 (eA p.2.2.2.2.2.2.1 o.toNat 2 [.i .i64 3]) p.2.2.2.2.2.2.2.1 p.2.2.2.2.2.2.2.2 o 3) λr=>kr r.1 r.2.1 r.2.2.1 r.2.2.2.1 r.2.2.2.2.1 r.2.2.2.2.2.1 r.2.2.2.2.2.2.1 r.2.2.2.2.2.2.2.1 r.2.2.2.2.2.2.2.2 ak else ao else ao else ao else ao else ao
def vo:=b λr0 r1 r2 r3 r4 r5 r6 r7 r8 r9=>aj (r0,r1,r2,r3,r4,r5,r6,r7,r8,r9)
def c:=λa d e f h i j l m o=>(vo a d e f h i j l m o).isSome
def v:=λa d e f h i j l m o=>(vo a d e f h i j l m o).getD (0,[],[],[],[],0,[],[],0,aq)
theorem out{x}:∀a d e f h i j l m o,vo a d e f h i j l m o=aj x->c a d e f h i j l m o=ak/\v a d e f h i j l m o=x:=λ_ _ _ _ _ _ _ _ _ _=>Lib.dB
end NZ

namespace xL
def r2(N:aG)(g k0 k1:jN R)(a:az)(d:aY)(e f:az)(h i j l:aW)(m:az)(o p:aW)(q r:az)(s:au)(t u w:az)(y:au)(z:az):aC R:=bif decide (e<(p.length:az))then bif decide (0<=e)&&decide (e<(p.length:az))then bif decide (bY (aw p e.toNat 0)=a)then bif decide (0<=e)&&decide (e<(p.length:az))then k0 a ak e f h i j l m o p q (bY (aw p e.toNat 0)) (bH (aw p e.toNat 1)) (bY (aw p e.toNat (1+1))) (bY (aw p e.toNat (1+1+1))) (bY (aw p e.toNat (1+1+1+1))) (bH (aw p e.toNat (1+1+1+1+1))) (bY (aw p e.toNat (1+1+1+1+1+1)))else ao else g a d (bN (e+1)) f h i j l m o p q r s t u w y z else ao else k1 a d e f h i j l m o p q r s t u w y z
def l2(N:aG)(k0 k1:jN R):aG->jN R
 |0=>λ_ _ _ _ _ _ _ _ _ _ _ _ _ _ _ _ _ _ _=>ao
 |n+1=>r2 N (l2 N k0 k1 n) k0 k1
def b(N:aG)(kr:Is R)(a:az)(d e f h:aW)(i:az)(j l:aW)(m o:az):aC R:=l2 N (λ_ p _ _ _ _ _ _ _ _ _ _ q r s t u w y=>kr q r s t u w y p) (λ_ _ _ _ _ _ _ _ _ _ _ _ _ _ _ _ _ _ _=>kr 0 ⟨#[]⟩ 0 0 0 ⟨#[]⟩ 0 aq) N o aq 0 a d e f h i j l m 0 ⟨#[]⟩ 0 0 0 ⟨#[]⟩ 0
def vo:=b Lib.c9 λr0 r1 r2 r3 r4 r5 r6 r7=>aj (r0,r1,r2,r3,r4,r5,r6,r7)
def c:=λa d e f h i j l m o=>(vo a d e f h i j l m o).isSome
def v:=λa d e f h i j l m o=>(vo a d e f h i j l m o).getD (0,⟨#[]⟩,0,0,0,⟨#[]⟩,0,aq)
theorem out{x}:∀a d e f h i j l m o,vo a d e f h i j l m o=aj x->c a d e f h i j l m o=ak/\v a d e f h i j l m o=x:=λ_ _ _ _ _ _ _ _ _ _=>Lib.dB
end xL

namespace U5
def r25(N:aG)(g k0 k1:fA R)(a d e:aY)(f:az)(h i:aY)(j l m o p q r s t u:az)(w y z α xa xb xc xd xe xf xg xh xi xj xk xl xm xn:aW):aC R:=bif decide (j<=4)then bif xL.c l w y z α m xa xb o j then bif xL.c p xc xd xe xf q xg xh r j then bif xL.c s xi xj xk xl t xm xn u j then bif !(xL.v l w y z α m xa xb o j).2.2.2.2.2.2.2 then k0 aq d e f h i j l m o p q r s t u w y z α xa xb xc xd xe xf xg xh xi xj xk xl xm xn else bif !List.beq (xL.v l w y z α m xa xb o j).2.2.2.2.2.1.toList (aL {data:= #[ax 104,ax 101,ax 108,ax 108,ax 111,ax 32,ax 116,ax 104,ax 101,ax 114,ax 101]})then k0 aq d e f h i j l m o p q r s t u w y z α xa xb xc xd xe xf xg xh xi xj xk xl xm xn else bif(xL.v l w y z α m xa xb o j).2.2.2.2.1 !=1 then k0 aq d e f h i j l m o p q r s t u w y z α xa xb xc xd xe xf xg xh xi xj xk xl xm xn else bif !(xL.v p xc xd xe xf q xg xh r j).2.2.2.2.2.2.2 then k0 aq d e f h i j l m o p q r s t u w y z α xa xb xc xd xe xf xg xh xi xj xk xl xm xn else bif(xL.v p xc xd xe xf q xg xh r j).2.2.2.2.1 !=2 then k0 aq d e f h i j l m o p q r s t u w y z α xa xb xc xd xe xf xg xh xi xj xk xl xm xn else bif !List.beq (xL.v p xc xd xe xf q xg xh r j).2.2.2.2.2.1.toList (xL.v l w y z α m xa xb o j).2.2.2.2.2.1.toList then k0 aq d e f h i j l m o p q r s t u w y z α xa xb xc xd xe xf xg xh xi xj xk xl xm xn else bif !(xL.v s xi xj xk xl t xm xn u j).2.2.2.2.2.2.2 then k0 aq d e f h i j l m o p q r s t u w y z α xa xb xc xd xe xf xg xh xi xj xk xl xm xn else bif(xL.v s xi xj xk xl t xm xn u j).2.2.2.2.1 !=3 then k0 aq d e f h i j l m o p q r s t u w y z α xa xb xc xd xe xf xg xh xi xj xk xl xm xn else g a d e f h i (bN (j+1)) l m o p q r s t u w y z α xa xb xc xd xe xf xg xh xi xj xk xl xm xn else ao else ao else ao else k1 a d e f h i j l m o p q r s t u w y z α xa xb xc xd xe xf xg xh xi xj xk xl xm xn
def TS(N:aG)(k0 k1:fA R):aG->fA R
 |0=>λ_ _ _ _ _ _ _ _ _ _ _ _ _ _ _ _ _ _ _ _ _ _ _ _ _ _ _ _ _ _ _ _ _ _=>ao
 |n+1=>r25 N (TS N k0 k1 n) k0 k1
def zU(N:aG)(g k0 k1:nu R)(a:aY)(d e f h i:az)(j l m o p q r:aW):aC R:=bif decide (e<=3)then bif wB.c f l m o p h q r i e {data:= #[ax 47,ax 110,ax 101,ax 119]}then bif(wB.v f l m o p h q r i e {data:= #[ax 47,ax 110,ax 101,ax 119]}).2.2.2.2.2.2.2.2.2 !=0 then bif decide ((wB.v f l m o p h q r i e {data:= #[ax 47,ax 110,ax 101,ax 119]}).2.2.2.2.2.2.2.2.2=2)then k0 (decide (d=20)) d e f h i j l m o p q r else k0 aq d e f h i j l m o p q r else g a d (bN (e+1)) (wB.v f l m o p h q r i e {data:= #[ax 47,ax 110,ax 101,ax 119]}).1 (wB.v f l m o p h q r i e {data:= #[ax 47,ax 110,ax 101,ax 119]}).2.2.2.2.2.1 (wB.v f l m o p h q r i e {data:= #[ax 47,ax 110,ax 101,ax 119]}).2.2.2.2.2.2.2.2.1 j (wB.v f l m o p h q r i e {data:= #[ax 47,ax 110,ax 101,ax 119]}).2.1 (wB.v f l m o p h q r i e {data:= #[ax 47,ax 110,ax 101,ax 119]}).2.2.1 (wB.v f l m o p h q r i e {data:= #[ax 47,ax 110,ax 101,ax 119]}).2.2.2.1 (wB.v f l m o p h q r i e {data:= #[ax 47,ax 110,ax 101,ax 119]}).2.2.2.2.1 (wB.v f l m o p h q r i e {data:= #[ax 47,ax 110,ax 101,ax 119]}).2.2.2.2.2.2.1 (wB.v f l m o p h q r i e {data:= #[ax 47,ax 110,ax 101,ax 119]}).2.2.2.2.2.2.2.1 else ao else k1 a d e f h i j l m o p q r
def E6(N:aG)(k0 k1:nu R):aG->nu R
 |0=>λ_ _ _ _ _ _ _ _ _ _ _ _ _=>ao
 |n+1=>zU N (E6 N k0 k1 n) k0 k1
def r6(N:aG)(g k0:ov R)(a:aY)(d e f h:az)(i j l m o p q:aW):aC R:=bif decide (d<=9)then bif FQ.c e j l m o f p q h d then g a (bN (d+1)) (FQ.v e j l m o f p q h d).1 (FQ.v e j l m o f p q h d).2.2.2.2.2.1 (FQ.v e j l m o f p q h d).2.2.2.2.2.2.2.2 i (FQ.v e j l m o f p q h d).2.1 (FQ.v e j l m o f p q h d).2.2.1 (FQ.v e j l m o f p q h d).2.2.2.1 (FQ.v e j l m o f p q h d).2.2.2.2.1 (FQ.v e j l m o f p q h d).2.2.2.2.2.2.1 (FQ.v e j l m o f p q h d).2.2.2.2.2.2.2.1 else ao else k0 a d e f h i j l m o p q
def l6(N:aG)(k0:ov R):aG->ov R
 |0=>λ_ _ _ _ _ _ _ _ _ _ _ _=>ao
 |n+1=>r6 N (l6 N k0 n) k0
def b(N:aG)(kr:aY->aC R)(a:aW):aC R:=bif U15.v a then kr ak else bif BX.c a then bif NX.c a then l6 N (λd _ e f h i j l m o p q=>E6 N (λr _ _ _ _ _ _ _ _ _ _ _ _=>kr r) (λr s _ t u w y z α xa xb xc xd=>bif(xc.length:az) !=bN (s+1)then kr aq else bif KS.c t z α xa xb u xc xd w s {data:= #[ax 104,ax 101,ax 108,ax 108,ax 111]}then Lib.lt (KS.v t z α xa xb u xc xd w s {data:= #[ax 104,ax 101,ax 108,ax 108,ax 111]}) λxe=>bif KS.c xe.1 xe.2.1 xe.2.2.1 xe.2.2.2.1 xe.2.2.2.2.1 xe.2.2.2.2.2.1 xe.2.2.2.2.2.2.1 xe.2.2.2.2.2.2.2.1 xe.2.2.2.2.2.2.2.2.1 s {data:= #[ax 32,ax 116,ax 104,ax 101,ax 114,ax 101]}then Lib.lt (KS.v xe.1 xe.2.1 xe.2.2.1 xe.2.2.2.1 xe.2.2.2.2.1 xe.2.2.2.2.2.1 xe.2.2.2.2.2.2.1 xe.2.2.2.2.2.2.2.1 xe.2.2.2.2.2.2.2.2.1 s {data:= #[ax 32,ax 116,ax 104,ax 101,ax 114,ax 101]}) λxf=>bif wB.c xf.1 xf.2.1 xf.2.2.1 xf.2.2.2.1 xf.2.2.2.2.1 xf.2.2.2.2.2.1 xf.2.2.2.2.2.2.1 xf.2.2.2.2.2.2.2.1 xf.2.2.2.2.2.2.2.2.1 4 {data:= #[ax 47,ax 110,ax 101,ax 119]}then Lib.lt (wB.v xf.1 xf.2.1 xf.2.2.1 xf.2.2.2.1 xf.2.2.2.2.1 xf.2.2.2.2.2.1 xf.2.2.2.2.2.2.1 xf.2.2.2.2.2.2.2.1 xf.2.2.2.2.2.2.2.2.1 4 {data:= #[ax 47,ax 110,ax 101,ax 119]}) λxg=>bif decide (0<(y.length:az))then bif NY.c xg.1 xg.2.1 xg.2.2.1 xg.2.2.2.1 xg.2.2.2.2.1 xg.2.2.2.2.2.1 xg.2.2.2.2.2.2.1 xg.2.2.2.2.2.2.2.1 xg.2.2.2.2.2.2.2.2.1 s (cG (bY (aw y (bc 0) 0)) 99)then Lib.lt (NY.v xg.1 xg.2.1 xg.2.2.1 xg.2.2.2.1 xg.2.2.2.2.1 xg.2.2.2.2.2.1 xg.2.2.2.2.2.2.1 xg.2.2.2.2.2.2.2.1 xg.2.2.2.2.2.2.2.2.1 s (cG (bY (aw y (bc 0) 0)) 99)) λxh=>bif NZ.c xg.1 xg.2.1 xg.2.2.1 xg.2.2.2.1 xg.2.2.2.2.1 xg.2.2.2.2.2.1 xg.2.2.2.2.2.2.1 xg.2.2.2.2.2.2.2.1 xg.2.2.2.2.2.2.2.2.1 s then Lib.lt (NZ.v xg.1 xg.2.1 xg.2.2.1 xg.2.2.2.1 xg.2.2.2.2.1 xg.2.2.2.2.2.1 xg.2.2.2.2.2.2.1 xg.2.2.2.2.2.2.2.1 xg.2.2.2.2.2.2.2.2.1 s) λxi=>TS N (λxj _ _ _ _ _ _ _ _ _ _ _ _ _ _ _ _ _ _ _ _ _ _ _ _ _ _ _ _ _ _ _ _ _=>kr xj) (λ_ xj xk xl xm xn _ _ _ _ xo xp xq xr xs xt _ _ _ _ _ _ xu xv xw xx xy xz ya yb yc yd ye yf=>bif xj then bif xk then bif decide (xl=0)then bif xm then bif xn then bif Ew.c xo xu xv xw xx xp xy xz xq then bif Ew.v xo xu xv xw xx xp xy xz xq then bif Ew.c xr ya yb yc yd xs ye yf xt then kr (Ew.v xr ya yb yc yd xs ye yf xt)else ao else kr aq else ao else kr aq else kr aq else kr aq else kr aq else kr aq) N r xe.2.2.2.2.2.2.2.2.2 xf.2.2.2.2.2.2.2.2.2 xg.2.2.2.2.2.2.2.2.2 xh.2.2.2.2.2.2.2.2.2 xi.2.2.2.2.2.2.2.2.2 1 xg.1 xg.2.2.2.2.2.1 xg.2.2.2.2.2.2.2.2.1 xh.1 xh.2.2.2.2.2.1 xh.2.2.2.2.2.2.2.2.1 xi.1 xi.2.2.2.2.2.1 xi.2.2.2.2.2.2.2.2.1 xg.2.1 xg.2.2.1 xg.2.2.2.1 xg.2.2.2.2.1 xg.2.2.2.2.2.2.1 xg.2.2.2.2.2.2.2.1 xh.2.1 xh.2.2.1 xh.2.2.2.1 xh.2.2.2.2.1 xh.2.2.2.2.2.2.1 xh.2.2.2.2.2.2.2.1 xi.2.1 xi.2.2.1 xi.2.2.2.1 xi.2.2.2.2.1 xi.2.2.2.2.2.2.1 xi.2.2.2.2.2.2.2.1 else ao else ao else ao else ao else ao else ao) N d (p.length:az) 1 e f h i j l m o p q) N aq 1 (BX.v a).1 (BX.v a).2.2.2.2.2.1 (BX.v a).2.2.2.2.2.2.2.2 (NX.v a) (BX.v a).2.1 (BX.v a).2.2.1 (BX.v a).2.2.2.1 (BX.v a).2.2.2.2.1 (BX.v a).2.2.2.2.2.2.1 (BX.v a).2.2.2.2.2.2.2.1 else ao else ao
def vo:=b Lib.c9 λr0=>aj r0
def c:=λa=>(vo a).isSome
def v:=λa=>(vo a).getD aq
theorem out{x}:∀a,vo a=aj x->c a=ak/\v a=x:=λ_=>Lib.dB
end U5

namespace gv
def r5(N:aG)(g k0 k1:wM R)(a:au)(d e f:az)(h:aY)(i j:az):aC R:=bif decide (j<5)then bif decide (bN (d+j)<(a.size:az))then bif decide (0<=bN (d+j))&&decide (bN (d+j)<(a.size:az))then bif decide (0<=bN (7*j))then bif decide (bN (↑(iI a (bN (d+j)).toNat):az)>127)then g a d e f h (bN (i+bN (cG (bN (↑(iI a (bN (d+j)).toNat):az)) 128*g9 2 (if(bN (7*j)).toNat<=64 then(bN (7*j)).toNat else 64)))) (bN (j+1))else bif decide (j>0)then bif decide (bN (↑(iI a (bN (d+j)).toNat):az)=0)then k0 a d 0 0 aq (bN (i+bN (cG (bN (↑(iI a (bN (d+j)).toNat):az)) 128*g9 2 (if(bN (7*j)).toNat<=64 then(bN (7*j)).toNat else 64)))) j else bif decide (bN (i+bN (cG (bN (↑(iI a (bN (d+j)).toNat):az)) 128*g9 2 (if(bN (7*j)).toNat<=64 then(bN (7*j)).toNat else 64)))>1000000000)then k0 a d 0 0 aq (bN (i+bN (cG (bN (↑(iI a (bN (d+j)).toNat):az)) 128*g9 2 (if(bN (7*j)).toNat<=64 then(bN (7*j)).toNat else 64)))) j else k0 a d (bN (i+bN (cG (bN (↑(iI a (bN (d+j)).toNat):az)) 128*g9 2 (if(bN (7*j)).toNat<=64 then(bN (7*j)).toNat else 64)))) (bN (bN (d+j)+1)) ak (bN (i+bN (cG (bN (↑(iI a (bN (d+j)).toNat):az)) 128*g9 2 (if(bN (7*j)).toNat<=64 then(bN (7*j)).toNat else 64)))) j else bif decide (bN (i+bN (cG (bN (↑(iI a (bN (d+j)).toNat):az)) 128*g9 2 (if(bN (7*j)).toNat<=64 then(bN (7*j)).toNat else 64)))>1000000000)then k0 a d 0 0 aq (bN (i+bN (cG (bN (↑(iI a (bN (d+j)).toNat):az)) 128*g9 2 (if(bN (7*j)).toNat<=64 then(bN (7*j)).toNat else 64)))) j else k0 a d (bN (i+bN (cG (bN (↑(iI a (bN (d+j)).toNat):az)) 128*g9 2 (if(bN (7*j)).toNat<=64 then(bN (7*j)).toNat else 64)))) (bN (bN (d+j)+1)) ak (bN (i+bN (cG (bN (↑(iI a (bN (d+j)).toNat):az)) 128*g9 2 (if(bN (7*j)).toNat<=64 then(bN (7*j)).toNat else 64)))) j else ao else ao else k1 a d e f h i j else k1 a d e f h i j
def l5(N:aG)(k0 k1:wM R):aG->wM R
 |0=>λ_ _ _ _ _ _ _=>ao
 |n+1=>r5 N (l5 N k0 k1 n) k0 k1
def b(N:aG)(kr:Ot R)(a:au)(d:az):aC R:=bif !od.v d 0 (a.size:az)then kr 0 0 aq else l5 N (λ_ _ e f h _ _=>kr e f h) (λ_ _ _ _ _ _ _=>kr 0 0 aq) N a d 0 0 aq 0 0
def v(dZ:au)(iu:az):az×az×aY:=if 0<=iu/\iu<=dZ.size then Lib.rv dZ iu.toNat 5 0 0 else(0,0,aq)
end gv

namespace Eu
def b(kr:au->aC R)(a:au):aC R:=bif tN.c a then kr (bytesOf (aE (aE (aE (aE (aT [Ck.i bk] 4) 0 [CV.i bk (bK bk (kP (tN.v a) (g9 2 (if bc 24<=32 then bc 24 else 32))))]) 1 [CV.i bk (bK bk (kP (tN.v a) (g9 2 (if bc 16<=32 then bc 16 else 32))))]) 2 [CV.i bk (bK bk (kP (tN.v a) (g9 2 (if bc 8<=32 then bc 8 else 32))))]) 3 [CV.i bk (bK bk (tN.v a))]))else ao
def vo:=b λr0=>aj r0
def c:=λa=>(vo a).isSome
def v:=λa=>(vo a).getD (⟨#[]⟩)
theorem out{x}:∀a,vo a=aj x->c a=ak/\v a=x:=λ_=>Lib.dB
end Eu

namespace U203
def r3(N:aG)(g k0:tY R)(a:au)(d:az)(e:aW):aC R:=bif decide ((a.size:az)<=20000)then bif !(gv.v a d).2.2 then k0 a d e else bif !od.v (gv.v a d).1 1 9000 then k0 a d e else bif decide (bN ((gv.v a d).1+4)>bN ((a.size:az)-(gv.v a d).2.1))then k0 a d e else bif iQ (bN ((gv.v a d).2.1+4)) (bN (bN ((gv.v a d).2.1+4)+(gv.v a d).1)) (a.size:az)then bif Eu.c (bR a (bN ((gv.v a d).2.1+4)).toNat (bN (bN ((gv.v a d).2.1+4)+(gv.v a d).1)).toNat)then bif iQ (gv.v a d).2.1 (bN ((gv.v a d).2.1+4)) (a.size:az)then bif !List.beq (Eu.v (bR a (bN ((gv.v a d).2.1+4)).toNat (bN (bN ((gv.v a d).2.1+4)+(gv.v a d).1)).toNat)).toList (bR a (gv.v a d).2.1.toNat (bN ((gv.v a d).2.1+4)).toNat).toList then k0 a d e else bif cK (e.length+(aE (aT [.s] 1) 0 [.s (bR a (bN ((gv.v a d).2.1+4)).toNat (bN (bN ((gv.v a d).2.1+4)+(gv.v a d).1)).toNat)]).length) 16 then g a (bN (bN ((gv.v a d).2.1+4)+(gv.v a d).1)) (e++aE (aT [.s] 1) 0 [.s (bR a (bN ((gv.v a d).2.1+4)).toNat (bN (bN ((gv.v a d).2.1+4)+(gv.v a d).1)).toNat)])else ao else ao else ao else ao else k0 a d e
def l3(N:aG)(k0:tY R):aG->tY R
 |0=>λ_ _ _=>ao
 |n+1=>r3 N (l3 N k0 n) k0
def b(N:aG)(kr:Gf R)(a:au):aC R:=l3 N (λ_ d e=>kr e d) N a 0 (aT [.s] 0)
def vo:=b Lib.c9 λr0 r1=>aj (r0,r1)
def c:=λa=>(vo a).isSome
def v:=λa=>(vo a).getD ([],0)
theorem out{x}:∀a,vo a=aj x->c a=ak/\v a=x:=λ_=>Lib.dB
end U203

namespace zg
def r2(N:aG)(g k0 k1:DP R)(a:aY)(d:aW)(e f:az)(h:aW):aC R:=bif decide (f<e)then bif decide (0<=f)&&decide (f<(d.length:az))then bif !od.v ((bH (aw d f.toNat 0)).size:az) 1 8 then k0 aq d e f h else bif decide (((bH (aw d f.toNat 1)).size:az)>20000)then k0 aq d e f h else bif !od.v (bY (aw d f.toNat (1+1))) 0 ((bH (aw d f.toNat 1)).size:az)then k0 aq d e f h else bif decide (f>0)then bif decide (0<=bN (f-1))&&decide (bN (f-1)<(h.length:az))then bif !Op.bytesLess (bH (aw h (bN (f-1)).toNat 0)).toList (bH (aw d f.toNat 0)).toList then k0 aq d e f h else g a d e (bN (f+1)) h else ao else g a d e (bN (f+1)) h else ao else k1 a d e f h
def l2(N:aG)(k0 k1:DP R):aG->DP R
 |0=>λ_ _ _ _ _=>ao
 |n+1=>r2 N (l2 N k0 k1 n) k0 k1
def b(N:aG)(kr:aY->aC R)(a:aW):aC R:=l2 N (λd _ _ _ _=>kr d) (λ_ _ _ _ d=>kr (decide ((d.length:az)<=30))) N aq a (a.length:az) 0 a
def vo:=b Lib.c9 λr0=>aj r0
def c:=λa=>(vo a).isSome
def v:=λa=>(vo a).getD aq
theorem out{x}:∀a,vo a=aj x->c a=ak/\v a=x:=λ_=>Lib.dB
end zg

namespace PQ
def b(kr:aY->aC R)(a d:au)(e:az)(Hy:au):aC R:=kr (dg (aL a) (aL Hy))
def v(a0 a1:au)(a2:az)(Hy:au):aY:=(dg (aL a0) (aL Hy))
end PQ

namespace vu
def r2(N:aG)(g k0 k1:iH R)(a:aW)(d:au)(e f h:az):aC R:=bif decide (h<f)then bif decide (0<=h)&&decide (h<(a.length:az))then bif PQ.v (bH (aw a h.toNat 0)) (bH (aw a h.toNat 1)) (bY (aw a h.toNat (1+1))) d then k0 a d h f h else g a d e f (bN (h+1))else ao else k1 a d e f h
def l2(N:aG)(k0 k1:iH R):aG->iH R
 |0=>λ_ _ _ _ _=>ao
 |n+1=>r2 N (l2 N k0 k1 n) k0 k1
def b(N:aG)(kr:az->aC R)(a:aW)(Hy:au):aC R:=l2 N (λ_ _ d _ _=>kr d) (λ_ _ _ _ _=>kr (-1)) N a Hy 0 (a.length:az) 0
def vo:=b Lib.c9 λr0=>aj r0
def c:=λa d=>(vo a d).isSome
def v:=λa d=>(vo a d).getD (0)
theorem out{x}:∀a d,vo a d=aj x->c a d=ak/\v a d=x:=λ_ _=>Lib.dB
end vu

namespace Av
def b(kr:az->aC R)(a:aW)(d:au):aC R:=bif vu.c a d then kr (vu.v a d)else ao
def vo:=b λr0=>aj r0
def c:=λa d=>(vo a d).isSome
def v:=λa d=>(vo a d).getD (0)
theorem out{x}:∀a d,vo a d=aj x->c a d=ak/\v a d=x:=λ_ _=>Lib.dB
end Av

namespace Au
def b(kr:Ow R)(a:aW)(d:au):aC R:=bif Av.c a d then bif decide (Av.v a d<0)then kr ⟨#[]⟩ aq else bif decide (0<=Av.v a d)&&decide (Av.v a d<(a.length:az))then kr (bH (aw a (Av.v a d).toNat 1)) ak else ao else ao
def vo:=b λr0 r1=>aj (r0,r1)
def c:=λa d=>(vo a d).isSome
def v:=λa d=>(vo a d).getD (⟨#[]⟩,aq)
theorem out{x}:∀a d,vo a d=aj x->c a d=ak/\v a d=x:=λ_ _=>Lib.dB
end Au

namespace vp
def b(kr:Ox R)(a:au)(d:az):aC R:=bif !(gv.v a d).2.2 then kr ⟨#[]⟩ 0 aq else bif decide ((gv.v a d).1>20000)then kr ⟨#[]⟩ 0 aq else bif decide ((gv.v a d).1>bN ((a.size:az)-(gv.v a d).2.1))then kr ⟨#[]⟩ 0 aq else bif iQ (gv.v a d).2.1 (bN ((gv.v a d).2.1+(gv.v a d).1)) (a.size:az)then kr (bR a (gv.v a d).2.1.toNat (bN ((gv.v a d).2.1+(gv.v a d).1)).toNat) (bN ((gv.v a d).2.1+(gv.v a d).1)) ak else ao
def v(dZ:au)(iu:az):au×az×aY:=Lib.iD dZ iu
end vp

namespace xM
def b(kr:zw R)(a:au):aC R:=bif !(vp.v a 0).2.2 then kr ⟨#[]⟩ 0 0 ⟨#[]⟩ aq else bif !(gv.v a (vp.v a 0).2.1).2.2 then kr ⟨#[]⟩ 0 0 ⟨#[]⟩ aq else bif !(gv.v a (gv.v a (vp.v a 0).2.1).2.1).2.2 then kr ⟨#[]⟩ 0 0 ⟨#[]⟩ aq else bif iQ (gv.v a (gv.v a (vp.v a 0).2.1).2.1).2.1 (a.size:az) (a.size:az)then bif !Ar.v (vp.v a 0).1 (gv.v a (vp.v a 0).2.1).1 (gv.v a (gv.v a (vp.v a 0).2.1).2.1).1 (bR a (gv.v a (gv.v a (vp.v a 0).2.1).2.1).2.1.toNat (a.size:az).toNat)then kr ⟨#[]⟩ 0 0 ⟨#[]⟩ aq else kr (vp.v a 0).1 (gv.v a (vp.v a 0).2.1).1 (gv.v a (gv.v a (vp.v a 0).2.1).2.1).1 (bR a (gv.v a (gv.v a (vp.v a 0).2.1).2.1).2.1.toNat (a.size:az).toNat) ak else ao
def v(t0:au):au×az×az×au×aY:=jL.v t0
end xM

namespace U118
def r7(N:aG)(g k0:Ir R)(a d:az)(e f:aW):aC R:=bif decide (d<a)then bif decide (0<=d)&&decide (d<(f.length:az))then bif(xM.v (bH (aw f d.toNat 0))).2.2.2.2 then bif tM.c e (xM.v (bH (aw f d.toNat 0))).1 (xM.v (bH (aw f d.toNat 0))).2.1 (xM.v (bH (aw f d.toNat 0))).2.2.1 (xM.v (bH (aw f d.toNat 0))).2.2.2.1 then g a (bN (d+1)) (tM.v e (xM.v (bH (aw f d.toNat 0))).1 (xM.v (bH (aw f d.toNat 0))).2.1 (xM.v (bH (aw f d.toNat 0))).2.2.1 (xM.v (bH (aw f d.toNat 0))).2.2.2.1) f else ao else g a (bN (d+1)) e f else ao else k0 a d e f
def l7(N:aG)(k0:Ir R):aG->Ir R
 |0=>λ_ _ _ _=>ao
 |n+1=>r7 N (l7 N k0 n) k0
def b(N:aG)(kr:aW->aC R)(a:aW):aC R:=bif zg.c a then bif !zg.v a then kr (aT [Ck.s,Ck.i ar,Ck.i ar,Ck.s] 0)else bif Au.c a {data:= #[ax 107,ax 101,ax 112,ax 116]}then bif U203.c (Au.v a {data:= #[ax 107,ax 101,ax 112,ax 116]}).1 then l7 N (λ_ _ d _=>kr d) N ((U203.v (Au.v a {data:= #[ax 107,ax 101,ax 112,ax 116]}).1).1.length:az) 0 (aT [Ck.s,Ck.i ar,Ck.i ar,Ck.s] 0) (U203.v (Au.v a {data:= #[ax 107,ax 101,ax 112,ax 116]}).1).1 else ao else ao else ao
def vo:=b Lib.c9 λr0=>aj r0
def c:=λa=>(vo a).isSome
def v:=λa=>(vo a).getD ([])
theorem out{x}:∀a,vo a=aj x->c a=ak/\v a=x:=λ_=>Lib.dB
end U118

end Go.FG
