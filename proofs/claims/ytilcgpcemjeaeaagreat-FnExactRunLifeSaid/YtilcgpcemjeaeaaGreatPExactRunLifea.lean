/- Functions of the program, told as functions of numbers, texts and lists, and what each comes to. No condition but those that each states. -/
import Derived.Test.YtilcgpcemjeaeaaGreatLib
set_option linter.unusedVariables false
set_option linter.unusedSimpArgs false
set_option maxRecDepth 100000
open BitVec renaming toNat->g9,xor->oV,ofInt->dm,and->CM
open Bool renaming cond_eq_ite->ca,false->ak,true->ai,and_self->aJ,true_and->bm,false_eq_true->dt,not_true->aX,or_true->Lm,and_false->wM,not_false->bS
open ByteArray renaming toList->aA,size->b8,extract->bP
open Go.IntKind renaming i64->ao,wrap->bE,u32->eI,u8->ba
open Go.Op renaming bytesLess->b9
open Int renaming toNat->bc,tmod->cT,tdiv->c7,fdiv->pP,pow->ja,tmod_eq_emod_of_nonneg->jD,mul_le_mul_of_nonneg_right->EH,neg->Lt
open List renaming mem_map->cw,getD->gg,set->aL,beq->cW,length->bK,range->ch,range'->iw,all_cons->pQ,range'_zero->Yf,range_eq_range'->zO,length_append->cf,length_singleton->bC,take->gY,drop->m9
open Nat renaming le_trans->dc,lt_irrefl->bg,sub_zero->oN
open Option renaming none->aj,some->ah
open UInt8 renaming ofNat->aP
open _root_ renaming Int->aw,Option->ay,ByteArray->aq,Bool->aY,Nat->aC,decide_eq_true->aE,decide_eq_false->aG,cond_false->ax,of_decide_eq_true->cF,cond_true->au,decide_false->a_,decide_true->aM,decide_eq_decide->cg,if_neg->bH,if_pos->bB
namespace Go.FG
variable {R:Type}
abbrev iK(R:Type):=aQ->aw->aw->aw->ay R
abbrev qt(R:Type):=aQ->aw->aQ->ay R
abbrev Ns(R:Type):=aw->aw->aq->aw->aQ->ay R
abbrev pO(R:Type):=aw->aw->aw->ay R
abbrev jC(R:Type):=aw->aw->aw->aQ->ay R
abbrev EG(R:Type):=aQ->aw->ay R
abbrev sW(R:Type):=aQ->aQ->aQ->aw->ay R
abbrev eP(R:Type):=aw->aQ->aQ->aQ->aQ->aw->aQ->aQ->aw->ay R
abbrev qY(R:Type):=aw->aQ->aw->aw->aw->ay R
abbrev oW(R:Type):=aw->aQ->aw->aw->aw->aQ->ay R
abbrev Lq(R:Type):=aQ->aq->aY->aw->ay R
abbrev GQ(R:Type):=aY->aw->aw->aQ->aw->ay R
abbrev Ln(R:Type):=aY->aw->aQ->aw->ay R
abbrev zD(R:Type):=aY->aw->aQ->aQ->aQ->aw->aQ->ay R
abbrev g_(R:Type):=aY->aw->aw->aQ->aQ->aQ->aQ->aw->aQ->aQ->aw->ay R
abbrev lx(R:Type):=aw->aY->aw->aw->aQ->aQ->aQ->aQ->aw->aQ->aQ->aw->aq->aq->aw->aw->aw->ay R
abbrev mc(R:Type):=aq->aY->aw->aw->aQ->aQ->aQ->aQ->aw->aQ->aQ->aw->aq->aw->aw->aq->ay R
abbrev wQ(R:Type):=aq->aw->aw->aq->aY->ay R
abbrev zF(R:Type):=aw->aq->aw->aw->ay R
abbrev Fy(R:Type):=aw->aq->aw->ay R
abbrev ud(R:Type):=aw->aw->aw->aw->aQ->ay R
abbrev GZ(R:Type):=aq->aw->aw->aw->aQ->ay R
abbrev zH(R:Type):=aQ->aq->aw->aQ->ay R
abbrev G0(R:Type):=aq->aw->aw->aQ->aw->ay R
abbrev Nu(R:Type):=aQ->aQ->aQ->aw->aq->ay R
abbrev kR(R:Type):=aQ->aw->aw->aq->aw->aw->aw->aq->aw->aQ->ay R
abbrev gC(R:Type):=aq->aY->aw->aw->aQ->aQ->aQ->aQ->aw->aQ->aQ->aw->aw->aw->aw->aw->aw->aw->aw->aq->aw->aw->aw->aq->aw->aQ->aQ->aQ->aQ->aQ->aQ->ay R
abbrev iJ(R:Type):=aw->aq->aw->aw->aw->aQ->aQ->aQ->aQ->aw->aQ->aQ->aw->aw->aw->aw->aw->aw->aw->aQ->aQ->aQ->aQ->aQ->aQ->ay R
abbrev wP(R:Type):=aw->aQ->aQ->aQ->aQ->aw->aQ->aQ->aw->aw->ay R
abbrev Nt(R:Type):=aw->aq->aQ->ay R
abbrev GR(R:Type):=aY->aw->aw->aq->aQ->ay R
abbrev GV(R:Type):=aw->aq->aQ->aY->ay R
abbrev jB(R:Type):=aw->aw->aw->aw->aw->aw->aQ->aQ->aQ->aQ->aQ->aQ->ay R
abbrev kP(R:Type):=aw->aQ->aQ->aQ->aQ->aw->aQ->aQ->aw->aY->ay R
abbrev oL(R:Type):=aQ->aw->aq->aw->aw->aq->aQ->ay R
abbrev uO(R:Type):=aw->aQ->ay R
abbrev zI(R:Type):=aq->aY->ay R
abbrev Jl(R:Type):=aQ->aY->ay R
abbrev RY(R:Type):=aY->aw->aQ->ay R
abbrev me(R:Type):=aq->aw->aw->aQ->ay R
abbrev lJ(R:Type):=aw->aQ->aq->aq->aw->aQ->ay R
abbrev qZ(R:Type):=aw->aQ->aq->aq->aw->ay R
abbrev vi(R:Type):=aq->aw->aQ->ay R
abbrev vK(R:Type):=aq->aw->aQ->aQ->ay R
abbrev zG(R:Type):=aQ->aw->aw->aQ->ay R
abbrev nX(R:Type):=aw->aw->aQ->aQ->aQ->aQ->aw->aQ->aQ->aw->aQ->aQ->aQ->ay R
abbrev i_(R:Type):=aw->aw->aw->aQ->aQ->aQ->aQ->aw->aQ->aQ->aw->aw->aw->aw->aw->aw->aw->aQ->aQ->aQ->aQ->aQ->aQ->ay R
abbrev vI(R:Type):=aQ->aw->aQ->aQ->ay R
abbrev vJ(R:Type):=aq->aw->aw->aw->aY->aw->aw->aw->ay R
abbrev Nr(R:Type):=aw->aw->aY->ay R
abbrev Nv(R:Type):=aq->aw->aY->ay R
abbrev RZ(R:Type):=aw->aQ->aQ->ay R
abbrev B_(R:Type):=aQ->aY->aq->aw->aQ->ay R
abbrev Jm(R:Type):=aQ->aY->aq->aw->aQ->aQ->ay R
abbrev mG(R:Type):=aw->aQ->aw->aw->aw->aw->aw->aw->aw->aQ->aQ->aQ->aQ->aQ->aQ->ay R
abbrev iz(R:Type):=aw->aw->aw->aw->aQ->aQ->aQ->aQ->aQ->aQ->aQ->aQ->aQ->aQ->aQ->ay R
abbrev mH(R:Type):=aw->aQ->aQ->aQ->aQ->aw->aQ->aQ->aw->aQ->aQ->aQ->ay R
abbrev lz(R:Type):=aQ->aw->aw->aw->aw->aw->aw->aw->aQ->aQ->aQ->aQ->aQ->aQ->aQ->aQ->aQ->ay R
abbrev CS(R:Type):=aQ->aY->aw->aw->aw->aw->ay R
abbrev sg(R:Type):=aw->aQ->aQ->aQ->aQ->aw->aQ->aQ->aw->aQ->aQ->aQ->aY->ay R
abbrev kQ(R:Type):=aQ->aw->aw->aw->aw->ay R
abbrev oX(R:Type):=aQ->aw->aw->aw->aw->aQ->ay R
abbrev GX(R:Type):=aQ->aw->aQ->aw->aw->ay R
abbrev hZ(R:Type):=aQ->aq->aw->aw->aw->ay R
abbrev qX(R:Type):=aY->aQ->aQ->aw->aw->aQ->aw->aw->aQ->aw->ay R
abbrev CP(R:Type):=aY->aQ->aw->aw->aQ->aw->ay R
abbrev vF(R:Type):=aY->aw->aw->aQ->aQ->aQ->aw->aQ->ay R
abbrev eS(R:Type):=aY->aQ->aw->aw->aw->aQ->aQ->aQ->aQ->aw->aQ->aQ->aw->ay R
abbrev qa(R:Type):=aQ->aw->aq->aw->aw->aw->aq->aw->aw->aw->aw->ay R
abbrev vG(R:Type):=aC->aw->aw->aw->aw->aw->aw->aQ->ay R
abbrev CU(R:Type):=aq->aw->aw->aw->aw->aQ->ay R
abbrev G1(R:Type):=aq->aw->aQ->aw->aw->ay R
abbrev ly(R:Type):=aw->aw->aw->aw->aw->aq->aw->aw->aw->aq->aw->aQ->aQ->aQ->aQ->aQ->aQ->ay R
abbrev zE(R:Type):=aY->aQ->aw->aw->aw->aq->aQ->ay R
abbrev nW(R:Type):=aw->aw->aw->aw->aw->aw->aw->aQ->aQ->aQ->aQ->aQ->aQ->ay R
abbrev CR(R:Type):=aw->aq->aw->aw->aq->aQ->ay R
abbrev GS(R:Type):=aY->aQ->aw->aw->aQ->ay R
abbrev GW(R:Type):=aw->aq->aq->aw->aQ->ay R
abbrev CT(R:Type):=aQ->aw->aQ->aw->aw->aQ->ay R
abbrev BG(R:Type):=aY->aw->aQ->aQ->aQ->aQ->aw->aQ->aQ->aw->aQ->aQ->aQ->ay R
abbrev GY(R:Type):=aQ->aQ->aw->aw->aQ->ay R
abbrev zJ(R:Type):=aq->aw->aw->aw->aY->aw->aw->ay R
abbrev Lp(R:Type):=aw->aw->aQ->aQ->ay R
abbrev CQ(R:Type):=aY->aq->aQ->aw->aw->aQ->ay R
abbrev mb(R:Type):=aw->aQ->aw->aw->aw->aw->aw->aw->aw->aw->aQ->aQ->aQ->aQ->aQ->aQ->ay R
abbrev ma(R:Type):=aw->aw->aw->aw->aw->aQ->aQ->aQ->aQ->aQ->aQ->aQ->aQ->aQ->aQ->aQ->ay R
abbrev kC(R:Type):=aQ->aw->aw->aw->aw->aw->aw->aw->aw->aQ->aQ->aQ->aQ->aQ->aQ->aQ->aQ->aQ->ay R
abbrev vH(R:Type):=aQ->aY->aQ->aw->aw->aw->aw->aw->ay R
abbrev iL(R:Type):=aQ->aQ->aY->aw->ay R
abbrev agf(R:Type):=aw->aq->ay R
abbrev kh(R:Type):=aw->aw->aQ->ay R
abbrev agd(R:Type):=aw->aQ->aQ->aQ->ay R
abbrev P6(R:Type):=aw->aQ->aQ->aQ->aQ->aQ->aQ->ay R
abbrev GU(R:Type):=aw->aQ->aQ->aQ->aQ->aQ->aQ->aQ->aQ->aQ->ay R

namespace BM
def b(kr:aw->ay R)(a:aQ)(d:aw):ay R:=bif decide (br (d-(a.length:aw))<0)then kr (-1)else kr (br (d-(a.length:aw)))
def v(a0:aQ)(a1:aw):aw:=bif decide (br (a1-(a0.length:aw))<0)then-1 else br (a1-(a0.length:aw))
theorem dP(kr:aw->ay R)(a0:aQ)(a1:aw):b kr a0 a1=kr (v a0 a1):=by first|rfl|(unfold b v;simp only[ca];(repeat' split)<;>rfl)
theorem fits{a:aQ}{L:aw}(h0:0<=L)(h1:L<=1048576)(ha:ng a)(h:decide (v a L<0)=ak):a.length<=1048576/\v a L=L-a.length:=by
 have e:=Lib.PK h0 h1 ha.1;unfold v at h⊢;rw[e]at h⊢;by_cases hc:L-(a.length:aw)<0
 ·rw[aE hc]at h;cases h
 ·rw[aG hc];exact⟨by omega,rfl⟩
end BM

namespace TA
def b(kr:aw->ay R)(a d:aw)(e:aq)(f:aw)(h:aQ)(i:aw):ay R:=bif decide (br (i-(e.size:aw))<0)then kr (-1)else bif decide (BM.v h (br (i-(e.size:aw)))<0)then kr (-1)else kr (BM.v h (br (i-(e.size:aw))))
def v(a0 a1:aw)(a2:aq)(a3:aw)(a4:aQ)(a5:aw):aw:=bif decide (br (a5-(a2.size:aw))<0)then-1 else bif decide (BM.v a4 (br (a5-(a2.size:aw)))<0)then-1 else BM.v a4 (br (a5-(a2.size:aw)))
theorem dP(kr:aw->ay R)(a0 a1:aw)(a2:aq)(a3:aw)(a4:aQ)(a5:aw):b kr a0 a1 a2 a3 a4 a5=kr (v a0 a1 a2 a3 a4 a5):=by first|rfl|(unfold b v;simp only[ca];(repeat' split)<;>rfl)
theorem fits{x y:aw}{t:aq}{z:aw}{a:aQ}{L:aw}(h0:0<=L)(h1:L<=1048576)(ht:CD t)(ha:ng a)(h:decide (v x y t z a L<0)=ak):t.size<=1048576/\a.length<=1048576:=by
 have e:=Lib.PK h0 h1 (dc ht (by omega));unfold v at h;rw[e]at h;by_cases hc:L-(t.size:aw)<0
 ·rw[aE hc]at h;cases h
 ·rw[aG hc,ax]at h;cases h2:decide (BM.v a (L-t.size)<0)with
  |true=>rw[h2]at h;cases h
  |false=>exact⟨by omega,(BM.fits (by omega) (by omega) ha h2).1⟩
end TA

namespace Jv
def r5(N:aC)(g k0 k1:iK R)(a:aQ)(d e f:aw):ay R:=bif decide (f<(a.length:aw))then bif decide (0<=f)&&decide (f<(a.length:aw))then bif decide (TA.v (bF (ar a f.toNat 0)) (bF (ar a f.toNat 1)) (bz (ar a f.toNat (1+1))) (bF (ar a f.toNat (1+1+1))) (gD (ar a f.toNat (1+1+1+1))) d<0)then k0 a (TA.v (bF (ar a f.toNat 0)) (bF (ar a f.toNat 1)) (bz (ar a f.toNat (1+1))) (bF (ar a f.toNat (1+1+1))) (gD (ar a f.toNat (1+1+1+1))) d) (-1) f else g a (TA.v (bF (ar a f.toNat 0)) (bF (ar a f.toNat 1)) (bz (ar a f.toNat (1+1))) (bF (ar a f.toNat (1+1+1))) (gD (ar a f.toNat (1+1+1+1))) d) e (br (f+1))else aj else k1 a d e f
def l5(N:aC)(k0 k1:iK R):aC->iK R
 |0=>λ_ _ _ _=>aj
 |n+1=>r5 N (l5 N k0 k1 n) k0 k1
def b(N:aC)(kr:aw->ay R)(a:aQ)(d:aw):ay R:=bif decide (br (d-(a.length:aw))<0)then kr (-1)else l5 N (λ_ _ e _=>kr e) (λ_ f _ _=>kr f) N a (br (d-(a.length:aw))) 0 0
def vo:=b Lib.cy λr0=>ah r0
def c:=λa d=>(vo a d).isSome
def v:=λa d=>(vo a d).getD (0)
theorem out{x}:∀a d,vo a d=ah x->c a d=ai/\v a d=x:=λ_ _=>Lib.cY
end Jv

namespace s6
def r3(N:aC)(g k0:qt R)(a:aQ)(d:aw)(e:aQ):ay R:=bif decide (d<(a.length:aw))then bif decide (0<=d)&&decide (d<(a.length:aw))then bif decide (0<=d)&&decide (d<(e.length:aw))then g a (br (d+1)) (cK e d.toNat 0 [.i .i64 (bF (ar a d.toNat 0))])else aj else aj else k0 a d e
def l3(N:aC)(k0:qt R):aC->qt R
 |0=>λ_ _ _=>aj
 |n+1=>r3 N (l3 N k0 n) k0
def b(N:aC)(kr:aQ->ay R)(a:aQ):ay R:=bif decide ((a.length:aw)=(a.length:aw))&&cC (a.length:aw).toNat 8 then l3 N (λ_ _ d=>kr d) N a 0 (aN [Ck.i ao] (a.length:aw).toNat)else aj
def v(a0:aQ):aQ:=a0.map λy=>[CV.i ao (bF (y.getD 0 (.b ak)))]
def c(a0:aQ):aY:=decide (a0.length<=1048576)
theorem dP(kr:aQ->ay R)(a0:aQ)(hc:c a0=ai):∃N,b N kr a0=kr (v a0):=by
 have hl:a0.length<=1048576:=cF hc;refine⟨a0.length+1, ?_⟩
 unfold b;rw[show decide ((a0.length:aw)=(a0.length:aw))=ai by simp,Lib.dU,Lib.cm (by omega) (by omega),aJ,au];refine Lib.T4 (ks:=[Ck.i ao]) (v a0) a0.length (by unfold v;simp) (λy hy=> ?_) (λm (i:aC) x=>l3 (a0.length+1) (λ_ _ y=>kr y) m a0 i x) kr (λm=> ?_) (λm i hi x hx=> ?_)
 ·unfold v at hy;obtain⟨z,_,rfl⟩:=cw.1 hy;rfl
 ·simp only[l3,r3,Lib.de,bg,a_,ax]
 ·have E_:i<x.length:=by omega
  have e:(v a0).getD i []=[CV.i ao (bF (ar a0 i 0))]:=by unfold v;simp[gg,hi,ar]
  simp only[l3,r3,Lib.de,Lib.cz,Lib.dU,hi,E_,aM,bm,au,Lib.c5 hi (by omega),e]
end s6

namespace U65
def b(kr:Ns R)(a d:aw)(e:aq)(f:aw)(h:aQ):ay R:=bif s6.c h then kr a d e f (s6.v h)else aj
def v(E0:aw)(E1:aw)(E2:aq)(E3:aw)(C7:aQ):aw×aw×aq×aw×aQ:=(E0,E1,E2,E3,s6.v C7)
def c(E0:aw)(E1:aw)(E2:aq)(E3:aw)(C7:aQ):aY:=s6.c C7
theorem dP(kr:Ns R)(E0:aw)(E1:aw)(E2:aq)(E3:aw)(C7:aQ)(hc:c E0 E1 E2 E3 C7=ai):b kr E0 E1 E2 E3 C7=kr (v E0 E1 E2 E3 C7).1 (v E0 E1 E2 E3 C7).2.1 (v E0 E1 E2 E3 C7).2.2.1 (v E0 E1 E2 E3 C7).2.2.2.1 (v E0 E1 E2 E3 C7).2.2.2.2:=by unfold c at hc;unfold b v;rw[hc];rfl
end U65

namespace LF
def r3(N:aC)(g k0:qt R)(a:aQ)(d:aw)(e:aQ):ay R:=bif decide (d<(a.length:aw))then bif decide (0<=d)&&decide (d<(a.length:aw))then bif U65.c (bF (ar a d.toNat 0)) (bF (ar a d.toNat 1)) (bz (ar a d.toNat (1+1))) (bF (ar a d.toNat (1+1+1))) (gD (ar a d.toNat (1+1+1+1)))then bif decide (0<=d)&&decide (d<(e.length:aw))then g a (br (d+1)) (cK e d.toNat 0 [.i .i64 (bF (ar a d.toNat 0)), .i .i64 (bF (ar a d.toNat 1)), .s (bz (ar a d.toNat (1+1))), .i .i64 (bF (ar a d.toNat (1+1+1))),CV.l 3 (s6.v (gD (ar a d.toNat (1+1+1+1))))])else aj else aj else aj else k0 a d e
def l3(N:aC)(k0:qt R):aC->qt R
 |0=>λ_ _ _=>aj
 |n+1=>r3 N (l3 N k0 n) k0
def b(N:aC)(kr:aQ->ay R)(a:aQ):ay R:=bif decide ((a.length:aw)=(a.length:aw))&&cC (a.length:aw).toNat 64 then l3 N (λ_ _ d=>kr d) N a 0 (aN [Ck.i ao,Ck.i ao,Ck.s,Ck.i ao,Ck.l 3] (a.length:aw).toNat)else aj
def vo:=b Lib.cy λr0=>ah r0
def c:=λa=>(vo a).isSome
def v:=λa=>(vo a).getD ([])
theorem out{x}:∀a,vo a=ah x->c a=ai/\v a=x:=λ_=>Lib.cY
end LF

namespace kq
def b(kr:aY->ay R)(a d e:aw):ay R:=bif decide (a≥d)then kr (decide (a<=e))else kr ak
def v(a0 a1 a2:aw):aY:=bif decide (a0≥a1)then decide (a0<=a2)else ak
theorem dP(kr:aY->ay R)(a0 a1 a2:aw):b kr a0 a1 a2=kr (v a0 a1 a2):=by first|rfl|(unfold b v;simp only[ca];(repeat' split)<;>rfl)
end kq

namespace U56
def b(kr:aY->ay R)(a d:aw)(e:aq)(f:aw)(h:aQ):ay R:=bif kq.v a 1 7 then bif kq.v d 0 30 then bif decide ((e.size:aw)<=60)then bif decide (f≥0)then kr (decide ((h.length:aw)<=4))else kr ak else kr ak else kr ak else kr ak
def v(a0 a1:aw)(a2:aq)(a3:aw)(a4:aQ):aY:=bif kq.v a0 1 7 then bif kq.v a1 0 30 then bif decide ((a2.size:aw)<=60)then bif decide (a3≥0)then decide ((a4.length:aw)<=4)else ak else ak else ak else ak
theorem dP(kr:aY->ay R)(a0 a1:aw)(a2:aq)(a3:aw)(a4:aQ):b kr a0 a1 a2 a3 a4=kr (v a0 a1 a2 a3 a4):=by first|rfl|(unfold b v;simp only[ca];(repeat' split)<;>rfl)
end U56

namespace HO
def r3(N:aC)(g:pO R)(g1:jC R)(k0:pO R)(k1:jC R)(a d e:aw):ay R:=bif decide (a<3)then g1 (br (a+1)) d e ([]++aL (aN [Ck.l 3] 1) 0 [CV.l 3 (aN [Ck.i ao] (bc 16))])else k0 a d e
def AY(N:aC)(g:pO R)(g1:jC R)(k0:pO R)(k1:jC R)(a d e:aw)(f:aQ):ay R:=bif decide (a<3)then bif cC (f.length+(aL (aN [Ck.l 3] 1) 0 [CV.l 3 (aN [Ck.i ao] (bc 16))]).length) 24 then g1 (br (a+1)) d e (f++aL (aN [Ck.l 3] 1) 0 [CV.l 3 (aN [Ck.i ao] (bc 16))])else aj else k1 a d e f
def sK(N:aC)(k0:pO R)(k1:jC R):aC->jC R
 |0=>λ_ _ _ _=>aj
 |n+1=>AY N (λx0 x1 x2=>aj) (sK N k0 k1 n) k0 k1
def l3(N:aC)(k0:pO R)(k1:jC R):aC->pO R
 |0=>λ_ _ _=>aj
 |n+1=>r3 N (l3 N k0 k1 n) (sK N k0 k1 n) k0 k1
def b(N:aC)(kr:EG R):ay R:=l3 N (λ_ _ a=>kr [] a) (λ_ _ d e=>kr e d) N 0 0 0
def vo:=b Lib.cy λr0 r1=>ah (r0,r1)
def c:=vo.isSome
def v:=vo.getD ([],0)
end HO

namespace Yg
def b(kr:sW R):ay R:=kr [] [] ([]++aL (aN [Ck.l 3] 1) 0 [CV.l 3 (aN [Ck.i ao] (bc 16))]++aL (aN [Ck.l 3] 1) 0 [CV.l 3 (aN [Ck.i ao] (bc 16))]++aL (aN [Ck.l 3] 1) 0 [CV.l 3 (aN [Ck.i ao] (bc 16))]) 0
def v:aQ×aQ×aQ×aw:=([],[],[]++aL (aN [Ck.l 3] 1) 0 [CV.l 3 (aN [Ck.i ao] (bc 16))]++aL (aN [Ck.l 3] 1) 0 [CV.l 3 (aN [Ck.i ao] (bc 16))]++aL (aN [Ck.l 3] 1) 0 [CV.l 3 (aN [Ck.i ao] (bc 16))],0)
theorem dP(kr:sW R):b kr=kr v.1 v.2.1 v.2.2.1 v.2.2.2:=by first|rfl|(unfold b v;simp only[ca];(repeat' split)<;>rfl)
end Yg

namespace U57
def b(kr:eP R):ay R:=kr 1 [] [] [] ([]++aL (aN [Ck.l 3] 1) 0 [CV.l 3 (aN [Ck.i ao] (bc 16))]++aL (aN [Ck.l 3] 1) 0 [CV.l 3 (aN [Ck.i ao] (bc 16))]++aL (aN [Ck.l 3] 1) 0 [CV.l 3 (aN [Ck.i ao] (bc 16))]) 0 [] [] 0
def v:aw×aQ×aQ×aQ×aQ×aw×aQ×aQ×aw:=(1,[],[],[],[]++aL (aN [Ck.l 3] 1) 0 [CV.l 3 (aN [Ck.i ao] (bc 16))]++aL (aN [Ck.l 3] 1) 0 [CV.l 3 (aN [Ck.i ao] (bc 16))]++aL (aN [Ck.l 3] 1) 0 [CV.l 3 (aN [Ck.i ao] (bc 16))],0,[],[],0)
theorem dP(kr:eP R):b kr=kr v.1 v.2.1 v.2.2.1 v.2.2.2.1 v.2.2.2.2.1 v.2.2.2.2.2.1 v.2.2.2.2.2.2.1 v.2.2.2.2.2.2.2.1 v.2.2.2.2.2.2.2.2:=by first|rfl|(unfold b v;simp only[ca];(repeat' split)<;>rfl)
end U57

namespace nY
def r3(N:aC)(g:qY R)(g1:oW R)(k0:qY R)(k1:oW R)(a:aw)(d:aQ)(e f h:aw):ay R:=bif decide (a<(d.length:aw))then bif decide (0<=a)&&decide (a<(d.length:aw))then bif cC ((aN [Ck.i ao] 0).length+(gD (ar d a.toNat 0)).length) 8 then g1 (br (a+1)) d e f h ([]++aL (aN [Ck.l 3] 1) 0 [CV.l 3 (aN [Ck.i ao] 0++gD (ar d a.toNat 0))])else aj else aj else k0 a d e f h
def AY(N:aC)(g:qY R)(g1:oW R)(k0:qY R)(k1:oW R)(a:aw)(d:aQ)(e f h:aw)(i:aQ):ay R:=bif decide (a<(d.length:aw))then bif decide (0<=a)&&decide (a<(d.length:aw))then bif cC ((aN [Ck.i ao] 0).length+(gD (ar d a.toNat 0)).length) 8 then bif cC (i.length+(aL (aN [Ck.l 3] 1) 0 [CV.l 3 (aN [Ck.i ao] 0++gD (ar d a.toNat 0))]).length) 24 then g1 (br (a+1)) d e f h (i++aL (aN [Ck.l 3] 1) 0 [CV.l 3 (aN [Ck.i ao] 0++gD (ar d a.toNat 0))])else aj else aj else aj else k1 a d e f h i
def sK(N:aC)(k0:qY R)(k1:oW R):aC->oW R
 |0=>λ_ _ _ _ _ _=>aj
 |n+1=>AY N (λx0 x1 x2 x3 x4=>aj) (sK N k0 k1 n) k0 k1
def l3(N:aC)(k0:qY R)(k1:oW R):aC->qY R
 |0=>λ_ _ _ _ _=>aj
 |n+1=>r3 N (l3 N k0 k1 n) (sK N k0 k1 n) k0 k1
def b(N:aC)(kr:EG R)(a:aQ)(d:aw):ay R:=l3 N (λ_ _ _ _ e=>kr [] e) (λ_ _ _ _ f h=>kr h f) N 0 a d 0 d
def vo:=b Lib.cy λr0 r1=>ah (r0,r1)
def c:=λa d=>(vo a d).isSome
def v:=λa d=>(vo a d).getD ([],0)
theorem out{x}:∀a d,vo a d=ah x->c a d=ai/\v a d=x:=λ_ _=>Lib.cY
end nY

namespace gh
def b(kr:sW R)(a d e:aQ)(f:aw):ay R:=bif cC ((aN [.s] 0).length+a.length) 16 then bif cC ((aN [.s] 0).length+d.length) 16 then bif nY.c e f then kr (aN [.s] 0++a) (aN [.s] 0++d) (nY.v e f).1 (nY.v e f).2 else aj else aj else aj
def vo:=b λr0 r1 r2 r3=>ah (r0,r1,r2,r3)
def c:=λa d e f=>(vo a d e f).isSome
def v:=λa d e f=>(vo a d e f).getD ([],[],[],0)
theorem out{x}:∀a d e f,vo a d e f=ah x->c a d e f=ai/\v a d e f=x:=λ_ _ _ _=>Lib.cY
end gh

namespace fJ
def b(kr:eP R)(a:aw)(d e f h:aQ)(i:aw)(j l:aQ)(m:aw):ay R:=bif cC ((aN [Ck.s,Ck.i ao,Ck.i ao,Ck.s] 0).length+d.length) 48 then bif gh.c e f h i then bif cC ((aN [Ck.s,Ck.s,Ck.i ao,Ck.i ao,Ck.i ao] 0).length+j.length) 56 then bif cC ((aN [Ck.i ao,Ck.s,Ck.i ao,Ck.i ao,Ck.i ao,Ck.s,Ck.i ao] 0).length+l.length) 72 then kr a (aN [Ck.s,Ck.i ao,Ck.i ao,Ck.s] 0++d) (gh.v e f h i).1 (gh.v e f h i).2.1 (gh.v e f h i).2.2.1 (gh.v e f h i).2.2.2 (aN [Ck.s,Ck.s,Ck.i ao,Ck.i ao,Ck.i ao] 0++j) (aN [Ck.i ao,Ck.s,Ck.i ao,Ck.i ao,Ck.i ao,Ck.s,Ck.i ao] 0++l) m else aj else aj else aj else aj
def vo:=b λr0 r1 r2 r3 r4 r5 r6 r7 r8=>ah (r0,r1,r2,r3,r4,r5,r6,r7,r8)
def c:=λa d e f h i j l m=>(vo a d e f h i j l m).isSome
def v:=λa d e f h i j l m=>(vo a d e f h i j l m).getD (0,[],[],[],[],0,[],[],0)
theorem out{x}:∀a d e f h i j l m,vo a d e f h i j l m=ah x->c a d e f h i j l m=ai/\v a d e f h i j l m=x:=λ_ _ _ _ _ _ _ _ _=>Lib.cY
end fJ

namespace s5
def b(kr:aY->ay R)(a:aq):ay R:=kr (kq.v (a.size:aw) 1 30)
def v(a0:aq):aY:=(kq.v (a0.size:aw) 1 30)
theorem dP(kr:aY->ay R)(a0:aq):b kr a0=kr (v a0):=by first|rfl|(unfold b v;simp only[ca];(repeat' split)<;>rfl)
end s5

namespace nq
def b(kr:aY->ay R)(a:aq)(d e:aw)(f:aq):ay R:=bif s5.v a then bif kq.v d 0 1000000000 then bif kq.v e 1 999999 then kr (decide ((f.size:aw)<=400))else kr ak else kr ak else kr ak
def v(a0:aq)(a1 a2:aw)(a3:aq):aY:=bif s5.v a0 then bif kq.v a1 0 1000000000 then bif kq.v a2 1 999999 then decide ((a3.size:aw)<=400)else ak else ak else ak
theorem dP(kr:aY->ay R)(a0:aq)(a1 a2:aw)(a3:aq):b kr a0 a1 a2 a3=kr (v a0 a1 a2 a3):=by first|rfl|(unfold b v;simp only[ca];(repeat' split)<;>rfl)
theorem KL{k:aq}{s l:aw}{b:aq}(h:v k s l b=ai):(1<=k.size/\k.size<=30)/\(0<=s/\s<=1000000000)/\(1<=l/\l<=999999)/\b.size<=400:=by unfold v at h;cases h1:s5.v k<;>rw[h1]at h<;>simp only[au,ax,dt]at h;cases h2:kq.v s 0 1000000000<;>rw[h2]at h<;>simp only[au,ax,dt]at h;cases h3:kq.v l 1 999999<;>rw[h3]at h<;>simp only[au,ax,dt]at h;simp[s5.v,kq.v]at h1 h2 h3;have:=cF h;omega
end nq

namespace fu
def r2(N:aC)(g k0 k1:Lq R)(a:aQ)(d:aq)(e:aY)(f:aw):ay R:=bif decide (f<(a.length:aw))then bif decide (0<=f)&&decide (f<(a.length:aw))then bif cW (bz (ar a f.toNat 0)).toList (aA d)then k0 a d ai f else g a d e (br (f+1))else aj else k1 a d e f
def l2(N:aC)(k0 k1:Lq R):aC->Lq R
 |0=>λ_ _ _ _=>aj
 |n+1=>r2 N (l2 N k0 k1 n) k0 k1
def b(N:aC)(kr:aY->ay R)(a:aQ)(d:aq):ay R:=l2 N (λ_ _ e _=>kr e) (λ_ _ _ _=>kr ak) N a d ak 0
def vo:=b Lib.cy λr0=>ah r0
def c:=λa d=>(vo a d).isSome
def v:=λa d=>(vo a d).getD ak
theorem out{x}:∀a d,vo a d=ah x->c a d=ai/\v a d=x:=λ_ _=>Lib.cY
end fu

namespace s7
def b(kr:aY->ay R)(a d e:aQ)(f:aw)(h:aq):ay R:=bif fu.c a h then bif fu.v a h then kr ai else bif fu.c d h then kr (fu.v d h)else aj else aj
def vo:=b λr0=>ah r0
def c:=λa d e f h=>(vo a d e f h).isSome
def v:=λa d e f h=>(vo a d e f h).getD ak
theorem out{x}:∀a d e f h,vo a d e f h=ah x->c a d e f h=ai/\v a d e f h=x:=λ_ _ _ _ _=>Lib.cY
end s7

namespace fK
def r9(N:aC)(g k0 k1:GQ R)(a:aY)(d e:aw)(f:aQ)(h:aw):ay R:=bif decide (0<=d)&&decide (d<(f.length:aw))then bif decide (e<((gD (ar f d.toNat 0)).length:aw))then bif decide (0<=d)&&decide (d<(f.length:aw))then bif decide (0<=e)&&decide (e<((gD (ar f d.toNat 0)).length:aw))then bif !kq.v (bF (ar (gD (ar f d.toNat 0)) e.toNat 0)) 0 15 then k0 ak d e f h else g a d (br (e+1)) f h else aj else aj else k1 a d e f h else aj
def l9(N:aC)(k0 k1:GQ R):aC->GQ R
 |0=>λ_ _ _ _ _=>aj
 |n+1=>r9 N (l9 N k0 k1 n) k0 k1
def r4(N:aC)(g k0 k1:Ln R)(a:aY)(d:aw)(e:aQ)(f:aw):ay R:=bif decide (d<(e.length:aw))then bif decide (0<=d)&&decide (d<(e.length:aw))then bif((gD (ar e d.toNat 0)).length:aw) !=16 then k0 ak d e f else l9 N (λh i _ j l=>k0 h i j l) (λm o _ p q=>g m (br (o+1)) p q) N a d 0 e f else aj else k1 a d e f
def l4(N:aC)(k0 k1:Ln R):aC->Ln R
 |0=>λ_ _ _ _=>aj
 |n+1=>r4 N (l4 N k0 k1 n) k0 k1
def b(N:aC)(kr:aY->ay R)(a:aQ)(d:aw):ay R:=bif(a.length:aw) !=3 then kr ak else bif !kq.v d 0 63 then kr ak else l4 N (λe _ _ _=>kr e) (λ_ _ _ _=>kr ai) N ak 0 a d
def vo:=b Lib.cy λr0=>ah r0
def c:=λa d=>(vo a d).isSome
def v:=λa d=>(vo a d).getD ak
theorem out{x}:∀a d,vo a d=ah x->c a d=ai/\v a d=x:=λ_ _=>Lib.cY
end fK

namespace jR
def r3(N:aC)(g k0 k1:zD R)(a:aY)(d:aw)(e f h:aQ)(i:aw)(j:aQ):ay R:=bif decide (d<(j.length:aw))then bif decide (0<=d)&&decide (d<(j.length:aw))then bif !s5.v (bz (ar j d.toNat 0))then k0 ak d e f h i j else bif iA 0 d (j.length:aw)then bif decide (0<=d)&&decide (d<(j.length:aw))then bif fu.c (e8 j (bc 0) d.toNat) (bz (ar j d.toNat 0))then bif fu.v (e8 j (bc 0) d.toNat) (bz (ar j d.toNat 0))then k0 ak d e f h i j else g a (br (d+1)) e f h i j else aj else aj else aj else aj else k1 a d e f h i j
def l3(N:aC)(k0 k1:zD R):aC->zD R
 |0=>λ_ _ _ _ _ _ _=>aj
 |n+1=>r3 N (l3 N k0 k1 n) k0 k1
def b(N:aC)(kr:aY->ay R)(a d e:aQ)(f:aw):ay R:=bif cC ((aN [.s] 0).length+a.length) 16 then bif cC ((aN [.s] 0++a).length+d.length) 16 then l3 N (λh _ _ _ _ _ _=>kr h) (λ_ _ i j l m _=>bif decide ((i.length:aw)<=2)then bif decide ((j.length:aw)<=4)then bif fK.c l m then kr (fK.v l m)else aj else kr ak else kr ak) N ak 0 a d e f (aN [.s] 0++a++d)else aj else aj
def vo:=b Lib.cy λr0=>ah r0
def c:=λa d e f=>(vo a d e f).isSome
def v:=λa d e f=>(vo a d e f).getD ak
theorem out{x}:∀a d e f,vo a d e f=ah x->c a d e f=ai/\v a d e f=x:=λ_ _ _ _=>Lib.cY
end jR

namespace nM
def r2(N:aC)(g k0 k1:g_ R)(a:aY)(d e:aw)(f h i j:aQ)(l:aw)(m o:aQ)(p:aw):ay R:=bif decide (d<(f.length:aw))then bif decide (0<=d)&&decide (d<(f.length:aw))then bif !nq.v (bz (ar f d.toNat 0)) (bF (ar f d.toNat 1)) (bF (ar f d.toNat (1+1))) (bz (ar f d.toNat (1+1+1)))then k0 ak d e f h i j l m o p else bif decide (d>0)then bif decide (0<=br (d-1))&&decide (br (d-1)<(f.length:aw))then bif decide (0<=d)&&decide (d<(f.length:aw))then bif !Op.bytesLess (bz (ar f (br (d-1)).toNat 0)).toList (bz (ar f d.toNat 0)).toList then k0 ak d e f h i j l m o p else bif decide (0<=d)&&decide (d<(f.length:aw))then bif s7.c h i j l (bz (ar f d.toNat 0))then bif !s7.v h i j l (bz (ar f d.toNat 0))then k0 ak d e f h i j l m o p else g a (br (d+1)) e f h i j l m o p else aj else aj else aj else aj else bif decide (0<=d)&&decide (d<(f.length:aw))then bif s7.c h i j l (bz (ar f d.toNat 0))then bif !s7.v h i j l (bz (ar f d.toNat 0))then k0 ak d e f h i j l m o p else g a (br (d+1)) e f h i j l m o p else aj else aj else aj else k1 a d e f h i j l m o p
def l2(N:aC)(k0 k1:g_ R):aC->g_ R
 |0=>λ_ _ _ _ _ _ _ _ _ _ _=>aj
 |n+1=>r2 N (l2 N k0 k1 n) k0 k1
def b(N:aC)(kr:aY->ay R)(a:aw)(d e f h:aQ)(i:aw)(j l:aQ)(m:aw):ay R:=l2 N (λo _ _ _ _ _ _ _ _ _ _=>kr o) (λ_ _ _ p q r s t _ _ _=>bif jR.c q r s t then bif jR.v q r s t then kr (decide ((p.length:aw)=br ((q.length:aw)+(r.length:aw))))else kr ak else aj) N ak 0 a d e f h i j l m
def vo:=b Lib.cy λr0=>ah r0
def c:=λa d e f h i j l m=>(vo a d e f h i j l m).isSome
def v:=λa d e f h i j l m=>(vo a d e f h i j l m).getD ak
theorem out{x}:∀a d e f h i j l m,vo a d e f h i j l m=ah x->c a d e f h i j l m=ai/\v a d e f h i j l m=x:=λ_ _ _ _ _ _ _ _ _=>Lib.cY
end nM

namespace nN
def r5(N:aC)(g k0 k1:lx R)(a:aw)(d:aY)(e f:aw)(h i j l:aQ)(m:aw)(o p:aQ)(q:aw)(r s:aq)(t u w:aw):ay R:=bif decide (e<a)then bif decide (0<=e)&&decide (e<(o.length:aw))then bif cW (bz (ar o e.toNat 0)).toList (aA r)then bif decide (0<=e)&&decide (e<(o.length:aw))then bif decide (bF (ar o e.toNat 2)=1)then bif decide (t=1)then k0 a ak e f h i j l m o p q r s t u w else g a d (br (e+1)) f h i j l m o p q r s t u w else g a d (br (e+1)) f h i j l m o p q r s t u w else aj else g a d (br (e+1)) f h i j l m o p q r s t u w else aj else k1 a d e f h i j l m o p q r s t u w
def l5(N:aC)(k0 k1:lx R):aC->lx R
 |0=>λ_ _ _ _ _ _ _ _ _ _ _ _ _ _ _ _ _=>aj
 |n+1=>r5 N (l5 N k0 k1 n) k0 k1
def b(N:aC)(kr:aY->ay R)(a:aw)(d e f h:aQ)(i:aw)(j l:aQ)(m o:aw):ay R:=bif decide (0<=o)&&decide (o<(j.length:aw))then bif !s5.v (bz (ar j o.toNat 0))then kr ak else bif decide (((bz (ar j o.toNat 1)).size:aw)>400)then kr ak else bif !kq.v (bF (ar j o.toNat (1+1))) 1 3 then kr ak else bif !kq.v (bF (ar j o.toNat (1+1+1))) 0 999999 then kr ak else bif !kq.v (bF (ar j o.toNat (1+1+1+1))) 0 a then kr ak else l5 N (λ_ p _ _ _ _ _ _ _ _ _ _ _ _ _ _ _=>kr p) (λ_ _ _ _ _ _ _ _ _ _ _ _ _ _ _ _ _=>kr ai) N o ak 0 a d e f h i j l m (bz (ar j o.toNat 0)) (bz (ar j o.toNat 1)) (bF (ar j o.toNat (1+1))) (bF (ar j o.toNat (1+1+1))) (bF (ar j o.toNat (1+1+1+1)))else aj
def vo:=b Lib.cy λr0=>ah r0
def c:=λa d e f h i j l m o=>(vo a d e f h i j l m o).isSome
def v:=λa d e f h i j l m o=>(vo a d e f h i j l m o).getD ak
theorem out{x}:∀a d e f h i j l m o,vo a d e f h i j l m o=ah x->c a d e f h i j l m o=ai/\v a d e f h i j l m o=x:=λ_ _ _ _ _ _ _ _ _ _=>Lib.cY
end nN

namespace qR
def r9(N:aC)(g k0 k1:g_ R)(a:aY)(d e:aw)(f h i j:aQ)(l:aw)(m o:aQ)(p:aw):ay R:=bif decide (d<(o.length:aw))then bif decide (0<=d)&&decide (d<(o.length:aw))then bif !kq.v (bF (ar o d.toNat 0)) 1 9 then k0 ak d e f h i j l m o p else bif decide (d>0)then bif decide (0<=br (d-1))&&decide (br (d-1)<(o.length:aw))then bif decide (bF (ar o (br (d-1)).toNat 0)≥bF (ar o d.toNat 0))then k0 ak d e f h i j l m o p else bif !s5.v (bz (ar o d.toNat 1))then k0 ak d e f h i j l m o p else bif !kq.v (bF (ar o d.toNat (1+1+1+1))) 1 3 then k0 ak d e f h i j l m o p else bif !kq.v (bF (ar o d.toNat (1+1))) 0 (m.length:aw)then k0 ak d e f h i j l m o p else bif decide (((bz (ar o d.toNat (1+1+1+1+1))).size:aw)>400)then k0 ak d e f h i j l m o p else bif !kq.v (bF (ar o d.toNat (1+1+1))) 0 e then k0 ak d e f h i j l m o p else bif decide (bF (ar o d.toNat (1+1+1+1+1+1))<0)then k0 ak d e f h i j l m o p else g a (br (d+1)) e f h i j l m o p else aj else bif !s5.v (bz (ar o d.toNat 1))then k0 ak d e f h i j l m o p else bif !kq.v (bF (ar o d.toNat (1+1+1+1))) 1 3 then k0 ak d e f h i j l m o p else bif !kq.v (bF (ar o d.toNat (1+1))) 0 (m.length:aw)then k0 ak d e f h i j l m o p else bif decide (((bz (ar o d.toNat (1+1+1+1+1))).size:aw)>400)then k0 ak d e f h i j l m o p else bif !kq.v (bF (ar o d.toNat (1+1+1))) 0 e then k0 ak d e f h i j l m o p else bif decide (bF (ar o d.toNat (1+1+1+1+1+1))<0)then k0 ak d e f h i j l m o p else g a (br (d+1)) e f h i j l m o p else aj else k1 a d e f h i j l m o p
def l9(N:aC)(k0 k1:g_ R):aC->g_ R
 |0=>λ_ _ _ _ _ _ _ _ _ _ _=>aj
 |n+1=>r9 N (l9 N k0 k1 n) k0 k1
def r4(N:aC)(g k0 k1:g_ R)(a:aY)(d e:aw)(f h i j:aQ)(l:aw)(m o:aQ)(p:aw):ay R:=bif decide (d<(m.length:aw))then bif nN.c e f h i j l m o p d then bif !nN.v e f h i j l m o p d then k0 ak d e f h i j l m o p else g a (br (d+1)) e f h i j l m o p else aj else k1 a d e f h i j l m o p
def l4(N:aC)(k0 k1:g_ R):aC->g_ R
 |0=>λ_ _ _ _ _ _ _ _ _ _ _=>aj
 |n+1=>r4 N (l4 N k0 k1 n) k0 k1
def b(N:aC)(kr:aY->ay R)(a:aw)(d e f h:aQ)(i:aw)(j l:aQ)(m:aw):ay R:=bif !kq.v a 1 1000000000 then kr ak else bif nM.c a d e f h i j l m then bif !nM.v a d e f h i j l m then kr ak else bif decide ((j.length:aw)>20)then kr ak else bif decide ((l.length:aw)>6)then kr ak else bif !kq.v m 0 1000000000 then kr ak else l4 N (λo _ _ _ _ _ _ _ _ _ _=>kr o) (λp _ q r s t u w y z α=>l9 N (λxa _ _ _ _ _ _ _ _ _ _=>kr xa) (λ_ _ _ _ _ _ _ _ _ _ _=>kr ai) N p 0 q r s t u w y z α) N ak 0 a d e f h i j l m else aj
def vo:=b Lib.cy λr0=>ah r0
def c:=λa d e f h i j l m=>(vo a d e f h i j l m).isSome
def v:=λa d e f h i j l m=>(vo a d e f h i j l m).getD ak
theorem out{x}:∀a d e f h i j l m,vo a d e f h i j l m=ah x->c a d e f h i j l m=ai/\v a d e f h i j l m=x:=λ_ _ _ _ _ _ _ _ _=>Lib.cY
end qR

namespace w_
def r2(N:aC)(g k0 k1:mc R)(a:aq)(d:aY)(e f:aw)(h i j l:aQ)(m:aw)(o p:aQ)(q:aw)(r:aq)(s t:aw)(u:aq):ay R:=bif decide (e<(h.length:aw))then bif decide (0<=e)&&decide (e<(h.length:aw))then bif cW (bz (ar h e.toNat 0)).toList (aA a)then bif decide (0<=e)&&decide (e<(h.length:aw))then k0 a ai e f h i j l m o p q (bz (ar h e.toNat 0)) (bF (ar h e.toNat 1)) (bF (ar h e.toNat (1+1))) (bz (ar h e.toNat (1+1+1)))else aj else g a d (br (e+1)) f h i j l m o p q r s t u else aj else k1 a d e f h i j l m o p q r s t u
def l2(N:aC)(k0 k1:mc R):aC->mc R
 |0=>λ_ _ _ _ _ _ _ _ _ _ _ _ _ _ _ _=>aj
 |n+1=>r2 N (l2 N k0 k1 n) k0 k1
def b(N:aC)(kr:wQ R)(a:aw)(d e f h:aQ)(i:aw)(j l:aQ)(m:aw)(o:aq):ay R:=l2 N (λ_ p _ _ _ _ _ _ _ _ _ _ q r s t=>kr q r s t p) (λ_ _ _ _ _ _ _ _ _ _ _ _ _ _ _ _=>kr ⟨#[]⟩ 0 0 ⟨#[]⟩ ak) N o ak 0 a d e f h i j l m ⟨#[]⟩ 0 0 ⟨#[]⟩
def vo:=b Lib.cy λr0 r1 r2 r3 r4=>ah (r0,r1,r2,r3,r4)
def c:=λa d e f h i j l m o=>(vo a d e f h i j l m o).isSome
def v:=λa d e f h i j l m o=>(vo a d e f h i j l m o).getD (⟨#[]⟩,0,0,⟨#[]⟩,ak)
theorem out{x}:∀a d e f h i j l m o,vo a d e f h i j l m o=ah x->c a d e f h i j l m o=ai/\v a d e f h i j l m o=x:=λ_ _ _ _ _ _ _ _ _ _=>Lib.cY
end w_

namespace HM
def b(kr:aY->ay R)(a:aq)(d e:aw)(f:aq)(h:aw):ay R:=bif nq.v a d e f then bif kq.v h d 1000000000 then kr (decide (br (h-d)<e))else kr ak else kr ak
def v(a0:aq)(a1 a2:aw)(a3:aq)(a4:aw):aY:=bif nq.v a0 a1 a2 a3 then bif kq.v a4 a1 1000000000 then decide (br (a4-a1)<a2)else ak else ak
theorem dP(kr:aY->ay R)(a0:aq)(a1 a2:aw)(a3:aq)(a4:aw):b kr a0 a1 a2 a3 a4=kr (v a0 a1 a2 a3 a4):=by first|rfl|(unfold b v;simp only[ca];(repeat' split)<;>rfl)
end HM

namespace jP
def r6(N:aC)(g k0:zF R)(a:aw)(d:aq)(e f:aw):ay R:=bif decide (f<8)then bif decide (cT a 2=1)then g (bE eI (↑(g9 (oV (dm 32 (bE eI (c7 a 2))) (dm 32 3558460437))):aw)) d e (br (f+1))else g (bE eI (c7 a 2)) d e (br (f+1))else k0 a d e f
def l6(N:aC)(k0:zF R):aC->zF R
 |0=>λ_ _ _ _=>aj
 |n+1=>r6 N (l6 N k0 n) k0
def r2(N:aC)(g k0:Fy R)(a:aw)(d:aq)(e:aw):ay R:=bif decide (e<(d.size:aw))then bif decide (0<=e)&&decide (e<(d.size:aw))then l6 N (λf h i _=>g f h (br (i+1))) N (bE eI (↑(g9 (oV (dm 32 a) (dm 32 (bE eI (↑(gU d e.toNat):aw))))):aw)) d e 0 else aj else k0 a d e
def l2(N:aC)(k0:Fy R):aC->Fy R
 |0=>λ_ _ _=>aj
 |n+1=>r2 N (l2 N k0 n) k0
def b(N:aC)(kr:aw->ay R)(a:aw)(d:aq):ay R:=l2 N (λe _ _=>kr e) N a d 0
def vo:=b Lib.cy λr0=>ah r0
def c:=λa d=>(vo a d).isSome
def v:=λa d=>(vo a d).getD (0)
theorem out{x}:∀a d,vo a d=ah x->c a d=ai/\v a d=x:=λ_ _=>Lib.cY
end jP

namespace vW
def b(kr:aw->ay R)(a:aq):ay R:=bif jP.c 4294967295 a then kr (jP.v 4294967295 a)else aj
def vo:=b λr0=>ah r0
def c:=λa=>(vo a).isSome
def v:=λa=>(vo a).getD (0)
theorem out{x}:∀a,vo a=ah x->c a=ai/\v a=x:=λ_=>Lib.cY
end vW

namespace gu
def b(kr:aw->ay R)(a:aw)(d:aq):ay R:=bif decide (d.size+(bytesOf (aL (aN [Ck.i ba] 1) 0 [CV.i ba (bE ba a)])).size<=4611686018427387904)then bif vW.c (d++bytesOf (aL (aN [Ck.i ba] 1) 0 [CV.i ba (bE ba a)]))then kr (br (cT (vW.v (d++bytesOf (aL (aN [Ck.i ba] 1) 0 [CV.i ba (bE ba a)]))) 16))else aj else aj
def vo:=b λr0=>ah r0
def c:=λa d=>(vo a d).isSome
def v:=λa d=>(vo a d).getD (0)
theorem out{x}:∀a d,vo a d=ah x->c a d=ai/\v a d=x:=λ_ _=>Lib.cY
end gu

namespace dq
def r17(N:aC)(g k0:ud R)(a d e f:aw)(h:aQ):ay R:=bif decide (0<=a)&&decide (a<(h.length:aw))then bif decide (d<((gD (ar h a.toNat 0)).length:aw))then bif decide (0<=a)&&decide (a<(h.length:aw))then bif decide (0<=a)&&decide (a<(h.length:aw))then bif decide (0<=d)&&decide (d<((gD (ar h a.toNat 0)).length:aw))then bif decide (0<=d)&&decide (d<((gD (ar h a.toNat 0)).length:aw))then g a (br (d+1)) e f (cK h a.toNat 0 [CV.l 3 (cK (gD (ar h a.toNat 0)) d.toNat 0 [.i .i64 (br (c7 (bF (ar (gD (ar h a.toNat 0)) d.toNat 0)) 2))])])else aj else aj else aj else aj else k0 a d e f h else aj
def l17(N:aC)(k0:ud R):aC->ud R
 |0=>λ_ _ _ _ _=>aj
 |n+1=>r17 N (l17 N k0 n) k0
def r14(N:aC)(g k0:jC R)(a d e:aw)(f:aQ):ay R:=bif decide (a<(f.length:aw))then l17 N (λh _ i j l=>g (br (h+1)) i j l) N a 0 d e f else k0 a d e f
def l14(N:aC)(k0:jC R):aC->jC R
 |0=>λ_ _ _ _=>aj
 |n+1=>r14 N (l14 N k0 n) k0
def r5(N:aC)(g k0:GZ R)(a:aq)(d e f:aw)(h:aQ):ay R:=bif decide (d<(h.length:aw))then bif gu.c d a then bif decide (0<=d)&&decide (d<(h.length:aw))then bif decide (0<=gu.v d a)&&decide (gu.v d a<((gD (ar h d.toNat 0)).length:aw))then bif decide (bF (ar (gD (ar h d.toNat 0)) (gu.v d a).toNat 0)<15)then bif decide (0<=d)&&decide (d<(h.length:aw))then bif decide (0<=gu.v d a)&&decide (gu.v d a<((gD (ar h d.toNat 0)).length:aw))then bif decide (0<=gu.v d a)&&decide (gu.v d a<((gD (ar h d.toNat 0)).length:aw))then g a (br (d+1)) e f (cK h d.toNat 0 [CV.l 3 (cK (gD (ar h d.toNat 0)) (gu.v d a).toNat 0 [.i .i64 (br (bF (ar (gD (ar h d.toNat 0)) (gu.v d a).toNat 0)+1))])])else aj else aj else aj else g a (br (d+1)) e f h else aj else aj else aj else k0 a d e f h
def l5(N:aC)(k0:GZ R):aC->GZ R
 |0=>λ_ _ _ _ _=>aj
 |n+1=>r5 N (l5 N k0 n) k0
def b(N:aC)(kr:EG R)(a:aQ)(d:aw)(e:aq):ay R:=bif nY.c a d then bif fK.c a d then bif !fK.v a d then kr (nY.v a d).1 (nY.v a d).2 else l5 N (λ_ _ f h i=>bif decide (br (h+1)=64)then l14 N (λ_ _ j l=>kr l j) N 0 f 0 i else kr i (br (h+1))) N e 0 0 (nY.v a d).2 (nY.v a d).1 else aj else aj
def vo:=b Lib.cy λr0 r1=>ah (r0,r1)
def c:=λa d e=>(vo a d e).isSome
def v:=λa d e=>(vo a d e).getD ([],0)
theorem out{x}:∀a d e,vo a d e=ah x->c a d e=ai/\v a d e=x:=λ_ _ _=>Lib.cY
end dq

namespace o9
def r3(N:aC)(g k0:zH R)(a:aQ)(d:aq)(e:aw)(f:aQ):ay R:=bif decide (e<(a.length:aw))then bif decide (0<=e)&&decide (e<(a.length:aw))then bif !List.beq (bz (ar a e.toNat 0)).toList (aA d)then bif decide (0<=e)&&decide (e<(a.length:aw))then bif cC (f.length+(aL (aN [.s] 1) 0 [.s (bz (ar a e.toNat 0))]).length) 16 then g a d (br (e+1)) (f++aL (aN [.s] 1) 0 [.s (bz (ar a e.toNat 0))])else aj else aj else g a d (br (e+1)) f else aj else k0 a d e f
def l3(N:aC)(k0:zH R):aC->zH R
 |0=>λ_ _ _ _=>aj
 |n+1=>r3 N (l3 N k0 n) k0
def b(N:aC)(kr:aQ->ay R)(a:aQ)(d:aq):ay R:=l3 N (λ_ _ _ e=>kr e) N a d 0 (aN [.s] 0)
def vo:=b Lib.cy λr0=>ah r0
def c:=λa d=>(vo a d).isSome
def v:=λa d=>(vo a d).getD ([])
theorem out{x}:∀a d,vo a d=ah x->c a d=ai/\v a d=x:=λ_ _=>Lib.cY
end o9

namespace mz
def r5(N:aC)(g k0:G0 R)(a:aq)(d e:aw)(f:aQ)(h:aw):ay R:=bif decide (e<(f.length:aw))then bif decide (0<=e)&&decide (e<(f.length:aw))then bif gu.c e a then bif decide (0<=gu.v e a)&&decide (gu.v e a<((gD (ar f e.toNat 0)).length:aw))then bif decide (bF (ar (gD (ar f e.toNat 0)) (gu.v e a).toNat 0)<d)then g a (bF (ar (gD (ar f e.toNat 0)) (gu.v e a).toNat 0)) (br (e+1)) f h else g a d (br (e+1)) f h else aj else aj else aj else k0 a d e f h
def l5(N:aC)(k0:G0 R):aC->G0 R
 |0=>λ_ _ _ _ _=>aj
 |n+1=>r5 N (l5 N k0 n) k0
def b(N:aC)(kr:aw->ay R)(a:aQ)(d:aw)(e:aq):ay R:=bif fK.c a d then bif !fK.v a d then kr 0 else l5 N (λ_ f _ _ _=>kr f) N e 15 0 a d else aj
def vo:=b Lib.cy λr0=>ah r0
def c:=λa d e=>(vo a d e).isSome
def v:=λa d e=>(vo a d e).getD (0)
theorem out{x}:∀a d e,vo a d e=ah x->c a d e=ai/\v a d e=x:=λ_ _ _=>Lib.cY
end mz

namespace e6
def b(kr:Nu R)(a d e:aQ)(f:aw)(h:aq):ay R:=bif gh.c a d e f then bif jR.c a d e f then bif !jR.v a d e f then kr (gh.v a d e f).1 (gh.v a d e f).2.1 (gh.v a d e f).2.2.1 (gh.v a d e f).2.2.2 ⟨#[]⟩else bif !s5.v h then kr (gh.v a d e f).1 (gh.v a d e f).2.1 (gh.v a d e f).2.2.1 (gh.v a d e f).2.2.2 ⟨#[]⟩else bif dq.c e f h then bif fu.c a h then bif fu.v a h then bif o9.c a h then bif cC ((o9.v a h).length+(aL (aN [.s] 1) 0 [.s h]).length) 16 then kr (o9.v a h++aL (aN [.s] 1) 0 [.s h]) (gh.v a d e f).2.1 (dq.v e f h).1 (dq.v e f h).2 ⟨#[]⟩else aj else aj else bif fu.c d h then bif fu.v d h then bif o9.c d h then bif cC ((o9.v d h).length+(aL (aN [.s] 1) 0 [.s h]).length) 16 then kr (gh.v a d e f).1 (o9.v d h++aL (aN [.s] 1) 0 [.s h]) (dq.v e f h).1 (dq.v e f h).2 ⟨#[]⟩else aj else aj else bif cC ((gh.v a d e f).1.length+(aL (aN [.s] 1) 0 [.s h]).length) 16 then bif decide ((((gh.v a d e f).1++aL (aN [.s] 1) 0 [.s h]).length:aw)<=2)then kr ((gh.v a d e f).1++aL (aN [.s] 1) 0 [.s h]) (gh.v a d e f).2.1 (dq.v e f h).1 (dq.v e f h).2 ⟨#[]⟩else bif decide (0<(((gh.v a d e f).1++aL (aN [.s] 1) 0 [.s h]).length:aw))then bif iA 1 (((gh.v a d e f).1++aL (aN [.s] 1) 0 [.s h]).length:aw) (((gh.v a d e f).1++aL (aN [.s] 1) 0 [.s h]).length:aw)then bif cC ((aN [.s] 0).length+(e8 ((gh.v a d e f).1++aL (aN [.s] 1) 0 [.s h]) (bc 1) (((gh.v a d e f).1++aL (aN [.s] 1) 0 [.s h]).length:aw).toNat).length) 16 then bif decide (((gh.v a d e f).2.1.length:aw)<4)then bif cC ((gh.v a d e f).2.1.length+(aL (aN [.s] 1) 0 [.s (bz (ar ((gh.v a d e f).1++aL (aN [.s] 1) 0 [.s h]) (bc 0) 0))]).length) 16 then kr (aN [.s] 0++e8 ((gh.v a d e f).1++aL (aN [.s] 1) 0 [.s h]) (bc 1) (((gh.v a d e f).1++aL (aN [.s] 1) 0 [.s h]).length:aw).toNat) ((gh.v a d e f).2.1++aL (aN [.s] 1) 0 [.s (bz (ar ((gh.v a d e f).1++aL (aN [.s] 1) 0 [.s h]) (bc 0) 0))]) (dq.v e f h).1 (dq.v e f h).2 ⟨#[]⟩else aj else bif mz.c (dq.v e f h).1 (dq.v e f h).2 (bz (ar ((gh.v a d e f).1++aL (aN [.s] 1) 0 [.s h]) (bc 0) 0))then bif decide (0<((gh.v a d e f).2.1.length:aw))then bif mz.c (dq.v e f h).1 (dq.v e f h).2 (bz (ar (gh.v a d e f).2.1 (bc 0) 0))then bif decide (mz.v (dq.v e f h).1 (dq.v e f h).2 (bz (ar ((gh.v a d e f).1++aL (aN [.s] 1) 0 [.s h]) (bc 0) 0))>mz.v (dq.v e f h).1 (dq.v e f h).2 (bz (ar (gh.v a d e f).2.1 (bc 0) 0)))then bif decide (0<((gh.v a d e f).2.1.length:aw))then bif iA 1 ((gh.v a d e f).2.1.length:aw) ((gh.v a d e f).2.1.length:aw)then bif cC ((aN [.s] 0).length+(e8 (gh.v a d e f).2.1 (bc 1) ((gh.v a d e f).2.1.length:aw).toNat).length) 16 then bif cC ((aN [.s] 0++e8 (gh.v a d e f).2.1 (bc 1) ((gh.v a d e f).2.1.length:aw).toNat).length+(aL (aN [.s] 1) 0 [.s (bz (ar ((gh.v a d e f).1++aL (aN [.s] 1) 0 [.s h]) (bc 0) 0))]).length) 16 then kr (aN [.s] 0++e8 ((gh.v a d e f).1++aL (aN [.s] 1) 0 [.s h]) (bc 1) (((gh.v a d e f).1++aL (aN [.s] 1) 0 [.s h]).length:aw).toNat) (aN [.s] 0++e8 (gh.v a d e f).2.1 (bc 1) ((gh.v a d e f).2.1.length:aw).toNat++aL (aN [.s] 1) 0 [.s (bz (ar ((gh.v a d e f).1++aL (aN [.s] 1) 0 [.s h]) (bc 0) 0))]) (dq.v e f h).1 (dq.v e f h).2 (bz (ar (gh.v a d e f).2.1 (bc 0) 0))else aj else aj else aj else aj else kr (aN [.s] 0++e8 ((gh.v a d e f).1++aL (aN [.s] 1) 0 [.s h]) (bc 1) (((gh.v a d e f).1++aL (aN [.s] 1) 0 [.s h]).length:aw).toNat) (gh.v a d e f).2.1 (dq.v e f h).1 (dq.v e f h).2 (bz (ar ((gh.v a d e f).1++aL (aN [.s] 1) 0 [.s h]) (bc 0) 0))else aj else aj else aj else aj else aj else aj else aj else aj else aj else aj else aj else aj
def vo:=b λr0 r1 r2 r3 r4=>ah (r0,r1,r2,r3,r4)
def c:=λa d e f h=>(vo a d e f h).isSome
def v:=λa d e f h=>(vo a d e f h).getD ([],[],[],0,⟨#[]⟩)
theorem out{x}:∀a d e f h,vo a d e f h=ah x->c a d e f h=ai/\v a d e f h=x:=λ_ _ _ _ _=>Lib.cY
end e6

namespace lM
def r9(N:aC)(g k0:kR R)(a:aQ)(d e:aw)(f:aq)(h i j:aw)(l:aq)(m:aw)(o:aQ):ay R:=bif decide (d<(a.length:aw))then bif decide (0<=d)&&decide (d<(a.length:aw))then bif decide (bF (ar a d.toNat 0)>e)then bif decide (0<=d)&&decide (d<(a.length:aw))then bif cC (o.length+(aL (aN [Ck.i ao,Ck.s,Ck.i ao,Ck.i ao,Ck.i ao,Ck.s,Ck.i ao] 1) 0 [.i .i64 (bF (ar a d.toNat 0)), .s (bz (ar a d.toNat 1)), .i .i64 (bF (ar a d.toNat (1+1))), .i .i64 (bF (ar a d.toNat (1+1+1))), .i .i64 (bF (ar a d.toNat (1+1+1+1))), .s (bz (ar a d.toNat (1+1+1+1+1))), .i .i64 (bF (ar a d.toNat (1+1+1+1+1+1)))]).length) 72 then g a (br (d+1)) e f h i j l m (o++aL (aN [Ck.i ao,Ck.s,Ck.i ao,Ck.i ao,Ck.i ao,Ck.s,Ck.i ao] 1) 0 [.i .i64 (bF (ar a d.toNat 0)), .s (bz (ar a d.toNat 1)), .i .i64 (bF (ar a d.toNat (1+1))), .i .i64 (bF (ar a d.toNat (1+1+1))), .i .i64 (bF (ar a d.toNat (1+1+1+1))), .s (bz (ar a d.toNat (1+1+1+1+1))), .i .i64 (bF (ar a d.toNat (1+1+1+1+1+1)))])else aj else aj else g a (br (d+1)) e f h i j l m o else aj else k0 a d e f h i j l m o
def l9(N:aC)(k0:kR R):aC->kR R
 |0=>λ_ _ _ _ _ _ _ _ _ _=>aj
 |n+1=>r9 N (l9 N k0 n) k0
def r3(N:aC)(g k0:kR R)(a:aQ)(d e:aw)(f:aq)(h i j:aw)(l:aq)(m:aw)(o:aQ):ay R:=bif decide (d<(a.length:aw))then bif decide (0<=d)&&decide (d<(a.length:aw))then bif decide (bF (ar a d.toNat 0)<e)then bif decide (0<=d)&&decide (d<(a.length:aw))then bif cC (o.length+(aL (aN [Ck.i ao,Ck.s,Ck.i ao,Ck.i ao,Ck.i ao,Ck.s,Ck.i ao] 1) 0 [.i .i64 (bF (ar a d.toNat 0)), .s (bz (ar a d.toNat 1)), .i .i64 (bF (ar a d.toNat (1+1))), .i .i64 (bF (ar a d.toNat (1+1+1))), .i .i64 (bF (ar a d.toNat (1+1+1+1))), .s (bz (ar a d.toNat (1+1+1+1+1))), .i .i64 (bF (ar a d.toNat (1+1+1+1+1+1)))]).length) 72 then g a (br (d+1)) e f h i j l m (o++aL (aN [Ck.i ao,Ck.s,Ck.i ao,Ck.i ao,Ck.i ao,Ck.s,Ck.i ao] 1) 0 [.i .i64 (bF (ar a d.toNat 0)), .s (bz (ar a d.toNat 1)), .i .i64 (bF (ar a d.toNat (1+1))), .i .i64 (bF (ar a d.toNat (1+1+1))), .i .i64 (bF (ar a d.toNat (1+1+1+1))), .s (bz (ar a d.toNat (1+1+1+1+1))), .i .i64 (bF (ar a d.toNat (1+1+1+1+1+1)))])else aj else aj else g a (br (d+1)) e f h i j l m o else aj else k0 a d e f h i j l m o
def l3(N:aC)(k0:kR R):aC->kR R
 |0=>λ_ _ _ _ _ _ _ _ _ _=>aj
 |n+1=>r3 N (l3 N k0 n) k0
def b(N:aC)(kr:aQ->ay R)(a:aQ)(d:aw)(e:aq)(f h i:aw)(j:aq)(l:aw):ay R:=l3 N (λm _ o p q r s t u w=>bif cC (w.length+(aL (aN [Ck.i ao,Ck.s,Ck.i ao,Ck.i ao,Ck.i ao,Ck.s,Ck.i ao] 1) 0 [.i .i64 o, .s p, .i .i64 q, .i .i64 r, .i .i64 s, .s t, .i .i64 u]).length) 72 then l9 N (λ_ _ _ _ _ _ _ _ _ y=>kr y) N m 0 o p q r s t u (w++aL (aN [Ck.i ao,Ck.s,Ck.i ao,Ck.i ao,Ck.i ao,Ck.s,Ck.i ao] 1) 0 [.i .i64 o, .s p, .i .i64 q, .i .i64 r, .i .i64 s, .s t, .i .i64 u])else aj) N a 0 d e f h i j l (aN [Ck.i ao,Ck.s,Ck.i ao,Ck.i ao,Ck.i ao,Ck.s,Ck.i ao] 0)
def vo:=b Lib.cy λr0=>ah r0
def c:=λa d e f h i j l=>(vo a d e f h i j l).isSome
def v:=λa d e f h i j l=>(vo a d e f h i j l).getD ([])
theorem out{x}:∀a d e f h i j l,vo a d e f h i j l=ah x->c a d e f h i j l=ai/\v a d e f h i j l=x:=λ_ _ _ _ _ _ _ _=>Lib.cY
end lM

namespace qg
def r3(N:aC)(g k0:zH R)(a:aQ)(d:aq)(e:aw)(f:aQ):ay R:=bif decide (e<(a.length:aw))then bif decide (0<=e)&&decide (e<(a.length:aw))then bif !List.beq (bz (ar a e.toNat 0)).toList (aA d)then bif decide (0<=e)&&decide (e<(a.length:aw))then bif cC (f.length+(aL (aN [Ck.s,Ck.i ao,Ck.i ao,Ck.s] 1) 0 [.s (bz (ar a e.toNat 0)), .i .i64 (bF (ar a e.toNat 1)), .i .i64 (bF (ar a e.toNat (1+1))), .s (bz (ar a e.toNat (1+1+1)))]).length) 48 then g a d (br (e+1)) (f++aL (aN [Ck.s,Ck.i ao,Ck.i ao,Ck.s] 1) 0 [.s (bz (ar a e.toNat 0)), .i .i64 (bF (ar a e.toNat 1)), .i .i64 (bF (ar a e.toNat (1+1))), .s (bz (ar a e.toNat (1+1+1)))])else aj else aj else g a d (br (e+1)) f else aj else k0 a d e f
def l3(N:aC)(k0:zH R):aC->zH R
 |0=>λ_ _ _ _=>aj
 |n+1=>r3 N (l3 N k0 n) k0
def b(N:aC)(kr:aQ->ay R)(a:aQ)(d:aq):ay R:=l3 N (λ_ _ _ e=>kr e) N a d 0 (aN [Ck.s,Ck.i ao,Ck.i ao,Ck.s] 0)
def vo:=b Lib.cy λr0=>ah r0
def c:=λa d=>(vo a d).isSome
def v:=λa d=>(vo a d).getD ([])
theorem out{x}:∀a d,vo a d=ah x->c a d=ai/\v a d=x:=λ_ _=>Lib.cY
end qg

namespace u5
def b(kr:sW R)(a d e:aQ)(f:aw)(h:aq):ay R:=bif o9.c a h then bif o9.c d h then bif nY.c e f then kr (o9.v a h) (o9.v d h) (nY.v e f).1 (nY.v e f).2 else aj else aj else aj
def vo:=b λr0 r1 r2 r3=>ah (r0,r1,r2,r3)
def c:=λa d e f h=>(vo a d e f h).isSome
def v:=λa d e f h=>(vo a d e f h).getD ([],[],[],0)
theorem out{x}:∀a d e f h,vo a d e f h=ah x->c a d e f h=ai/\v a d e f h=x:=λ_ _ _ _ _=>Lib.cY
end u5

namespace w6
def r22(N:aC)(g k0:gC R)(a:aq)(d:aY)(e f:aw)(h i j l:aQ)(m:aw)(o p:aQ)(q r s t u w y z:aw)(α:aq)(xa xb xc:aw)(xd:aq)(xe:aw)(xf xg xh xi xj xk:aQ):ay R:=bif decide (e<(o.length:aw))then bif decide (0<=e)&&decide (e<(o.length:aw))then bif cW (bz (ar o e.toNat 0)).toList (aA a)then bif decide (0<=e)&&decide (e<(o.length:aw))then bif decide (bF (ar o e.toNat 2)=1)then bif decide (0<=e)&&decide (e<(o.length:aw))then g a d (br (e+1)) f h i j l m o p q r s t u w y z α (br (e+1)) xb xc (bz (ar o e.toNat 1)) xe xf xg xh xi xj xk else aj else g a d (br (e+1)) f h i j l m o p q r s t u w y z α xa xb xc xd xe xf xg xh xi xj xk else aj else g a d (br (e+1)) f h i j l m o p q r s t u w y z α xa xb xc xd xe xf xg xh xi xj xk else aj else k0 a d e f h i j l m o p q r s t u w y z α xa xb xc xd xe xf xg xh xi xj xk
def Zd(N:aC)(k0:gC R):aC->gC R
 |0=>λ_ _ _ _ _ _ _ _ _ _ _ _ _ _ _ _ _ _ _ _ _ _ _ _ _ _ _ _ _ _ _=>aj
 |n+1=>r22 N (Zd N k0 n) k0
def r5(N:aC)(g k0 k1:iJ R)(a:aw)(d:aq)(e f h:aw)(i j l m:aQ)(o:aw)(p q:aQ)(r s t u w y z:aw)(α xa xb xc xd xe:aQ):ay R:=bif decide (f<(q.length:aw))then bif decide (0<=f)&&decide (f<(q.length:aw))then bif decide (bF (ar q f.toNat 0)=a)then k0 a d 1 f h i j l m o p q r w y z w y z α xa xb xc xd xe else g a d e (br (f+1)) h i j l m o p q r s t u w y z α xa xb xc xd xe else aj else k1 a d e f h i j l m o p q r s t u w y z α xa xb xc xd xe
def l5(N:aC)(k0 k1:iJ R):aC->iJ R
 |0=>λ_ _ _ _ _ _ _ _ _ _ _ _ _ _ _ _ _ _ _ _ _ _ _ _ _=>aj
 |n+1=>r5 N (l5 N k0 k1 n) k0 k1
def b(N:aC)(kr:wP R)(a:aw)(d e f h:aQ)(i:aw)(j l:aQ)(m o:aw)(p:aq):ay R:=bif fJ.c a d e f h i j l m then Lib.lt (fJ.v a d e f h i j l m) λq=>bif qR.c a d e f h i j l m then Lib.lt (qR.v a d e f h i j l m) λr=>bif !r then kr q.1 q.2.1 q.2.2.1 q.2.2.2.1 q.2.2.2.2.1 q.2.2.2.2.2.1 q.2.2.2.2.2.2.1 q.2.2.2.2.2.2.2.1 q.2.2.2.2.2.2.2.2 1 else bif !kq.v o 1 9 then kr q.1 q.2.1 q.2.2.1 q.2.2.2.1 q.2.2.2.2.1 q.2.2.2.2.2.1 q.2.2.2.2.2.2.1 q.2.2.2.2.2.2.2.1 q.2.2.2.2.2.2.2.2 1 else bif !s5.v p then kr q.1 q.2.1 q.2.2.1 q.2.2.2.1 q.2.2.2.2.1 q.2.2.2.2.2.1 q.2.2.2.2.2.2.1 q.2.2.2.2.2.2.2.1 q.2.2.2.2.2.2.2.2 1 else bif decide ((l.length:aw)≥6)then kr q.1 q.2.1 q.2.2.1 q.2.2.2.1 q.2.2.2.2.1 q.2.2.2.2.2.1 q.2.2.2.2.2.2.1 q.2.2.2.2.2.2.2.1 q.2.2.2.2.2.2.2.2 1 else l5 N (λ_ _ s _ _ _ _ _ _ _ _ _ _ t u w _ _ _ y z α xa xb xc=>kr t y z α xa u xb xc w s) (λxd xe _ _ xf xg xh xi xj xk xl xm xn xo xp xq xr xs xt xu xv xw xx xy xz=>bif w_.c xf xg xh xi xj xk xl xm xn xe then Lib.lt (w_.v xf xg xh xi xj xk xl xm xn xe) λya=>bif ya.2.2.2.2 then bif HM.v ya.1 ya.2.1 ya.2.2.1 ya.2.2.2.1 xf then bif e6.c xh xi xj xk xe then Lib.lt (e6.v xh xi xj xk xe) λyb=>bif decide (xt<1000000000)then bif lM.c xz xd xe 0 ya.2.1 2 ya.2.2.2.1 (br (xf-ya.2.1))then Lib.lt (lM.v xz xd xe 0 ya.2.1 2 ya.2.2.2.1 (br (xf-ya.2.1))) λyc=>kr xr xu yb.1 yb.2.1 yb.2.2.1 yb.2.2.2.1 xy yc (br (xt+1)) 0 else aj else bif lM.c xz xd xe 0 ya.2.1 2 ya.2.2.2.1 (br (xf-ya.2.1))then Lib.lt (lM.v xz xd xe 0 ya.2.1 2 ya.2.2.2.1 (br (xf-ya.2.1))) λyd=>kr xr xu yb.1 yb.2.1 yb.2.2.1 yb.2.2.2.1 xy yd xt 0 else aj else aj else Zd N (λye yf _ _ _ _ _ _ _ yg _ _ _ _ _ yh yi yj yk yl ym yn yo yp yq yr ys yt yu yv yw=>bif decide (ym=0)then bif decide ((yg.length:aw)≥20)then kr yh yr ys yt yu yi yv yw yj 2 else bif cC (yv.length+(aL (aN [Ck.s,Ck.s,Ck.i ao,Ck.i ao,Ck.i ao] 1) 0 [.s ye, .s ⟨#[]⟩, .i .i64 1, .i .i64 0, .i .i64 0]).length) 56 then bif yf then bif qg.c yr ye then Lib.lt (qg.v yr ye) λyx=>bif u5.c ys yt yu yi ye then Lib.lt (u5.v ys yt yu yi ye) λyy=>bif dq.c yy.2.2.1 yy.2.2.2 ye then Lib.lt (dq.v yy.2.2.1 yy.2.2.2 ye) λyz=>bif lM.c yw yk yl ((yv++aL (aN [Ck.s,Ck.s,Ck.i ao,Ck.i ao,Ck.i ao] 1) 0 [.s ye, .s ⟨#[]⟩, .i .i64 1, .i .i64 0, .i .i64 0]).length:aw) yn yo yp yq then Lib.lt (lM.v yw yk yl ((yv++aL (aN [Ck.s,Ck.s,Ck.i ao,Ck.i ao,Ck.i ao] 1) 0 [.s ye, .s ⟨#[]⟩, .i .i64 1, .i .i64 0, .i .i64 0]).length:aw) yn yo yp yq) λza=>kr yh yx yy.1 yy.2.1 yz.1 yz.2 (yv++aL (aN [Ck.s,Ck.s,Ck.i ao,Ck.i ao,Ck.i ao] 1) 0 [.s ye, .s ⟨#[]⟩, .i .i64 1, .i .i64 0, .i .i64 0]) za yj 0 else aj else aj else aj else aj else bif dq.c yu yi ye then Lib.lt (dq.v yu yi ye) λzb=>bif lM.c yw yk yl ((yv++aL (aN [Ck.s,Ck.s,Ck.i ao,Ck.i ao,Ck.i ao] 1) 0 [.s ye, .s ⟨#[]⟩, .i .i64 1, .i .i64 0, .i .i64 0]).length:aw) yn yo yp yq then Lib.lt (lM.v yw yk yl ((yv++aL (aN [Ck.s,Ck.s,Ck.i ao,Ck.i ao,Ck.i ao] 1) 0 [.s ye, .s ⟨#[]⟩, .i .i64 1, .i .i64 0, .i .i64 0]).length:aw) yn yo yp yq) λzc=>kr yh yr ys yt zb.1 zb.2 (yv++aL (aN [Ck.s,Ck.s,Ck.i ao,Ck.i ao,Ck.i ao] 1) 0 [.s ye, .s ⟨#[]⟩, .i .i64 1, .i .i64 0, .i .i64 0]) zc yj 0 else aj else aj else aj else bif yf then bif qg.c yr ye then Lib.lt (qg.v yr ye) λzd=>bif u5.c ys yt yu yi ye then Lib.lt (u5.v ys yt yu yi ye) λze=>bif dq.c ze.2.2.1 ze.2.2.2 ye then Lib.lt (dq.v ze.2.2.1 ze.2.2.2 ye) λzf=>bif lM.c yw yk yl ym yn yo yp yq then Lib.lt (lM.v yw yk yl ym yn yo yp yq) λzg=>kr yh zd ze.1 ze.2.1 zf.1 zf.2 yv zg yj 0 else aj else aj else aj else aj else bif dq.c yu yi ye then Lib.lt (dq.v yu yi ye) λzh=>bif lM.c yw yk yl ym yn yo yp yq then Lib.lt (lM.v yw yk yl ym yn yo yp yq) λzi=>kr yh yr ys yt zh.1 zh.2 yv zi yj 0 else aj else aj) N xe ya.2.2.2.2 0 xf xg xh xi xj xk xl xm xn xo xp xq xr xs xt xd xe 0 0 1 ⟨#[]⟩ 0 xu xv xw xx xy xz else Zd N (λzj zk _ _ _ _ _ _ _ zl _ _ _ _ _ zm zn zo zp zq zr zs zt zu zv zw zx zy zz wa wb=>bif decide (zr=0)then bif decide ((zl.length:aw)≥20)then kr zm zw zx zy zz zn wa wb zo 2 else bif cC (wa.length+(aL (aN [Ck.s,Ck.s,Ck.i ao,Ck.i ao,Ck.i ao] 1) 0 [.s zj, .s ⟨#[]⟩, .i .i64 1, .i .i64 0, .i .i64 0]).length) 56 then bif zk then bif qg.c zw zj then Lib.lt (qg.v zw zj) λwc=>bif u5.c zx zy zz zn zj then Lib.lt (u5.v zx zy zz zn zj) λwd=>bif dq.c wd.2.2.1 wd.2.2.2 zj then Lib.lt (dq.v wd.2.2.1 wd.2.2.2 zj) λwe=>bif lM.c wb zp zq ((wa++aL (aN [Ck.s,Ck.s,Ck.i ao,Ck.i ao,Ck.i ao] 1) 0 [.s zj, .s ⟨#[]⟩, .i .i64 1, .i .i64 0, .i .i64 0]).length:aw) zs zt zu zv then Lib.lt (lM.v wb zp zq ((wa++aL (aN [Ck.s,Ck.s,Ck.i ao,Ck.i ao,Ck.i ao] 1) 0 [.s zj, .s ⟨#[]⟩, .i .i64 1, .i .i64 0, .i .i64 0]).length:aw) zs zt zu zv) λwf=>kr zm wc wd.1 wd.2.1 we.1 we.2 (wa++aL (aN [Ck.s,Ck.s,Ck.i ao,Ck.i ao,Ck.i ao] 1) 0 [.s zj, .s ⟨#[]⟩, .i .i64 1, .i .i64 0, .i .i64 0]) wf zo 0 else aj else aj else aj else aj else bif dq.c zz zn zj then Lib.lt (dq.v zz zn zj) λwg=>bif lM.c wb zp zq ((wa++aL (aN [Ck.s,Ck.s,Ck.i ao,Ck.i ao,Ck.i ao] 1) 0 [.s zj, .s ⟨#[]⟩, .i .i64 1, .i .i64 0, .i .i64 0]).length:aw) zs zt zu zv then Lib.lt (lM.v wb zp zq ((wa++aL (aN [Ck.s,Ck.s,Ck.i ao,Ck.i ao,Ck.i ao] 1) 0 [.s zj, .s ⟨#[]⟩, .i .i64 1, .i .i64 0, .i .i64 0]).length:aw) zs zt zu zv) λwh=>kr zm zw zx zy wg.1 wg.2 (wa++aL (aN [Ck.s,Ck.s,Ck.i ao,Ck.i ao,Ck.i ao] 1) 0 [.s zj, .s ⟨#[]⟩, .i .i64 1, .i .i64 0, .i .i64 0]) wh zo 0 else aj else aj else aj else bif zk then bif qg.c zw zj then Lib.lt (qg.v zw zj) λwi=>bif u5.c zx zy zz zn zj then Lib.lt (u5.v zx zy zz zn zj) λwj=>bif dq.c wj.2.2.1 wj.2.2.2 zj then Lib.lt (dq.v wj.2.2.1 wj.2.2.2 zj) λwk=>bif lM.c wb zp zq zr zs zt zu zv then Lib.lt (lM.v wb zp zq zr zs zt zu zv) λwl=>kr zm wi wj.1 wj.2.1 wk.1 wk.2 wa wl zo 0 else aj else aj else aj else aj else bif dq.c zz zn zj then Lib.lt (dq.v zz zn zj) λwm=>bif lM.c wb zp zq zr zs zt zu zv then Lib.lt (lM.v wb zp zq zr zs zt zu zv) λwn=>kr zm zw zx zy wm.1 wm.2 wa wn zo 0 else aj else aj) N xe ya.2.2.2.2 0 xf xg xh xi xj xk xl xm xn xo xp xq xr xs xt xd xe 0 0 1 ⟨#[]⟩ 0 xu xv xw xx xy xz else aj) N o p 0 0 a d e f h i j l m 0 0 0 q.1 q.2.2.2.2.2.1 q.2.2.2.2.2.2.2.2 q.2.1 q.2.2.1 q.2.2.2.1 q.2.2.2.2.1 q.2.2.2.2.2.2.1 q.2.2.2.2.2.2.2.1 else aj else aj
def vo:=b Lib.cy λr0 r1 r2 r3 r4 r5 r6 r7 r8 r9=>ah (r0,r1,r2,r3,r4,r5,r6,r7,r8,r9)
def c:=λa d e f h i j l m o p=>(vo a d e f h i j l m o p).isSome
def v:=λa d e f h i j l m o p=>(vo a d e f h i j l m o p).getD (0,[],[],[],[],0,[],[],0,0)
theorem out{x}:∀a d e f h i j l m o p,vo a d e f h i j l m o p=ah x->c a d e f h i j l m o p=ai/\v a d e f h i j l m o p=x:=λ_ _ _ _ _ _ _ _ _ _ _=>Lib.cY
end w6

namespace u6
def b(kr:aY->ay R)(a:aw)(d e f h:aQ)(i:aw)(j l:aQ)(m o:aw):ay R:=bif qR.c a d e f h i j l m then bif qR.v a d e f h i j l m then bif kq.v o 0 (br ((j.length:aw)-1))then bif decide (0<=o)&&decide (o<(j.length:aw))then kr (decide (bF (ar j o.toNat 2)=1))else aj else kr ak else kr ak else aj
def vo:=b λr0=>ah r0
def c:=λa d e f h i j l m o=>(vo a d e f h i j l m o).isSome
def v:=λa d e f h i j l m o=>(vo a d e f h i j l m o).getD ak
theorem out{x}:∀a d e f h i j l m o,vo a d e f h i j l m o=ah x->c a d e f h i j l m o=ai/\v a d e f h i j l m o=x:=λ_ _ _ _ _ _ _ _ _ _=>Lib.cY
end u6

namespace LJ
def b(kr:Nt R)(a:aw)(d:aq)(e:aQ):ay R:=bif cC ((aN [Ck.i ao,Ck.i ao] 0).length+e.length) 16 then kr a d (aN [Ck.i ao,Ck.i ao] 0++e)else aj
def v(gb:aw)(eW:aq)(dD:aQ):aw×aq×aQ:=(gb,eW,dD)
def c(gb:aw)(eW:aq)(dD:aQ):aY:=decide (dD.length<=4294967296)
theorem dP(kr:Nt R)(gb:aw)(eW:aq)(dD:aQ)(hc:c gb eW dD=ai):b kr gb eW dD=kr (v gb eW dD).1 (v gb eW dD).2.1 (v gb eW dD).2.2:=by have h:dD.length<=4294967296:=cF hc;unfold b;rw[show bK (aN [Ck.i ao,Ck.i ao] 0)+dD.length=dD.length by simp[aN],Lib.cm (by omega) (by omega)];rfl
end LJ

namespace lC
def r2(N:aC)(g k0 k1:GR R)(a:aY)(d e:aw)(f:aq)(h:aQ):ay R:=bif decide (d<(h.length:aw))then bif decide (0<=d)&&decide (d<(h.length:aw))then bif !kq.v (bF (ar h d.toNat 0)) 1 9 then k0 ak d e f h else bif decide (d>0)then bif decide (0<=br (d-1))&&decide (br (d-1)<(h.length:aw))then bif decide (bF (ar h (br (d-1)).toNat 0)≥bF (ar h d.toNat 0))then k0 ak d e f h else bif !kq.v (bF (ar h d.toNat 1)) 0 (f.size:aw)then k0 ak d e f h else g a (br (d+1)) e f h else aj else bif !kq.v (bF (ar h d.toNat 1)) 0 (f.size:aw)then k0 ak d e f h else g a (br (d+1)) e f h else aj else k1 a d e f h
def l2(N:aC)(k0 k1:GR R):aC->GR R
 |0=>λ_ _ _ _ _=>aj
 |n+1=>r2 N (l2 N k0 k1 n) k0 k1
def b(N:aC)(kr:aY->ay R)(a:aw)(d:aq)(e:aQ):ay R:=l2 N (λf _ _ _ _=>kr f) (λ_ _ h i j=>bif kq.v h 1 3 then bif decide ((i.size:aw)<=400)then kr (decide ((j.length:aw)<=6))else kr ak else kr ak) N ak 0 a d e
def el(t:aq)(rs:aQ)(i:aC):aY:=decide (1<=bF (ar rs i 0)/\bF (ar rs i 0)<=9)&&(decide (0<=bF (ar rs i 1)/\bF (ar rs i 1)<=t.size)&&(i==0||decide (bF (ar rs (i-1) 0)<bF (ar rs i 0))))
def rest(st:aw)(t:aq)(rs:aQ):aY:=decide (1<=st/\st<=3)&&(decide (t.size<=400)&&decide (rs.length<=6))
def v(gb:aw)(eW:aq)(dD:aQ):aY:=(ch dD.length).all (el eW dD)&&rest gb eW dD
theorem mT(n a b:aw):kq.v n a b=decide (a<=n/\n<=b):=by unfold kq.v;by_cases h:a<=n<;>by_cases h2:n<=b<;>simp[h,h2]
theorem Pj(st:aw)(t:aq)(rs:aQ){R:Type}(kr:aY->ay R):(bif kq.v st 1 3 then bif decide ((t.size:aw)<=400)then kr (decide ((rs.length:aw)<=6))else kr ak else kr ak)=kr (rest st t rs):=by
 unfold rest;rw[mT];have e1:decide ((t.size:aw)<=400)=decide (t.size<=400):=by rw[cg];omega
 have e2:decide ((rs.length:aw)<=6)=decide (rs.length<=6):=by rw[cg];omega
 rw[e1,e2];cases decide (1<=st/\st<=3)<;>cases decide (t.size<=400)<;>rfl
theorem Ek{i:aC}(h:0<i)(hn:i<=9223372036854775807):br ((i:aw)-1)=((i-1:aC):aw):=by rw[ir (by omega) (by omega)];omega
theorem JC(p:aC->aY){i n:aC}(h:i<n):(iw i (n-i)).all p=(p i&&(iw (i+1) (n-(i+1))).all p):=by rw[show n-i=(n-(i+1))+1 by omega,List.range'_succ,pQ]
theorem dP(kr:aY->ay R)(gb:aw)(eW:aq)(dD:aQ)(f0:CD eW)(f1:ng dD):∃N,b N kr gb eW dD=kr (v gb eW dD):=by
 refine⟨dD.length+1, ?_⟩
 unfold b;simp only[Pj]
 have:=Lib.dB (λn (i:aC)=>l2 (dD.length+1) (λy5 y6 y7 y8 y9=>kr y5) (λLf wJ Nn I4 XU=>kr (rest Nn I4 XU)) n ak i gb eW dD) (λi=>dD.length-i) (λi=>i<=dD.length)
  (λi=>kr ((iw i (dD.length-i)).all (el eW dD)&&rest gb eW dD)) (λn i hi=>by
  simp only[l2,r2,Lib.de,Lib.cz,Lib.dU,bm,mT]
  by_cases h:i<dD.length
  ·rw[JC _ h];simp only[h,aM,au,Lib.c5 h f1.1];cases h1:decide (1<=bF (ar dD i 0)/\bF (ar dD i 0)<=9)with
   |false=>left;simp[el,h1]
   |true=>
    simp only[aX,ax];by_cases hz:0<i
    ·have e0:decide ((i:aw)>0)=true:=by simp;omega
     have hp:i-1<dD.length:=by omega
     have hi0:(i==0)=false:=by simp;omega
     simp only[e0,au,Ek hz (by have:=f1.1;omega),Lib.cz,Lib.de,Lib.dU,hp,aM,aJ];cases h2:decide (bF (ar dD (i-1) 0)≥bF (ar dD i 0))with
     |true=>
      left;have e3:decide (bF (ar dD (i-1) 0)<bF (ar dD i 0))=false:=by simp at h2⊢;omega
      simp[el,e3,hi0]
     |false=>
      have e3:decide (bF (ar dD (i-1) 0)<bF (ar dD i 0))=true:=by simp at h2⊢;omega
      cases h3:decide (0<=bF (ar dD i 1)/\bF (ar dD i 1)<=eW.size)with
      |false=>left;simp[el,h3]
      |true=>right;exact⟨i+1,h,by omega,by simp only[el,h1,h3,e3,Lm,bm],rfl⟩
    ·have hz:i=0:=by omega
     subst hz;simp only[show decide (((0:aC):aw)>0)=ak from rfl,ax];cases h3:decide (0<=bF (ar dD 0 1)/\bF (ar dD 0 1)<=eW.size)with
     |false=>left;simp[el,h3]
     |true=>right;exact⟨1,h,by omega,by simp only[el,h1,h3,bm];rfl,rfl⟩
  ·left;have h0:dD.length-i=0:=by omega
   simp only[h,a_,ax,h0,Yf,List.all_nil,bm]) (dD.length+1) 0 (by omega) (by omega)
 refine this.trans ?_;unfold v;rw[oN,<-zO]
end lC

namespace HQ
def b(kr:GV R)(a:aw)(d:aq)(e:aQ)(f:aq):ay R:=bif LJ.c a d e then bif !lC.v a d e then kr a d e ak else bif a !=1 then kr a d e ak else bif !kq.v (f.size:aw) 1 40 then kr a d e ak else bif decide (br ((d.size:aw)+(f.size:aw))>400)then kr a d e ak else bif decide (d.size+f.size<=4611686018427387904)then kr a (d++f) e ai else aj else aj
def v(gb:aw)(eW:aq)(dD:aQ)(gv:aq):aw×aq×aQ×aY:=
 if lC.v gb eW dD=ai/\gb=1/\1<=gv.size/\gv.size<=40/\eW.size+gv.size<=400 then(gb,eW++gv,dD,ai)else(gb,eW,dD,ak)
def c(gb:aw)(eW:aq)(dD:aQ)(gv:aq):aY:=decide (dD.length<=4294967296)
theorem dP(kr:GV R)(gb:aw)(eW:aq)(dD:aQ)(gv:aq)(hc:c gb eW dD gv=ai)(f0:CD eW)(f1:ng dD)(f2:CD gv):b kr gb eW dD gv=kr (v gb eW dD gv).1 (v gb eW dD gv).2.1 (v gb eW dD gv).2.2.1 (v gb eW dD gv).2.2.2:=by
 have hs1:eW.size<=4611686018427387904:=f0;have OP:gv.size<=4611686018427387904:=f2;have e1:LJ.c gb eW dD=true:=hc;have e2:∀a b c,lC.v a b c=lC.v a b c:=λ_ _ _=>rfl;have e3:∀n a b,kq.v n a b=decide (a<=n/\n<=b):=lC.mT;unfold b v;rw[e1,e2,e3,au];cases h1:lC.v gb eW dD with
 |false=>simp
 |true=>
  by_cases h2:gb=1
  ·by_cases h3:1<=(gv.size:aw)/\(gv.size:aw)<=40
   ·have e4:br ((eW.size:aw)+(gv.size:aw))=eW.size+gv.size:=ir (by omega) (by omega);rw[e4,aE h3];by_cases h4:(eW.size:aw)+(gv.size:aw)>400
    ·rw[Lib.Bn h4,bH (by omega)];simp[h2]
    ·rw[Lib.JU h4,bB (by refine⟨rfl,h2, ?_, ?_, ?_⟩<;>omega),Lib.Bn (show eW.size+gv.size<=4611686018427387904 by omega)];simp[h2]
   ·rw[aG h3,bH (by omega)];simp
  ·have iy:(gb !=1)=true:=bne_iff_ne.mpr h2;rw[bH (by simp[h2]),iy];rfl
end HQ

namespace sH
def r1(N:aC)(g k0:jB R)(a d e f h i:aw)(j l m o p q:aQ):ay R:=bif decide (e<(q.length:aw))then bif decide (0<=e)&&decide (e<(q.length:aw))then bif decide (bF (ar q e.toNat 2)=br (a+1))then bif decide (0<=e)&&decide (e<(q.length:aw))then bif decide (bF (ar q e.toNat 4)=1)then bif decide (0<=a)&&decide (a<(p.length:aw))then bif decide (0<=e)&&decide (e<(q.length:aw))then bif decide (0<=e)&&decide (e<((cK q e.toNat 5 [.s (bz (ar p a.toNat 1))]).length:aw))then g a d (br (e+1)) f h i j l m o p (cK (cK q e.toNat 5 [.s (bz (ar p a.toNat 1))]) e.toNat 4 [.i .i64 d])else aj else aj else aj else g a d (br (e+1)) f h i j l m o p q else aj else g a d (br (e+1)) f h i j l m o p q else aj else k0 a d e f h i j l m o p q
def l1(N:aC)(k0:jB R):aC->jB R
 |0=>λ_ _ _ _ _ _ _ _ _ _ _ _=>aj
 |n+1=>r1 N (l1 N k0 n) k0
def b(N:aC)(kr:eP R)(a:aw)(d e f h:aQ)(i:aw)(j l:aQ)(m o p:aw):ay R:=l1 N (λ_ _ _ q r s t u w y z α=>kr q t u w y r z α s) N o p 0 a i m d e f h j l
def vo:=b Lib.cy λr0 r1 r2 r3 r4 r5 r6 r7 r8=>ah (r0,r1,r2,r3,r4,r5,r6,r7,r8)
def c:=λa d e f h i j l m o p=>(vo a d e f h i j l m o p).isSome
def v:=λa d e f h i j l m o p=>(vo a d e f h i j l m o p).getD (0,[],[],[],[],0,[],[],0)
theorem out{x}:∀a d e f h i j l m o p,vo a d e f h i j l m o p=ah x->c a d e f h i j l m o p=ai/\v a d e f h i j l m o p=x:=λ_ _ _ _ _ _ _ _ _ _ _=>Lib.cY
end sH

namespace ER
def b(kr:kP R)(a:aw)(d e f h:aQ)(i:aw)(j l:aQ)(m o:aw)(p:aq):ay R:=bif fJ.c a d e f h i j l m then Lib.lt (fJ.v a d e f h i j l m) λq=>bif u6.c a d e f h i j l m o then Lib.lt (u6.v a d e f h i j l m o) λr=>bif !r then kr q.1 q.2.1 q.2.2.1 q.2.2.2.1 q.2.2.2.2.1 q.2.2.2.2.2.1 q.2.2.2.2.2.2.1 q.2.2.2.2.2.2.2.1 q.2.2.2.2.2.2.2.2 ak else bif decide (0<=o)&&decide (o<(j.length:aw))then bif !(HQ.v 1 (bz (ar j o.toNat 1)) [] p).2.2.2 then kr q.1 q.2.1 q.2.2.1 q.2.2.2.1 q.2.2.2.2.1 q.2.2.2.2.2.1 q.2.2.2.2.2.2.1 q.2.2.2.2.2.2.2.1 q.2.2.2.2.2.2.2.2 ak else bif decide (0<=o)&&decide (o<(q.2.2.2.2.2.2.1.length:aw))then bif sH.c q.1 q.2.1 q.2.2.1 q.2.2.2.1 q.2.2.2.2.1 q.2.2.2.2.2.1 (cK q.2.2.2.2.2.2.1 o.toNat 1 [.s (HQ.v 1 (bz (ar j o.toNat 1)) [] p).2.1]) q.2.2.2.2.2.2.2.1 q.2.2.2.2.2.2.2.2 o 1 then Lib.lt (sH.v q.1 q.2.1 q.2.2.1 q.2.2.2.1 q.2.2.2.2.1 q.2.2.2.2.2.1 (cK q.2.2.2.2.2.2.1 o.toNat 1 [.s (HQ.v 1 (bz (ar j o.toNat 1)) [] p).2.1]) q.2.2.2.2.2.2.2.1 q.2.2.2.2.2.2.2.2 o 1) λs=>kr s.1 s.2.1 s.2.2.1 s.2.2.2.1 s.2.2.2.2.1 s.2.2.2.2.2.1 s.2.2.2.2.2.2.1 s.2.2.2.2.2.2.2.1 s.2.2.2.2.2.2.2.2 ai else aj else aj else aj else aj else aj
def vo:=b λr0 r1 r2 r3 r4 r5 r6 r7 r8 r9=>ah (r0,r1,r2,r3,r4,r5,r6,r7,r8,r9)
def c:=λa d e f h i j l m o p=>(vo a d e f h i j l m o p).isSome
def v:=λa d e f h i j l m o p=>(vo a d e f h i j l m o p).getD (0,[],[],[],[],0,[],[],0,ak)
theorem out{x}:∀a d e f h i j l m o p,vo a d e f h i j l m o p=ah x->c a d e f h i j l m o p=ai/\v a d e f h i j l m o p=x:=λ_ _ _ _ _ _ _ _ _ _ _=>Lib.cY
end ER

namespace lG
def r9(N:aC)(g k0:oL R)(a:aQ)(d:aw)(e:aq)(f h:aw)(i:aq)(j:aQ):ay R:=bif decide (d<(a.length:aw))then bif decide (0<=d)&&decide (d<(a.length:aw))then bif !(b9 (bz (ar a d.toNat 0)).toList (aA e)||List.beq (bz (ar a d.toNat 0)).toList (aA e))then bif decide (0<=d)&&decide (d<(a.length:aw))then bif cC (j.length+(aL (aN [Ck.s,Ck.i ao,Ck.i ao,Ck.s] 1) 0 [.s (bz (ar a d.toNat 0)), .i .i64 (bF (ar a d.toNat 1)), .i .i64 (bF (ar a d.toNat (1+1))), .s (bz (ar a d.toNat (1+1+1)))]).length) 48 then g a (br (d+1)) e f h i (j++aL (aN [Ck.s,Ck.i ao,Ck.i ao,Ck.s] 1) 0 [.s (bz (ar a d.toNat 0)), .i .i64 (bF (ar a d.toNat 1)), .i .i64 (bF (ar a d.toNat (1+1))), .s (bz (ar a d.toNat (1+1+1)))])else aj else aj else g a (br (d+1)) e f h i j else aj else k0 a d e f h i j
def l9(N:aC)(k0:oL R):aC->oL R
 |0=>λ_ _ _ _ _ _ _=>aj
 |n+1=>r9 N (l9 N k0 n) k0
def r3(N:aC)(g k0:oL R)(a:aQ)(d:aw)(e:aq)(f h:aw)(i:aq)(j:aQ):ay R:=bif decide (d<(a.length:aw))then bif decide (0<=d)&&decide (d<(a.length:aw))then bif b9 (bz (ar a d.toNat 0)).toList (aA e)then bif decide (0<=d)&&decide (d<(a.length:aw))then bif cC (j.length+(aL (aN [Ck.s,Ck.i ao,Ck.i ao,Ck.s] 1) 0 [.s (bz (ar a d.toNat 0)), .i .i64 (bF (ar a d.toNat 1)), .i .i64 (bF (ar a d.toNat (1+1))), .s (bz (ar a d.toNat (1+1+1)))]).length) 48 then g a (br (d+1)) e f h i (j++aL (aN [Ck.s,Ck.i ao,Ck.i ao,Ck.s] 1) 0 [.s (bz (ar a d.toNat 0)), .i .i64 (bF (ar a d.toNat 1)), .i .i64 (bF (ar a d.toNat (1+1))), .s (bz (ar a d.toNat (1+1+1)))])else aj else aj else g a (br (d+1)) e f h i j else aj else k0 a d e f h i j
def l3(N:aC)(k0:oL R):aC->oL R
 |0=>λ_ _ _ _ _ _ _=>aj
 |n+1=>r3 N (l3 N k0 n) k0
def b(N:aC)(kr:aQ->ay R)(a:aQ)(d:aq)(e f:aw)(h:aq):ay R:=l3 N (λi _ j l m o p=>bif cC (p.length+(aL (aN [Ck.s,Ck.i ao,Ck.i ao,Ck.s] 1) 0 [.s j, .i .i64 l, .i .i64 m, .s o]).length) 48 then l9 N (λ_ _ _ _ _ _ q=>kr q) N i 0 j l m o (p++aL (aN [Ck.s,Ck.i ao,Ck.i ao,Ck.s] 1) 0 [.s j, .i .i64 l, .i .i64 m, .s o])else aj) N a 0 d e f h (aN [Ck.s,Ck.i ao,Ck.i ao,Ck.s] 0)
def vo:=b Lib.cy λr0=>ah r0
def c:=λa d e f h=>(vo a d e f h).isSome
def v:=λa d e f h=>(vo a d e f h).getD ([])
theorem out{x}:∀a d e f h,vo a d e f h=ah x->c a d e f h=ai/\v a d e f h=x:=λ_ _ _ _ _=>Lib.cY
end lG

namespace Qf
def b(kr:eP R)(a:aw)(d e f h:aQ)(i:aw)(j l:aQ)(m:aw)(o:aq)(p q:aw)(r:aq):ay R:=bif e6.c e f h i o then Lib.lt (e6.v e f h i o) λs=>bif !List.beq (aA s.2.2.2.2) (aA ⟨#[]⟩)then bif qg.c d s.2.2.2.2 then Lib.lt (qg.v d s.2.2.2.2) λt=>bif s7.c s.1 s.2.1 s.2.2.1 s.2.2.2.1 o then Lib.lt (s7.v s.1 s.2.1 s.2.2.1 s.2.2.2.1 o) λu=>bif u then bif lG.c t o p q r then Lib.lt (lG.v t o p q r) λw=>kr a w s.1 s.2.1 s.2.2.1 s.2.2.2.1 j l m else aj else kr a t s.1 s.2.1 s.2.2.1 s.2.2.2.1 j l m else aj else aj else bif s7.c s.1 s.2.1 s.2.2.1 s.2.2.2.1 o then Lib.lt (s7.v s.1 s.2.1 s.2.2.1 s.2.2.2.1 o) λy=>bif y then bif lG.c d o p q r then Lib.lt (lG.v d o p q r) λz=>kr a z s.1 s.2.1 s.2.2.1 s.2.2.2.1 j l m else aj else kr a d s.1 s.2.1 s.2.2.1 s.2.2.2.1 j l m else aj else aj
def vo:=b λr0 r1 r2 r3 r4 r5 r6 r7 r8=>ah (r0,r1,r2,r3,r4,r5,r6,r7,r8)
def c:=λa d e f h i j l m o p q r=>(vo a d e f h i j l m o p q r).isSome
def v:=λa d e f h i j l m o p q r=>(vo a d e f h i j l m o p q r).getD (0,[],[],[],[],0,[],[],0)
theorem out{x}:∀a d e f h i j l m o p q r,vo a d e f h i j l m o p q r=ah x->c a d e f h i j l m o p q r=ai/\v a d e f h i j l m o p q r=x:=λ_ _ _ _ _ _ _ _ _ _ _ _ _=>Lib.cY
end Qf

namespace EV
def b(kr:kP R)(a:aw)(d e f h:aQ)(i:aw)(j l:aQ)(m o p:aw):ay R:=bif fJ.c a d e f h i j l m then Lib.lt (fJ.v a d e f h i j l m) λq=>bif u6.c a d e f h i j l m o then Lib.lt (u6.v a d e f h i j l m o) λr=>bif !r then kr q.1 q.2.1 q.2.2.1 q.2.2.2.1 q.2.2.2.2.1 q.2.2.2.2.2.1 q.2.2.2.2.2.2.1 q.2.2.2.2.2.2.2.1 q.2.2.2.2.2.2.2.2 ak else bif !kq.v p 0 999999 then kr q.1 q.2.1 q.2.2.1 q.2.2.2.1 q.2.2.2.2.1 q.2.2.2.2.2.1 q.2.2.2.2.2.2.1 q.2.2.2.2.2.2.2.1 q.2.2.2.2.2.2.2.2 ak else bif decide (0<=o)&&decide (o<(j.length:aw))then bif decide (0<=o)&&decide (o<(q.2.2.2.2.2.2.1.length:aw))then bif sH.c q.1 q.2.1 q.2.2.1 q.2.2.2.1 q.2.2.2.2.1 q.2.2.2.2.2.1 (cK q.2.2.2.2.2.2.1 o.toNat 0 [.s (bz (ar j o.toNat 0)), .s (bz (ar j o.toNat 1)), .i .i64 2, .i .i64 p, .i .i64 a]) q.2.2.2.2.2.2.2.1 q.2.2.2.2.2.2.2.2 o 2 then Lib.lt (sH.v q.1 q.2.1 q.2.2.1 q.2.2.2.1 q.2.2.2.2.1 q.2.2.2.2.2.1 (cK q.2.2.2.2.2.2.1 o.toNat 0 [.s (bz (ar j o.toNat 0)), .s (bz (ar j o.toNat 1)), .i .i64 2, .i .i64 p, .i .i64 a]) q.2.2.2.2.2.2.2.1 q.2.2.2.2.2.2.2.2 o 2) λs=>bif decide (p>0)then bif Qf.c s.1 s.2.1 s.2.2.1 s.2.2.2.1 s.2.2.2.2.1 s.2.2.2.2.2.1 s.2.2.2.2.2.2.1 s.2.2.2.2.2.2.2.1 s.2.2.2.2.2.2.2.2 (bz (ar j o.toNat 0)) a p (bz (ar j o.toNat 1))then Lib.lt (Qf.v s.1 s.2.1 s.2.2.1 s.2.2.2.1 s.2.2.2.2.1 s.2.2.2.2.2.1 s.2.2.2.2.2.2.1 s.2.2.2.2.2.2.2.1 s.2.2.2.2.2.2.2.2 (bz (ar j o.toNat 0)) a p (bz (ar j o.toNat 1))) λt=>kr t.1 t.2.1 t.2.2.1 t.2.2.2.1 t.2.2.2.2.1 t.2.2.2.2.2.1 t.2.2.2.2.2.2.1 t.2.2.2.2.2.2.2.1 t.2.2.2.2.2.2.2.2 ai else aj else kr s.1 s.2.1 s.2.2.1 s.2.2.2.1 s.2.2.2.2.1 s.2.2.2.2.2.1 s.2.2.2.2.2.2.1 s.2.2.2.2.2.2.2.1 s.2.2.2.2.2.2.2.2 ai else aj else aj else aj else aj else aj
def vo:=b λr0 r1 r2 r3 r4 r5 r6 r7 r8 r9=>ah (r0,r1,r2,r3,r4,r5,r6,r7,r8,r9)
def c:=λa d e f h i j l m o p=>(vo a d e f h i j l m o p).isSome
def v:=λa d e f h i j l m o p=>(vo a d e f h i j l m o p).getD (0,[],[],[],[],0,[],[],0,ak)
theorem out{x}:∀a d e f h i j l m o p,vo a d e f h i j l m o p=ah x->c a d e f h i j l m o p=ai/\v a d e f h i j l m o p=x:=λ_ _ _ _ _ _ _ _ _ _ _=>Lib.cY
end EV

namespace km
def r2(N:aC)(g k0:uO R)(a:aw)(d:aQ):ay R:=bif decide (a>127)then bif cC (d.length+(aL (aN [Ck.i ba] 1) 0 [CV.i ba (bE ba (br (cT a 128+128)))]).length) 1 then g (br (c7 a 128)) (d++aL (aN [Ck.i ba] 1) 0 [CV.i ba (bE ba (br (cT a 128+128)))])else aj else k0 a d
def l2(N:aC)(k0:uO R):aC->uO R
 |0=>λ_ _=>aj
 |n+1=>r2 N (l2 N k0 n) k0
def b(N:aC)(kr:aq->ay R)(a:aw):ay R:=l2 N (λd e=>bif cC (e.length+(aL (aN [Ck.i ba] 1) 0 [CV.i ba (bE ba d)]).length) 1 then bif decide ((e++aL (aN [Ck.i ba] 1) 0 [CV.i ba (bE ba d)]).length<=4611686018427387904)then kr (bytesOf (e++aL (aN [Ck.i ba] 1) 0 [CV.i ba (bE ba d)]))else aj else aj) N a (aN [Ck.i ba] 0)
def v(n0:aw):aq:=bytesOf (Lib.vb n0)
def c(n0:aw):aY:=decide (n0<=9223372036854775807)
theorem dP(kr:aq->ay R)(n0:aw)(hc:c n0=ai):∃N,b N kr n0=kr (v n0):=by
 refine⟨n0.toNat+1, ?_⟩
 refine Lib.PM (λn x acc=>l2 (n0.toNat+1) _ n x acc) kr (λn x acc h hl=> ?_) (λn x acc h hl=> ?_) n0 (cF hc)
 ·simp only[l2,r2,h,aM,au,Lib.iU,show acc.length+bK [[CV.i ba (bE ba (br (cT x 128+128)))]]=acc.length+1 from rfl,Lib.IJ (show acc.length+1<=140737488355328 by omega),show decide ((128:aw)=0)=ak from rfl,wM,bS]
 ·simp only[l2,r2,h,a_,ax,Lib.iU,show acc.length+bK [[CV.i ba (bE ba x)]]=acc.length+1 from rfl,Lib.IJ (show acc.length+1<=140737488355328 by omega),au];exact Lib.qC (Lib.Bn (by rw[cf,bC];omega))
end km

namespace jF
def b(kr:zI R)(a:aq)(d e:aw)(f:aq):ay R:=bif !nq.v a d e f then kr ⟨#[]⟩ ak else bif km.c (a.size:aw)then bif decide ((km.v (a.size:aw)).size+a.size<=4611686018427387904)then bif km.c d then bif decide ((km.v (a.size:aw)++a).size+(km.v d).size<=4611686018427387904)then bif km.c e then bif decide ((km.v (a.size:aw)++a++km.v d).size+(km.v e).size<=4611686018427387904)then bif decide ((km.v (a.size:aw)++a++km.v d++km.v e).size+f.size<=4611686018427387904)then kr (km.v (a.size:aw)++a++km.v d++km.v e++f) ai else aj else aj else aj else aj else aj else aj else aj
def sN(k:aq)(s l:aw)(b:aq):aq:=bytesOf (Lib.vb k.size)++k++bytesOf (Lib.vb s)++bytesOf (Lib.vb l)++b
def v(oE:aq)(pe:aw)(pf:aw)(vd:aq):aq×aY:=if nq.v oE pe pf vd=ai then(sN oE pe pf vd,ai)else(⟨#[]⟩,ak)
theorem dP(kr:zI R)(oE:aq)(pe:aw)(pf:aw)(vd:aq):b kr oE pe pf vd=kr (v oE pe pf vd).1 (v oE pe pf vd).2:=by
 unfold b v;cases h:nq.v oE pe pf vd with
 |false=>rfl
 |true=>have hr:=nq.KL h;have cc:∀x:aw,x<=9223372036854775807->km.c x=true:=λx hx=>aE hx;have z1:(km.v (oE.size:aw)).size<=64:=Lib.jL (x:=(oE.size:aw)) (by omega);have z2:(km.v pe).size<=64:=Lib.jL (x:=pe) (by omega);have z3:(km.v pf).size<=64:=Lib.jL (x:=pf) (by omega);simp(disch:=omega) only[aX,ax,cc _ (show(oE.size:aw)<=9223372036854775807 by omega),cc pe (by omega),cc pf (by omega),au,if_true,Lib.jK,Lib.LZ];rfl
end jF

namespace o6
def b(kr:aq->ay R)(a:aw):ay R:=kr (bytesOf (aL (aL (aL (aL (aN [Ck.i ba] 4) 0 [CV.i ba (bE ba (pP a (ja 2 (if bc 24<=32 then bc 24 else 32))))]) 1 [CV.i ba (bE ba (pP a (ja 2 (if bc 16<=32 then bc 16 else 32))))]) 2 [CV.i ba (bE ba (pP a (ja 2 (if bc 8<=32 then bc 8 else 32))))]) 3 [CV.i ba (bE ba a)]))
def v(a0:aw):aq:=(bytesOf (aL (aL (aL (aL (aN [Ck.i ba] 4) 0 [CV.i ba (bE ba (pP a0 (ja 2 (if bc 24<=32 then bc 24 else 32))))]) 1 [CV.i ba (bE ba (pP a0 (ja 2 (if bc 16<=32 then bc 16 else 32))))]) 2 [CV.i ba (bE ba (pP a0 (ja 2 (if bc 8<=32 then bc 8 else 32))))]) 3 [CV.i ba (bE ba a0)]))
theorem dP(kr:aq->ay R)(a0:aw):b kr a0=kr (v a0):=by first|rfl|(unfold b v;simp only[ca];(repeat' split)<;>rfl)
end o6

namespace fI
def b(kr:zI R)(a:aq):ay R:=bif !kq.v (a.size:aw) 1 9000 then kr ⟨#[]⟩ ak else bif km.c (a.size:aw)then bif vW.c a then bif decide ((km.v (a.size:aw)).size+(o6.v (vW.v a)).size<=4611686018427387904)then bif decide ((km.v (a.size:aw)++o6.v (vW.v a)).size+a.size<=4611686018427387904)then kr (km.v (a.size:aw)++o6.v (vW.v a)++a) ai else aj else aj else aj else aj
def vo:=b λr0 r1=>ah (r0,r1)
def c:=λa=>(vo a).isSome
def v:=λa=>(vo a).getD (⟨#[]⟩,ak)
theorem out{x}:∀a,vo a=ah x->c a=ai/\v a=x:=λ_=>Lib.cY
end fI

namespace EW
def b(kr:Jl R)(a:aq)(d e:aw)(f:aq):ay R:=bif fI.c (jF.v a d e f).1 then bif !(jF.v a d e f).2 then kr (aN [Ck.i ao,Ck.s,Ck.s,Ck.s] 0) ak else bif !(fI.v (jF.v a d e f).1).2 then kr (aN [Ck.i ao,Ck.s,Ck.s,Ck.s] 0) ak else kr (aL (aL (aN [Ck.i ao,Ck.s,Ck.s,Ck.s] 2) 0 [.i .i64 1, .s {data:= #[aP 107,aP 101,aP 112,aP 116]}, .s (fI.v (jF.v a d e f).1).1, .s ⟨#[]⟩]) 1 [.i .i64 2, .s {data:= #[aP 107,aP 101,aP 112,aP 116]}, .s ⟨#[]⟩, .s ⟨#[]⟩]) ai else aj
def vo:=b λr0 r1=>ah (r0,r1)
def c:=λa d e f=>(vo a d e f).isSome
def v:=λa d e f=>(vo a d e f).getD ([],ak)
theorem out{x}:∀a d e f,vo a d e f=ah x->c a d e f=ai/\v a d e f=x:=λ_ _ _ _=>Lib.cY
end EW

namespace qe
def b(kr:aY->ay R)(a:aq):ay R:=kr (kq.v (a.size:aw) 1 8)
def v(a0:aq):aY:=(kq.v (a0.size:aw) 1 8)
theorem dP(kr:aY->ay R)(a0:aq):b kr a0=kr (v a0):=by first|rfl|(unfold b v;simp only[ca];(repeat' split)<;>rfl)
end qe

namespace gQ
def r4(N:aC)(g k0 k1:RY R)(a:aY)(d:aw)(e:aQ):ay R:=bif decide (d<(e.length:aw))then bif decide (0<=d)&&decide (d<(e.length:aw))then bif !qe.v (bz (ar e d.toNat 0))then k0 ak d e else bif decide (((bz (ar e d.toNat 1)).size:aw)>20000)then k0 ak d e else bif !kq.v (bF (ar e d.toNat (1+1))) 0 ((bz (ar e d.toNat 1)).size:aw)then k0 ak d e else bif decide (d>0)then bif decide (0<=br (d-1))&&decide (br (d-1)<(e.length:aw))then bif !Op.bytesLess (bz (ar e (br (d-1)).toNat 0)).toList (bz (ar e d.toNat 0)).toList then k0 ak d e else g a (br (d+1)) e else aj else g a (br (d+1)) e else aj else k1 a d e
def l4(N:aC)(k0 k1:RY R):aC->RY R
 |0=>λ_ _ _=>aj
 |n+1=>r4 N (l4 N k0 k1 n) k0 k1
def b(N:aC)(kr:aY->ay R)(a:aQ):ay R:=bif decide ((a.length:aw)>30)then kr ak else l4 N (λd _ _=>kr d) (λ_ _ _=>kr ai) N ak 0 a
def vo:=b Lib.cy λr0=>ah r0
def c:=λa=>(vo a).isSome
def v:=λa=>(vo a).getD ak
theorem out{x}:∀a,vo a=ah x->c a=ai/\v a=x:=λ_=>Lib.cY
end gQ

namespace jt
def r2(N:aC)(g k0 k1:me R)(a:aq)(d e:aw)(f:aQ):ay R:=bif decide (e<(f.length:aw))then bif decide (0<=e)&&decide (e<(f.length:aw))then bif cW (bz (ar f e.toNat 0)).toList (aA a)then k0 a e e f else g a d (br (e+1)) f else aj else k1 a d e f
def l2(N:aC)(k0 k1:me R):aC->me R
 |0=>λ_ _ _ _=>aj
 |n+1=>r2 N (l2 N k0 k1 n) k0 k1
def b(N:aC)(kr:aw->ay R)(a:aQ)(d:aq):ay R:=l2 N (λ_ e _ _=>kr e) (λ_ _ _ _=>kr (-1)) N d 0 0 a
def vo:=b Lib.cy λr0=>ah r0
def c:=λa d=>(vo a d).isSome
def v:=λa d=>(vo a d).getD (0)
theorem out{x}:∀a d,vo a d=ah x->c a d=ai/\v a d=x:=λ_ _=>Lib.cY
end jt

namespace eu
def r9(N:aC)(g k0:lJ R)(a:aw)(d:aQ)(e f:aq)(h:aw)(i:aQ):ay R:=bif decide (a<(d.length:aw))then bif decide (0<=a)&&decide (a<(d.length:aw))then bif !(b9 (bz (ar d a.toNat 0)).toList (aA e)||List.beq (bz (ar d a.toNat 0)).toList (aA e))then bif decide (0<=a)&&decide (a<(d.length:aw))then bif cC (i.length+(aL (aN [Ck.s,Ck.s,Ck.i ao] 1) 0 [.s (bz (ar d a.toNat 0)), .s (bz (ar d a.toNat 1)), .i .i64 (bF (ar d a.toNat (1+1)))]).length) 40 then g (br (a+1)) d e f h (i++aL (aN [Ck.s,Ck.s,Ck.i ao] 1) 0 [.s (bz (ar d a.toNat 0)), .s (bz (ar d a.toNat 1)), .i .i64 (bF (ar d a.toNat (1+1)))])else aj else aj else g (br (a+1)) d e f h i else aj else k0 a d e f h i
def l9(N:aC)(k0:lJ R):aC->lJ R
 |0=>λ_ _ _ _ _ _=>aj
 |n+1=>r9 N (l9 N k0 n) k0
def r3(N:aC)(g:qZ R)(g1:lJ R)(k0:qZ R)(k1:lJ R)(a:aw)(d:aQ)(e f:aq)(h:aw):ay R:=bif decide (a<(d.length:aw))then bif decide (0<=a)&&decide (a<(d.length:aw))then bif b9 (bz (ar d a.toNat 0)).toList (aA e)then bif decide (0<=a)&&decide (a<(d.length:aw))then g1 (br (a+1)) d e f h ([]++aL (aN [Ck.s,Ck.s,Ck.i ao] 1) 0 [.s (bz (ar d a.toNat 0)), .s (bz (ar d a.toNat 1)), .i .i64 (bF (ar d a.toNat (1+1)))])else aj else g (br (a+1)) d e f h else aj else k0 a d e f h
def AY(N:aC)(g:qZ R)(g1:lJ R)(k0:qZ R)(k1:lJ R)(a:aw)(d:aQ)(e f:aq)(h:aw)(i:aQ):ay R:=bif decide (a<(d.length:aw))then bif decide (0<=a)&&decide (a<(d.length:aw))then bif b9 (bz (ar d a.toNat 0)).toList (aA e)then bif decide (0<=a)&&decide (a<(d.length:aw))then bif cC (i.length+(aL (aN [Ck.s,Ck.s,Ck.i ao] 1) 0 [.s (bz (ar d a.toNat 0)), .s (bz (ar d a.toNat 1)), .i .i64 (bF (ar d a.toNat (1+1)))]).length) 40 then g1 (br (a+1)) d e f h (i++aL (aN [Ck.s,Ck.s,Ck.i ao] 1) 0 [.s (bz (ar d a.toNat 0)), .s (bz (ar d a.toNat 1)), .i .i64 (bF (ar d a.toNat (1+1)))])else aj else aj else g1 (br (a+1)) d e f h i else aj else k1 a d e f h i
def sK(N:aC)(k0:qZ R)(k1:lJ R):aC->lJ R
 |0=>λ_ _ _ _ _ _=>aj
 |n+1=>AY N (λx0 x1 x2 x3 x4=>aj) (sK N k0 k1 n) k0 k1
def l3(N:aC)(k0:qZ R)(k1:lJ R):aC->qZ R
 |0=>λ_ _ _ _ _=>aj
 |n+1=>r3 N (l3 N k0 k1 n) (sK N k0 k1 n) k0 k1
def b(N:aC)(kr:aQ->ay R)(a:aQ)(d e:aq)(f:aw):ay R:=l3 N (λ_ h i j l=>l9 N (λ_ _ _ _ _ m=>kr m) N 0 h i j l ([]++aL (aN [Ck.s,Ck.s,Ck.i ao] 1) 0 [.s i, .s j, .i .i64 l])) (λ_ o p q r s=>bif cC (s.length+(aL (aN [Ck.s,Ck.s,Ck.i ao] 1) 0 [.s p, .s q, .i .i64 r]).length) 40 then l9 N (λ_ _ _ _ _ t=>kr t) N 0 o p q r (s++aL (aN [Ck.s,Ck.s,Ck.i ao] 1) 0 [.s p, .s q, .i .i64 r])else aj) N 0 a d e f
def vo:=b Lib.cy λr0=>ah r0
def c:=λa d e f=>(vo a d e f).isSome
def v:=λa d e f=>(vo a d e f).getD ([])
theorem out{x}:∀a d e f,vo a d e f=ah x->c a d e f=ai/\v a d e f=x:=λ_ _ _ _=>Lib.cY
end eu

namespace eQ
def r3(N:aC)(g:vi R)(g1:vK R)(k0:vi R)(k1:vK R)(a:aq)(d:aw)(e:aQ):ay R:=bif decide (d<(e.length:aw))then bif decide (0<=d)&&decide (d<(e.length:aw))then bif !List.beq (bz (ar e d.toNat 0)).toList (aA a)then bif decide (0<=d)&&decide (d<(e.length:aw))then g1 a (br (d+1)) e ([]++aL (aN [Ck.s,Ck.s,Ck.i ao] 1) 0 [.s (bz (ar e d.toNat 0)), .s (bz (ar e d.toNat 1)), .i .i64 (bF (ar e d.toNat (1+1)))])else aj else g a (br (d+1)) e else aj else k0 a d e
def AY(N:aC)(g:vi R)(g1:vK R)(k0:vi R)(k1:vK R)(a:aq)(d:aw)(e f:aQ):ay R:=bif decide (d<(e.length:aw))then bif decide (0<=d)&&decide (d<(e.length:aw))then bif !List.beq (bz (ar e d.toNat 0)).toList (aA a)then bif decide (0<=d)&&decide (d<(e.length:aw))then bif cC (f.length+(aL (aN [Ck.s,Ck.s,Ck.i ao] 1) 0 [.s (bz (ar e d.toNat 0)), .s (bz (ar e d.toNat 1)), .i .i64 (bF (ar e d.toNat (1+1)))]).length) 40 then g1 a (br (d+1)) e (f++aL (aN [Ck.s,Ck.s,Ck.i ao] 1) 0 [.s (bz (ar e d.toNat 0)), .s (bz (ar e d.toNat 1)), .i .i64 (bF (ar e d.toNat (1+1)))])else aj else aj else g1 a (br (d+1)) e f else aj else k1 a d e f
def sK(N:aC)(k0:vi R)(k1:vK R):aC->vK R
 |0=>λ_ _ _ _=>aj
 |n+1=>AY N (λx0 x1 x2=>aj) (sK N k0 k1 n) k0 k1
def l3(N:aC)(k0:vi R)(k1:vK R):aC->vi R
 |0=>λ_ _ _=>aj
 |n+1=>r3 N (l3 N k0 k1 n) (sK N k0 k1 n) k0 k1
def b(N:aC)(kr:aQ->ay R)(a:aQ)(d:aq):ay R:=l3 N (λ_ _ _=>kr []) (λ_ _ _ e=>kr e) N d 0 a
def vo:=b Lib.cy λr0=>ah r0
def c:=λa d=>(vo a d).isSome
def v:=λa d=>(vo a d).getD ([])
theorem out{x}:∀a d,vo a d=ah x->c a d=ai/\v a d=x:=λ_ _=>Lib.cY
end eQ

namespace C5
def b(kr:Jl R)(a:aQ)(d:aw)(e f h:aq):ay R:=bif gQ.c a then bif !gQ.v a then kr [] ak else bif !qe.v e then kr [] ak else bif d !=3 then bif !List.beq (aA h) (aA ⟨#[]⟩)then kr [] ak else bif d !=1 then bif !List.beq (aA f) (aA ⟨#[]⟩)then kr [] ak else bif jt.c a e then Lib.lt (jt.v a e) λi=>bif decide (i≥0)then bif decide (0<=i)&&decide (i<(a.length:aw))then bif decide (d=1)then bif decide ((bz (ar a i.toNat 1)).size+f.size<=4611686018427387904)then bif eu.c a (bz (ar a i.toNat 0)) (bz (ar a i.toNat 1)++f) (bF (ar a i.toNat (1+1)))then Lib.lt (eu.v a (bz (ar a i.toNat 0)) (bz (ar a i.toNat 1)++f) (bF (ar a i.toNat (1+1)))) λj=>bif gQ.c j then bif !gQ.v j then kr [] ak else kr j ai else aj else aj else aj else bif decide (i<0)then kr [] ak else bif decide (d=2)then bif eu.c a (bz (ar a i.toNat 0)) (bz (ar a i.toNat 1)) ((bz (ar a i.toNat 1)).size:aw)then Lib.lt (eu.v a (bz (ar a i.toNat 0)) (bz (ar a i.toNat 1)) ((bz (ar a i.toNat 1)).size:aw)) λl=>bif gQ.c l then bif !gQ.v l then kr [] ak else kr l ai else aj else aj else bif decide (d=3)then bif decide (bF (ar a i.toNat (1+1))<((bz (ar a i.toNat 1)).size:aw))then kr [] ak else bif cW (aA h) (aA e)then kr [] ak else bif !qe.v h then kr [] ak else bif eQ.c a e then bif eu.c (eQ.v a e) h (bz (ar a i.toNat 1)) (bF (ar a i.toNat (1+1)))then bif gQ.c (eu.v (eQ.v a e) h (bz (ar a i.toNat 1)) (bF (ar a i.toNat (1+1))))then bif !gQ.v (eu.v (eQ.v a e) h (bz (ar a i.toNat 1)) (bF (ar a i.toNat (1+1))))then kr [] ak else kr (eu.v (eQ.v a e) h (bz (ar a i.toNat 1)) (bF (ar a i.toNat (1+1)))) ai else aj else aj else aj else bif decide (d=4)then bif eQ.c a e then bif gQ.c (eQ.v a e)then bif !gQ.v (eQ.v a e)then kr [] ak else kr (eQ.v a e) ai else aj else aj else kr [] ak else aj else bif decide (d=1)then bif decide (b8 ⟨#[]⟩+f.size<=4611686018427387904)then bif eu.c a e ({data:= #[]}++f) 0 then bif gQ.c (eu.v a e ({data:= #[]}++f) 0)then bif !gQ.v (eu.v a e ({data:= #[]}++f) 0)then kr [] ak else kr (eu.v a e ({data:= #[]}++f) 0) ai else aj else aj else aj else bif decide (i<0)then kr [] ak else bif decide (d=2)then bif eu.c a e ⟨#[]⟩ (b8 ⟨#[]⟩:aw)then bif gQ.c (eu.v a e ⟨#[]⟩ (b8 ⟨#[]⟩:aw))then bif !gQ.v (eu.v a e ⟨#[]⟩ (b8 ⟨#[]⟩:aw))then kr [] ak else kr (eu.v a e ⟨#[]⟩ (b8 ⟨#[]⟩:aw)) ai else aj else aj else bif decide (d=3)then bif cW (aA h) (aA e)then kr [] ak else bif !qe.v h then kr [] ak else bif eQ.c a e then bif eu.c (eQ.v a e) h ⟨#[]⟩ 0 then bif gQ.c (eu.v (eQ.v a e) h ⟨#[]⟩ 0)then bif !gQ.v (eu.v (eQ.v a e) h ⟨#[]⟩ 0)then kr [] ak else kr (eu.v (eQ.v a e) h ⟨#[]⟩ 0) ai else aj else aj else aj else bif decide (d=4)then bif eQ.c a e then bif gQ.c (eQ.v a e)then bif !gQ.v (eQ.v a e)then kr [] ak else kr (eQ.v a e) ai else aj else aj else kr [] ak else aj else bif jt.c a e then Lib.lt (jt.v a e) λm=>bif decide (m≥0)then bif decide (0<=m)&&decide (m<(a.length:aw))then bif decide (d=1)then bif decide ((bz (ar a m.toNat 1)).size+f.size<=4611686018427387904)then bif eu.c a (bz (ar a m.toNat 0)) (bz (ar a m.toNat 1)++f) (bF (ar a m.toNat (1+1)))then Lib.lt (eu.v a (bz (ar a m.toNat 0)) (bz (ar a m.toNat 1)++f) (bF (ar a m.toNat (1+1)))) λo=>bif gQ.c o then bif !gQ.v o then kr [] ak else kr o ai else aj else aj else aj else bif decide (m<0)then kr [] ak else bif decide (d=2)then bif eu.c a (bz (ar a m.toNat 0)) (bz (ar a m.toNat 1)) ((bz (ar a m.toNat 1)).size:aw)then Lib.lt (eu.v a (bz (ar a m.toNat 0)) (bz (ar a m.toNat 1)) ((bz (ar a m.toNat 1)).size:aw)) λp=>bif gQ.c p then bif !gQ.v p then kr [] ak else kr p ai else aj else aj else bif decide (d=3)then bif decide (bF (ar a m.toNat (1+1))<((bz (ar a m.toNat 1)).size:aw))then kr [] ak else bif cW (aA h) (aA e)then kr [] ak else bif !qe.v h then kr [] ak else bif eQ.c a e then bif eu.c (eQ.v a e) h (bz (ar a m.toNat 1)) (bF (ar a m.toNat (1+1)))then bif gQ.c (eu.v (eQ.v a e) h (bz (ar a m.toNat 1)) (bF (ar a m.toNat (1+1))))then bif !gQ.v (eu.v (eQ.v a e) h (bz (ar a m.toNat 1)) (bF (ar a m.toNat (1+1))))then kr [] ak else kr (eu.v (eQ.v a e) h (bz (ar a m.toNat 1)) (bF (ar a m.toNat (1+1)))) ai else aj else aj else aj else bif decide (d=4)then bif eQ.c a e then bif gQ.c (eQ.v a e)then bif !gQ.v (eQ.v a e)then kr [] ak else kr (eQ.v a e) ai else aj else aj else kr [] ak else aj else bif decide (d=1)then bif decide (b8 ⟨#[]⟩+f.size<=4611686018427387904)then bif eu.c a e ({data:= #[]}++f) 0 then bif gQ.c (eu.v a e ({data:= #[]}++f) 0)then bif !gQ.v (eu.v a e ({data:= #[]}++f) 0)then kr [] ak else kr (eu.v a e ({data:= #[]}++f) 0) ai else aj else aj else aj else bif decide (m<0)then kr [] ak else bif decide (d=2)then bif eu.c a e ⟨#[]⟩ (b8 ⟨#[]⟩:aw)then bif gQ.c (eu.v a e ⟨#[]⟩ (b8 ⟨#[]⟩:aw))then bif !gQ.v (eu.v a e ⟨#[]⟩ (b8 ⟨#[]⟩:aw))then kr [] ak else kr (eu.v a e ⟨#[]⟩ (b8 ⟨#[]⟩:aw)) ai else aj else aj else bif decide (d=3)then bif cW (aA h) (aA e)then kr [] ak else bif !qe.v h then kr [] ak else bif eQ.c a e then bif eu.c (eQ.v a e) h ⟨#[]⟩ 0 then bif gQ.c (eu.v (eQ.v a e) h ⟨#[]⟩ 0)then bif !gQ.v (eu.v (eQ.v a e) h ⟨#[]⟩ 0)then kr [] ak else kr (eu.v (eQ.v a e) h ⟨#[]⟩ 0) ai else aj else aj else aj else bif decide (d=4)then bif eQ.c a e then bif gQ.c (eQ.v a e)then bif !gQ.v (eQ.v a e)then kr [] ak else kr (eQ.v a e) ai else aj else aj else kr [] ak else aj else bif d !=1 then bif !List.beq (aA f) (aA ⟨#[]⟩)then kr [] ak else bif jt.c a e then Lib.lt (jt.v a e) λq=>bif decide (q≥0)then bif decide (0<=q)&&decide (q<(a.length:aw))then bif decide (d=1)then bif decide ((bz (ar a q.toNat 1)).size+f.size<=4611686018427387904)then bif eu.c a (bz (ar a q.toNat 0)) (bz (ar a q.toNat 1)++f) (bF (ar a q.toNat (1+1)))then Lib.lt (eu.v a (bz (ar a q.toNat 0)) (bz (ar a q.toNat 1)++f) (bF (ar a q.toNat (1+1)))) λr=>bif gQ.c r then bif !gQ.v r then kr [] ak else kr r ai else aj else aj else aj else bif decide (q<0)then kr [] ak else bif decide (d=2)then bif eu.c a (bz (ar a q.toNat 0)) (bz (ar a q.toNat 1)) ((bz (ar a q.toNat 1)).size:aw)then Lib.lt (eu.v a (bz (ar a q.toNat 0)) (bz (ar a q.toNat 1)) ((bz (ar a q.toNat 1)).size:aw)) λs=>bif gQ.c s then bif !gQ.v s then kr [] ak else kr s ai else aj else aj else bif decide (d=3)then bif decide (bF (ar a q.toNat (1+1))<((bz (ar a q.toNat 1)).size:aw))then kr [] ak else bif cW (aA h) (aA e)then kr [] ak else bif !qe.v h then kr [] ak else bif eQ.c a e then bif eu.c (eQ.v a e) h (bz (ar a q.toNat 1)) (bF (ar a q.toNat (1+1)))then bif gQ.c (eu.v (eQ.v a e) h (bz (ar a q.toNat 1)) (bF (ar a q.toNat (1+1))))then bif !gQ.v (eu.v (eQ.v a e) h (bz (ar a q.toNat 1)) (bF (ar a q.toNat (1+1))))then kr [] ak else kr (eu.v (eQ.v a e) h (bz (ar a q.toNat 1)) (bF (ar a q.toNat (1+1)))) ai else aj else aj else aj else bif decide (d=4)then bif eQ.c a e then bif gQ.c (eQ.v a e)then bif !gQ.v (eQ.v a e)then kr [] ak else kr (eQ.v a e) ai else aj else aj else kr [] ak else aj else bif decide (d=1)then bif decide (b8 ⟨#[]⟩+f.size<=4611686018427387904)then bif eu.c a e ({data:= #[]}++f) 0 then bif gQ.c (eu.v a e ({data:= #[]}++f) 0)then bif !gQ.v (eu.v a e ({data:= #[]}++f) 0)then kr [] ak else kr (eu.v a e ({data:= #[]}++f) 0) ai else aj else aj else aj else bif decide (q<0)then kr [] ak else bif decide (d=2)then bif eu.c a e ⟨#[]⟩ (b8 ⟨#[]⟩:aw)then bif gQ.c (eu.v a e ⟨#[]⟩ (b8 ⟨#[]⟩:aw))then bif !gQ.v (eu.v a e ⟨#[]⟩ (b8 ⟨#[]⟩:aw))then kr [] ak else kr (eu.v a e ⟨#[]⟩ (b8 ⟨#[]⟩:aw)) ai else aj else aj else bif decide (d=3)then bif cW (aA h) (aA e)then kr [] ak else bif !qe.v h then kr [] ak else bif eQ.c a e then bif eu.c (eQ.v a e) h ⟨#[]⟩ 0 then bif gQ.c (eu.v (eQ.v a e) h ⟨#[]⟩ 0)then bif !gQ.v (eu.v (eQ.v a e) h ⟨#[]⟩ 0)then kr [] ak else kr (eu.v (eQ.v a e) h ⟨#[]⟩ 0) ai else aj else aj else aj else bif decide (d=4)then bif eQ.c a e then bif gQ.c (eQ.v a e)then bif !gQ.v (eQ.v a e)then kr [] ak else kr (eQ.v a e) ai else aj else aj else kr [] ak else aj else bif jt.c a e then Lib.lt (jt.v a e) λt=>bif decide (t≥0)then bif decide (0<=t)&&decide (t<(a.length:aw))then bif decide (d=1)then bif decide ((bz (ar a t.toNat 1)).size+f.size<=4611686018427387904)then bif eu.c a (bz (ar a t.toNat 0)) (bz (ar a t.toNat 1)++f) (bF (ar a t.toNat (1+1)))then Lib.lt (eu.v a (bz (ar a t.toNat 0)) (bz (ar a t.toNat 1)++f) (bF (ar a t.toNat (1+1)))) λu=>bif gQ.c u then bif !gQ.v u then kr [] ak else kr u ai else aj else aj else aj else bif decide (t<0)then kr [] ak else bif decide (d=2)then bif eu.c a (bz (ar a t.toNat 0)) (bz (ar a t.toNat 1)) ((bz (ar a t.toNat 1)).size:aw)then Lib.lt (eu.v a (bz (ar a t.toNat 0)) (bz (ar a t.toNat 1)) ((bz (ar a t.toNat 1)).size:aw)) λw=>bif gQ.c w then bif !gQ.v w then kr [] ak else kr w ai else aj else aj else bif decide (d=3)then bif decide (bF (ar a t.toNat (1+1))<((bz (ar a t.toNat 1)).size:aw))then kr [] ak else bif cW (aA h) (aA e)then kr [] ak else bif !qe.v h then kr [] ak else bif eQ.c a e then bif eu.c (eQ.v a e) h (bz (ar a t.toNat 1)) (bF (ar a t.toNat (1+1)))then bif gQ.c (eu.v (eQ.v a e) h (bz (ar a t.toNat 1)) (bF (ar a t.toNat (1+1))))then bif !gQ.v (eu.v (eQ.v a e) h (bz (ar a t.toNat 1)) (bF (ar a t.toNat (1+1))))then kr [] ak else kr (eu.v (eQ.v a e) h (bz (ar a t.toNat 1)) (bF (ar a t.toNat (1+1)))) ai else aj else aj else aj else bif decide (d=4)then bif eQ.c a e then bif gQ.c (eQ.v a e)then bif !gQ.v (eQ.v a e)then kr [] ak else kr (eQ.v a e) ai else aj else aj else kr [] ak else aj else bif decide (d=1)then bif decide (b8 ⟨#[]⟩+f.size<=4611686018427387904)then bif eu.c a e ({data:= #[]}++f) 0 then bif gQ.c (eu.v a e ({data:= #[]}++f) 0)then bif !gQ.v (eu.v a e ({data:= #[]}++f) 0)then kr [] ak else kr (eu.v a e ({data:= #[]}++f) 0) ai else aj else aj else aj else bif decide (t<0)then kr [] ak else bif decide (d=2)then bif eu.c a e ⟨#[]⟩ (b8 ⟨#[]⟩:aw)then bif gQ.c (eu.v a e ⟨#[]⟩ (b8 ⟨#[]⟩:aw))then bif !gQ.v (eu.v a e ⟨#[]⟩ (b8 ⟨#[]⟩:aw))then kr [] ak else kr (eu.v a e ⟨#[]⟩ (b8 ⟨#[]⟩:aw)) ai else aj else aj else bif decide (d=3)then bif cW (aA h) (aA e)then kr [] ak else bif !qe.v h then kr [] ak else bif eQ.c a e then bif eu.c (eQ.v a e) h ⟨#[]⟩ 0 then bif gQ.c (eu.v (eQ.v a e) h ⟨#[]⟩ 0)then bif !gQ.v (eu.v (eQ.v a e) h ⟨#[]⟩ 0)then kr [] ak else kr (eu.v (eQ.v a e) h ⟨#[]⟩ 0) ai else aj else aj else aj else bif decide (d=4)then bif eQ.c a e then bif gQ.c (eQ.v a e)then bif !gQ.v (eQ.v a e)then kr [] ak else kr (eQ.v a e) ai else aj else aj else kr [] ak else aj else aj
def vo:=b λr0 r1=>ah (r0,r1)
def c:=λa d e f h=>(vo a d e f h).isSome
def v:=λa d e f h=>(vo a d e f h).getD ([],ak)
theorem out{x}:∀a d e f h,vo a d e f h=ah x->c a d e f h=ai/\v a d e f h=x:=λ_ _ _ _ _=>Lib.cY
end C5

namespace qh
def r3(N:aC)(g k0 k1:zG R)(a:aQ)(d e:aw)(f:aQ):ay R:=bif decide (e<(a.length:aw))then bif decide (0<=e)&&decide (e<(a.length:aw))then bif C5.c f (bF (ar a e.toNat 0)) (bz (ar a e.toNat 1)) (bz (ar a e.toNat (1+1))) (bz (ar a e.toNat (1+1+1)))then bif !(C5.v f (bF (ar a e.toNat 0)) (bz (ar a e.toNat 1)) (bz (ar a e.toNat (1+1))) (bz (ar a e.toNat (1+1+1)))).2 then k0 a e e f else g a d (br (e+1)) (C5.v f (bF (ar a e.toNat 0)) (bz (ar a e.toNat 1)) (bz (ar a e.toNat (1+1))) (bz (ar a e.toNat (1+1+1)))).1 else aj else aj else k1 a d e f
def l3(N:aC)(k0 k1:zG R):aC->zG R
 |0=>λ_ _ _ _=>aj
 |n+1=>r3 N (l3 N k0 k1 n) k0 k1
def b(N:aC)(kr:EG R)(a d:aQ):ay R:=bif cC ((aN [Ck.s,Ck.s,Ck.i ao] 0).length+a.length) 40 then l3 N (λ_ e _ f=>kr f e) (λh _ _ i=>kr i (h.length:aw)) N d 0 0 (aN [Ck.s,Ck.s,Ck.i ao] 0++a)else aj
def vo:=b Lib.cy λr0 r1=>ah (r0,r1)
def c:=λa d=>(vo a d).isSome
def v:=λa d=>(vo a d).getD ([],0)
theorem out{x}:∀a d,vo a d=ah x->c a d=ai/\v a d=x:=λ_ _=>Lib.cY
end qh

namespace BU
def b(kr:aw->ay R)(a:aY):ay R:=bif a then kr 0 else kr 1
def v(a0:aY):aw:=bif a0 then 0 else 1
theorem dP(kr:aw->ay R)(a0:aY):b kr a0=kr (v a0):=by first|rfl|(unfold b v;simp only[ca];(repeat' split)<;>rfl)
end BU

namespace ES
def b(kr:nX R)(a:aw)(d e f h:aQ)(i:aw)(j l:aQ)(m:aw)(o p q:aQ)(r s:aw)(t:aq)(u:aw)(w:aQ):ay R:=bif EV.c a d e f h i j l m s (cT u 1000000)then Lib.lt (EV.v a d e f h i j l m s (cT u 1000000)) λy=>bif y.2.2.2.2.2.2.2.2.2 then bif decide (cT u 1000000>0)then bif decide (0<=s)&&decide (s<(y.2.2.2.2.2.2.1.length:aw))then bif cC ((aN [Ck.s,Ck.i ao,Ck.i ao,Ck.s] 0).length+q.length) 48 then bif cC ((aN [Ck.s,Ck.i ao,Ck.i ao,Ck.s] 0++q).length+(aL (aN [Ck.s,Ck.i ao,Ck.i ao,Ck.s] 1) 0 [.s (bz (ar y.2.2.2.2.2.2.1 s.toNat 0)), .i .i64 (bF (ar y.2.2.2.2.2.2.1 s.toNat (1+1+1+1))), .i .i64 (bF (ar y.2.2.2.2.2.2.1 s.toNat (1+1+1))), .s (bz (ar y.2.2.2.2.2.2.1 s.toNat 1))]).length) 48 then bif EW.c (bz (ar y.2.2.2.2.2.2.1 s.toNat 0)) (bF (ar y.2.2.2.2.2.2.1 s.toNat (1+1+1+1))) (bF (ar y.2.2.2.2.2.2.1 s.toNat (1+1+1))) (bz (ar y.2.2.2.2.2.2.1 s.toNat 1))then Lib.lt (EW.v (bz (ar y.2.2.2.2.2.2.1 s.toNat 0)) (bF (ar y.2.2.2.2.2.2.1 s.toNat (1+1+1+1))) (bF (ar y.2.2.2.2.2.2.1 s.toNat (1+1+1))) (bz (ar y.2.2.2.2.2.2.1 s.toNat 1))) λz=>bif z.2 then bif qh.c o z.1 then Lib.lt (qh.v o z.1) λα=>kr (BU.v y.2.2.2.2.2.2.2.2.2) y.1 y.2.1 y.2.2.1 y.2.2.2.1 y.2.2.2.2.1 y.2.2.2.2.2.1 y.2.2.2.2.2.2.1 y.2.2.2.2.2.2.2.1 y.2.2.2.2.2.2.2.2.1 α.1 p (aN [Ck.s,Ck.i ao,Ck.i ao,Ck.s] 0++q++aL (aN [Ck.s,Ck.i ao,Ck.i ao,Ck.s] 1) 0 [.s (bz (ar y.2.2.2.2.2.2.1 s.toNat 0)), .i .i64 (bF (ar y.2.2.2.2.2.2.1 s.toNat (1+1+1+1))), .i .i64 (bF (ar y.2.2.2.2.2.2.1 s.toNat (1+1+1))), .s (bz (ar y.2.2.2.2.2.2.1 s.toNat 1))])else aj else kr (BU.v y.2.2.2.2.2.2.2.2.2) y.1 y.2.1 y.2.2.1 y.2.2.2.1 y.2.2.2.2.1 y.2.2.2.2.2.1 y.2.2.2.2.2.2.1 y.2.2.2.2.2.2.2.1 y.2.2.2.2.2.2.2.2.1 o p (aN [Ck.s,Ck.i ao,Ck.i ao,Ck.s] 0++q++aL (aN [Ck.s,Ck.i ao,Ck.i ao,Ck.s] 1) 0 [.s (bz (ar y.2.2.2.2.2.2.1 s.toNat 0)), .i .i64 (bF (ar y.2.2.2.2.2.2.1 s.toNat (1+1+1+1))), .i .i64 (bF (ar y.2.2.2.2.2.2.1 s.toNat (1+1+1))), .s (bz (ar y.2.2.2.2.2.2.1 s.toNat 1))])else aj else aj else aj else aj else kr (BU.v y.2.2.2.2.2.2.2.2.2) y.1 y.2.1 y.2.2.1 y.2.2.2.1 y.2.2.2.2.1 y.2.2.2.2.2.1 y.2.2.2.2.2.2.1 y.2.2.2.2.2.2.2.1 y.2.2.2.2.2.2.2.2.1 o p q else kr (BU.v y.2.2.2.2.2.2.2.2.2) y.1 y.2.1 y.2.2.1 y.2.2.2.1 y.2.2.2.2.1 y.2.2.2.2.2.1 y.2.2.2.2.2.2.1 y.2.2.2.2.2.2.2.1 y.2.2.2.2.2.2.2.2.1 o p q else aj
def vo:=b λr0 r1 r2 r3 r4 r5 r6 r7 r8 r9 yC tO V9=>ah (r0,r1,r2,r3,r4,r5,r6,r7,r8,r9,yC,tO,V9)
def c:=λa d e f h i j l m o p q r s t u w=>(vo a d e f h i j l m o p q r s t u w).isSome
def v:=λa d e f h i j l m o p q r s t u w=>(vo a d e f h i j l m o p q r s t u w).getD (0,0,[],[],[],[],0,[],[],0,[],[],[])
theorem out{x}:∀a d e f h i j l m o p q r s t u w,vo a d e f h i j l m o p q r s t u w=ah x->c a d e f h i j l m o p q r s t u w=ai/\v a d e f h i j l m o p q r s t u w=x:=λ_ _ _ _ _ _ _ _ _ _ _ _ _ _ _ _ _=>Lib.cY
end ES

namespace ET
def b(kr:kP R)(a:aw)(d e f h:aQ)(i:aw)(j l:aQ)(m o:aw):ay R:=bif fJ.c a d e f h i j l m then Lib.lt (fJ.v a d e f h i j l m) λp=>bif u6.c a d e f h i j l m o then Lib.lt (u6.v a d e f h i j l m o) λq=>bif !q then kr p.1 p.2.1 p.2.2.1 p.2.2.2.1 p.2.2.2.2.1 p.2.2.2.2.2.1 p.2.2.2.2.2.2.1 p.2.2.2.2.2.2.2.1 p.2.2.2.2.2.2.2.2 ak else bif decide (0<=o)&&decide (o<(p.2.2.2.2.2.2.1.length:aw))then bif sH.c p.1 p.2.1 p.2.2.1 p.2.2.2.1 p.2.2.2.2.1 p.2.2.2.2.2.1 (cK p.2.2.2.2.2.2.1 o.toNat 2 [.i .i64 3]) p.2.2.2.2.2.2.2.1 p.2.2.2.2.2.2.2.2 o 3 then Lib.lt (sH.v p.1 p.2.1 p.2.2.1 p.2.2.2.1 p.2.2.2.2.1 p.2.2.2.2.2.1 (cK p.2.2.2.2.2.2.1 o.toNat 2 [.i .i64 3]) p.2.2.2.2.2.2.2.1 p.2.2.2.2.2.2.2.2 o 3) λr=>kr r.1 r.2.1 r.2.2.1 r.2.2.2.1 r.2.2.2.2.1 r.2.2.2.2.2.1 r.2.2.2.2.2.2.1 r.2.2.2.2.2.2.2.1 r.2.2.2.2.2.2.2.2 ai else aj else aj else aj else aj
def vo:=b λr0 r1 r2 r3 r4 r5 r6 r7 r8 r9=>ah (r0,r1,r2,r3,r4,r5,r6,r7,r8,r9)
def c:=λa d e f h i j l m o=>(vo a d e f h i j l m o).isSome
def v:=λa d e f h i j l m o=>(vo a d e f h i j l m o).getD (0,[],[],[],[],0,[],[],0,ak)
theorem out{x}:∀a d e f h i j l m o,vo a d e f h i j l m o=ah x->c a d e f h i j l m o=ai/\v a d e f h i j l m o=x:=λ_ _ _ _ _ _ _ _ _ _=>Lib.cY
end ET

namespace sF
def b(kr:eP R)(a:aw)(d e f h:aQ)(i:aw)(j l:aQ)(m o:aw):ay R:=bif fJ.c a d e f h i j l m then bif decide (cT o 1000<0)then bif decide ((fJ.v a d e f h i j l m).1>br (1000000000-br (cT o 1000+1000)))then kr 1000000000 (fJ.v a d e f h i j l m).2.1 (fJ.v a d e f h i j l m).2.2.1 (fJ.v a d e f h i j l m).2.2.2.1 (fJ.v a d e f h i j l m).2.2.2.2.1 (fJ.v a d e f h i j l m).2.2.2.2.2.1 (fJ.v a d e f h i j l m).2.2.2.2.2.2.1 (fJ.v a d e f h i j l m).2.2.2.2.2.2.2.1 (fJ.v a d e f h i j l m).2.2.2.2.2.2.2.2 else kr (br ((fJ.v a d e f h i j l m).1+br (cT o 1000+1000))) (fJ.v a d e f h i j l m).2.1 (fJ.v a d e f h i j l m).2.2.1 (fJ.v a d e f h i j l m).2.2.2.1 (fJ.v a d e f h i j l m).2.2.2.2.1 (fJ.v a d e f h i j l m).2.2.2.2.2.1 (fJ.v a d e f h i j l m).2.2.2.2.2.2.1 (fJ.v a d e f h i j l m).2.2.2.2.2.2.2.1 (fJ.v a d e f h i j l m).2.2.2.2.2.2.2.2 else bif decide ((fJ.v a d e f h i j l m).1>br (1000000000-cT o 1000))then kr 1000000000 (fJ.v a d e f h i j l m).2.1 (fJ.v a d e f h i j l m).2.2.1 (fJ.v a d e f h i j l m).2.2.2.1 (fJ.v a d e f h i j l m).2.2.2.2.1 (fJ.v a d e f h i j l m).2.2.2.2.2.1 (fJ.v a d e f h i j l m).2.2.2.2.2.2.1 (fJ.v a d e f h i j l m).2.2.2.2.2.2.2.1 (fJ.v a d e f h i j l m).2.2.2.2.2.2.2.2 else kr (br ((fJ.v a d e f h i j l m).1+cT o 1000)) (fJ.v a d e f h i j l m).2.1 (fJ.v a d e f h i j l m).2.2.1 (fJ.v a d e f h i j l m).2.2.2.1 (fJ.v a d e f h i j l m).2.2.2.2.1 (fJ.v a d e f h i j l m).2.2.2.2.2.1 (fJ.v a d e f h i j l m).2.2.2.2.2.2.1 (fJ.v a d e f h i j l m).2.2.2.2.2.2.2.1 (fJ.v a d e f h i j l m).2.2.2.2.2.2.2.2 else aj
def vo:=b λr0 r1 r2 r3 r4 r5 r6 r7 r8=>ah (r0,r1,r2,r3,r4,r5,r6,r7,r8)
def c:=λa d e f h i j l m o=>(vo a d e f h i j l m o).isSome
def v:=λa d e f h i j l m o=>(vo a d e f h i j l m o).getD (0,[],[],[],[],0,[],[],0)
theorem out{x}:∀a d e f h i j l m o,vo a d e f h i j l m o=ah x->c a d e f h i j l m o=ai/\v a d e f h i j l m o=x:=λ_ _ _ _ _ _ _ _ _ _=>Lib.cY
end sF

namespace uZ
def r4(N:aC)(g k0:i_ R)(a d e:aw)(f h i j:aQ)(l:aw)(m o:aQ)(p q r s t u w:aw)(y z α xa xb xc:aQ):ay R:=bif decide (d<(o.length:aw))then bif decide (0<=d)&&decide (d<(o.length:aw))then bif bF (ar o d.toNat 0) !=a then bif decide (0<=d)&&decide (d<(o.length:aw))then bif cC (xc.length+(aL (aN [Ck.i ao,Ck.s,Ck.i ao,Ck.i ao,Ck.i ao,Ck.s,Ck.i ao] 1) 0 [.i .i64 (bF (ar o d.toNat 0)), .s (bz (ar o d.toNat 1)), .i .i64 (bF (ar o d.toNat (1+1))), .i .i64 (bF (ar o d.toNat (1+1+1))), .i .i64 (bF (ar o d.toNat (1+1+1+1))), .s (bz (ar o d.toNat (1+1+1+1+1))), .i .i64 (bF (ar o d.toNat (1+1+1+1+1+1)))]).length) 72 then g a (br (d+1)) e f h i j l m o p q r s t u w y z α xa xb (xc++aL (aN [Ck.i ao,Ck.s,Ck.i ao,Ck.i ao,Ck.i ao,Ck.s,Ck.i ao] 1) 0 [.i .i64 (bF (ar o d.toNat 0)), .s (bz (ar o d.toNat 1)), .i .i64 (bF (ar o d.toNat (1+1))), .i .i64 (bF (ar o d.toNat (1+1+1))), .i .i64 (bF (ar o d.toNat (1+1+1+1))), .s (bz (ar o d.toNat (1+1+1+1+1))), .i .i64 (bF (ar o d.toNat (1+1+1+1+1+1)))])else aj else aj else g a (br (d+1)) e f h i j l m o p q r s t u w y z α xa xb xc else aj else k0 a d e f h i j l m o p q r s t u w y z α xa xb xc
def l4(N:aC)(k0:i_ R):aC->i_ R
 |0=>λ_ _ _ _ _ _ _ _ _ _ _ _ _ _ _ _ _ _ _ _ _ _ _=>aj
 |n+1=>r4 N (l4 N k0 n) k0
def b(N:aC)(kr:eP R)(a:aw)(d e f h:aQ)(i:aw)(j l:aQ)(m o:aw):ay R:=bif fJ.c a d e f h i j l m then l4 N (λ_ _ _ _ _ _ _ _ _ _ _ _ _ _ p q r s t u w y z=>kr p s t u w q y z r) N o 0 a d e f h i j l m 0 0 0 (fJ.v a d e f h i j l m).1 (fJ.v a d e f h i j l m).2.2.2.2.2.1 (fJ.v a d e f h i j l m).2.2.2.2.2.2.2.2 (fJ.v a d e f h i j l m).2.1 (fJ.v a d e f h i j l m).2.2.1 (fJ.v a d e f h i j l m).2.2.2.1 (fJ.v a d e f h i j l m).2.2.2.2.1 (fJ.v a d e f h i j l m).2.2.2.2.2.2.1 (aN [Ck.i ao,Ck.s,Ck.i ao,Ck.i ao,Ck.i ao,Ck.s,Ck.i ao] 0)else aj
def vo:=b Lib.cy λr0 r1 r2 r3 r4 r5 r6 r7 r8=>ah (r0,r1,r2,r3,r4,r5,r6,r7,r8)
def c:=λa d e f h i j l m o=>(vo a d e f h i j l m o).isSome
def v:=λa d e f h i j l m o=>(vo a d e f h i j l m o).getD (0,[],[],[],[],0,[],[],0)
theorem out{x}:∀a d e f h i j l m o,vo a d e f h i j l m o=ah x->c a d e f h i j l m o=ai/\v a d e f h i j l m o=x:=λ_ _ _ _ _ _ _ _ _ _=>Lib.cY
end uZ

namespace xA
def r5(N:aC)(g:qt R)(g1:vI R)(k0:qt R)(k1:vI R)(a:aQ)(d:aw)(e:aQ):ay R:=bif decide (d<(e.length:aw))then bif decide (0<=d)&&decide (d<(e.length:aw))then bif decide (d<(a.length:aw))then bif decide (0<=d)&&decide (d<(a.length:aw))then bif decide (bF (ar a d.toNat 0)>((bz (ar e d.toNat 1)).size:aw))then bif decide (((bz (ar e d.toNat 1)).size:aw)<bF (ar e d.toNat (1+1)))then bif iA 0 (bF (ar e d.toNat (1+1))) ((bz (ar e d.toNat 1)).size:aw)then g1 a (br (d+1)) e ([]++aL (aN [Ck.s,Ck.s,Ck.i ao] 1) 0 [.s (bz (ar e d.toNat 0)), .s (bP (bz (ar e d.toNat 1)) (bc 0) (bF (ar e d.toNat (1+1))).toNat), .i .i64 (bF (ar e d.toNat (1+1)))])else aj else bif iA 0 ((bz (ar e d.toNat 1)).size:aw) ((bz (ar e d.toNat 1)).size:aw)then g1 a (br (d+1)) e ([]++aL (aN [Ck.s,Ck.s,Ck.i ao] 1) 0 [.s (bz (ar e d.toNat 0)), .s (bP (bz (ar e d.toNat 1)) (bc 0) ((bz (ar e d.toNat 1)).size:aw).toNat), .i .i64 ((bz (ar e d.toNat 1)).size:aw)])else aj else bif decide (bF (ar a d.toNat 0)<bF (ar e d.toNat (1+1)))then bif iA 0 (bF (ar e d.toNat (1+1))) ((bz (ar e d.toNat 1)).size:aw)then g1 a (br (d+1)) e ([]++aL (aN [Ck.s,Ck.s,Ck.i ao] 1) 0 [.s (bz (ar e d.toNat 0)), .s (bP (bz (ar e d.toNat 1)) (bc 0) (bF (ar e d.toNat (1+1))).toNat), .i .i64 (bF (ar e d.toNat (1+1)))])else aj else bif iA 0 (bF (ar a d.toNat 0)) ((bz (ar e d.toNat 1)).size:aw)then g1 a (br (d+1)) e ([]++aL (aN [Ck.s,Ck.s,Ck.i ao] 1) 0 [.s (bz (ar e d.toNat 0)), .s (bP (bz (ar e d.toNat 1)) (bc 0) (bF (ar a d.toNat 0)).toNat), .i .i64 (bF (ar a d.toNat 0))])else aj else aj else bif decide (0<bF (ar e d.toNat (1+1)))then bif iA 0 (bF (ar e d.toNat (1+1))) ((bz (ar e d.toNat 1)).size:aw)then g1 a (br (d+1)) e ([]++aL (aN [Ck.s,Ck.s,Ck.i ao] 1) 0 [.s (bz (ar e d.toNat 0)), .s (bP (bz (ar e d.toNat 1)) (bc 0) (bF (ar e d.toNat (1+1))).toNat), .i .i64 (bF (ar e d.toNat (1+1)))])else aj else g1 a (br (d+1)) e ([]++aL (aN [Ck.s,Ck.s,Ck.i ao] 1) 0 [.s (bz (ar e d.toNat 0)), .s (bP (bz (ar e d.toNat 1)) (bc 0) (bc 0)), .i .i64 0])else aj else k0 a d e
def r5a(N:aC)(g:qt R)(g1:vI R)(k0:qt R)(k1:vI R)(a:aQ)(d:aw)(e f:aQ):ay R:=bif decide (d<(e.length:aw))then bif decide (0<=d)&&decide (d<(e.length:aw))then bif decide (d<(a.length:aw))then bif decide (0<=d)&&decide (d<(a.length:aw))then bif decide (bF (ar a d.toNat 0)>((bz (ar e d.toNat 1)).size:aw))then bif decide (((bz (ar e d.toNat 1)).size:aw)<bF (ar e d.toNat (1+1)))then bif iA 0 (bF (ar e d.toNat (1+1))) ((bz (ar e d.toNat 1)).size:aw)then bif cC (f.length+(aL (aN [Ck.s,Ck.s,Ck.i ao] 1) 0 [.s (bz (ar e d.toNat 0)), .s (bP (bz (ar e d.toNat 1)) (bc 0) (bF (ar e d.toNat (1+1))).toNat), .i .i64 (bF (ar e d.toNat (1+1)))]).length) 40 then g1 a (br (d+1)) e (f++aL (aN [Ck.s,Ck.s,Ck.i ao] 1) 0 [.s (bz (ar e d.toNat 0)), .s (bP (bz (ar e d.toNat 1)) (bc 0) (bF (ar e d.toNat (1+1))).toNat), .i .i64 (bF (ar e d.toNat (1+1)))])else aj else aj else bif iA 0 ((bz (ar e d.toNat 1)).size:aw) ((bz (ar e d.toNat 1)).size:aw)then bif cC (f.length+(aL (aN [Ck.s,Ck.s,Ck.i ao] 1) 0 [.s (bz (ar e d.toNat 0)), .s (bP (bz (ar e d.toNat 1)) (bc 0) ((bz (ar e d.toNat 1)).size:aw).toNat), .i .i64 ((bz (ar e d.toNat 1)).size:aw)]).length) 40 then g1 a (br (d+1)) e (f++aL (aN [Ck.s,Ck.s,Ck.i ao] 1) 0 [.s (bz (ar e d.toNat 0)), .s (bP (bz (ar e d.toNat 1)) (bc 0) ((bz (ar e d.toNat 1)).size:aw).toNat), .i .i64 ((bz (ar e d.toNat 1)).size:aw)])else aj else aj else bif decide (bF (ar a d.toNat 0)<bF (ar e d.toNat (1+1)))then bif iA 0 (bF (ar e d.toNat (1+1))) ((bz (ar e d.toNat 1)).size:aw)then bif cC (f.length+(aL (aN [Ck.s,Ck.s,Ck.i ao] 1) 0 [.s (bz (ar e d.toNat 0)), .s (bP (bz (ar e d.toNat 1)) (bc 0) (bF (ar e d.toNat (1+1))).toNat), .i .i64 (bF (ar e d.toNat (1+1)))]).length) 40 then g1 a (br (d+1)) e (f++aL (aN [Ck.s,Ck.s,Ck.i ao] 1) 0 [.s (bz (ar e d.toNat 0)), .s (bP (bz (ar e d.toNat 1)) (bc 0) (bF (ar e d.toNat (1+1))).toNat), .i .i64 (bF (ar e d.toNat (1+1)))])else aj else aj else bif iA 0 (bF (ar a d.toNat 0)) ((bz (ar e d.toNat 1)).size:aw)then bif cC (f.length+(aL (aN [Ck.s,Ck.s,Ck.i ao] 1) 0 [.s (bz (ar e d.toNat 0)), .s (bP (bz (ar e d.toNat 1)) (bc 0) (bF (ar a d.toNat 0)).toNat), .i .i64 (bF (ar a d.toNat 0))]).length) 40 then g1 a (br (d+1)) e (f++aL (aN [Ck.s,Ck.s,Ck.i ao] 1) 0 [.s (bz (ar e d.toNat 0)), .s (bP (bz (ar e d.toNat 1)) (bc 0) (bF (ar a d.toNat 0)).toNat), .i .i64 (bF (ar a d.toNat 0))])else aj else aj else aj else bif decide (0<bF (ar e d.toNat (1+1)))then bif iA 0 (bF (ar e d.toNat (1+1))) ((bz (ar e d.toNat 1)).size:aw)then bif cC (f.length+(aL (aN [Ck.s,Ck.s,Ck.i ao] 1) 0 [.s (bz (ar e d.toNat 0)), .s (bP (bz (ar e d.toNat 1)) (bc 0) (bF (ar e d.toNat (1+1))).toNat), .i .i64 (bF (ar e d.toNat (1+1)))]).length) 40 then g1 a (br (d+1)) e (f++aL (aN [Ck.s,Ck.s,Ck.i ao] 1) 0 [.s (bz (ar e d.toNat 0)), .s (bP (bz (ar e d.toNat 1)) (bc 0) (bF (ar e d.toNat (1+1))).toNat), .i .i64 (bF (ar e d.toNat (1+1)))])else aj else aj else bif cC (f.length+(aL (aN [Ck.s,Ck.s,Ck.i ao] 1) 0 [.s (bz (ar e d.toNat 0)), .s (bP (bz (ar e d.toNat 1)) (bc 0) (bc 0)), .i .i64 0]).length) 40 then g1 a (br (d+1)) e (f++aL (aN [Ck.s,Ck.s,Ck.i ao] 1) 0 [.s (bz (ar e d.toNat 0)), .s (bP (bz (ar e d.toNat 1)) (bc 0) (bc 0)), .i .i64 0])else aj else aj else k1 a d e f
def l5a(N:aC)(k0:qt R)(k1:vI R):aC->vI R
 |0=>λ_ _ _ _=>aj
 |n+1=>r5a N (λx0 x1 x2=>aj) (l5a N k0 k1 n) k0 k1
def l5(N:aC)(k0:qt R)(k1:vI R):aC->qt R
 |0=>λ_ _ _=>aj
 |n+1=>r5 N (l5 N k0 k1 n) (l5a N k0 k1 n) k0 k1
def b(N:aC)(kr:Jl R)(a d:aQ):ay R:=bif gQ.c a then bif !gQ.v a then kr [] ak else l5 N (λ_ _ _=>kr [] ai) (λ_ _ _ e=>kr e ai) N d 0 a else aj
def vo:=b Lib.cy λr0 r1=>ah (r0,r1)
def c:=λa d=>(vo a d).isSome
def v:=λa d=>(vo a d).getD ([],ak)
theorem out{x}:∀a d,vo a d=ah x->c a d=ai/\v a d=x:=λ_ _=>Lib.cY
end xA

namespace v8
def b(kr:zI R)(a:aQ)(d:aq):ay R:=bif jt.c a d then bif decide (jt.v a d<0)then kr ⟨#[]⟩ ak else bif decide (0<=jt.v a d)&&decide (jt.v a d<(a.length:aw))then kr (bz (ar a (jt.v a d).toNat 1)) ai else aj else aj
def vo:=b λr0 r1=>ah (r0,r1)
def c:=λa d=>(vo a d).isSome
def v:=λa d=>(vo a d).getD (⟨#[]⟩,ak)
theorem out{x}:∀a d,vo a d=ah x->c a d=ai/\v a d=x:=λ_ _=>Lib.cY
end v8

namespace fQ
def r6(N:aC)(g k0 k1:vJ R)(a:aq)(d e f:aw)(h:aY)(i j l:aw):ay R:=bif decide (l<(a.size:aw))then bif decide (l<br (d+5))then bif decide (0<=l)&&decide (l<(a.size:aw))then bif decide (0<=l)&&decide (l<(a.size:aw))then bif decide ((↑(gU a l.toNat):aw)<128)then bif decide (br (i+br (cT (br (↑(gU a l.toNat):aw)) 128*j))>1000000000)then k0 a d 0 0 ak (br (i+br (cT (br (↑(gU a l.toNat):aw)) 128*j))) (br (j*128)) l else bif km.c (br (i+br (cT (br (↑(gU a l.toNat):aw)) 128*j)))then bif iA d (br (l+1)) (a.size:aw)then bif !List.beq (km.v (br (i+br (cT (br (↑(gU a l.toNat):aw)) 128*j)))).toList (bP a d.toNat (br (l+1)).toNat).toList then k0 a d 0 0 ak (br (i+br (cT (br (↑(gU a l.toNat):aw)) 128*j))) (br (j*128)) l else k0 a d (br (i+br (cT (br (↑(gU a l.toNat):aw)) 128*j))) (br (l+1)) ai (br (i+br (cT (br (↑(gU a l.toNat):aw)) 128*j))) (br (j*128)) l else aj else aj else g a d e f h (br (i+br (cT (br (↑(gU a l.toNat):aw)) 128*j))) (br (j*128)) (br (l+1))else aj else aj else k1 a d e f h i j l else k1 a d e f h i j l
def l6(N:aC)(k0 k1:vJ R):aC->vJ R
 |0=>λ_ _ _ _ _ _ _ _=>aj
 |n+1=>r6 N (l6 N k0 k1 n) k0 k1
def b(N:aC)(kr:Nr R)(a:aq)(d:aw):ay R:=bif !kq.v d 0 (a.size:aw)then kr 0 0 ak else l6 N (λ_ _ e f h _ _ _=>kr e f h) (λ_ _ _ _ _ _ _ _=>kr 0 0 ak) N a d 0 0 ak 0 1 d
def v(cX:aq)(gT:aw):aw×aw×aY:=if 0<=gT/\gT<=cX.size then Lib.rv cX gT.toNat 5 0 0 else(0,0,ak)
theorem dP(kr:Nr R)(cX:aq)(gT:aw)(f0:CD cX):∃N,b N kr cX gT=kr (v cX gT).1 (v cX gT).2.1 (v cX gT).2.2:=by
 refine⟨6, ?_⟩
 unfold b v;by_cases hn:0<=gT/\gT<=cX.size
 ·have e:kq.v gT 0 (cX.size:aw)=true:=by simp[kq.v,hn]
  obtain⟨a,rfl⟩:∃a:aC,gT=(a:aw):=⟨gT.toNat,by omega⟩
  have ha:a<=cX.size:=by omega
  rw[e,bB hn,Lib.dU];have hs:cX.size<=4611686018427387904:=f0;simp only[aX,ax]
  have:=Lib.dB (λm (s:aC×aw)=>l6 6 (λy8 y9 Lf wJ Nn I4 XU XV=>kr Lf wJ Nn) (λRO EC GN Fu wK Lh Li Xh=>kr 0 0 ak) m cX a 0 0 ak s.2 (128^s.1) ((a+s.1:aC):aw)) (λs=>5-s.1) (λs=>s.1<=5/\s.2=Lib.num cX a s.1/\∀i,i<s.1->128<=gU cX (a+i))
   (λs=>kr (Lib.rv cX a (5-s.1) s.1 s.2).1 (Lib.rv cX a (5-s.1) s.1 s.2).2.1 (Lib.rv cX a (5-s.1) s.1 s.2).2.2) (λm s hs5=>by
   obtain⟨j,n⟩:=s
   obtain⟨hj,ahj,hge⟩:=hs5
   dsimp only at hj ahj hge⊢
   have hb:=Lib.H0 cX (a+j)
   have e5:br ((a:aw)+5)=((a+5:aC):aw):=by rw[ir (by omega) (by omega)];omega
   by_cases fP:a+j<cX.size
   ·by_cases hj5:j<5
    ·have eb:br (gU cX (a+j):aw)=(gU cX (a+j):aw):=ir (by omega) (by omega);have em:cT (gU cX (a+j):aw) 128=(gU cX (a+j):aw)%128:=jD (by omega);have hp:(128:aw)^j<=268435456/\(1:aw)<=128^j/\(128:aw)^(j+1)=128^j*128:=by
      obtain rfl|rfl|rfl|rfl|rfl:j=0\/j=1\/j=2\/j=3\/j=4:=by omega
      all_goals decide
     have hrg:=Lib.CC cX j a;rw[<-ahj]at hrg;have hm0:0<=(gU cX (a+j):aw)%128/\(gU cX (a+j):aw)%128<=127:=by omega
     have hq:0<=(gU cX (a+j):aw)%128*128^j/\(gU cX (a+j):aw)%128*128^j<=127*128^j:=
      ⟨Int.mul_nonneg hm0.1 (by omega),EH hm0.2 (by omega)⟩
     have eq1:br ((gU cX (a+j):aw)%128*128^j)=(gU cX (a+j):aw)%128*128^j:=ir (by omega) (by omega);have eq2:br (n+(gU cX (a+j):aw)%128*128^j)=n+(gU cX (a+j):aw)%128*128^j:=ir (by omega) (by omega);have eq3:br ((128:aw)^j*128)=128^(j+1):=by rw[hp.2.2];exact ir (by omega) (by omega)
     have ef:5-j=(5-(j+1))+1:=by omega
     have YW:n+(gU cX (a+j):aw)%128*128^j=Lib.num cX a (j+1):=by rw[Lib.yA,<-ahj]
     have en:br (((a+j:aC):aw)+1)=((a+(j+1):aC):aw):=Lib.c5 fP (by omega);have c2:decide (((a+j:aC):aw)<((a+5:aC):aw))=true:=Lib.Ou (by omega)
     have YV:Lib.rv cX a (5-j) j n=(if(gU cX (a+j):aw)>127 then Lib.rv cX a (5-(j+1)) (j+1) (n+(gU cX (a+j):aw)%128*128^j)
       else if(j>0/\gU cX (a+j)=0)\/n+(gU cX (a+j):aw)%128*128^j>1000000000 then(0,0,ak)
       else(n+(gU cX (a+j):aw)%128*128^j,((a+j+1:aC):aw),ai)):=by
      rw[ef];simp only[Lib.rv];rw[bB fP]
     simp only[l6,r6,Lib.Ou fP,e5,c2,Lib.cz,Lib.dU,eb,em,eq1,eq2,eq3,en,au,aJ];by_cases hc:(gU cX (a+j):aw)<128
     ·left;rw[aE hc,au,YV,bH (by omega)];by_cases tA:n+(gU cX (a+j):aw)%128*128^j>1000000000
      ·rw[aE tA,bB (.inr tA)];rfl
      ·have ec:km.c (n+(gU cX (a+j):aw)%128*128^j)=true:=aE (by omega);have ein:iA (a:aw) ((a+(j+1):aC):aw) (cX.size:aw)=true:=by simp[iA];omega
       rw[aG tA,ax,ec,au,ein,au,YW];have avh:=Lib.canon cX j a (by omega) hge (by omega) (by rw[<-YW];omega);unfold km.v;rw[avh];by_cases hz:j>0/\gU cX (a+j)=0
       ·rw[aE hz,bB (.inl hz)];rfl
       ·rw[aG hz,bH (by rw[YW]at tA;omega)];rfl
     ·right;rw[aG hc];refine⟨(j+1,n+(gU cX (a+j):aw)%128*128^j),⟨by dsimp only;omega,YW,λi hi=> ?_⟩,by dsimp only;omega,by dsimp only;rw[YV,bB (by omega)],rfl⟩
      by_cases QF:i<j
      ·exact hge i QF
      ·have:i=j:=by dsimp only at hi;omega
       subst this;omega
    ·left;have La:j=5:=by omega
     subst La;simp only[l6,r6,Lib.Ou fP,e5,Lib.TY (bg (a+5)),au,ax];rfl
   ·left;have YV:Lib.rv cX a (5-j) j n=(0,0,ak):=by
     by_cases hj5:j<5
     ·have ef:5-j=(5-(j+1))+1:=by omega
      rw[ef];simp only[Lib.rv];rw[bH fP]
     ·rw[show 5-j=0 by omega];rfl
    simp only[l6,r6,Lib.TY fP,ax,YV]) 6 (0,0) ⟨by dsimp only;omega,rfl,λi hi=>by dsimp only at hi;omega⟩ (by dsimp only;omega)
  exact this
 ·have e:kq.v gT 0 (cX.size:aw)=false:=by simp[kq.v];omega
  rw[e,bH hn];rfl
end fQ

namespace Jb
def r5(N:aC)(g k0 k1:me R)(a:aq)(d e:aw)(f:aQ):ay R:=bif decide (e<(a.size:aw))then bif !(fQ.v a e).2.2 then k0 a e e f else bif decide ((fQ.v a e).1>br (br ((a.size:aw)-(fQ.v a e).2.1)-4))then k0 a e e f else bif iA (br ((fQ.v a e).2.1+4)) (br (br ((fQ.v a e).2.1+4)+(fQ.v a e).1)) (a.size:aw)then bif fI.c (bP a (br ((fQ.v a e).2.1+4)).toNat (br (br ((fQ.v a e).2.1+4)+(fQ.v a e).1)).toNat)then bif !(fI.v (bP a (br ((fQ.v a e).2.1+4)).toNat (br (br ((fQ.v a e).2.1+4)+(fQ.v a e).1)).toNat)).2 then k0 a e e f else bif iA e (br (br ((fQ.v a e).2.1+4)+(fQ.v a e).1)) (a.size:aw)then bif !List.beq (fI.v (bP a (br ((fQ.v a e).2.1+4)).toNat (br (br ((fQ.v a e).2.1+4)+(fQ.v a e).1)).toNat)).1.toList (bP a e.toNat (br (br ((fQ.v a e).2.1+4)+(fQ.v a e).1)).toNat).toList then k0 a e e f else bif cC (f.length+(aL (aN [.s] 1) 0 [.s (bP a (br ((fQ.v a e).2.1+4)).toNat (br (br ((fQ.v a e).2.1+4)+(fQ.v a e).1)).toNat)]).length) 16 then g a d (br (br ((fQ.v a e).2.1+4)+(fQ.v a e).1)) (f++aL (aN [.s] 1) 0 [.s (bP a (br ((fQ.v a e).2.1+4)).toNat (br (br ((fQ.v a e).2.1+4)+(fQ.v a e).1)).toNat)])else aj else aj else aj else aj else k1 a d e f
def l5(N:aC)(k0 k1:me R):aC->me R
 |0=>λ_ _ _ _=>aj
 |n+1=>r5 N (l5 N k0 k1 n) k0 k1
def b(N:aC)(kr:EG R)(a:aq):ay R:=bif decide ((a.size:aw)>20000)then kr (aN [.s] 0) 0 else l5 N (λ_ d _ e=>kr e d) (λ_ _ f h=>kr h f) N a 0 0 (aN [.s] 0)
def vo:=b Lib.cy λr0 r1=>ah (r0,r1)
def c:=λa=>(vo a).isSome
def v:=λa=>(vo a).getD ([],0)
theorem out{x}:∀a,vo a=ah x->c a=ai/\v a=x:=λ_=>Lib.cY
end Jb

namespace qf
def b(kr:Nv R)(a:aq)(d:aw):ay R:=bif !(fQ.v a d).2.2 then kr ⟨#[]⟩ 0 ak else bif decide ((fQ.v a d).1>20000)then kr ⟨#[]⟩ 0 ak else bif decide ((fQ.v a d).1>br ((a.size:aw)-(fQ.v a d).2.1))then kr ⟨#[]⟩ 0 ak else bif iA (fQ.v a d).2.1 (br ((fQ.v a d).2.1+(fQ.v a d).1)) (a.size:aw)then kr (bP a (fQ.v a d).2.1.toNat (br ((fQ.v a d).2.1+(fQ.v a d).1)).toNat) (br ((fQ.v a d).2.1+(fQ.v a d).1)) ai else aj
def v(cX:aq)(gT:aw):aq×aw×aY:=Lib.g6 cX gT
theorem dP(kr:Nv R)(cX:aq)(gT:aw)(f0:CD cX):b kr cX gT=kr (v cX gT).1 (v cX gT).2.1 (v cX gT).2.2:=Lib.vC f0 gT kr
end qf

namespace rG
def b(kr:wQ R)(a:aq):ay R:=bif !(qf.v a 0).2.2 then kr ⟨#[]⟩ 0 0 ⟨#[]⟩ ak else bif !(fQ.v a (qf.v a 0).2.1).2.2 then kr ⟨#[]⟩ 0 0 ⟨#[]⟩ ak else bif !(fQ.v a (fQ.v a (qf.v a 0).2.1).2.1).2.2 then kr ⟨#[]⟩ 0 0 ⟨#[]⟩ ak else bif iA (fQ.v a (fQ.v a (qf.v a 0).2.1).2.1).2.1 (a.size:aw) (a.size:aw)then bif !(jF.v (qf.v a 0).1 (fQ.v a (qf.v a 0).2.1).1 (fQ.v a (fQ.v a (qf.v a 0).2.1).2.1).1 (bP a (fQ.v a (fQ.v a (qf.v a 0).2.1).2.1).2.1.toNat (a.size:aw).toNat)).2 then kr ⟨#[]⟩ 0 0 ⟨#[]⟩ ak else bif !List.beq (jF.v (qf.v a 0).1 (fQ.v a (qf.v a 0).2.1).1 (fQ.v a (fQ.v a (qf.v a 0).2.1).2.1).1 (bP a (fQ.v a (fQ.v a (qf.v a 0).2.1).2.1).2.1.toNat (a.size:aw).toNat)).1.toList (aA a)then kr ⟨#[]⟩ 0 0 ⟨#[]⟩ ak else kr (qf.v a 0).1 (fQ.v a (qf.v a 0).2.1).1 (fQ.v a (fQ.v a (qf.v a 0).2.1).2.1).1 (bP a (fQ.v a (fQ.v a (qf.v a 0).2.1).2.1).2.1.toNat (a.size:aw).toNat) ai else aj
def no:aq×aw×aw×aq×aY:=(⟨#[]⟩,0,0,⟨#[]⟩,ak)
def v(t0:aq):aq×aw×aw×aq×aY:=
 match Lib.g6 t0 0 with
 |(k,a,ai)=>(match Lib.eG t0 a with
  |(s,x,ai)=>(match Lib.eG t0 x with
   |(l,y,ai)=>if nq.v k s l (t0.extract y.toNat t0.size)=ai then(k,s,l,t0.extract y.toNat t0.size,ai)else no
   |_=>no)
  |_=>no)
 |_=>no
theorem dP(kr:wQ R)(t0:aq)(f0:CD t0):b kr t0=kr (v t0).1 (v t0).2.1 (v t0).2.2.1 (v t0).2.2.2.1 (v t0).2.2.2.2:=by
 have e1:qf.v=Lib.g6:=rfl;have e2:fQ.v=Lib.eG:=rfl;unfold b v;simp only[e1,e2,Lib.dU];cases h1:Lib.g6 t0 0 with
 |mk k r1=>
  obtain⟨a,ok1⟩:=r1;cases ok1 with
  |false=>rfl
  |true=>
   dsimp only;cases h2:Lib.eG t0 a with
   |mk s r2=>
    obtain⟨x,ok2⟩:=r2;cases ok2 with
    |false=>rfl
    |true=>
     dsimp only;cases h3:Lib.eG t0 x with
     |mk l r3=>
      obtain⟨y,ok3⟩:=r3;cases ok3 with
      |false=>rfl
      |true=>
       obtain⟨p1,p2,p3,p4,p5⟩:=Lib.II h1;obtain⟨q1,q2,q3,q4,q5,q6⟩:=Lib.jY h2;obtain⟨r1,r2,r3,r4,r5,r6⟩:=Lib.jY h3;dsimp only;simp only[aX,ax];rw[Lib.qC (show iA y (t0.size:aw) (t0.size:aw)=ai by simp[iA];omega)];unfold jF.v;cases hE:nq.v k s l (t0.extract y.toNat t0.size)with
       |false=>rfl
       |true=>
        have ht:jF.sN k s l (t0.extract y.toNat t0.size)=t0:=by unfold jF.sN;rw[p5,q6,Lib.xN t0 (by omega) (by omega),r6,Lib.xN t0 (by omega) (by omega),Lib.xN t0 (by omega) (by omega)];exact Lib.H5 t0
        simp only[if_true,aX,ax,ht,Lib.qA]
end rG

namespace Ja
def r7(N:aC)(g k0:RZ R)(a:aw)(d e:aQ):ay R:=bif decide (a<(e.length:aw))then bif decide (0<=a)&&decide (a<(e.length:aw))then bif(rG.v (bz (ar e a.toNat 0))).2.2.2.2 then bif lG.c d (rG.v (bz (ar e a.toNat 0))).1 (rG.v (bz (ar e a.toNat 0))).2.1 (rG.v (bz (ar e a.toNat 0))).2.2.1 (rG.v (bz (ar e a.toNat 0))).2.2.2.1 then g (br (a+1)) (lG.v d (rG.v (bz (ar e a.toNat 0))).1 (rG.v (bz (ar e a.toNat 0))).2.1 (rG.v (bz (ar e a.toNat 0))).2.2.1 (rG.v (bz (ar e a.toNat 0))).2.2.2.1) e else aj else g (br (a+1)) d e else aj else k0 a d e
def l7(N:aC)(k0:RZ R):aC->RZ R
 |0=>λ_ _ _=>aj
 |n+1=>r7 N (l7 N k0 n) k0
def b(N:aC)(kr:aQ->ay R)(a:aQ):ay R:=bif gQ.c a then bif !gQ.v a then kr (aN [Ck.s,Ck.i ao,Ck.i ao,Ck.s] 0)else bif v8.c a {data:= #[aP 107,aP 101,aP 112,aP 116]}then bif Jb.c (v8.v a {data:= #[aP 107,aP 101,aP 112,aP 116]}).1 then l7 N (λ_ d _=>kr d) N 0 (aN [Ck.s,Ck.i ao,Ck.i ao,Ck.s] 0) (Jb.v (v8.v a {data:= #[aP 107,aP 101,aP 112,aP 116]}).1).1 else aj else aj else aj
def vo:=b Lib.cy λr0=>ah r0
def c:=λa=>(vo a).isSome
def v:=λa=>(vo a).getD ([])
theorem out{x}:∀a,vo a=ah x->c a=ai/\v a=x:=λ_=>Lib.cY
end Ja

namespace jG
def r9(N:aC)(g:B_ R)(k0:Jm R)(k1:B_ R)(a:aQ)(d:aY)(e:aq)(f:aw)(h:aQ):ay R:=bif decide (f<(a.length:aw))then bif decide (0<=f)&&decide (f<(a.length:aw))then bif fI.c (jF.v (bz (ar a f.toNat 0)) (bF (ar a f.toNat 1)) (bF (ar a f.toNat (1+1))) (bz (ar a f.toNat (1+1+1)))).1 then bif !(jF.v (bz (ar a f.toNat 0)) (bF (ar a f.toNat 1)) (bF (ar a f.toNat (1+1))) (bz (ar a f.toNat (1+1+1)))).2 then k0 a ak e f (aN [Ck.i ao,Ck.s,Ck.s,Ck.s] 0) h else bif !(fI.v (jF.v (bz (ar a f.toNat 0)) (bF (ar a f.toNat 1)) (bF (ar a f.toNat (1+1))) (bz (ar a f.toNat (1+1+1)))).1).2 then k0 a ak e f (aN [Ck.i ao,Ck.s,Ck.s,Ck.s] 0) h else bif decide (e.size+(fI.v (jF.v (bz (ar a f.toNat 0)) (bF (ar a f.toNat 1)) (bF (ar a f.toNat (1+1))) (bz (ar a f.toNat (1+1+1)))).1).1.size<=4611686018427387904)then g a d (e++(fI.v (jF.v (bz (ar a f.toNat 0)) (bF (ar a f.toNat 1)) (bF (ar a f.toNat (1+1))) (bz (ar a f.toNat (1+1+1)))).1).1) (br (f+1)) h else aj else aj else aj else k1 a d e f h
def l9(N:aC)(k0:Jm R)(k1:B_ R):aC->B_ R
 |0=>λ_ _ _ _ _=>aj
 |n+1=>r9 N (l9 N k0 k1 n) k0 k1
def b(N:aC)(kr:Jl R)(a d:aQ):ay R:=bif gQ.c a then bif !gQ.v a then kr (aN [Ck.i ao,Ck.s,Ck.s,Ck.s] 0) ak else bif v8.c a {data:= #[aP 110,aP 101,aP 119]}then bif(v8.v a {data:= #[aP 110,aP 101,aP 119]}).2 then l9 N (λ_ e _ _ f _=>kr f e) (λ_ _ h _ i=>bif cC (i.length+(aL (aL (aL (aN [Ck.i ao,Ck.s,Ck.s,Ck.s] 3) 0 [.i .i64 1, .s {data:= #[aP 110,aP 101,aP 119]}, .s h, .s ⟨#[]⟩]) 1 [.i .i64 2, .s {data:= #[aP 110,aP 101,aP 119]}, .s ⟨#[]⟩, .s ⟨#[]⟩]) 2 [.i .i64 3, .s {data:= #[aP 110,aP 101,aP 119]}, .s ⟨#[]⟩, .s {data:= #[aP 107,aP 101,aP 112,aP 116]}]).length) 56 then kr (i++aL (aL (aL (aN [Ck.i ao,Ck.s,Ck.s,Ck.s] 3) 0 [.i .i64 1, .s {data:= #[aP 110,aP 101,aP 119]}, .s h, .s ⟨#[]⟩]) 1 [.i .i64 2, .s {data:= #[aP 110,aP 101,aP 119]}, .s ⟨#[]⟩, .s ⟨#[]⟩]) 2 [.i .i64 3, .s {data:= #[aP 110,aP 101,aP 119]}, .s ⟨#[]⟩, .s {data:= #[aP 107,aP 101,aP 112,aP 116]}]) ai else aj) N d ak ⟨#[]⟩ 0 (aN [Ck.i ao,Ck.s,Ck.s,Ck.s] 0++aL (aN [Ck.i ao,Ck.s,Ck.s,Ck.s] 1) 0 [.i .i64 4, .s {data:= #[aP 110,aP 101,aP 119]}, .s ⟨#[]⟩, .s ⟨#[]⟩])else l9 N (λ_ j _ _ l _=>kr l j) (λ_ _ m _ o=>bif cC (o.length+(aL (aL (aL (aN [Ck.i ao,Ck.s,Ck.s,Ck.s] 3) 0 [.i .i64 1, .s {data:= #[aP 110,aP 101,aP 119]}, .s m, .s ⟨#[]⟩]) 1 [.i .i64 2, .s {data:= #[aP 110,aP 101,aP 119]}, .s ⟨#[]⟩, .s ⟨#[]⟩]) 2 [.i .i64 3, .s {data:= #[aP 110,aP 101,aP 119]}, .s ⟨#[]⟩, .s {data:= #[aP 107,aP 101,aP 112,aP 116]}]).length) 56 then kr (o++aL (aL (aL (aN [Ck.i ao,Ck.s,Ck.s,Ck.s] 3) 0 [.i .i64 1, .s {data:= #[aP 110,aP 101,aP 119]}, .s m, .s ⟨#[]⟩]) 1 [.i .i64 2, .s {data:= #[aP 110,aP 101,aP 119]}, .s ⟨#[]⟩, .s ⟨#[]⟩]) 2 [.i .i64 3, .s {data:= #[aP 110,aP 101,aP 119]}, .s ⟨#[]⟩, .s {data:= #[aP 107,aP 101,aP 112,aP 116]}]) ai else aj) N d ak ⟨#[]⟩ 0 (aN [Ck.i ao,Ck.s,Ck.s,Ck.s] 0)else aj else aj
def vo:=b Lib.cy λr0 r1=>ah (r0,r1)
def c:=λa d=>(vo a d).isSome
def v:=λa d=>(vo a d).getD ([],ak)
theorem out{x}:∀a d,vo a d=ah x->c a d=ai/\v a d=x:=λ_ _=>Lib.cY
end jG

namespace Bl
def r4(N:aC)(g k0:mG R)(a:aw)(d:aQ)(e f h i j l m:aw)(o p q r s t:aQ):ay R:=bif decide (e<(d.length:aw))then bif decide (0<=e)&&decide (e<(d.length:aw))then bif nq.v (bz (ar d e.toNat 0)) (bF (ar d e.toNat 1)) (bF (ar d e.toNat (1+1))) (bz (ar d e.toNat (1+1+1)))then bif decide (0<=e)&&decide (e<(d.length:aw))then bif HM.v (bz (ar d e.toNat 0)) (bF (ar d e.toNat 1)) (bF (ar d e.toNat (1+1))) (bz (ar d e.toNat (1+1+1))) a then bif decide (0<=e)&&decide (e<(d.length:aw))then bif Qf.c j o p q r l s t m (bz (ar d e.toNat 0)) (bF (ar d e.toNat 1)) (bF (ar d e.toNat (1+1))) (bz (ar d e.toNat (1+1+1)))then Lib.lt (Qf.v j o p q r l s t m (bz (ar d e.toNat 0)) (bF (ar d e.toNat 1)) (bF (ar d e.toNat (1+1))) (bz (ar d e.toNat (1+1+1)))) λu=>g a d (br (e+1)) f h i u.1 u.2.2.2.2.2.1 u.2.2.2.2.2.2.2.2 u.2.1 u.2.2.1 u.2.2.2.1 u.2.2.2.2.1 u.2.2.2.2.2.2.1 u.2.2.2.2.2.2.2.1 else aj else aj else g a d (br (e+1)) f h i j l m o p q r s t else aj else g a d (br (e+1)) f h i j l m o p q r s t else aj else k0 a d e f h i j l m o p q r s t
def l4(N:aC)(k0:mG R):aC->mG R
 |0=>λ_ _ _ _ _ _ _ _ _ _ _ _ _ _ _=>aj
 |n+1=>r4 N (l4 N k0 n) k0
def b(N:aC)(kr:eP R)(a:aw)(d:aQ):ay R:=l4 N (λ_ _ _ _ _ _ e f h i j l m o p=>kr e i j l m f o p h) N a d 0 0 0 0 a 0 0 [] [] [] ([]++aL (aN [Ck.l 3] 1) 0 [CV.l 3 (aN [Ck.i ao] (bc 16))]++aL (aN [Ck.l 3] 1) 0 [CV.l 3 (aN [Ck.i ao] (bc 16))]++aL (aN [Ck.l 3] 1) 0 [CV.l 3 (aN [Ck.i ao] (bc 16))]) [] []
def vo:=b Lib.cy λr0 r1 r2 r3 r4 r5 r6 r7 r8=>ah (r0,r1,r2,r3,r4,r5,r6,r7,r8)
def c:=λa d=>(vo a d).isSome
def v:=λa d=>(vo a d).getD (0,[],[],[],[],0,[],[],0)
theorem out{x}:∀a d,vo a d=ah x->c a d=ai/\v a d=x:=λ_ _=>Lib.cY
end Bl

namespace w7
def r7(N:aC)(g g1 k0 k1:iz R)(a d e f:aw)(h i j l m o p q r s t:aQ):ay R:=bif decide (a<(h.length:aw))then bif decide (0<=a)&&decide (a<(h.length:aw))then bif HM.v (bz (ar h a.toNat 0)) (bF (ar h a.toNat 1)) (bF (ar h a.toNat (1+1))) (bz (ar h a.toNat (1+1+1))) d then bif decide (0<=a)&&decide (a<(h.length:aw))then bif cC (i.length+(aL (aN [Ck.s,Ck.i ao,Ck.i ao,Ck.s] 1) 0 [.s (bz (ar h a.toNat 0)), .i .i64 (bF (ar h a.toNat 1)), .i .i64 (bF (ar h a.toNat (1+1))), .s (bz (ar h a.toNat (1+1+1)))]).length) 48 then g (br (a+1)) d e f h (i++aL (aN [Ck.s,Ck.i ao,Ck.i ao,Ck.s] 1) 0 [.s (bz (ar h a.toNat 0)), .i .i64 (bF (ar h a.toNat 1)), .i .i64 (bF (ar h a.toNat (1+1))), .s (bz (ar h a.toNat (1+1+1)))]) j l m o p q r s t else aj else aj else g (br (a+1)) d e f h i j l m o p q r s t else aj else k0 a d e f h i j l m o p q r s t
def r7a(N:aC)(g g1 k0 k1:iz R)(a d e f:aw)(h i j l m o p q r s t:aQ):ay R:=bif decide (a<(h.length:aw))then bif decide (0<=a)&&decide (a<(h.length:aw))then bif HM.v (bz (ar h a.toNat 0)) (bF (ar h a.toNat 1)) (bF (ar h a.toNat (1+1))) (bz (ar h a.toNat (1+1+1))) d then bif decide (0<=a)&&decide (a<(h.length:aw))then bif cC (i.length+(aL (aN [Ck.s,Ck.i ao,Ck.i ao,Ck.s] 1) 0 [.s (bz (ar h a.toNat 0)), .i .i64 (bF (ar h a.toNat 1)), .i .i64 (bF (ar h a.toNat (1+1))), .s (bz (ar h a.toNat (1+1+1)))]).length) 48 then g1 (br (a+1)) d e f h (i++aL (aN [Ck.s,Ck.i ao,Ck.i ao,Ck.s] 1) 0 [.s (bz (ar h a.toNat 0)), .i .i64 (bF (ar h a.toNat 1)), .i .i64 (bF (ar h a.toNat (1+1))), .s (bz (ar h a.toNat (1+1+1)))]) j l m o p q r s t else aj else aj else g1 (br (a+1)) d e f h i j l m o p q r s t else aj else k1 a d e f h i j l m o p q r s t
def l7a(N:aC)(k0 k1:iz R):aC->iz R
 |0=>λ_ _ _ _ _ _ _ _ _ _ _ _ _ _ _=>aj
 |n+1=>r7a N (λx2 x3 x4 x5 x6 x7 x8 x9 x10 x11 x12 x13 x14 x15 x16=>aj) (l7a N k0 k1 n) k0 k1
def l7(N:aC)(k0 k1:iz R):aC->iz R
 |0=>λ_ _ _ _ _ _ _ _ _ _ _ _ _ _ _=>aj
 |n+1=>r7 N (l7 N k0 k1 n) (l7a N k0 k1 n) k0 k1
def b(N:aC)(kr:mH R)(a:aw)(d e f h:aQ)(i:aw)(j l:aQ)(m:aw)(o p q:aQ)(r s:aw)(t:aq)(u:aw)(w:aQ):ay R:=bif xA.c o w then Lib.lt (xA.v o w) λy=>bif y.2 then bif Ja.c y.1 then Lib.lt (Ja.v y.1) λz=>l7 N (λ_ α _ _ _ xa _ _ _ _ _ _ xb xc xd=>bif jG.c xb xa then Lib.lt (jG.v xb xa) λxe=>bif xe.2 then bif qh.c xb xe.1 then Lib.lt (qh.v xb xe.1) λxf=>bif Bl.c α xa then Lib.lt (Bl.v α xa) λxg=>kr xg.1 xg.2.1 xg.2.2.1 xg.2.2.2.1 xg.2.2.2.2.1 xg.2.2.2.2.2.1 xg.2.2.2.2.2.2.1 xg.2.2.2.2.2.2.2.1 xg.2.2.2.2.2.2.2.2 xf.1 xc xd else aj else aj else bif Bl.c α xa then Lib.lt (Bl.v α xa) λxh=>kr xh.1 xh.2.1 xh.2.2.1 xh.2.2.2.1 xh.2.2.2.2.1 xh.2.2.2.2.2.1 xh.2.2.2.2.2.2.1 xh.2.2.2.2.2.2.2.1 xh.2.2.2.2.2.2.2.2 xb xc xd else aj else aj) (λ_ xi _ _ _ xj _ _ _ _ _ _ xk xl xm=>bif jG.c xk xj then Lib.lt (jG.v xk xj) λxn=>bif xn.2 then bif qh.c xk xn.1 then Lib.lt (qh.v xk xn.1) λxo=>bif Bl.c xi xj then Lib.lt (Bl.v xi xj) λxp=>kr xp.1 xp.2.1 xp.2.2.1 xp.2.2.2.1 xp.2.2.2.2.1 xp.2.2.2.2.2.1 xp.2.2.2.2.2.2.1 xp.2.2.2.2.2.2.2.1 xp.2.2.2.2.2.2.2.2 xo.1 xl xm else aj else aj else bif Bl.c xi xj then Lib.lt (Bl.v xi xj) λxq=>kr xq.1 xq.2.1 xq.2.2.1 xq.2.2.2.1 xq.2.2.2.2.1 xq.2.2.2.2.2.1 xq.2.2.2.2.2.2.1 xq.2.2.2.2.2.2.2.1 xq.2.2.2.2.2.2.2.2 xk xl xm else aj else aj) N 0 a i m z (aN [Ck.s,Ck.i ao,Ck.i ao,Ck.s] 0) d e f h j l y.1 p q else aj else bif Ja.c o then Lib.lt (Ja.v o) λxr=>l7a N (λ_ xs _ _ _ xt _ _ _ _ _ _ xu xv xw=>bif jG.c xu xt then Lib.lt (jG.v xu xt) λxx=>bif xx.2 then bif qh.c xu xx.1 then Lib.lt (qh.v xu xx.1) λxy=>bif Bl.c xs xt then Lib.lt (Bl.v xs xt) λxz=>kr xz.1 xz.2.1 xz.2.2.1 xz.2.2.2.1 xz.2.2.2.2.1 xz.2.2.2.2.2.1 xz.2.2.2.2.2.2.1 xz.2.2.2.2.2.2.2.1 xz.2.2.2.2.2.2.2.2 xy.1 xv xw else aj else aj else bif Bl.c xs xt then Lib.lt (Bl.v xs xt) λya=>kr ya.1 ya.2.1 ya.2.2.1 ya.2.2.2.1 ya.2.2.2.2.1 ya.2.2.2.2.2.1 ya.2.2.2.2.2.2.1 ya.2.2.2.2.2.2.2.1 ya.2.2.2.2.2.2.2.2 xu xv xw else aj else aj) (λ_ yb _ _ _ yc _ _ _ _ _ _ yd ye yf=>bif jG.c yd yc then Lib.lt (jG.v yd yc) λyg=>bif yg.2 then bif qh.c yd yg.1 then Lib.lt (qh.v yd yg.1) λyh=>bif Bl.c yb yc then Lib.lt (Bl.v yb yc) λyi=>kr yi.1 yi.2.1 yi.2.2.1 yi.2.2.2.1 yi.2.2.2.2.1 yi.2.2.2.2.2.1 yi.2.2.2.2.2.2.1 yi.2.2.2.2.2.2.2.1 yi.2.2.2.2.2.2.2.2 yh.1 ye yf else aj else aj else bif Bl.c yb yc then Lib.lt (Bl.v yb yc) λyj=>kr yj.1 yj.2.1 yj.2.2.1 yj.2.2.2.1 yj.2.2.2.2.1 yj.2.2.2.2.2.1 yj.2.2.2.2.2.2.1 yj.2.2.2.2.2.2.2.1 yj.2.2.2.2.2.2.2.2 yd ye yf else aj else aj) N 0 a i m xr (aN [Ck.s,Ck.i ao,Ck.i ao,Ck.s] 0) d e f h j l o p q else aj else aj
def vo:=b Lib.cy λr0 r1 r2 r3 r4 r5 r6 r7 r8 r9 yC tO=>ah (r0,r1,r2,r3,r4,r5,r6,r7,r8,r9,yC,tO)
def c:=λa d e f h i j l m o p q r s t u w=>(vo a d e f h i j l m o p q r s t u w).isSome
def v:=λa d e f h i j l m o p q r s t u w=>(vo a d e f h i j l m o p q r s t u w).getD (0,[],[],[],[],0,[],[],0,[],[],[])
theorem out{x}:∀a d e f h i j l m o p q r s t u w,vo a d e f h i j l m o p q r s t u w=ah x->c a d e f h i j l m o p q r s t u w=ai/\v a d e f h i j l m o p q r s t u w=x:=λ_ _ _ _ _ _ _ _ _ _ _ _ _ _ _ _ _=>Lib.cY
end w7

namespace EM
def b(kr:nX R)(a:aw)(d e f h:aQ)(i:aw)(j l:aQ)(m:aw)(o p q:aQ)(r s:aw)(t:aq)(u:aw)(w:aQ):ay R:=bif decide (r=1)then bif w6.c a d e f h i j l m s t then Lib.lt (w6.v a d e f h i j l m s t) λy=>kr y.2.2.2.2.2.2.2.2.2 y.1 y.2.1 y.2.2.1 y.2.2.2.1 y.2.2.2.2.1 y.2.2.2.2.2.1 y.2.2.2.2.2.2.1 y.2.2.2.2.2.2.2.1 y.2.2.2.2.2.2.2.2.1 o p q else aj else bif decide (r=2)then bif ER.c a d e f h i j l m s t then Lib.lt (ER.v a d e f h i j l m s t) λz=>kr (BU.v z.2.2.2.2.2.2.2.2.2) z.1 z.2.1 z.2.2.1 z.2.2.2.1 z.2.2.2.2.1 z.2.2.2.2.2.1 z.2.2.2.2.2.2.1 z.2.2.2.2.2.2.2.1 z.2.2.2.2.2.2.2.2.1 o p q else aj else bif decide (r=3)then bif ES.c a d e f h i j l m o p q r s t u w then Lib.lt (ES.v a d e f h i j l m o p q r s t u w) λα=>kr α.1 α.2.1 α.2.2.1 α.2.2.2.1 α.2.2.2.2.1 α.2.2.2.2.2.1 α.2.2.2.2.2.2.1 α.2.2.2.2.2.2.2.1 α.2.2.2.2.2.2.2.2.1 α.2.2.2.2.2.2.2.2.2.1 α.2.2.2.2.2.2.2.2.2.2.1 α.2.2.2.2.2.2.2.2.2.2.2.1 α.2.2.2.2.2.2.2.2.2.2.2.2 else aj else bif decide (r=4)then bif ET.c a d e f h i j l m s then Lib.lt (ET.v a d e f h i j l m s) λxa=>kr (BU.v xa.2.2.2.2.2.2.2.2.2) xa.1 xa.2.1 xa.2.2.1 xa.2.2.2.1 xa.2.2.2.2.1 xa.2.2.2.2.2.1 xa.2.2.2.2.2.2.1 xa.2.2.2.2.2.2.2.1 xa.2.2.2.2.2.2.2.2.1 o p q else aj else bif decide (r=5)then bif sF.c a d e f h i j l m u then Lib.lt (sF.v a d e f h i j l m u) λxb=>kr 0 xb.1 xb.2.1 xb.2.2.1 xb.2.2.2.1 xb.2.2.2.2.1 xb.2.2.2.2.2.1 xb.2.2.2.2.2.2.1 xb.2.2.2.2.2.2.2.1 xb.2.2.2.2.2.2.2.2 o p q else aj else bif decide (r=6)then bif uZ.c a d e f h i j l m s then Lib.lt (uZ.v a d e f h i j l m s) λxc=>kr (BU.v (decide ((xc.2.2.2.2.2.2.2.1.length:aw)<(l.length:aw)))) xc.1 xc.2.1 xc.2.2.1 xc.2.2.2.1 xc.2.2.2.2.1 xc.2.2.2.2.2.1 xc.2.2.2.2.2.2.1 xc.2.2.2.2.2.2.2.1 xc.2.2.2.2.2.2.2.2 o p q else aj else bif decide (r=7)then bif w7.c a d e f h i j l m o p q r s t u w then Lib.lt (w7.v a d e f h i j l m o p q r s t u w) λxd=>kr 0 xd.1 xd.2.1 xd.2.2.1 xd.2.2.2.1 xd.2.2.2.2.1 xd.2.2.2.2.2.1 xd.2.2.2.2.2.2.1 xd.2.2.2.2.2.2.2.1 xd.2.2.2.2.2.2.2.2.1 xd.2.2.2.2.2.2.2.2.2.1 xd.2.2.2.2.2.2.2.2.2.2.1 xd.2.2.2.2.2.2.2.2.2.2.2 else aj else kr 0 a d e f h i j l m o p q
def vo:=b λr0 r1 r2 r3 r4 r5 r6 r7 r8 r9 yC tO V9=>ah (r0,r1,r2,r3,r4,r5,r6,r7,r8,r9,yC,tO,V9)
def c:=λa d e f h i j l m o p q r s t u w=>(vo a d e f h i j l m o p q r s t u w).isSome
def v:=λa d e f h i j l m o p q r s t u w=>(vo a d e f h i j l m o p q r s t u w).getD (0,0,[],[],[],[],0,[],[],0,[],[],[])
theorem out{x}:∀a d e f h i j l m o p q r s t u w,vo a d e f h i j l m o p q r s t u w=ah x->c a d e f h i j l m o p q r s t u w=ai/\v a d e f h i j l m o p q r s t u w=x:=λ_ _ _ _ _ _ _ _ _ _ _ _ _ _ _ _ _=>Lib.cY
end EM

namespace Tz
def b(kr:mH R)(a:aw)(d e f h:aQ)(i:aw)(j l:aQ)(m:aw)(o p q:aQ)(r s:aw)(t:aq)(u:aw)(w:aQ):ay R:=bif EM.c a d e f h i j l m o p q r s t u w then Lib.lt (EM.v a d e f h i j l m o p q r s t u w) λy=>bif cC ((aN [Ck.i ao] 0).length+y.2.2.2.2.2.2.2.2.2.2.2.1.length) 8 then bif cC ((aN [Ck.i ao] 0++y.2.2.2.2.2.2.2.2.2.2.2.1).length+(aL (aN [Ck.i ao] 1) 0 [.i .i64 y.1]).length) 8 then kr y.2.1 y.2.2.1 y.2.2.2.1 y.2.2.2.2.1 y.2.2.2.2.2.1 y.2.2.2.2.2.2.1 y.2.2.2.2.2.2.2.1 y.2.2.2.2.2.2.2.2.1 y.2.2.2.2.2.2.2.2.2.1 y.2.2.2.2.2.2.2.2.2.2.1 (aN [Ck.i ao] 0++y.2.2.2.2.2.2.2.2.2.2.2.1++aL (aN [Ck.i ao] 1) 0 [.i .i64 y.1]) y.2.2.2.2.2.2.2.2.2.2.2.2 else aj else aj else aj
def vo:=b λr0 r1 r2 r3 r4 r5 r6 r7 r8 r9 yC tO=>ah (r0,r1,r2,r3,r4,r5,r6,r7,r8,r9,yC,tO)
def c:=λa d e f h i j l m o p q r s t u w=>(vo a d e f h i j l m o p q r s t u w).isSome
def v:=λa d e f h i j l m o p q r s t u w=>(vo a d e f h i j l m o p q r s t u w).getD (0,[],[],[],[],0,[],[],0,[],[],[])
theorem out{x}:∀a d e f h i j l m o p q r s t u w,vo a d e f h i j l m o p q r s t u w=ah x->c a d e f h i j l m o p q r s t u w=ai/\v a d e f h i j l m o p q r s t u w=x:=λ_ _ _ _ _ _ _ _ _ _ _ _ _ _ _ _ _=>Lib.cY
end Tz

namespace Xz
def b(kr:mH R)(a:aw)(d e f h:aQ)(i:aw)(j l:aQ)(m:aw)(o p q:aQ):ay R:=bif fJ.c a d e f h i j l m then Lib.lt (fJ.v a d e f h i j l m) λr=>bif cC ((aN [Ck.s,Ck.s,Ck.i ao] 0).length+o.length) 40 then bif cC ((aN [Ck.i ao] 0).length+p.length) 8 then bif cC ((aN [Ck.s,Ck.i ao,Ck.i ao,Ck.s] 0).length+q.length) 48 then kr r.1 r.2.1 r.2.2.1 r.2.2.2.1 r.2.2.2.2.1 r.2.2.2.2.2.1 r.2.2.2.2.2.2.1 r.2.2.2.2.2.2.2.1 r.2.2.2.2.2.2.2.2 (aN [Ck.s,Ck.s,Ck.i ao] 0++o) (aN [Ck.i ao] 0++p) (aN [Ck.s,Ck.i ao,Ck.i ao,Ck.s] 0++q)else aj else aj else aj else aj
def vo:=b λr0 r1 r2 r3 r4 r5 r6 r7 r8 r9 yC tO=>ah (r0,r1,r2,r3,r4,r5,r6,r7,r8,r9,yC,tO)
def c:=λa d e f h i j l m o p q=>(vo a d e f h i j l m o p q).isSome
def v:=λa d e f h i j l m o p q=>(vo a d e f h i j l m o p q).getD (0,[],[],[],[],0,[],[],0,[],[],[])
theorem out{x}:∀a d e f h i j l m o p q,vo a d e f h i j l m o p q=ah x->c a d e f h i j l m o p q=ai/\v a d e f h i j l m o p q=x:=λ_ _ _ _ _ _ _ _ _ _ _ _=>Lib.cY
end Xz

namespace Ob
def yC(N:aC)(g k0:lz R)(a:aQ)(d e f h i j l:aw)(m o p q r s t u w:aQ):ay R:=bif decide (d<(a.length:aw))then bif decide (0<=d)&&decide (d<(a.length:aw))then bif Tz.c i m o p q j r s l t u w (bF (ar a d.toNat 0)) (bF (ar a d.toNat 1)) (bz (ar a d.toNat (1+1))) (bF (ar a d.toNat (1+1+1))) (gD (ar a d.toNat (1+1+1+1)))then Lib.lt (Tz.v i m o p q j r s l t u w (bF (ar a d.toNat 0)) (bF (ar a d.toNat 1)) (bz (ar a d.toNat (1+1))) (bF (ar a d.toNat (1+1+1))) (gD (ar a d.toNat (1+1+1+1)))) λy=>g a (br (d+1)) e f h y.1 y.2.2.2.2.2.1 y.2.2.2.2.2.2.2.2.1 y.2.1 y.2.2.1 y.2.2.2.1 y.2.2.2.2.1 y.2.2.2.2.2.2.1 y.2.2.2.2.2.2.2.1 y.2.2.2.2.2.2.2.2.2.1 y.2.2.2.2.2.2.2.2.2.2.1 y.2.2.2.2.2.2.2.2.2.2.2 else aj else aj else k0 a d e f h i j l m o p q r s t u w
def l10(N:aC)(k0:lz R):aC->lz R
 |0=>λ_ _ _ _ _ _ _ _ _ _ _ _ _ _ _ _ _=>aj
 |n+1=>yC N (l10 N k0 n) k0
def r3(N:aC)(g k0:CS R)(a:aQ)(d:aY)(e f h i:aw):ay R:=bif decide (e<(a.length:aw))then bif d then bif decide (0<=e)&&decide (e<(a.length:aw))then g a (U56.v (bF (ar a e.toNat 0)) (bF (ar a e.toNat 1)) (bz (ar a e.toNat (1+1))) (bF (ar a e.toNat (1+1+1))) (gD (ar a e.toNat (1+1+1+1)))) (br (e+1)) f h i else aj else k0 a d e f h i else k0 a d e f h i
def l3(N:aC)(k0:CS R):aC->CS R
 |0=>λ_ _ _ _ _ _=>aj
 |n+1=>r3 N (l3 N k0 n) k0
def b(N:aC)(kr:sg R)(a:aQ):ay R:=l3 N (λd e _ f h i=>bif !e then kr 0 [] [] [] [] 0 [] [] 0 [] [] [] ak else l10 N (λ_ _ _ _ _ j l m o p q r s t u w y=>bif Xz.c j o p q r l s t m u w y then Lib.lt (Xz.v j o p q r l s t m u w y) λz=>kr z.1 z.2.1 z.2.2.1 z.2.2.2.1 z.2.2.2.2.1 z.2.2.2.2.2.1 z.2.2.2.2.2.2.1 z.2.2.2.2.2.2.2.1 z.2.2.2.2.2.2.2.2.1 z.2.2.2.2.2.2.2.2.2.1 z.2.2.2.2.2.2.2.2.2.2.1 z.2.2.2.2.2.2.2.2.2.2.2 ai else aj) N d 0 f h i 1 0 0 [] [] [] ([]++aL (aN [Ck.l 3] 1) 0 [CV.l 3 (aN [Ck.i ao] (bc 16))]++aL (aN [Ck.l 3] 1) 0 [CV.l 3 (aN [Ck.i ao] (bc 16))]++aL (aN [Ck.l 3] 1) 0 [CV.l 3 (aN [Ck.i ao] (bc 16))]) [] [] [] [] []) N a (decide ((a.length:aw)<=70)) 0 0 0 0
def vo:=b Lib.cy λr0 r1 r2 r3 r4 r5 r6 r7 r8 r9 yC tO V9=>ah (r0,r1,r2,r3,r4,r5,r6,r7,r8,r9,yC,tO,V9)
def c:=λa=>(vo a).isSome
def v:=λa=>(vo a).getD (0,[],[],[],[],0,[],[],0,[],[],[],ak)
theorem out{x}:∀a,vo a=ah x->c a=ai/\v a=x:=λ_=>Lib.cY
end Ob

namespace lj
def b(kr:aY->ay R)(a d e:aw):ay R:=bif decide (a≥d)then kr (decide (a<=e))else kr ak
def v(a0 a1 a2:aw):aY:=bif decide (a0≥a1)then decide (a0<=a2)else ak
theorem dP(kr:aY->ay R)(a0 a1 a2:aw):b kr a0 a1 a2=kr (v a0 a1 a2):=by first|rfl|(unfold b v;simp only[ca];(repeat' split)<;>rfl)
end lj

namespace U31
def b(kr:aY->ay R)(a d:aw)(e:aq)(f:aw)(h:aQ):ay R:=bif lj.v a 1 7 then bif lj.v d 0 30 then bif decide ((e.size:aw)<=60)then bif decide (f≥0)then kr (decide ((h.length:aw)<=4))else kr ak else kr ak else kr ak else kr ak
def v(a0 a1:aw)(a2:aq)(a3:aw)(a4:aQ):aY:=bif lj.v a0 1 7 then bif lj.v a1 0 30 then bif decide ((a2.size:aw)<=60)then bif decide (a3≥0)then decide ((a4.length:aw)<=4)else ak else ak else ak else ak
theorem dP(kr:aY->ay R)(a0 a1:aw)(a2:aq)(a3:aw)(a4:aQ):b kr a0 a1 a2 a3 a4=kr (v a0 a1 a2 a3 a4):=by first|rfl|(unfold b v;simp only[ca];(repeat' split)<;>rfl)
end U31

namespace HN
def r3(N:aC)(g:pO R)(g1:jC R)(k0:pO R)(k1:jC R)(a d e:aw):ay R:=bif decide (a<3)then g1 (br (a+1)) d e ([]++aL (aN [Ck.l 3] 1) 0 [CV.l 3 (aN [Ck.i ao] (bc 16))])else k0 a d e
def AY(N:aC)(g:pO R)(g1:jC R)(k0:pO R)(k1:jC R)(a d e:aw)(f:aQ):ay R:=bif decide (a<3)then bif cC (f.length+(aL (aN [Ck.l 3] 1) 0 [CV.l 3 (aN [Ck.i ao] (bc 16))]).length) 24 then g1 (br (a+1)) d e (f++aL (aN [Ck.l 3] 1) 0 [CV.l 3 (aN [Ck.i ao] (bc 16))])else aj else k1 a d e f
def sK(N:aC)(k0:pO R)(k1:jC R):aC->jC R
 |0=>λ_ _ _ _=>aj
 |n+1=>AY N (λx0 x1 x2=>aj) (sK N k0 k1 n) k0 k1
def l3(N:aC)(k0:pO R)(k1:jC R):aC->pO R
 |0=>λ_ _ _=>aj
 |n+1=>r3 N (l3 N k0 k1 n) (sK N k0 k1 n) k0 k1
def b(N:aC)(kr:EG R):ay R:=l3 N (λ_ _ a=>kr [] a) (λ_ _ d e=>kr e d) N 0 0 0
def vo:=b Lib.cy λr0 r1=>ah (r0,r1)
def c:=vo.isSome
def v:=vo.getD ([],0)
end HN

namespace U95
def b(kr:sW R):ay R:=kr [] [] ([]++aL (aN [Ck.l 3] 1) 0 [CV.l 3 (aN [Ck.i ao] (bc 16))]++aL (aN [Ck.l 3] 1) 0 [CV.l 3 (aN [Ck.i ao] (bc 16))]++aL (aN [Ck.l 3] 1) 0 [CV.l 3 (aN [Ck.i ao] (bc 16))]) 0
def v:aQ×aQ×aQ×aw:=([],[],[]++aL (aN [Ck.l 3] 1) 0 [CV.l 3 (aN [Ck.i ao] (bc 16))]++aL (aN [Ck.l 3] 1) 0 [CV.l 3 (aN [Ck.i ao] (bc 16))]++aL (aN [Ck.l 3] 1) 0 [CV.l 3 (aN [Ck.i ao] (bc 16))],0)
theorem dP(kr:sW R):b kr=kr v.1 v.2.1 v.2.2.1 v.2.2.2:=by first|rfl|(unfold b v;simp only[ca];(repeat' split)<;>rfl)
end U95

namespace U42
def b(kr:eP R):ay R:=kr 1 [] [] [] ([]++aL (aN [Ck.l 3] 1) 0 [CV.l 3 (aN [Ck.i ao] (bc 16))]++aL (aN [Ck.l 3] 1) 0 [CV.l 3 (aN [Ck.i ao] (bc 16))]++aL (aN [Ck.l 3] 1) 0 [CV.l 3 (aN [Ck.i ao] (bc 16))]) 0 [] [] 0
def v:aw×aQ×aQ×aQ×aQ×aw×aQ×aQ×aw:=(1,[],[],[],[]++aL (aN [Ck.l 3] 1) 0 [CV.l 3 (aN [Ck.i ao] (bc 16))]++aL (aN [Ck.l 3] 1) 0 [CV.l 3 (aN [Ck.i ao] (bc 16))]++aL (aN [Ck.l 3] 1) 0 [CV.l 3 (aN [Ck.i ao] (bc 16))],0,[],[],0)
theorem dP(kr:eP R):b kr=kr v.1 v.2.1 v.2.2.1 v.2.2.2.1 v.2.2.2.2.1 v.2.2.2.2.2.1 v.2.2.2.2.2.2.1 v.2.2.2.2.2.2.2.1 v.2.2.2.2.2.2.2.2:=by first|rfl|(unfold b v;simp only[ca];(repeat' split)<;>rfl)
end U42

namespace w9
def b(kr:aQ->ay R)(a:aQ):ay R:=bif cC ((aN [Ck.s,Ck.i ao,Ck.i ao,Ck.s] 0).length+a.length) 48 then kr (aN [Ck.s,Ck.i ao,Ck.i ao,Ck.s] 0++a)else aj
def vo:=b λr0=>ah r0
def c:=λa=>(vo a).isSome
def v:=λa=>(vo a).getD ([])
theorem out{x}:∀a,vo a=ah x->c a=ai/\v a=x:=λ_=>Lib.cY
end w9

namespace s_
def b(kr:aQ->ay R)(a:aQ):ay R:=bif cC ((aN [.s] 0).length+a.length) 16 then kr (aN [.s] 0++a)else aj
def vo:=b λr0=>ah r0
def c:=λa=>(vo a).isSome
def v:=λa=>(vo a).getD ([])
theorem out{x}:∀a,vo a=ah x->c a=ai/\v a=x:=λ_=>Lib.cY
end s_

namespace v7
def b(kr:aQ->ay R)(a:aQ):ay R:=bif cC ((aN [Ck.i ao] 0).length+a.length) 8 then kr (aN [Ck.i ao] 0++a)else aj
def vo:=b λr0=>ah r0
def c:=λa=>(vo a).isSome
def v:=λa=>(vo a).getD ([])
theorem out{x}:∀a,vo a=ah x->c a=ai/\v a=x:=λ_=>Lib.cY
end v7

namespace jj
def r3(N:aC)(g:kQ R)(g1:oX R)(k0:kQ R)(k1:oX R)(a:aQ)(d e f h:aw):ay R:=bif decide (e<d)then bif decide (0<=e)&&decide (e<(a.length:aw))then bif v7.c (gD (ar a e.toNat 0))then g1 a d (br (e+1)) f h ([]++aL (aN [Ck.l 3] 1) 0 [CV.l 3 (v7.v (gD (ar a e.toNat 0)))])else aj else aj else k0 a d e f h
def AY(N:aC)(g:kQ R)(g1:oX R)(k0:kQ R)(k1:oX R)(a:aQ)(d e f h:aw)(i:aQ):ay R:=bif decide (e<d)then bif decide (0<=e)&&decide (e<(a.length:aw))then bif v7.c (gD (ar a e.toNat 0))then bif cC (i.length+(aL (aN [Ck.l 3] 1) 0 [CV.l 3 (v7.v (gD (ar a e.toNat 0)))]).length) 24 then g1 a d (br (e+1)) f h (i++aL (aN [Ck.l 3] 1) 0 [CV.l 3 (v7.v (gD (ar a e.toNat 0)))])else aj else aj else aj else k1 a d e f h i
def sK(N:aC)(k0:kQ R)(k1:oX R):aC->oX R
 |0=>λ_ _ _ _ _ _=>aj
 |n+1=>AY N (λx0 x1 x2 x3 x4=>aj) (sK N k0 k1 n) k0 k1
def l3(N:aC)(k0:kQ R)(k1:oX R):aC->kQ R
 |0=>λ_ _ _ _ _=>aj
 |n+1=>r3 N (l3 N k0 k1 n) (sK N k0 k1 n) k0 k1
def b(N:aC)(kr:EG R)(a:aQ)(d:aw):ay R:=l3 N (λ_ _ _ _ e=>kr [] e) (λ_ _ _ _ f h=>kr h f) N a (a.length:aw) 0 0 d
def vo:=b Lib.cy λr0 r1=>ah (r0,r1)
def c:=λa d=>(vo a d).isSome
def v:=λa d=>(vo a d).getD ([],0)
theorem out{x}:∀a d,vo a d=ah x->c a d=ai/\v a d=x:=λ_ _=>Lib.cY
end jj

namespace jq
def b(kr:sW R)(a d e:aQ)(f:aw):ay R:=bif s_.c a then bif s_.c d then bif jj.c e f then kr (s_.v a) (s_.v d) (jj.v e f).1 (jj.v e f).2 else aj else aj else aj
def vo:=b λr0 r1 r2 r3=>ah (r0,r1,r2,r3)
def c:=λa d e f=>(vo a d e f).isSome
def v:=λa d e f=>(vo a d e f).getD ([],[],[],0)
theorem out{x}:∀a d e f,vo a d e f=ah x->c a d e f=ai/\v a d e f=x:=λ_ _ _ _=>Lib.cY
end jq

namespace iM
def b(kr:eP R)(a:aw)(d e f h:aQ)(i:aw)(j l:aQ)(m:aw):ay R:=bif w9.c d then bif jq.c e f h i then bif cC ((aN [Ck.s,Ck.s,Ck.i ao,Ck.i ao,Ck.i ao] 0).length+j.length) 56 then bif cC ((aN [Ck.i ao,Ck.s,Ck.i ao,Ck.i ao,Ck.i ao,Ck.s,Ck.i ao] 0).length+l.length) 72 then kr a (w9.v d) (jq.v e f h i).1 (jq.v e f h i).2.1 (jq.v e f h i).2.2.1 (jq.v e f h i).2.2.2 (aN [Ck.s,Ck.s,Ck.i ao,Ck.i ao,Ck.i ao] 0++j) (aN [Ck.i ao,Ck.s,Ck.i ao,Ck.i ao,Ck.i ao,Ck.s,Ck.i ao] 0++l) m else aj else aj else aj else aj
def vo:=b λr0 r1 r2 r3 r4 r5 r6 r7 r8=>ah (r0,r1,r2,r3,r4,r5,r6,r7,r8)
def c:=λa d e f h i j l m=>(vo a d e f h i j l m).isSome
def v:=λa d e f h i j l m=>(vo a d e f h i j l m).getD (0,[],[],[],[],0,[],[],0)
theorem out{x}:∀a d e f h i j l m,vo a d e f h i j l m=ah x->c a d e f h i j l m=ai/\v a d e f h i j l m=x:=λ_ _ _ _ _ _ _ _ _=>Lib.cY
end iM

namespace Ay
def b(kr:aY->ay R)(a:aq):ay R:=kr (lj.v (a.size:aw) 1 30)
def v(a0:aq):aY:=(lj.v (a0.size:aw) 1 30)
theorem dP(kr:aY->ay R)(a0:aq):b kr a0=kr (v a0):=by first|rfl|(unfold b v;simp only[ca];(repeat' split)<;>rfl)
end Ay

namespace TB
def b(kr:aY->ay R)(a:aw):ay R:=kr (lj.v a 0 1000000000)
def v(a0:aw):aY:=(lj.v a0 0 1000000000)
theorem dP(kr:aY->ay R)(a0:aw):b kr a0=kr (v a0):=by first|rfl|(unfold b v;simp only[ca];(repeat' split)<;>rfl)
end TB

namespace wX
def b(kr:aY->ay R)(a:aq)(d e:aw)(f:aq):ay R:=bif Ay.v a then bif TB.v d then bif lj.v e 1 999999 then kr (decide ((f.size:aw)<=400))else kr ak else kr ak else kr ak
def v(a0:aq)(a1 a2:aw)(a3:aq):aY:=bif Ay.v a0 then bif TB.v a1 then bif lj.v a2 1 999999 then decide ((a3.size:aw)<=400)else ak else ak else ak
theorem dP(kr:aY->ay R)(a0:aq)(a1 a2:aw)(a3:aq):b kr a0 a1 a2 a3=kr (v a0 a1 a2 a3):=by first|rfl|(unfold b v;simp only[ca];(repeat' split)<;>rfl)
end wX

namespace EX
def b(kr:aQ->ay R)(a:aw):ay R:=bif decide (a<0)then aj else bif decide (br (a-br (0-0))>0)then bif decide (0<=br (a-br (0-0)))&&cC (([]:aQ).length+(br (a-br (0-0))).toNat) 16&&decide (br (a-br (0-0))<=9223372036854775807)then kr (e8 ([]++aN [.s] (br (a-br (0-0))).toNat) (bc 0) (bc 0))else aj else kr []
def vo:=b λr0=>ah r0
def c:=λa=>(vo a).isSome
def v:=λa=>(vo a).getD ([])
theorem out{x}:∀a,vo a=ah x->c a=ai/\v a=x:=λ_=>Lib.cY
end EX

namespace w8
def tO(N:aC)(g k0:zG R)(a:aQ)(d e:aw)(f:aQ):ay R:=bif decide (e<d)then bif decide (0<=e)&&decide (e<(a.length:aw))then bif cC (f.length+(gD (ar a e.toNat 0)).length) 16 then g a d (br (e+1)) (f++gD (ar a e.toNat 0))else aj else aj else k0 a d e f
def QP(N:aC)(k0:zG R):aC->zG R
 |0=>λ_ _ _ _=>aj
 |n+1=>tO N (QP N k0 n) k0
def r3(N:aC)(g k0:GX R)(a:aQ)(d:aw)(e:aQ)(f h:aw):ay R:=bif decide (h<f)then bif decide (0<=h)&&decide (h<(e.length:aw))then bif decide (br (d+((gD (ar e h.toNat 0)).length:aw))<0)then aj else g a (br (d+((gD (ar e h.toNat 0)).length:aw))) e f (br (h+1))else aj else k0 a d e f h
def l3(N:aC)(k0:GX R):aC->GX R
 |0=>λ_ _ _ _ _=>aj
 |n+1=>r3 N (l3 N k0 n) k0
def b(N:aC)(kr:aQ->ay R)(a:aQ):ay R:=l3 N (λd e _ _ _=>bif EX.c e then QP N (λ_ _ _ f=>kr f) N d (d.length:aw) 0 (EX.v e)else aj) N a 0 a (a.length:aw) 0
def vo:=b Lib.cy λr0=>ah r0
def c:=λa=>(vo a).isSome
def v:=λa=>(vo a).getD ([])
theorem out{x}:∀a,vo a=ah x->c a=ai/\v a=x:=λ_=>Lib.cY
end w8

namespace qw
def b(kr:aQ->ay R)(a d e:aQ)(f:aw):ay R:=bif w8.c (aL (aL (aN [Ck.l 9] 2) 0 [CV.l 9 a]) 1 [CV.l 9 d])then kr (w8.v (aL (aL (aN [Ck.l 9] 2) 0 [CV.l 9 a]) 1 [CV.l 9 d]))else aj
def vo:=b λr0=>ah r0
def c:=λa d e f=>(vo a d e f).isSome
def v:=λa d e f=>(vo a d e f).getD ([])
theorem out{x}:∀a d e f,vo a d e f=ah x->c a d e f=ai/\v a d e f=x:=λ_ _ _ _=>Lib.cY
end qw

namespace BX
def r2(N:aC)(g k0 k1:hZ R)(a:aQ)(d:aq)(e f h:aw):ay R:=bif decide (h<f)then bif decide (0<=h)&&decide (h<(a.length:aw))then bif cW (aA d) (bz (ar a h.toNat 0)).toList then k0 a d h f h else g a d e f (br (h+1))else aj else k1 a d e f h
def l2(N:aC)(k0 k1:hZ R):aC->hZ R
 |0=>λ_ _ _ _ _=>aj
 |n+1=>r2 N (l2 N k0 k1 n) k0 k1
def b(N:aC)(kr:aw->ay R)(a:aQ)(d:aq):ay R:=l2 N (λ_ _ e _ _=>kr e) (λ_ _ _ _ _=>kr (-1)) N a d 0 (a.length:aw) 0
def vo:=b Lib.cy λr0=>ah r0
def c:=λa d=>(vo a d).isSome
def v:=λa d=>(vo a d).getD (0)
theorem out{x}:∀a d,vo a d=ah x->c a d=ai/\v a d=x:=λ_ _=>Lib.cY
end BX

namespace sG
def b(kr:aY->ay R)(a:aQ)(d:aq):ay R:=bif BX.c a d then kr (decide (BX.v a d≥0))else aj
def vo:=b λr0=>ah r0
def c:=λa d=>(vo a d).isSome
def v:=λa d=>(vo a d).getD ak
theorem out{x}:∀a d,vo a d=ah x->c a d=ai/\v a d=x:=λ_ _=>Lib.cY
end sG

namespace sE
def b(kr:aY->ay R)(a d e:aQ)(f:aw)(h:aq):ay R:=bif qw.c a d e f then bif sG.c (qw.v a d e f) h then kr (sG.v (qw.v a d e f) h)else aj else aj
def vo:=b λr0=>ah r0
def c:=λa d e f h=>(vo a d e f h).isSome
def v:=λa d e f h=>(vo a d e f h).getD ak
theorem out{x}:∀a d e f h,vo a d e f h=ah x->c a d e f h=ai/\v a d e f h=x:=λ_ _ _ _ _=>Lib.cY
end sE

namespace pK
def r5(N:aC)(g k0 k1:qX R)(a:aY)(d e:aQ)(f h:aw)(i:aQ)(j l:aw)(m:aQ)(o:aw):ay R:=bif decide (l<j)then bif decide (0<=l)&&decide (l<(i.length:aw))then bif !lj.v (bF (ar i l.toNat 0)) 0 15 then k0 ak d e f h i j l m o else g a d e f h i j (br (l+1)) m o else aj else k1 a d e f h i j l m o
def l5(N:aC)(k0 k1:qX R):aC->qX R
 |0=>λ_ _ _ _ _ _ _ _ _ _=>aj
 |n+1=>r5 N (l5 N k0 k1 n) k0 k1
def r2(N:aC)(g k0 k1:CP R)(a:aY)(d:aQ)(e f:aw)(h:aQ)(i:aw):ay R:=bif decide (f<e)then bif decide (0<=f)&&decide (f<(d.length:aw))then l5 N (λj _ l m o _ _ _ p q=>k0 j l m o p q) (λr s t u w _ _ _ y z=>bif(s.length:aw) !=16 then k0 ak t u w y z else g r t u (br (w+1)) y z) N a (gD (ar d f.toNat 0)) d e f (gD (ar d f.toNat 0)) ((gD (ar d f.toNat 0)).length:aw) 0 h i else aj else k1 a d e f h i
def l2(N:aC)(k0 k1:CP R):aC->CP R
 |0=>λ_ _ _ _ _ _=>aj
 |n+1=>r2 N (l2 N k0 k1 n) k0 k1
def b(N:aC)(kr:aY->ay R)(a:aQ)(d:aw):ay R:=l2 N (λe _ _ _ _ _=>kr e) (λ_ _ _ _ f h=>bif decide ((f.length:aw)=3)then kr (lj.v h 0 63)else kr ak) N ak a (a.length:aw) 0 a d
def vo:=b Lib.cy λr0=>ah r0
def c:=λa d=>(vo a d).isSome
def v:=λa d=>(vo a d).getD ak
theorem out{x}:∀a d,vo a d=ah x->c a d=ai/\v a d=x:=λ_ _=>Lib.cY
end pK

namespace o4
def r3(N:aC)(g k0 k1:vF R)(a:aY)(d e:aw)(f h i:aQ)(j:aw)(l:aQ):ay R:=bif decide (e<d)then bif decide (0<=e)&&decide (e<(l.length:aw))then bif !Ay.v (bz (ar l e.toNat 0))then k0 ak d e f h i j l else bif iA 0 e (l.length:aw)then bif sG.c (e8 l (bc 0) e.toNat) (bz (ar l e.toNat 0))then bif sG.v (e8 l (bc 0) e.toNat) (bz (ar l e.toNat 0))then k0 ak d e f h i j l else g a d (br (e+1)) f h i j l else aj else aj else aj else k1 a d e f h i j l
def l3(N:aC)(k0 k1:vF R):aC->vF R
 |0=>λ_ _ _ _ _ _ _ _=>aj
 |n+1=>r3 N (l3 N k0 k1 n) k0 k1
def b(N:aC)(kr:aY->ay R)(a d e:aQ)(f:aw):ay R:=bif qw.c a d e f then l3 N (λh _ _ _ _ _ _ _=>kr h) (λ_ _ _ i j l m _=>bif decide ((i.length:aw)<=2)then bif decide ((j.length:aw)<=4)then bif pK.c l m then kr (pK.v l m)else aj else kr ak else kr ak) N ak ((qw.v a d e f).length:aw) 0 a d e f (qw.v a d e f)else aj
def vo:=b Lib.cy λr0=>ah r0
def c:=λa d e f=>(vo a d e f).isSome
def v:=λa d e f=>(vo a d e f).getD ak
theorem out{x}:∀a d e f,vo a d e f=ah x->c a d e f=ai/\v a d e f=x:=λ_ _ _ _=>Lib.cY
end o4

namespace RA
def r2(N:aC)(g k0 k1:eS R)(a:aY)(d:aQ)(e f h:aw)(i j l m:aQ)(o:aw)(p q:aQ)(r:aw):ay R:=bif decide (f<e)then bif decide (0<=f)&&decide (f<(d.length:aw))then bif !wX.v (bz (ar d f.toNat 0)) (bF (ar d f.toNat 1)) (bF (ar d f.toNat (1+1))) (bz (ar d f.toNat (1+1+1)))then k0 ak d e f h i j l m o p q r else bif decide (f>0)then bif decide (0<=br (f-1))&&decide (br (f-1)<(i.length:aw))then bif !Op.bytesLess (bz (ar i (br (f-1)).toNat 0)).toList (bz (ar d f.toNat 0)).toList then k0 ak d e f h i j l m o p q r else bif sE.c j l m o (bz (ar d f.toNat 0))then bif !sE.v j l m o (bz (ar d f.toNat 0))then k0 ak d e f h i j l m o p q r else g a d e (br (f+1)) h i j l m o p q r else aj else aj else bif sE.c j l m o (bz (ar d f.toNat 0))then bif !sE.v j l m o (bz (ar d f.toNat 0))then k0 ak d e f h i j l m o p q r else g a d e (br (f+1)) h i j l m o p q r else aj else aj else k1 a d e f h i j l m o p q r
def l2(N:aC)(k0 k1:eS R):aC->eS R
 |0=>λ_ _ _ _ _ _ _ _ _ _ _ _ _=>aj
 |n+1=>r2 N (l2 N k0 k1 n) k0 k1
def b(N:aC)(kr:aY->ay R)(a:aw)(d e f h:aQ)(i:aw)(j l:aQ)(m:aw):ay R:=l2 N (λo _ _ _ _ _ _ _ _ _ _ _ _=>kr o) (λ_ _ _ _ _ p q r s t _ _ _=>bif o4.c q r s t then bif o4.v q r s t then bif qw.c q r s t then kr (decide (((qw.v q r s t).length:aw)=(p.length:aw)))else aj else kr ak else aj) N ak d (d.length:aw) 0 a d e f h i j l m
def vo:=b Lib.cy λr0=>ah r0
def c:=λa d e f h i j l m=>(vo a d e f h i j l m).isSome
def v:=λa d e f h i j l m=>(vo a d e f h i j l m).getD ak
theorem out{x}:∀a d e f h i j l m,vo a d e f h i j l m=ah x->c a d e f h i j l m=ai/\v a d e f h i j l m=x:=λ_ _ _ _ _ _ _ _ _=>Lib.cY
end RA

namespace Ju
def b(kr:aY->ay R)(a d:aq)(e f h:aw)(gP:aq):ay R:=bif cW (aA a) (aA gP)then kr (decide (e=1))else kr ak
def v(a0 a1:aq)(a2 a3 a4:aw)(gP:aq):aY:=bif cW (aA a0) (aA gP)then decide (a2=1)else ak
theorem dP(kr:aY->ay R)(a0 a1:aq)(a2 a3 a4:aw)(gP:aq):b kr a0 a1 a2 a3 a4 gP=kr (v a0 a1 a2 a3 a4 gP):=by first|rfl|(unfold b v;simp only[ca];(repeat' split)<;>rfl)
end Ju

namespace qx
def r2(N:aC)(g k0 k1:hZ R)(a:aQ)(d:aq)(e f h:aw):ay R:=bif decide (h<f)then bif decide (0<=h)&&decide (h<(a.length:aw))then bif Ju.v (bz (ar a h.toNat 0)) (bz (ar a h.toNat 1)) (bF (ar a h.toNat (1+1))) (bF (ar a h.toNat (1+1+1))) (bF (ar a h.toNat (1+1+1+1))) d then k0 a d h f h else g a d e f (br (h+1))else aj else k1 a d e f h
def l2(N:aC)(k0 k1:hZ R):aC->hZ R
 |0=>λ_ _ _ _ _=>aj
 |n+1=>r2 N (l2 N k0 k1 n) k0 k1
def b(N:aC)(kr:aw->ay R)(a:aQ)(gP:aq):ay R:=l2 N (λ_ _ d _ _=>kr d) (λ_ _ _ _ _=>kr (-1)) N a gP 0 (a.length:aw) 0
def vo:=b Lib.cy λr0=>ah r0
def c:=λa d=>(vo a d).isSome
def v:=λa d=>(vo a d).getD (0)
theorem out{x}:∀a d,vo a d=ah x->c a d=ai/\v a d=x:=λ_ _=>Lib.cY
end qx

namespace LN
def b(kr:aw->ay R)(a:aw)(d e f h:aQ)(i:aw)(j l:aQ)(m:aw)(o:aq):ay R:=bif qx.c j o then kr (qx.v j o)else aj
def vo:=b λr0=>ah r0
def c:=λa d e f h i j l m o=>(vo a d e f h i j l m o).isSome
def v:=λa d e f h i j l m o=>(vo a d e f h i j l m o).getD (0)
theorem out{x}:∀a d e f h i j l m o,vo a d e f h i j l m o=ah x->c a d e f h i j l m o=ai/\v a d e f h i j l m o=x:=λ_ _ _ _ _ _ _ _ _ _=>Lib.cY
end LN

namespace Oc
def r2(N:aC)(g k0 k1:eS R)(a:aY)(d:aQ)(e f h:aw)(i j l m:aQ)(o:aw)(p q:aQ)(r:aw):ay R:=bif decide (f<e)then bif decide (0<=f)&&decide (f<(d.length:aw))then bif decide (bF (ar d f.toNat (1+1))=1)then bif LN.c h i j l m o p q r (bz (ar d f.toNat 0))then bif LN.v h i j l m o p q r (bz (ar d f.toNat 0)) !=f then k0 ak d e f h i j l m o p q r else g a d e (br (f+1)) h i j l m o p q r else aj else g a d e (br (f+1)) h i j l m o p q r else aj else k1 a d e f h i j l m o p q r
def l2(N:aC)(k0 k1:eS R):aC->eS R
 |0=>λ_ _ _ _ _ _ _ _ _ _ _ _ _=>aj
 |n+1=>r2 N (l2 N k0 k1 n) k0 k1
def b(N:aC)(kr:aY->ay R)(a:aw)(d e f h:aQ)(i:aw)(j l:aQ)(m:aw):ay R:=l2 N (λo _ _ _ _ _ _ _ _ _ _ _ _=>kr o) (λ_ _ _ _ _ _ _ _ _ _ _ _ _=>kr ai) N ak j (j.length:aw) 0 a d e f h i j l m
def vo:=b Lib.cy λr0=>ah r0
def c:=λa d e f h i j l m=>(vo a d e f h i j l m).isSome
def v:=λa d e f h i j l m=>(vo a d e f h i j l m).getD ak
theorem out{x}:∀a d e f h i j l m,vo a d e f h i j l m=ah x->c a d e f h i j l m=ai/\v a d e f h i j l m=x:=λ_ _ _ _ _ _ _ _ _=>Lib.cY
end Oc

namespace Qd
def r2(N:aC)(g k0 k1:eS R)(a:aY)(d:aQ)(e f h:aw)(i j l m:aQ)(o:aw)(p q:aQ)(r:aw):ay R:=bif decide (f<e)then bif decide (0<=f)&&decide (f<(d.length:aw))then bif !Ay.v (bz (ar d f.toNat 0))then k0 ak d e f h i j l m o p q r else bif decide (((bz (ar d f.toNat 1)).size:aw)>400)then k0 ak d e f h i j l m o p q r else bif !lj.v (bF (ar d f.toNat (1+1))) 1 3 then k0 ak d e f h i j l m o p q r else bif !lj.v (bF (ar d f.toNat (1+1+1))) 0 999999 then k0 ak d e f h i j l m o p q r else bif !lj.v (bF (ar d f.toNat (1+1+1+1))) 0 h then k0 ak d e f h i j l m o p q r else g a d e (br (f+1)) h i j l m o p q r else aj else k1 a d e f h i j l m o p q r
def l2(N:aC)(k0 k1:eS R):aC->eS R
 |0=>λ_ _ _ _ _ _ _ _ _ _ _ _ _=>aj
 |n+1=>r2 N (l2 N k0 k1 n) k0 k1
def b(N:aC)(kr:aY->ay R)(a:aw)(d e f h:aQ)(i:aw)(j l:aQ)(m:aw):ay R:=l2 N (λo _ _ _ _ _ _ _ _ _ _ _ _=>kr o) (λ_ _ _ _ p q r s t u w y z=>bif decide ((w.length:aw)<=20)then bif Oc.c p q r s t u w y z then kr (Oc.v p q r s t u w y z)else aj else kr ak) N ak j (j.length:aw) 0 a d e f h i j l m
def vo:=b Lib.cy λr0=>ah r0
def c:=λa d e f h i j l m=>(vo a d e f h i j l m).isSome
def v:=λa d e f h i j l m=>(vo a d e f h i j l m).getD ak
theorem out{x}:∀a d e f h i j l m,vo a d e f h i j l m=ah x->c a d e f h i j l m=ai/\v a d e f h i j l m=x:=λ_ _ _ _ _ _ _ _ _=>Lib.cY
end Qd

namespace RB
def r2(N:aC)(g k0 k1:eS R)(a:aY)(d:aQ)(e f h:aw)(i j l m:aQ)(o:aw)(p q:aQ)(r:aw):ay R:=bif decide (f<e)then bif decide (0<=f)&&decide (f<(d.length:aw))then bif !lj.v (bF (ar d f.toNat 0)) 1 9 then k0 ak d e f h i j l m o p q r else bif decide (f>0)then bif decide (0<=br (f-1))&&decide (br (f-1)<(q.length:aw))then bif decide (bF (ar q (br (f-1)).toNat 0)≥bF (ar d f.toNat 0))then k0 ak d e f h i j l m o p q r else bif !Ay.v (bz (ar d f.toNat 1))then k0 ak d e f h i j l m o p q r else bif !lj.v (bF (ar d f.toNat (1+1+1+1))) 1 3 then k0 ak d e f h i j l m o p q r else bif !lj.v (bF (ar d f.toNat (1+1))) 0 (p.length:aw)then k0 ak d e f h i j l m o p q r else bif decide (((bz (ar d f.toNat (1+1+1+1+1))).size:aw)>400)then k0 ak d e f h i j l m o p q r else bif !lj.v (bF (ar d f.toNat (1+1+1))) 0 h then k0 ak d e f h i j l m o p q r else bif decide (bF (ar d f.toNat (1+1+1+1+1+1))<0)then k0 ak d e f h i j l m o p q r else g a d e (br (f+1)) h i j l m o p q r else aj else bif !Ay.v (bz (ar d f.toNat 1))then k0 ak d e f h i j l m o p q r else bif !lj.v (bF (ar d f.toNat (1+1+1+1))) 1 3 then k0 ak d e f h i j l m o p q r else bif !lj.v (bF (ar d f.toNat (1+1))) 0 (p.length:aw)then k0 ak d e f h i j l m o p q r else bif decide (((bz (ar d f.toNat (1+1+1+1+1))).size:aw)>400)then k0 ak d e f h i j l m o p q r else bif !lj.v (bF (ar d f.toNat (1+1+1))) 0 h then k0 ak d e f h i j l m o p q r else bif decide (bF (ar d f.toNat (1+1+1+1+1+1))<0)then k0 ak d e f h i j l m o p q r else g a d e (br (f+1)) h i j l m o p q r else aj else k1 a d e f h i j l m o p q r
def l2(N:aC)(k0 k1:eS R):aC->eS R
 |0=>λ_ _ _ _ _ _ _ _ _ _ _ _ _=>aj
 |n+1=>r2 N (l2 N k0 k1 n) k0 k1
def b(N:aC)(kr:aY->ay R)(a:aw)(d e f h:aQ)(i:aw)(j l:aQ)(m:aw):ay R:=l2 N (λo _ _ _ _ _ _ _ _ _ _ _ _=>kr o) (λ_ _ _ _ _ _ _ _ _ _ _ p _=>kr (decide ((p.length:aw)<=6))) N ak l (l.length:aw) 0 a d e f h i j l m
def vo:=b Lib.cy λr0=>ah r0
def c:=λa d e f h i j l m=>(vo a d e f h i j l m).isSome
def v:=λa d e f h i j l m=>(vo a d e f h i j l m).getD ak
theorem out{x}:∀a d e f h i j l m,vo a d e f h i j l m=ah x->c a d e f h i j l m=ai/\v a d e f h i j l m=x:=λ_ _ _ _ _ _ _ _ _=>Lib.cY
end RB

namespace Qb
def b(kr:aY->ay R)(a:aw)(d e f h:aQ)(i:aw)(j l:aQ)(m:aw):ay R:=bif lj.v a 1 1000000000 then bif RA.c a d e f h i j l m then bif RA.v a d e f h i j l m then bif Qd.c a d e f h i j l m then bif Qd.v a d e f h i j l m then bif RB.c a d e f h i j l m then bif RB.v a d e f h i j l m then kr (TB.v m)else kr ak else aj else kr ak else aj else kr ak else aj else kr ak
def vo:=b λr0=>ah r0
def c:=λa d e f h i j l m=>(vo a d e f h i j l m).isSome
def v:=λa d e f h i j l m=>(vo a d e f h i j l m).getD ak
theorem out{x}:∀a d e f h i j l m,vo a d e f h i j l m=ah x->c a d e f h i j l m=ai/\v a d e f h i j l m=x:=λ_ _ _ _ _ _ _ _ _=>Lib.cY
end Qb

namespace LA
def b(kr:aY->ay R)(a:aw)(d:aq)(e f h:aw)(i:aq)(j DB:aw):ay R:=kr (decide (a=DB))
def v(a0:aw)(a1:aq)(a2 a3 a4:aw)(a5:aq)(a6 DB:aw):aY:=(decide (a0=DB))
theorem dP(kr:aY->ay R)(a0:aw)(a1:aq)(a2 a3 a4:aw)(a5:aq)(a6 DB:aw):b kr a0 a1 a2 a3 a4 a5 a6 DB=kr (v a0 a1 a2 a3 a4 a5 a6 DB):=by first|rfl|(unfold b v;simp only[ca];(repeat' split)<;>rfl)
end LA

namespace qy
def r2(N:aC)(g k0 k1:kQ R)(a:aQ)(d e f h:aw):ay R:=bif decide (h<f)then bif decide (0<=h)&&decide (h<(a.length:aw))then bif LA.v (bF (ar a h.toNat 0)) (bz (ar a h.toNat 1)) (bF (ar a h.toNat (1+1))) (bF (ar a h.toNat (1+1+1))) (bF (ar a h.toNat (1+1+1+1))) (bz (ar a h.toNat (1+1+1+1+1))) (bF (ar a h.toNat (1+1+1+1+1+1))) d then k0 a d h f h else g a d e f (br (h+1))else aj else k1 a d e f h
def l2(N:aC)(k0 k1:kQ R):aC->kQ R
 |0=>λ_ _ _ _ _=>aj
 |n+1=>r2 N (l2 N k0 k1 n) k0 k1
def b(N:aC)(kr:aw->ay R)(a:aQ)(DB:aw):ay R:=l2 N (λ_ _ d _ _=>kr d) (λ_ _ _ _ _=>kr (-1)) N a DB 0 (a.length:aw) 0
def vo:=b Lib.cy λr0=>ah r0
def c:=λa d=>(vo a d).isSome
def v:=λa d=>(vo a d).getD (0)
theorem out{x}:∀a d,vo a d=ah x->c a d=ai/\v a d=x:=λ_ _=>Lib.cY
end qy

namespace BS
def b(kr:aY->ay R)(a:aw)(d:aq)(e f h:aw)(i:aq)(j DB:aw):ay R:=kr (decide (a=DB))
def v(a0:aw)(a1:aq)(a2 a3 a4:aw)(a5:aq)(a6 DB:aw):aY:=(decide (a0=DB))
theorem dP(kr:aY->ay R)(a0:aw)(a1:aq)(a2 a3 a4:aw)(a5:aq)(a6 DB:aw):b kr a0 a1 a2 a3 a4 a5 a6 DB=kr (v a0 a1 a2 a3 a4 a5 a6 DB):=by first|rfl|(unfold b v;simp only[ca];(repeat' split)<;>rfl)
end BS

namespace nb
def r2(N:aC)(g k0 k1:kQ R)(a:aQ)(d e f h:aw):ay R:=bif decide (h<f)then bif decide (0<=h)&&decide (h<(a.length:aw))then bif BS.v (bF (ar a h.toNat 0)) (bz (ar a h.toNat 1)) (bF (ar a h.toNat (1+1))) (bF (ar a h.toNat (1+1+1))) (bF (ar a h.toNat (1+1+1+1))) (bz (ar a h.toNat (1+1+1+1+1))) (bF (ar a h.toNat (1+1+1+1+1+1))) d then k0 a d h f h else g a d e f (br (h+1))else aj else k1 a d e f h
def l2(N:aC)(k0 k1:kQ R):aC->kQ R
 |0=>λ_ _ _ _ _=>aj
 |n+1=>r2 N (l2 N k0 k1 n) k0 k1
def b(N:aC)(kr:aw->ay R)(a:aQ)(DB:aw):ay R:=l2 N (λ_ _ d _ _=>kr d) (λ_ _ _ _ _=>kr (-1)) N a DB 0 (a.length:aw) 0
def vo:=b Lib.cy λr0=>ah r0
def c:=λa d=>(vo a d).isSome
def v:=λa d=>(vo a d).getD (0)
theorem out{x}:∀a d,vo a d=ah x->c a d=ai/\v a d=x:=λ_ _=>Lib.cY
end nb

namespace Av
def b(kr:aw->ay R)(a:aw)(d e f h:aQ)(i:aw)(j l:aQ)(m o:aw):ay R:=bif qy.c l o then kr (qy.v l o)else aj
def vo:=b λr0=>ah r0
def c:=λa d e f h i j l m o=>(vo a d e f h i j l m o).isSome
def v:=λa d e f h i j l m o=>(vo a d e f h i j l m o).getD (0)
theorem out{x}:∀a d e f h i j l m o,vo a d e f h i j l m o=ah x->c a d e f h i j l m o=ai/\v a d e f h i j l m o=x:=λ_ _ _ _ _ _ _ _ _ _=>Lib.cY
end Av

namespace Ly
def b(kr:aY->ay R)(a:aq)(d e:aw)(f gP:aq):ay R:=kr (cW (aA a) (aA gP))
def v(a0:aq)(a1 a2:aw)(a3 gP:aq):aY:=(cW (aA a0) (aA gP))
theorem dP(kr:aY->ay R)(a0:aq)(a1 a2:aw)(a3 gP:aq):b kr a0 a1 a2 a3 gP=kr (v a0 a1 a2 a3 gP):=by first|rfl|(unfold b v;simp only[ca];(repeat' split)<;>rfl)
end Ly

namespace pT
def r2(N:aC)(g k0 k1:hZ R)(a:aQ)(d:aq)(e f h:aw):ay R:=bif decide (h<f)then bif decide (0<=h)&&decide (h<(a.length:aw))then bif Ly.v (bz (ar a h.toNat 0)) (bF (ar a h.toNat 1)) (bF (ar a h.toNat (1+1))) (bz (ar a h.toNat (1+1+1))) d then k0 a d h f h else g a d e f (br (h+1))else aj else k1 a d e f h
def l2(N:aC)(k0 k1:hZ R):aC->hZ R
 |0=>λ_ _ _ _ _=>aj
 |n+1=>r2 N (l2 N k0 k1 n) k0 k1
def b(N:aC)(kr:aw->ay R)(a:aQ)(gP:aq):ay R:=l2 N (λ_ _ d _ _=>kr d) (λ_ _ _ _ _=>kr (-1)) N a gP 0 (a.length:aw) 0
def vo:=b Lib.cy λr0=>ah r0
def c:=λa d=>(vo a d).isSome
def v:=λa d=>(vo a d).getD (0)
theorem out{x}:∀a d,vo a d=ah x->c a d=ai/\v a d=x:=λ_ _=>Lib.cY
end pT

namespace BV
def b(kr:aY->ay R)(a:aq)(d e:aw)(f gP:aq):ay R:=kr (cW (aA a) (aA gP))
def v(a0:aq)(a1 a2:aw)(a3 gP:aq):aY:=(cW (aA a0) (aA gP))
theorem dP(kr:aY->ay R)(a0:aq)(a1 a2:aw)(a3 gP:aq):b kr a0 a1 a2 a3 gP=kr (v a0 a1 a2 a3 gP):=by first|rfl|(unfold b v;simp only[ca];(repeat' split)<;>rfl)
end BV

namespace na
def r2(N:aC)(g k0 k1:hZ R)(a:aQ)(d:aq)(e f h:aw):ay R:=bif decide (h<f)then bif decide (0<=h)&&decide (h<(a.length:aw))then bif BV.v (bz (ar a h.toNat 0)) (bF (ar a h.toNat 1)) (bF (ar a h.toNat (1+1))) (bz (ar a h.toNat (1+1+1))) d then k0 a d h f h else g a d e f (br (h+1))else aj else k1 a d e f h
def l2(N:aC)(k0 k1:hZ R):aC->hZ R
 |0=>λ_ _ _ _ _=>aj
 |n+1=>r2 N (l2 N k0 k1 n) k0 k1
def b(N:aC)(kr:aw->ay R)(a:aQ)(gP:aq):ay R:=l2 N (λ_ _ d _ _=>kr d) (λ_ _ _ _ _=>kr (-1)) N a gP 0 (a.length:aw) 0
def vo:=b Lib.cy λr0=>ah r0
def c:=λa d=>(vo a d).isSome
def v:=λa d=>(vo a d).getD (0)
theorem out{x}:∀a d,vo a d=ah x->c a d=ai/\v a d=x:=λ_ _=>Lib.cY
end na

namespace U89
def b(kr:aY->ay R)(a:aq)(d e:aw)(f:aq)(Qj:aw)(JI:aq)(Qk JJ Ql:aw)(JK:aq)(JL:aw):ay R:=bif cW (aA a) (aA JI)then bif decide (d=JJ)then bif cW (aA f) (aA JK)then kr (decide (e>JL))else kr ak else kr ak else kr ak
def v(a0:aq)(a1 a2:aw)(a3:aq)(Qj:aw)(JI:aq)(Qk JJ Ql:aw)(JK:aq)(JL:aw):aY:=bif cW (aA a0) (aA JI)then bif decide (a1=JJ)then bif cW (aA a3) (aA JK)then decide (a2>JL)else ak else ak else ak
theorem dP(kr:aY->ay R)(a0:aq)(a1 a2:aw)(a3:aq)(Qj:aw)(JI:aq)(Qk JJ Ql:aw)(JK:aq)(JL:aw):b kr a0 a1 a2 a3 Qj JI Qk JJ Ql JK JL=kr (v a0 a1 a2 a3 Qj JI Qk JJ Ql JK JL):=by first|rfl|(unfold b v;simp only[ca];(repeat' split)<;>rfl)
end U89

namespace C1
def r2(N:aC)(g k0 k1:qa R)(a:aQ)(d:aw)(e:aq)(f h i:aw)(j:aq)(l m o p:aw):ay R:=bif decide (p<o)then bif decide (0<=p)&&decide (p<(a.length:aw))then bif U89.v (bz (ar a p.toNat 0)) (bF (ar a p.toNat 1)) (bF (ar a p.toNat (1+1))) (bz (ar a p.toNat (1+1+1))) d e f h i j l then k0 a d e f h i j l p o p else g a d e f h i j l m o (br (p+1))else aj else k1 a d e f h i j l m o p
def l2(N:aC)(k0 k1:qa R):aC->qa R
 |0=>λ_ _ _ _ _ _ _ _ _ _ _=>aj
 |n+1=>r2 N (l2 N k0 k1 n) k0 k1
def b(N:aC)(kr:aw->ay R)(a:aQ)(Qj:aw)(JI:aq)(Qk JJ Ql:aw)(JK:aq)(JL:aw):ay R:=l2 N (λ_ _ _ _ _ _ _ _ d _ _=>kr d) (λ_ _ _ _ _ _ _ _ _ _ _=>kr (-1)) N a Qj JI Qk JJ Ql JK JL 0 (a.length:aw) 0
def vo:=b Lib.cy λr0=>ah r0
def c:=λa d e f h i j l=>(vo a d e f h i j l).isSome
def v:=λa d e f h i j l=>(vo a d e f h i j l).getD (0)
theorem out{x}:∀a d e f h i j l,vo a d e f h i j l=ah x->c a d e f h i j l=ai/\v a d e f h i j l=x:=λ_ _ _ _ _ _ _ _=>Lib.cY
end C1

namespace HR
def b(kr:aY->ay R)(a:aq)(d e:aw)(f:aq)(h:aw):ay R:=bif wX.v a d e f then bif TB.v h then kr (lj.v h d (br (br (d+e)-1)))else kr ak else kr ak
def v(a0:aq)(a1 a2:aw)(a3:aq)(a4:aw):aY:=bif wX.v a0 a1 a2 a3 then bif TB.v a4 then lj.v a4 a1 (br (br (a1+a2)-1))else ak else ak
theorem dP(kr:aY->ay R)(a0:aq)(a1 a2:aw)(a3:aq)(a4:aw):b kr a0 a1 a2 a3 a4=kr (v a0 a1 a2 a3 a4):=by first|rfl|(unfold b v;simp only[ca];(repeat' split)<;>rfl)
end HR

namespace xC
def r6(N:aC)(g k0:zF R)(a:aw)(d:aq)(e f:aw):ay R:=bif decide (f<8)then bif decide (cT a 2=1)then g (bE eI (↑(g9 (oV (dm 32 (bE eI (c7 a 2))) (dm 32 3558460437))):aw)) d e (br (f+1))else g (bE eI (c7 a 2)) d e (br (f+1))else k0 a d e f
def l6(N:aC)(k0:zF R):aC->zF R
 |0=>λ_ _ _ _=>aj
 |n+1=>r6 N (l6 N k0 n) k0
def r2(N:aC)(g k0:Fy R)(a:aw)(d:aq)(e:aw):ay R:=bif decide (e<(d.size:aw))then bif decide (0<=e)&&decide (e<(d.size:aw))then l6 N (λf h i _=>g f h (br (i+1))) N (bE eI (↑(g9 (oV (dm 32 a) (dm 32 (bE eI (↑(gU d e.toNat):aw))))):aw)) d e 0 else aj else k0 a d e
def l2(N:aC)(k0:Fy R):aC->Fy R
 |0=>λ_ _ _=>aj
 |n+1=>r2 N (l2 N k0 n) k0
def b(N:aC)(kr:aw->ay R)(a:aw)(d:aq):ay R:=l2 N (λe _ _=>kr e) N a d 0
def vo:=b Lib.cy λr0=>ah r0
def c:=λa d=>(vo a d).isSome
def v:=λa d=>(vo a d).getD (0)
theorem out{x}:∀a d,vo a d=ah x->c a d=ai/\v a d=x:=λ_ _=>Lib.cY
end xC

namespace u9
def b(kr:aw->ay R)(a:aq):ay R:=bif xC.c 4294967295 a then kr (xC.v 4294967295 a)else aj
def vo:=b λr0=>ah r0
def c:=λa=>(vo a).isSome
def v:=λa=>(vo a).getD (0)
theorem out{x}:∀a,vo a=ah x->c a=ai/\v a=x:=λ_=>Lib.cY
end u9

namespace qz
def b(kr:aw->ay R)(a:aw)(d:aq):ay R:=bif decide (d.size+(bytesOf (aL (aN [Ck.i ba] 1) 0 [CV.i ba (bE ba (br (↑(g9 (CM (dm 64 a) (dm 64 255))):aw)))])).size<=4611686018427387904)then bif u9.c (d++bytesOf (aL (aN [Ck.i ba] 1) 0 [CV.i ba (bE ba (br (↑(g9 (CM (dm 64 a) (dm 64 255))):aw)))]))then kr (cT (br (u9.v (d++bytesOf (aL (aN [Ck.i ba] 1) 0 [CV.i ba (bE ba (br (↑(g9 (CM (dm 64 a) (dm 64 255))):aw)))])))) 16)else aj else aj
def vo:=b λr0=>ah r0
def c:=λa d=>(vo a d).isSome
def v:=λa d=>(vo a d).getD (0)
theorem out{x}:∀a d,vo a d=ah x->c a d=ai/\v a d=x:=λ_ _=>Lib.cY
end qz

namespace iG
def r18(N:aC)(g k0:vG R)(a:aC)(d e f h i j:aw)(l:aQ):ay R:=bif decide (h<f)then bif decide (0<=h)&&decide (h<((gD (ar l a 0)).length:aw))then bif decide (0<=h)&&decide (h<((gD (ar l a 0)).length:aw))then g a d e f (br (h+1)) i j (cK l a 0 [CV.l 3 (cK (gD (ar l a 0)) h.toNat 0 [.i .i64 (br (c7 (bF (ar (gD (ar l a 0)) h.toNat 0)) 2))])])else aj else aj else k0 a d e f h i j l
def l18(N:aC)(k0:vG R):aC->vG R
 |0=>λ_ _ _ _ _ _ _ _=>aj
 |n+1=>r18 N (l18 N k0 n) k0
def r15(N:aC)(g k0:ud R)(a d e f:aw)(h:aQ):ay R:=bif decide (d<a)then bif decide (0<=d)&&decide (d<(h.length:aw))then l18 N (λ_ i j _ _ l m o=>g i (br (j+1)) l m o) N d.toNat a d ((gD (ar h d.toNat 0)).length:aw) 0 e f h else aj else k0 a d e f h
def l15(N:aC)(k0:ud R):aC->ud R
 |0=>λ_ _ _ _ _=>aj
 |n+1=>r15 N (l15 N k0 n) k0
def r5(N:aC)(g k0:CU R)(a:aq)(d e f h:aw)(i:aQ):ay R:=bif decide (e<d)then bif decide (0<=e)&&decide (e<(i.length:aw))then bif qz.c e a then bif decide (0<=qz.v e a)&&decide (qz.v e a<((gD (ar i e.toNat 0)).length:aw))then bif decide (0<=qz.v e a)&&decide (qz.v e a<((gD (ar i e.toNat 0)).length:aw))then g a d (br (e+1)) f h (cK i e.toNat 0 [CV.l 3 (cK (gD (ar i e.toNat 0)) (qz.v e a).toNat 0 [.i .i64 (il ak (br (bF (ar (gD (ar i e.toNat 0)) (qz.v e a).toNat 0)+1)) 15)])])else aj else aj else aj else aj else k0 a d e f h i
def l5(N:aC)(k0:CU R):aC->CU R
 |0=>λ_ _ _ _ _ _=>aj
 |n+1=>r5 N (l5 N k0 n) k0
def b(N:aC)(kr:EG R)(a:aQ)(d:aw)(e:aq):ay R:=bif jj.c a d then bif pK.c a d then bif !pK.v a d then kr (jj.v a d).1 (jj.v a d).2 else l5 N (λ_ _ _ f h i=>bif decide (br (h+1)<64)then kr i (br (h+1))else l15 N (λ_ _ _ j l=>kr l j) N (i.length:aw) 0 f 0 i) N e ((jj.v a d).1.length:aw) 0 0 (jj.v a d).2 (jj.v a d).1 else aj else aj
def vo:=b Lib.cy λr0 r1=>ah (r0,r1)
def c:=λa d e=>(vo a d e).isSome
def v:=λa d e=>(vo a d e).getD ([],0)
theorem out{x}:∀a d e,vo a d e=ah x->c a d e=ai/\v a d e=x:=λ_ _ _=>Lib.cY
end iG

namespace BZ
def b(kr:aY->ay R)(a gP:aq):ay R:=kr (cW (aA a) (aA gP))
def v(a0 gP:aq):aY:=(cW (aA a0) (aA gP))
theorem dP(kr:aY->ay R)(a0 gP:aq):b kr a0 gP=kr (v a0 gP):=by first|rfl|(unfold b v;simp only[ca];(repeat' split)<;>rfl)
end BZ

namespace sI
def r2(N:aC)(g k0 k1:hZ R)(a:aQ)(d:aq)(e f h:aw):ay R:=bif decide (h<f)then bif decide (0<=h)&&decide (h<(a.length:aw))then bif BZ.v (bz (ar a h.toNat 0)) d then k0 a d h f h else g a d e f (br (h+1))else aj else k1 a d e f h
def l2(N:aC)(k0 k1:hZ R):aC->hZ R
 |0=>λ_ _ _ _ _=>aj
 |n+1=>r2 N (l2 N k0 k1 n) k0 k1
def b(N:aC)(kr:aw->ay R)(a:aQ)(gP:aq):ay R:=l2 N (λ_ _ d _ _=>kr d) (λ_ _ _ _ _=>kr (-1)) N a gP 0 (a.length:aw) 0
def vo:=b Lib.cy λr0=>ah r0
def c:=λa d=>(vo a d).isSome
def v:=λa d=>(vo a d).getD (0)
theorem out{x}:∀a d,vo a d=ah x->c a d=ai/\v a d=x:=λ_ _=>Lib.cY
end sI

namespace xB
def r5(N:aC)(g k0:me R)(a:aq)(d e:aw)(f:aQ):ay R:=bif decide (e<(f.length:aw))then bif decide (0<=e)&&decide (e<(f.length:aw))then bif !BZ.v (bz (ar f e.toNat 0)) a then bif decide (0<=d)&&decide (d<(f.length:aw))then g a (br (d+1)) (br (e+1)) (cK f d.toNat 0 [.s (bz (ar f e.toNat 0))])else aj else g a d (br (e+1)) f else aj else k0 a d e f
def l5(N:aC)(k0:me R):aC->me R
 |0=>λ_ _ _ _=>aj
 |n+1=>r5 N (l5 N k0 n) k0
def b(N:aC)(kr:aQ->ay R)(a:aQ)(gP:aq):ay R:=bif sI.c a gP then bif decide (sI.v a gP=Lt 1)then kr a else l5 N (λ_ d _ e=>bif iA d (e.length:aw) (e.length:aw)then bif iA 0 d ((gY d.toNat e++aN [.s] ((e.length:aw).toNat-d.toNat)++m9 (e.length:aw).toNat e).length:aw)then kr (e8 (gY d.toNat e++aN [.s] ((e.length:aw).toNat-d.toNat)++m9 (e.length:aw).toNat e) (bc 0) d.toNat)else aj else aj) N gP (sI.v a gP) (br (sI.v a gP+1)) a else aj
def vo:=b Lib.cy λr0=>ah r0
def c:=λa d=>(vo a d).isSome
def v:=λa d=>(vo a d).getD ([])
theorem out{x}:∀a d,vo a d=ah x->c a d=ai/\v a d=x:=λ_ _=>Lib.cY
end xB

namespace j7
def b(kr:aQ->ay R)(a:aQ)(d:aq):ay R:=bif s_.c a then bif xB.c (s_.v a) d then kr (xB.v (s_.v a) d)else aj else aj
def vo:=b λr0=>ah r0
def c:=λa d=>(vo a d).isSome
def v:=λa d=>(vo a d).getD ([])
theorem out{x}:∀a d,vo a d=ah x->c a d=ai/\v a d=x:=λ_ _=>Lib.cY
end j7

namespace v5
def r5(N:aC)(g k0:G1 R)(a:aq)(d:aw)(e:aQ)(f h:aw):ay R:=bif decide (h<f)then bif decide (0<=h)&&decide (h<(e.length:aw))then bif qz.c h a then bif decide (0<=qz.v h a)&&decide (qz.v h a<((gD (ar e h.toNat 0)).length:aw))then g a (il ak d (bF (ar (gD (ar e h.toNat 0)) (qz.v h a).toNat 0))) e f (br (h+1))else aj else aj else aj else k0 a d e f h
def l5(N:aC)(k0:G1 R):aC->G1 R
 |0=>λ_ _ _ _ _=>aj
 |n+1=>r5 N (l5 N k0 n) k0
def b(N:aC)(kr:aw->ay R)(a:aQ)(d:aw)(e:aq):ay R:=bif pK.c a d then bif !pK.v a d then kr 0 else l5 N (λ_ f _ _ _=>kr f) N e 15 a (a.length:aw) 0 else aj
def vo:=b Lib.cy λr0=>ah r0
def c:=λa d e=>(vo a d e).isSome
def v:=λa d e=>(vo a d e).getD (0)
theorem out{x}:∀a d e,vo a d e=ah x->c a d e=ai/\v a d e=x:=λ_ _ _=>Lib.cY
end v5

namespace Az
def b(kr:Nu R)(a d e:aQ)(f:aw)(h:aq):ay R:=bif jq.c a d e f then bif o4.c a d e f then bif !o4.v a d e f then kr (jq.v a d e f).1 (jq.v a d e f).2.1 (jq.v a d e f).2.2.1 (jq.v a d e f).2.2.2 ⟨#[]⟩else bif !Ay.v h then kr (jq.v a d e f).1 (jq.v a d e f).2.1 (jq.v a d e f).2.2.1 (jq.v a d e f).2.2.2 ⟨#[]⟩else bif iG.c e f h then bif sG.c d h then bif sG.v d h then bif j7.c d h then bif cC ((j7.v d h).length+(aL (aN [.s] 1) 0 [.s h]).length) 16 then kr (jq.v a d e f).1 (j7.v d h++aL (aN [.s] 1) 0 [.s h]) (iG.v e f h).1 (iG.v e f h).2 ⟨#[]⟩else aj else aj else bif j7.c a h then bif cC ((j7.v a h).length+(aL (aN [.s] 1) 0 [.s h]).length) 16 then bif decide (((j7.v a h++aL (aN [.s] 1) 0 [.s h]).length:aw)<=2)then kr (j7.v a h++aL (aN [.s] 1) 0 [.s h]) (jq.v a d e f).2.1 (iG.v e f h).1 (iG.v e f h).2 ⟨#[]⟩else bif decide (0<((j7.v a h++aL (aN [.s] 1) 0 [.s h]).length:aw))then bif iA 1 ((j7.v a h++aL (aN [.s] 1) 0 [.s h]).length:aw) ((j7.v a h++aL (aN [.s] 1) 0 [.s h]).length:aw)then bif decide (((jq.v a d e f).2.1.length:aw)<4)then bif cC ((jq.v a d e f).2.1.length+(aL (aN [.s] 1) 0 [.s (bz (ar (j7.v a h++aL (aN [.s] 1) 0 [.s h]) (bc 0) 0))]).length) 16 then kr (e8 (j7.v a h++aL (aN [.s] 1) 0 [.s h]) (bc 1) ((j7.v a h++aL (aN [.s] 1) 0 [.s h]).length:aw).toNat) ((jq.v a d e f).2.1++aL (aN [.s] 1) 0 [.s (bz (ar (j7.v a h++aL (aN [.s] 1) 0 [.s h]) (bc 0) 0))]) (iG.v e f h).1 (iG.v e f h).2 ⟨#[]⟩else aj else bif decide (0<((jq.v a d e f).2.1.length:aw))then bif v5.c (iG.v e f h).1 (iG.v e f h).2 (bz (ar (j7.v a h++aL (aN [.s] 1) 0 [.s h]) (bc 0) 0))then bif v5.c (iG.v e f h).1 (iG.v e f h).2 (bz (ar (jq.v a d e f).2.1 (bc 0) 0))then bif decide (v5.v (iG.v e f h).1 (iG.v e f h).2 (bz (ar (j7.v a h++aL (aN [.s] 1) 0 [.s h]) (bc 0) 0))>v5.v (iG.v e f h).1 (iG.v e f h).2 (bz (ar (jq.v a d e f).2.1 (bc 0) 0)))then bif iA 1 ((jq.v a d e f).2.1.length:aw) ((jq.v a d e f).2.1.length:aw)then bif cC ((e8 (jq.v a d e f).2.1 (bc 1) ((jq.v a d e f).2.1.length:aw).toNat).length+(aL (aN [.s] 1) 0 [.s (bz (ar (j7.v a h++aL (aN [.s] 1) 0 [.s h]) (bc 0) 0))]).length) 16 then kr (e8 (j7.v a h++aL (aN [.s] 1) 0 [.s h]) (bc 1) ((j7.v a h++aL (aN [.s] 1) 0 [.s h]).length:aw).toNat) (e8 (jq.v a d e f).2.1 (bc 1) ((jq.v a d e f).2.1.length:aw).toNat++aL (aN [.s] 1) 0 [.s (bz (ar (j7.v a h++aL (aN [.s] 1) 0 [.s h]) (bc 0) 0))]) (iG.v e f h).1 (iG.v e f h).2 (bz (ar (jq.v a d e f).2.1 (bc 0) 0))else aj else aj else kr (e8 (j7.v a h++aL (aN [.s] 1) 0 [.s h]) (bc 1) ((j7.v a h++aL (aN [.s] 1) 0 [.s h]).length:aw).toNat) (jq.v a d e f).2.1 (iG.v e f h).1 (iG.v e f h).2 (bz (ar (j7.v a h++aL (aN [.s] 1) 0 [.s h]) (bc 0) 0))else aj else aj else aj else aj else aj else aj else aj else aj else aj else aj else aj
def vo:=b λr0 r1 r2 r3 r4=>ah (r0,r1,r2,r3,r4)
def c:=λa d e f h=>(vo a d e f h).isSome
def v:=λa d e f h=>(vo a d e f h).getD ([],[],[],0,⟨#[]⟩)
theorem out{x}:∀a d e f h,vo a d e f h=ah x->c a d e f h=ai/\v a d e f h=x:=λ_ _ _ _ _=>Lib.cY
end Az


namespace ji
def r2(N:aC)(g k0:ly R)(a d e f h:aw)(i:aq)(j l m:aw)(o:aq)(p:aw)(q r s t u w:aQ):ay R:=bif decide (a<(w.length:aw))then bif decide (0<=a)&&decide (a<(w.length:aw))then bif decide (bF (ar w a.toNat 0)<h)then g (br (a+1)) d e f h i j l m o p q r s t u w else k0 a d e f h i j l m o p q r s t u w else aj else k0 a d e f h i j l m o p q r s t u w
def l2(N:aC)(k0:ly R):aC->ly R
 |0=>λ_ _ _ _ _ _ _ _ _ _ _ _ _ _ _ _ _=>aj
 |n+1=>r2 N (l2 N k0 n) k0
def b(N:aC)(kr:eP R)(a:aw)(d e f h:aQ)(i:aw)(j l:aQ)(m o:aw)(p:aq)(q r s:aw)(t:aq)(u:aw):ay R:=l2 N (λw y z α xa xb xc xd xe xf xg xh xi xj xk xl xm=>bif decide (0<=w)&&decide (w<=(xm.length:aw))&&cC (xm.length+(aL (aN [Ck.i ao,Ck.s,Ck.i ao,Ck.i ao,Ck.i ao,Ck.s,Ck.i ao] 1) 0 [.i .i64 xa, .s xb, .i .i64 xc, .i .i64 xd, .i .i64 xe, .s xf, .i .i64 xg]).length) 72 then kr y xh xi xj xk z xl (Pu.tD xm w.toNat (aL (aN [Ck.i ao,Ck.s,Ck.i ao,Ck.i ao,Ck.i ao,Ck.s,Ck.i ao] 1) 0 [.i .i64 xa, .s xb, .i .i64 xc, .i .i64 xd, .i .i64 xe, .s xf, .i .i64 xg])) α else aj) N 0 a i m o p q r s t u d e f h j l
def vo:=b Lib.cy λr0 r1 r2 r3 r4 r5 r6 r7 r8=>ah (r0,r1,r2,r3,r4,r5,r6,r7,r8)
def c:=λa d e f h i j l m o p q r s t u=>(vo a d e f h i j l m o p q r s t u).isSome
def v:=λa d e f h i j l m o p q r s t u=>(vo a d e f h i j l m o p q r s t u).getD (0,[],[],[],[],0,[],[],0)
theorem out{x}:∀a d e f h i j l m o p q r s t u,vo a d e f h i j l m o p q r s t u=ah x->c a d e f h i j l m o p q r s t u=ai/\v a d e f h i j l m o p q r s t u=x:=λ_ _ _ _ _ _ _ _ _ _ _ _ _ _ _ _=>Lib.cY
end ji

namespace o8
def r5(N:aC)(g k0:me R)(a:aq)(d e:aw)(f:aQ):ay R:=bif decide (e<(f.length:aw))then bif decide (0<=e)&&decide (e<(f.length:aw))then bif !BV.v (bz (ar f e.toNat 0)) (bF (ar f e.toNat 1)) (bF (ar f e.toNat (1+1))) (bz (ar f e.toNat (1+1+1))) a then bif decide (0<=d)&&decide (d<(f.length:aw))then g a (br (d+1)) (br (e+1)) (cK f d.toNat 0 [.s (bz (ar f e.toNat 0)), .i .i64 (bF (ar f e.toNat 1)), .i .i64 (bF (ar f e.toNat (1+1))), .s (bz (ar f e.toNat (1+1+1)))])else aj else g a d (br (e+1)) f else aj else k0 a d e f
def l5(N:aC)(k0:me R):aC->me R
 |0=>λ_ _ _ _=>aj
 |n+1=>r5 N (l5 N k0 n) k0
def b(N:aC)(kr:aQ->ay R)(a:aQ)(gP:aq):ay R:=bif na.c a gP then bif decide (na.v a gP=Lt 1)then kr a else l5 N (λ_ d _ e=>bif iA d (e.length:aw) (e.length:aw)then bif iA 0 d ((gY d.toNat e++aN [Ck.s,Ck.i ao,Ck.i ao,Ck.s] ((e.length:aw).toNat-d.toNat)++m9 (e.length:aw).toNat e).length:aw)then kr (e8 (gY d.toNat e++aN [Ck.s,Ck.i ao,Ck.i ao,Ck.s] ((e.length:aw).toNat-d.toNat)++m9 (e.length:aw).toNat e) (bc 0) d.toNat)else aj else aj) N gP (na.v a gP) (br (na.v a gP+1)) a else aj
def vo:=b Lib.cy λr0=>ah r0
def c:=λa d=>(vo a d).isSome
def v:=λa d=>(vo a d).getD ([])
theorem out{x}:∀a d,vo a d=ah x->c a d=ai/\v a d=x:=λ_ _=>Lib.cY
end o8

namespace pJ
def b(kr:aQ->ay R)(a:aQ)(d:aq):ay R:=bif w9.c a then bif o8.c (w9.v a) d then kr (o8.v (w9.v a) d)else aj else aj
def vo:=b λr0=>ah r0
def c:=λa d=>(vo a d).isSome
def v:=λa d=>(vo a d).getD ([])
theorem out{x}:∀a d,vo a d=ah x->c a d=ai/\v a d=x:=λ_ _=>Lib.cY
end pJ

namespace uW
def b(kr:sW R)(a d e:aQ)(f:aw)(h:aq):ay R:=bif jq.c a d e f then bif j7.c a h then bif j7.c d h then kr (j7.v a h) (j7.v d h) (jq.v a d e f).2.2.1 (jq.v a d e f).2.2.2 else aj else aj else aj
def vo:=b λr0 r1 r2 r3=>ah (r0,r1,r2,r3)
def c:=λa d e f h=>(vo a d e f h).isSome
def v:=λa d e f h=>(vo a d e f h).getD ([],[],[],0)
theorem out{x}:∀a d e f h,vo a d e f h=ah x->c a d e f h=ai/\v a d e f h=x:=λ_ _ _ _ _=>Lib.cY
end uW

namespace TC
def b(kr:wP R)(a:aw)(d e f h:aQ)(i:aw)(j l:aQ)(m o:aw)(p:aq):ay R:=bif iM.c a d e f h i j l m then Lib.lt (iM.v a d e f h i j l m) λq=>bif Qb.c a d e f h i j l m then Lib.lt (Qb.v a d e f h i j l m) λr=>bif !r then kr q.1 q.2.1 q.2.2.1 q.2.2.2.1 q.2.2.2.2.1 q.2.2.2.2.2.1 q.2.2.2.2.2.2.1 q.2.2.2.2.2.2.2.1 q.2.2.2.2.2.2.2.2 1 else bif !lj.v o 1 9 then kr q.1 q.2.1 q.2.2.1 q.2.2.2.1 q.2.2.2.2.1 q.2.2.2.2.2.1 q.2.2.2.2.2.2.1 q.2.2.2.2.2.2.2.1 q.2.2.2.2.2.2.2.2 1 else bif !Ay.v p then kr q.1 q.2.1 q.2.2.1 q.2.2.2.1 q.2.2.2.2.1 q.2.2.2.2.2.1 q.2.2.2.2.2.2.1 q.2.2.2.2.2.2.2.1 q.2.2.2.2.2.2.2.2 1 else bif Av.c a d e f h i j l m o then Lib.lt (Av.v a d e f h i j l m o) λs=>bif decide (s≥0)then kr q.1 q.2.1 q.2.2.1 q.2.2.2.1 q.2.2.2.2.1 q.2.2.2.2.2.1 q.2.2.2.2.2.2.1 q.2.2.2.2.2.2.2.1 q.2.2.2.2.2.2.2.2 1 else bif decide ((l.length:aw)=6)then kr q.1 q.2.1 q.2.2.1 q.2.2.2.1 q.2.2.2.2.1 q.2.2.2.2.2.1 q.2.2.2.2.2.2.1 q.2.2.2.2.2.2.2.1 q.2.2.2.2.2.2.2.2 1 else bif pT.c d p then Lib.lt (pT.v d p) λt=>bif decide (t≥0)then bif decide (0<=t)&&decide (t<(d.length:aw))then bif HR.v (bz (ar d t.toNat 0)) (bF (ar d t.toNat 1)) (bF (ar d t.toNat (1+1))) (bz (ar d t.toNat (1+1+1))) a then bif decide (0<=t)&&decide (t<(d.length:aw))then bif Az.c e f h i p then Lib.lt (Az.v e f h i p) λu=>bif ji.c q.1 q.2.1 u.1 u.2.1 u.2.2.1 u.2.2.2.1 q.2.2.2.2.2.2.1 q.2.2.2.2.2.2.2.1 q.2.2.2.2.2.2.2.2 o p 0 (bF (ar d t.toNat 1)) 2 (bz (ar d t.toNat (1+1+1))) (br (a-bF (ar d t.toNat 1)))then Lib.lt (ji.v q.1 q.2.1 u.1 u.2.1 u.2.2.1 u.2.2.2.1 q.2.2.2.2.2.2.1 q.2.2.2.2.2.2.2.1 q.2.2.2.2.2.2.2.2 o p 0 (bF (ar d t.toNat 1)) 2 (bz (ar d t.toNat (1+1+1))) (br (a-bF (ar d t.toNat 1)))) λw=>kr w.1 w.2.1 w.2.2.1 w.2.2.2.1 w.2.2.2.2.1 w.2.2.2.2.2.1 w.2.2.2.2.2.2.1 w.2.2.2.2.2.2.2.1 (il ak (br (m+1)) 1000000000) 0 else aj else aj else aj else bif LN.c a d e f h i j l m p then Lib.lt (LN.v a d e f h i j l m p) λy=>bif decide (y<0)then bif decide ((j.length:aw)=20)then kr q.1 q.2.1 q.2.2.1 q.2.2.2.1 q.2.2.2.2.1 q.2.2.2.2.2.1 q.2.2.2.2.2.2.1 q.2.2.2.2.2.2.2.1 q.2.2.2.2.2.2.2.2 2 else bif decide (t≥0)then bif pJ.c d p then Lib.lt (pJ.v d p) λz=>bif uW.c e f h i p then Lib.lt (uW.v e f h i p) λα=>bif iG.c h i p then Lib.lt (iG.v h i p) λxa=>bif decide (y<0)then bif cC (q.2.2.2.2.2.2.1.length+(aL (aN [Ck.s,Ck.s,Ck.i ao,Ck.i ao,Ck.i ao] 1) 0 [.s p, .s ⟨#[]⟩, .i .i64 1, .i .i64 0, .i .i64 0]).length) 56 then bif decide ((j.length:aw)<((q.2.2.2.2.2.2.1++aL (aN [Ck.s,Ck.s,Ck.i ao,Ck.i ao,Ck.i ao] 1) 0 [.s p, .s ⟨#[]⟩, .i .i64 1, .i .i64 0, .i .i64 0]).length:aw))then bif ji.c q.1 z α.1 α.2.1 xa.1 xa.2 (q.2.2.2.2.2.2.1++aL (aN [Ck.s,Ck.s,Ck.i ao,Ck.i ao,Ck.i ao] 1) 0 [.s p, .s ⟨#[]⟩, .i .i64 1, .i .i64 0, .i .i64 0]) q.2.2.2.2.2.2.2.1 q.2.2.2.2.2.2.2.2 o p (br ((j.length:aw)+1)) 0 1 (bz (ar (q.2.2.2.2.2.2.1++aL (aN [Ck.s,Ck.s,Ck.i ao,Ck.i ao,Ck.i ao] 1) 0 [.s p, .s ⟨#[]⟩, .i .i64 1, .i .i64 0, .i .i64 0]) (j.length:aw).toNat 1)) 0 then Lib.lt (ji.v q.1 z α.1 α.2.1 xa.1 xa.2 (q.2.2.2.2.2.2.1++aL (aN [Ck.s,Ck.s,Ck.i ao,Ck.i ao,Ck.i ao] 1) 0 [.s p, .s ⟨#[]⟩, .i .i64 1, .i .i64 0, .i .i64 0]) q.2.2.2.2.2.2.2.1 q.2.2.2.2.2.2.2.2 o p (br ((j.length:aw)+1)) 0 1 (bz (ar (q.2.2.2.2.2.2.1++aL (aN [Ck.s,Ck.s,Ck.i ao,Ck.i ao,Ck.i ao] 1) 0 [.s p, .s ⟨#[]⟩, .i .i64 1, .i .i64 0, .i .i64 0]) (j.length:aw).toNat 1)) 0) λxb=>kr xb.1 xb.2.1 xb.2.2.1 xb.2.2.2.1 xb.2.2.2.2.1 xb.2.2.2.2.2.1 xb.2.2.2.2.2.2.1 xb.2.2.2.2.2.2.2.1 xb.2.2.2.2.2.2.2.2 0 else aj else aj else aj else bif decide (0<=y)&&decide (y<(q.2.2.2.2.2.2.1.length:aw))then bif ji.c q.1 z α.1 α.2.1 xa.1 xa.2 q.2.2.2.2.2.2.1 q.2.2.2.2.2.2.2.1 q.2.2.2.2.2.2.2.2 o p (br (y+1)) 0 1 (bz (ar q.2.2.2.2.2.2.1 y.toNat 1)) 0 then Lib.lt (ji.v q.1 z α.1 α.2.1 xa.1 xa.2 q.2.2.2.2.2.2.1 q.2.2.2.2.2.2.2.1 q.2.2.2.2.2.2.2.2 o p (br (y+1)) 0 1 (bz (ar q.2.2.2.2.2.2.1 y.toNat 1)) 0) λxc=>kr xc.1 xc.2.1 xc.2.2.1 xc.2.2.2.1 xc.2.2.2.2.1 xc.2.2.2.2.2.1 xc.2.2.2.2.2.2.1 xc.2.2.2.2.2.2.2.1 xc.2.2.2.2.2.2.2.2 0 else aj else aj else aj else aj else aj else bif iG.c h i p then Lib.lt (iG.v h i p) λxd=>bif decide (y<0)then bif cC (q.2.2.2.2.2.2.1.length+(aL (aN [Ck.s,Ck.s,Ck.i ao,Ck.i ao,Ck.i ao] 1) 0 [.s p, .s ⟨#[]⟩, .i .i64 1, .i .i64 0, .i .i64 0]).length) 56 then bif decide ((j.length:aw)<((q.2.2.2.2.2.2.1++aL (aN [Ck.s,Ck.s,Ck.i ao,Ck.i ao,Ck.i ao] 1) 0 [.s p, .s ⟨#[]⟩, .i .i64 1, .i .i64 0, .i .i64 0]).length:aw))then bif ji.c q.1 q.2.1 q.2.2.1 q.2.2.2.1 xd.1 xd.2 (q.2.2.2.2.2.2.1++aL (aN [Ck.s,Ck.s,Ck.i ao,Ck.i ao,Ck.i ao] 1) 0 [.s p, .s ⟨#[]⟩, .i .i64 1, .i .i64 0, .i .i64 0]) q.2.2.2.2.2.2.2.1 q.2.2.2.2.2.2.2.2 o p (br ((j.length:aw)+1)) 0 1 (bz (ar (q.2.2.2.2.2.2.1++aL (aN [Ck.s,Ck.s,Ck.i ao,Ck.i ao,Ck.i ao] 1) 0 [.s p, .s ⟨#[]⟩, .i .i64 1, .i .i64 0, .i .i64 0]) (j.length:aw).toNat 1)) 0 then Lib.lt (ji.v q.1 q.2.1 q.2.2.1 q.2.2.2.1 xd.1 xd.2 (q.2.2.2.2.2.2.1++aL (aN [Ck.s,Ck.s,Ck.i ao,Ck.i ao,Ck.i ao] 1) 0 [.s p, .s ⟨#[]⟩, .i .i64 1, .i .i64 0, .i .i64 0]) q.2.2.2.2.2.2.2.1 q.2.2.2.2.2.2.2.2 o p (br ((j.length:aw)+1)) 0 1 (bz (ar (q.2.2.2.2.2.2.1++aL (aN [Ck.s,Ck.s,Ck.i ao,Ck.i ao,Ck.i ao] 1) 0 [.s p, .s ⟨#[]⟩, .i .i64 1, .i .i64 0, .i .i64 0]) (j.length:aw).toNat 1)) 0) λxe=>kr xe.1 xe.2.1 xe.2.2.1 xe.2.2.2.1 xe.2.2.2.2.1 xe.2.2.2.2.2.1 xe.2.2.2.2.2.2.1 xe.2.2.2.2.2.2.2.1 xe.2.2.2.2.2.2.2.2 0 else aj else aj else aj else bif decide (0<=y)&&decide (y<(q.2.2.2.2.2.2.1.length:aw))then bif ji.c q.1 q.2.1 q.2.2.1 q.2.2.2.1 xd.1 xd.2 q.2.2.2.2.2.2.1 q.2.2.2.2.2.2.2.1 q.2.2.2.2.2.2.2.2 o p (br (y+1)) 0 1 (bz (ar q.2.2.2.2.2.2.1 y.toNat 1)) 0 then Lib.lt (ji.v q.1 q.2.1 q.2.2.1 q.2.2.2.1 xd.1 xd.2 q.2.2.2.2.2.2.1 q.2.2.2.2.2.2.2.1 q.2.2.2.2.2.2.2.2 o p (br (y+1)) 0 1 (bz (ar q.2.2.2.2.2.2.1 y.toNat 1)) 0) λxf=>kr xf.1 xf.2.1 xf.2.2.1 xf.2.2.2.1 xf.2.2.2.2.1 xf.2.2.2.2.2.1 xf.2.2.2.2.2.2.1 xf.2.2.2.2.2.2.2.1 xf.2.2.2.2.2.2.2.2 0 else aj else aj else aj else bif decide (t≥0)then bif pJ.c d p then Lib.lt (pJ.v d p) λxg=>bif uW.c e f h i p then Lib.lt (uW.v e f h i p) λxh=>bif iG.c h i p then Lib.lt (iG.v h i p) λxi=>bif decide (y<0)then bif cC (q.2.2.2.2.2.2.1.length+(aL (aN [Ck.s,Ck.s,Ck.i ao,Ck.i ao,Ck.i ao] 1) 0 [.s p, .s ⟨#[]⟩, .i .i64 1, .i .i64 0, .i .i64 0]).length) 56 then bif decide ((j.length:aw)<((q.2.2.2.2.2.2.1++aL (aN [Ck.s,Ck.s,Ck.i ao,Ck.i ao,Ck.i ao] 1) 0 [.s p, .s ⟨#[]⟩, .i .i64 1, .i .i64 0, .i .i64 0]).length:aw))then bif ji.c q.1 xg xh.1 xh.2.1 xi.1 xi.2 (q.2.2.2.2.2.2.1++aL (aN [Ck.s,Ck.s,Ck.i ao,Ck.i ao,Ck.i ao] 1) 0 [.s p, .s ⟨#[]⟩, .i .i64 1, .i .i64 0, .i .i64 0]) q.2.2.2.2.2.2.2.1 q.2.2.2.2.2.2.2.2 o p (br ((j.length:aw)+1)) 0 1 (bz (ar (q.2.2.2.2.2.2.1++aL (aN [Ck.s,Ck.s,Ck.i ao,Ck.i ao,Ck.i ao] 1) 0 [.s p, .s ⟨#[]⟩, .i .i64 1, .i .i64 0, .i .i64 0]) (j.length:aw).toNat 1)) 0 then Lib.lt (ji.v q.1 xg xh.1 xh.2.1 xi.1 xi.2 (q.2.2.2.2.2.2.1++aL (aN [Ck.s,Ck.s,Ck.i ao,Ck.i ao,Ck.i ao] 1) 0 [.s p, .s ⟨#[]⟩, .i .i64 1, .i .i64 0, .i .i64 0]) q.2.2.2.2.2.2.2.1 q.2.2.2.2.2.2.2.2 o p (br ((j.length:aw)+1)) 0 1 (bz (ar (q.2.2.2.2.2.2.1++aL (aN [Ck.s,Ck.s,Ck.i ao,Ck.i ao,Ck.i ao] 1) 0 [.s p, .s ⟨#[]⟩, .i .i64 1, .i .i64 0, .i .i64 0]) (j.length:aw).toNat 1)) 0) λxj=>kr xj.1 xj.2.1 xj.2.2.1 xj.2.2.2.1 xj.2.2.2.2.1 xj.2.2.2.2.2.1 xj.2.2.2.2.2.2.1 xj.2.2.2.2.2.2.2.1 xj.2.2.2.2.2.2.2.2 0 else aj else aj else aj else bif decide (0<=y)&&decide (y<(q.2.2.2.2.2.2.1.length:aw))then bif ji.c q.1 xg xh.1 xh.2.1 xi.1 xi.2 q.2.2.2.2.2.2.1 q.2.2.2.2.2.2.2.1 q.2.2.2.2.2.2.2.2 o p (br (y+1)) 0 1 (bz (ar q.2.2.2.2.2.2.1 y.toNat 1)) 0 then Lib.lt (ji.v q.1 xg xh.1 xh.2.1 xi.1 xi.2 q.2.2.2.2.2.2.1 q.2.2.2.2.2.2.2.1 q.2.2.2.2.2.2.2.2 o p (br (y+1)) 0 1 (bz (ar q.2.2.2.2.2.2.1 y.toNat 1)) 0) λxk=>kr xk.1 xk.2.1 xk.2.2.1 xk.2.2.2.1 xk.2.2.2.2.1 xk.2.2.2.2.2.1 xk.2.2.2.2.2.2.1 xk.2.2.2.2.2.2.2.1 xk.2.2.2.2.2.2.2.2 0 else aj else aj else aj else aj else aj else bif iG.c h i p then Lib.lt (iG.v h i p) λxl=>bif decide (y<0)then bif cC (q.2.2.2.2.2.2.1.length+(aL (aN [Ck.s,Ck.s,Ck.i ao,Ck.i ao,Ck.i ao] 1) 0 [.s p, .s ⟨#[]⟩, .i .i64 1, .i .i64 0, .i .i64 0]).length) 56 then bif decide ((j.length:aw)<((q.2.2.2.2.2.2.1++aL (aN [Ck.s,Ck.s,Ck.i ao,Ck.i ao,Ck.i ao] 1) 0 [.s p, .s ⟨#[]⟩, .i .i64 1, .i .i64 0, .i .i64 0]).length:aw))then bif ji.c q.1 q.2.1 q.2.2.1 q.2.2.2.1 xl.1 xl.2 (q.2.2.2.2.2.2.1++aL (aN [Ck.s,Ck.s,Ck.i ao,Ck.i ao,Ck.i ao] 1) 0 [.s p, .s ⟨#[]⟩, .i .i64 1, .i .i64 0, .i .i64 0]) q.2.2.2.2.2.2.2.1 q.2.2.2.2.2.2.2.2 o p (br ((j.length:aw)+1)) 0 1 (bz (ar (q.2.2.2.2.2.2.1++aL (aN [Ck.s,Ck.s,Ck.i ao,Ck.i ao,Ck.i ao] 1) 0 [.s p, .s ⟨#[]⟩, .i .i64 1, .i .i64 0, .i .i64 0]) (j.length:aw).toNat 1)) 0 then Lib.lt (ji.v q.1 q.2.1 q.2.2.1 q.2.2.2.1 xl.1 xl.2 (q.2.2.2.2.2.2.1++aL (aN [Ck.s,Ck.s,Ck.i ao,Ck.i ao,Ck.i ao] 1) 0 [.s p, .s ⟨#[]⟩, .i .i64 1, .i .i64 0, .i .i64 0]) q.2.2.2.2.2.2.2.1 q.2.2.2.2.2.2.2.2 o p (br ((j.length:aw)+1)) 0 1 (bz (ar (q.2.2.2.2.2.2.1++aL (aN [Ck.s,Ck.s,Ck.i ao,Ck.i ao,Ck.i ao] 1) 0 [.s p, .s ⟨#[]⟩, .i .i64 1, .i .i64 0, .i .i64 0]) (j.length:aw).toNat 1)) 0) λxm=>kr xm.1 xm.2.1 xm.2.2.1 xm.2.2.2.1 xm.2.2.2.2.1 xm.2.2.2.2.2.1 xm.2.2.2.2.2.2.1 xm.2.2.2.2.2.2.2.1 xm.2.2.2.2.2.2.2.2 0 else aj else aj else aj else bif decide (0<=y)&&decide (y<(q.2.2.2.2.2.2.1.length:aw))then bif ji.c q.1 q.2.1 q.2.2.1 q.2.2.2.1 xl.1 xl.2 q.2.2.2.2.2.2.1 q.2.2.2.2.2.2.2.1 q.2.2.2.2.2.2.2.2 o p (br (y+1)) 0 1 (bz (ar q.2.2.2.2.2.2.1 y.toNat 1)) 0 then Lib.lt (ji.v q.1 q.2.1 q.2.2.1 q.2.2.2.1 xl.1 xl.2 q.2.2.2.2.2.2.1 q.2.2.2.2.2.2.2.1 q.2.2.2.2.2.2.2.2 o p (br (y+1)) 0 1 (bz (ar q.2.2.2.2.2.2.1 y.toNat 1)) 0) λxn=>kr xn.1 xn.2.1 xn.2.2.1 xn.2.2.2.1 xn.2.2.2.2.1 xn.2.2.2.2.2.1 xn.2.2.2.2.2.2.1 xn.2.2.2.2.2.2.2.1 xn.2.2.2.2.2.2.2.2 0 else aj else aj else aj else aj else aj else bif LN.c a d e f h i j l m p then Lib.lt (LN.v a d e f h i j l m p) λxo=>bif decide (xo<0)then bif decide ((j.length:aw)=20)then kr q.1 q.2.1 q.2.2.1 q.2.2.2.1 q.2.2.2.2.1 q.2.2.2.2.2.1 q.2.2.2.2.2.2.1 q.2.2.2.2.2.2.2.1 q.2.2.2.2.2.2.2.2 2 else bif decide (t≥0)then bif pJ.c d p then Lib.lt (pJ.v d p) λxp=>bif uW.c e f h i p then Lib.lt (uW.v e f h i p) λxq=>bif iG.c h i p then Lib.lt (iG.v h i p) λxr=>bif decide (xo<0)then bif cC (q.2.2.2.2.2.2.1.length+(aL (aN [Ck.s,Ck.s,Ck.i ao,Ck.i ao,Ck.i ao] 1) 0 [.s p, .s ⟨#[]⟩, .i .i64 1, .i .i64 0, .i .i64 0]).length) 56 then bif decide ((j.length:aw)<((q.2.2.2.2.2.2.1++aL (aN [Ck.s,Ck.s,Ck.i ao,Ck.i ao,Ck.i ao] 1) 0 [.s p, .s ⟨#[]⟩, .i .i64 1, .i .i64 0, .i .i64 0]).length:aw))then bif ji.c q.1 xp xq.1 xq.2.1 xr.1 xr.2 (q.2.2.2.2.2.2.1++aL (aN [Ck.s,Ck.s,Ck.i ao,Ck.i ao,Ck.i ao] 1) 0 [.s p, .s ⟨#[]⟩, .i .i64 1, .i .i64 0, .i .i64 0]) q.2.2.2.2.2.2.2.1 q.2.2.2.2.2.2.2.2 o p (br ((j.length:aw)+1)) 0 1 (bz (ar (q.2.2.2.2.2.2.1++aL (aN [Ck.s,Ck.s,Ck.i ao,Ck.i ao,Ck.i ao] 1) 0 [.s p, .s ⟨#[]⟩, .i .i64 1, .i .i64 0, .i .i64 0]) (j.length:aw).toNat 1)) 0 then Lib.lt (ji.v q.1 xp xq.1 xq.2.1 xr.1 xr.2 (q.2.2.2.2.2.2.1++aL (aN [Ck.s,Ck.s,Ck.i ao,Ck.i ao,Ck.i ao] 1) 0 [.s p, .s ⟨#[]⟩, .i .i64 1, .i .i64 0, .i .i64 0]) q.2.2.2.2.2.2.2.1 q.2.2.2.2.2.2.2.2 o p (br ((j.length:aw)+1)) 0 1 (bz (ar (q.2.2.2.2.2.2.1++aL (aN [Ck.s,Ck.s,Ck.i ao,Ck.i ao,Ck.i ao] 1) 0 [.s p, .s ⟨#[]⟩, .i .i64 1, .i .i64 0, .i .i64 0]) (j.length:aw).toNat 1)) 0) λxs=>kr xs.1 xs.2.1 xs.2.2.1 xs.2.2.2.1 xs.2.2.2.2.1 xs.2.2.2.2.2.1 xs.2.2.2.2.2.2.1 xs.2.2.2.2.2.2.2.1 xs.2.2.2.2.2.2.2.2 0 else aj else aj else aj else bif decide (0<=xo)&&decide (xo<(q.2.2.2.2.2.2.1.length:aw))then bif ji.c q.1 xp xq.1 xq.2.1 xr.1 xr.2 q.2.2.2.2.2.2.1 q.2.2.2.2.2.2.2.1 q.2.2.2.2.2.2.2.2 o p (br (xo+1)) 0 1 (bz (ar q.2.2.2.2.2.2.1 xo.toNat 1)) 0 then Lib.lt (ji.v q.1 xp xq.1 xq.2.1 xr.1 xr.2 q.2.2.2.2.2.2.1 q.2.2.2.2.2.2.2.1 q.2.2.2.2.2.2.2.2 o p (br (xo+1)) 0 1 (bz (ar q.2.2.2.2.2.2.1 xo.toNat 1)) 0) λxt=>kr xt.1 xt.2.1 xt.2.2.1 xt.2.2.2.1 xt.2.2.2.2.1 xt.2.2.2.2.2.1 xt.2.2.2.2.2.2.1 xt.2.2.2.2.2.2.2.1 xt.2.2.2.2.2.2.2.2 0 else aj else aj else aj else aj else aj else bif iG.c h i p then Lib.lt (iG.v h i p) λxu=>bif decide (xo<0)then bif cC (q.2.2.2.2.2.2.1.length+(aL (aN [Ck.s,Ck.s,Ck.i ao,Ck.i ao,Ck.i ao] 1) 0 [.s p, .s ⟨#[]⟩, .i .i64 1, .i .i64 0, .i .i64 0]).length) 56 then bif decide ((j.length:aw)<((q.2.2.2.2.2.2.1++aL (aN [Ck.s,Ck.s,Ck.i ao,Ck.i ao,Ck.i ao] 1) 0 [.s p, .s ⟨#[]⟩, .i .i64 1, .i .i64 0, .i .i64 0]).length:aw))then bif ji.c q.1 q.2.1 q.2.2.1 q.2.2.2.1 xu.1 xu.2 (q.2.2.2.2.2.2.1++aL (aN [Ck.s,Ck.s,Ck.i ao,Ck.i ao,Ck.i ao] 1) 0 [.s p, .s ⟨#[]⟩, .i .i64 1, .i .i64 0, .i .i64 0]) q.2.2.2.2.2.2.2.1 q.2.2.2.2.2.2.2.2 o p (br ((j.length:aw)+1)) 0 1 (bz (ar (q.2.2.2.2.2.2.1++aL (aN [Ck.s,Ck.s,Ck.i ao,Ck.i ao,Ck.i ao] 1) 0 [.s p, .s ⟨#[]⟩, .i .i64 1, .i .i64 0, .i .i64 0]) (j.length:aw).toNat 1)) 0 then Lib.lt (ji.v q.1 q.2.1 q.2.2.1 q.2.2.2.1 xu.1 xu.2 (q.2.2.2.2.2.2.1++aL (aN [Ck.s,Ck.s,Ck.i ao,Ck.i ao,Ck.i ao] 1) 0 [.s p, .s ⟨#[]⟩, .i .i64 1, .i .i64 0, .i .i64 0]) q.2.2.2.2.2.2.2.1 q.2.2.2.2.2.2.2.2 o p (br ((j.length:aw)+1)) 0 1 (bz (ar (q.2.2.2.2.2.2.1++aL (aN [Ck.s,Ck.s,Ck.i ao,Ck.i ao,Ck.i ao] 1) 0 [.s p, .s ⟨#[]⟩, .i .i64 1, .i .i64 0, .i .i64 0]) (j.length:aw).toNat 1)) 0) λxv=>kr xv.1 xv.2.1 xv.2.2.1 xv.2.2.2.1 xv.2.2.2.2.1 xv.2.2.2.2.2.1 xv.2.2.2.2.2.2.1 xv.2.2.2.2.2.2.2.1 xv.2.2.2.2.2.2.2.2 0 else aj else aj else aj else bif decide (0<=xo)&&decide (xo<(q.2.2.2.2.2.2.1.length:aw))then bif ji.c q.1 q.2.1 q.2.2.1 q.2.2.2.1 xu.1 xu.2 q.2.2.2.2.2.2.1 q.2.2.2.2.2.2.2.1 q.2.2.2.2.2.2.2.2 o p (br (xo+1)) 0 1 (bz (ar q.2.2.2.2.2.2.1 xo.toNat 1)) 0 then Lib.lt (ji.v q.1 q.2.1 q.2.2.1 q.2.2.2.1 xu.1 xu.2 q.2.2.2.2.2.2.1 q.2.2.2.2.2.2.2.1 q.2.2.2.2.2.2.2.2 o p (br (xo+1)) 0 1 (bz (ar q.2.2.2.2.2.2.1 xo.toNat 1)) 0) λxw=>kr xw.1 xw.2.1 xw.2.2.1 xw.2.2.2.1 xw.2.2.2.2.1 xw.2.2.2.2.2.1 xw.2.2.2.2.2.2.1 xw.2.2.2.2.2.2.2.1 xw.2.2.2.2.2.2.2.2 0 else aj else aj else aj else bif decide (t≥0)then bif pJ.c d p then Lib.lt (pJ.v d p) λxx=>bif uW.c e f h i p then Lib.lt (uW.v e f h i p) λxy=>bif iG.c h i p then Lib.lt (iG.v h i p) λxz=>bif decide (xo<0)then bif cC (q.2.2.2.2.2.2.1.length+(aL (aN [Ck.s,Ck.s,Ck.i ao,Ck.i ao,Ck.i ao] 1) 0 [.s p, .s ⟨#[]⟩, .i .i64 1, .i .i64 0, .i .i64 0]).length) 56 then bif decide ((j.length:aw)<((q.2.2.2.2.2.2.1++aL (aN [Ck.s,Ck.s,Ck.i ao,Ck.i ao,Ck.i ao] 1) 0 [.s p, .s ⟨#[]⟩, .i .i64 1, .i .i64 0, .i .i64 0]).length:aw))then bif ji.c q.1 xx xy.1 xy.2.1 xz.1 xz.2 (q.2.2.2.2.2.2.1++aL (aN [Ck.s,Ck.s,Ck.i ao,Ck.i ao,Ck.i ao] 1) 0 [.s p, .s ⟨#[]⟩, .i .i64 1, .i .i64 0, .i .i64 0]) q.2.2.2.2.2.2.2.1 q.2.2.2.2.2.2.2.2 o p (br ((j.length:aw)+1)) 0 1 (bz (ar (q.2.2.2.2.2.2.1++aL (aN [Ck.s,Ck.s,Ck.i ao,Ck.i ao,Ck.i ao] 1) 0 [.s p, .s ⟨#[]⟩, .i .i64 1, .i .i64 0, .i .i64 0]) (j.length:aw).toNat 1)) 0 then Lib.lt (ji.v q.1 xx xy.1 xy.2.1 xz.1 xz.2 (q.2.2.2.2.2.2.1++aL (aN [Ck.s,Ck.s,Ck.i ao,Ck.i ao,Ck.i ao] 1) 0 [.s p, .s ⟨#[]⟩, .i .i64 1, .i .i64 0, .i .i64 0]) q.2.2.2.2.2.2.2.1 q.2.2.2.2.2.2.2.2 o p (br ((j.length:aw)+1)) 0 1 (bz (ar (q.2.2.2.2.2.2.1++aL (aN [Ck.s,Ck.s,Ck.i ao,Ck.i ao,Ck.i ao] 1) 0 [.s p, .s ⟨#[]⟩, .i .i64 1, .i .i64 0, .i .i64 0]) (j.length:aw).toNat 1)) 0) λya=>kr ya.1 ya.2.1 ya.2.2.1 ya.2.2.2.1 ya.2.2.2.2.1 ya.2.2.2.2.2.1 ya.2.2.2.2.2.2.1 ya.2.2.2.2.2.2.2.1 ya.2.2.2.2.2.2.2.2 0 else aj else aj else aj else bif decide (0<=xo)&&decide (xo<(q.2.2.2.2.2.2.1.length:aw))then bif ji.c q.1 xx xy.1 xy.2.1 xz.1 xz.2 q.2.2.2.2.2.2.1 q.2.2.2.2.2.2.2.1 q.2.2.2.2.2.2.2.2 o p (br (xo+1)) 0 1 (bz (ar q.2.2.2.2.2.2.1 xo.toNat 1)) 0 then Lib.lt (ji.v q.1 xx xy.1 xy.2.1 xz.1 xz.2 q.2.2.2.2.2.2.1 q.2.2.2.2.2.2.2.1 q.2.2.2.2.2.2.2.2 o p (br (xo+1)) 0 1 (bz (ar q.2.2.2.2.2.2.1 xo.toNat 1)) 0) λyb=>kr yb.1 yb.2.1 yb.2.2.1 yb.2.2.2.1 yb.2.2.2.2.1 yb.2.2.2.2.2.1 yb.2.2.2.2.2.2.1 yb.2.2.2.2.2.2.2.1 yb.2.2.2.2.2.2.2.2 0 else aj else aj else aj else aj else aj else bif iG.c h i p then Lib.lt (iG.v h i p) λyc=>bif decide (xo<0)then bif cC (q.2.2.2.2.2.2.1.length+(aL (aN [Ck.s,Ck.s,Ck.i ao,Ck.i ao,Ck.i ao] 1) 0 [.s p, .s ⟨#[]⟩, .i .i64 1, .i .i64 0, .i .i64 0]).length) 56 then bif decide ((j.length:aw)<((q.2.2.2.2.2.2.1++aL (aN [Ck.s,Ck.s,Ck.i ao,Ck.i ao,Ck.i ao] 1) 0 [.s p, .s ⟨#[]⟩, .i .i64 1, .i .i64 0, .i .i64 0]).length:aw))then bif ji.c q.1 q.2.1 q.2.2.1 q.2.2.2.1 yc.1 yc.2 (q.2.2.2.2.2.2.1++aL (aN [Ck.s,Ck.s,Ck.i ao,Ck.i ao,Ck.i ao] 1) 0 [.s p, .s ⟨#[]⟩, .i .i64 1, .i .i64 0, .i .i64 0]) q.2.2.2.2.2.2.2.1 q.2.2.2.2.2.2.2.2 o p (br ((j.length:aw)+1)) 0 1 (bz (ar (q.2.2.2.2.2.2.1++aL (aN [Ck.s,Ck.s,Ck.i ao,Ck.i ao,Ck.i ao] 1) 0 [.s p, .s ⟨#[]⟩, .i .i64 1, .i .i64 0, .i .i64 0]) (j.length:aw).toNat 1)) 0 then Lib.lt (ji.v q.1 q.2.1 q.2.2.1 q.2.2.2.1 yc.1 yc.2 (q.2.2.2.2.2.2.1++aL (aN [Ck.s,Ck.s,Ck.i ao,Ck.i ao,Ck.i ao] 1) 0 [.s p, .s ⟨#[]⟩, .i .i64 1, .i .i64 0, .i .i64 0]) q.2.2.2.2.2.2.2.1 q.2.2.2.2.2.2.2.2 o p (br ((j.length:aw)+1)) 0 1 (bz (ar (q.2.2.2.2.2.2.1++aL (aN [Ck.s,Ck.s,Ck.i ao,Ck.i ao,Ck.i ao] 1) 0 [.s p, .s ⟨#[]⟩, .i .i64 1, .i .i64 0, .i .i64 0]) (j.length:aw).toNat 1)) 0) λyd=>kr yd.1 yd.2.1 yd.2.2.1 yd.2.2.2.1 yd.2.2.2.2.1 yd.2.2.2.2.2.1 yd.2.2.2.2.2.2.1 yd.2.2.2.2.2.2.2.1 yd.2.2.2.2.2.2.2.2 0 else aj else aj else aj else bif decide (0<=xo)&&decide (xo<(q.2.2.2.2.2.2.1.length:aw))then bif ji.c q.1 q.2.1 q.2.2.1 q.2.2.2.1 yc.1 yc.2 q.2.2.2.2.2.2.1 q.2.2.2.2.2.2.2.1 q.2.2.2.2.2.2.2.2 o p (br (xo+1)) 0 1 (bz (ar q.2.2.2.2.2.2.1 xo.toNat 1)) 0 then Lib.lt (ji.v q.1 q.2.1 q.2.2.1 q.2.2.2.1 yc.1 yc.2 q.2.2.2.2.2.2.1 q.2.2.2.2.2.2.2.1 q.2.2.2.2.2.2.2.2 o p (br (xo+1)) 0 1 (bz (ar q.2.2.2.2.2.2.1 xo.toNat 1)) 0) λye=>kr ye.1 ye.2.1 ye.2.2.1 ye.2.2.2.1 ye.2.2.2.2.1 ye.2.2.2.2.2.1 ye.2.2.2.2.2.2.1 ye.2.2.2.2.2.2.2.1 ye.2.2.2.2.2.2.2.2 0 else aj else aj else aj else aj else aj else aj else aj else aj
def vo:=b λr0 r1 r2 r3 r4 r5 r6 r7 r8 r9=>ah (r0,r1,r2,r3,r4,r5,r6,r7,r8,r9)
def c:=λa d e f h i j l m o p=>(vo a d e f h i j l m o p).isSome
def v:=λa d e f h i j l m o p=>(vo a d e f h i j l m o p).getD (0,[],[],[],[],0,[],[],0,0)
theorem out{x}:∀a d e f h i j l m o p,vo a d e f h i j l m o p=ah x->c a d e f h i j l m o p=ai/\v a d e f h i j l m o p=x:=λ_ _ _ _ _ _ _ _ _ _ _=>Lib.cY
end TC

namespace uX
def b(kr:aY->ay R)(a:aw)(d e f h:aQ)(i:aw)(j l:aQ)(m o:aw):ay R:=bif Qb.c a d e f h i j l m then bif Qb.v a d e f h i j l m then kr (lj.v o 0 (br ((j.length:aw)-1)))else kr ak else aj
def vo:=b λr0=>ah r0
def c:=λa d e f h i j l m o=>(vo a d e f h i j l m o).isSome
def v:=λa d e f h i j l m o=>(vo a d e f h i j l m o).getD ak
theorem out{x}:∀a d e f h i j l m o,vo a d e f h i j l m o=ah x->c a d e f h i j l m o=ai/\v a d e f h i j l m o=x:=λ_ _ _ _ _ _ _ _ _ _=>Lib.cY
end uX

namespace LG
def b(kr:Nt R)(a:aw)(d:aq)(e:aQ):ay R:=bif cC ((aN [Ck.i ao,Ck.i ao] 0).length+e.length) 16 then kr a d (aN [Ck.i ao,Ck.i ao] 0++e)else aj
def v(gb:aw)(eW:aq)(dD:aQ):aw×aq×aQ:=(gb,eW,dD)
def c(gb:aw)(eW:aq)(dD:aQ):aY:=decide (dD.length<=4294967296)
theorem dP(kr:Nt R)(gb:aw)(eW:aq)(dD:aQ)(hc:c gb eW dD=ai):b kr gb eW dD=kr (v gb eW dD).1 (v gb eW dD).2.1 (v gb eW dD).2.2:=by have h:dD.length<=4294967296:=cF hc;unfold b;rw[show bK (aN [Ck.i ao,Ck.i ao] 0)+dD.length=dD.length by simp[aN],Lib.cm (by omega) (by omega)];rfl
end LG

namespace Jw
def r2(N:aC)(g k0 k1:zE R)(a:aY)(d:aQ)(e f h:aw)(i:aq)(j:aQ):ay R:=bif decide (f<e)then bif decide (0<=f)&&decide (f<(d.length:aw))then bif !lj.v (bF (ar d f.toNat 0)) 1 9 then k0 ak d e f h i j else bif !lj.v (bF (ar d f.toNat 1)) 0 (i.size:aw)then k0 ak d e f h i j else bif decide (f>0)then bif decide (0<=br (f-1))&&decide (br (f-1)<(j.length:aw))then bif decide (bF (ar j (br (f-1)).toNat 0)≥bF (ar d f.toNat 0))then k0 ak d e f h i j else g a d e (br (f+1)) h i j else aj else g a d e (br (f+1)) h i j else aj else k1 a d e f h i j
def l2(N:aC)(k0 k1:zE R):aC->zE R
 |0=>λ_ _ _ _ _ _ _=>aj
 |n+1=>r2 N (l2 N k0 k1 n) k0 k1
def b(N:aC)(kr:aY->ay R)(a:aw)(d:aq)(e:aQ):ay R:=l2 N (λf _ _ _ _ _ _=>kr f) (λ_ _ _ _ h i j=>bif lj.v h 1 3 then bif decide ((i.size:aw)<=400)then kr (decide ((j.length:aw)<=6))else kr ak else kr ak) N ak e (e.length:aw) 0 a d e
def v(gb:aw)(eW:aq)(dD:aQ):aY:=(ch dD.length).all (lC.el eW dD)&&lC.rest gb eW dD
theorem dP(kr:aY->ay R)(gb:aw)(eW:aq)(dD:aQ)(f0:CD eW)(f1:ng dD):∃N,b N kr gb eW dD=kr (v gb eW dD):=by
 refine⟨dD.length+1, ?_⟩
 unfold b;have ew:lj.v=kq.v:=rfl;simp only[ew,lC.Pj]
 have:=Lib.dB (λn (i:aC)=>l2 (dD.length+1) (λy7 y8 y9 Lf wJ Nn I4=>kr y7) (λXU XV RO EC GN Fu wK=>kr (lC.rest GN Fu wK)) n ak dD dD.length i gb eW dD) (λi=>dD.length-i) (λi=>i<=dD.length)
  (λi=>kr ((iw i (dD.length-i)).all (lC.el eW dD)&&lC.rest gb eW dD)) (λn i hi=>by
  simp only[l2,r2,ew,Lib.de,Lib.cz,Lib.dU,bm,lC.mT]
  by_cases h:i<dD.length
  ·rw[lC.JC _ h];simp only[h,aM,au,Lib.c5 h f1.1];cases h1:decide (1<=bF (ar dD i 0)/\bF (ar dD i 0)<=9)with
   |false=>left;simp[lC.el,h1]
   |true=>
    simp only[aX,ax];cases h3:decide (0<=bF (ar dD i 1)/\bF (ar dD i 1)<=eW.size)with
    |false=>left;simp[lC.el,h3]
    |true=>
     simp only[aX,ax];by_cases hz:0<i
     ·have e0:decide ((i:aw)>0)=true:=by simp;omega
      have hp:i-1<dD.length:=by omega
      have hi0:(i==0)=false:=by simp;omega
      simp only[e0,au,lC.Ek hz (by have:=f1.1;omega),Lib.cz,Lib.de,Lib.dU,hp,aM,aJ];cases h2:decide (bF (ar dD (i-1) 0)≥bF (ar dD i 0))with
      |true=>
       left;have e3:decide (bF (ar dD (i-1) 0)<bF (ar dD i 0))=false:=by simp at h2⊢;omega
       simp[lC.el,e3,hi0]
      |false=>
       have e3:decide (bF (ar dD (i-1) 0)<bF (ar dD i 0))=true:=by simp at h2⊢;omega
       right;exact⟨i+1,h,by omega,by simp only[lC.el,h1,h3,e3,Lm,bm],rfl⟩
     ·have hz:i=0:=by omega
      subst hz;simp only[show decide (((0:aC):aw)>0)=ak from rfl,ax];right;exact⟨1,h,by omega,by simp only[lC.el,h1,h3,bm];rfl,rfl⟩
  ·left;have h0:dD.length-i=0:=by omega
   simp only[h,a_,ax,h0,Yf,List.all_nil,bm]) (dD.length+1) 0 (by omega) (by omega)
 refine this.trans ?_;unfold v;rw[oN,<-zO]
end Jw

namespace EO
def b(kr:GV R)(a:aw)(d:aq)(e:aQ)(f:aq):ay R:=bif LG.c a d e then bif !Jw.v a d e then kr a d e ak else bif a !=1 then kr a d e ak else bif !lj.v (f.size:aw) 1 40 then kr a d e ak else bif decide (br ((d.size:aw)+(f.size:aw))>400)then kr a d e ak else bif decide (d.size+f.size<=4611686018427387904)then kr a (d++f) e ai else aj else aj
def v(gb:aw)(eW:aq)(dD:aQ)(gv:aq):aw×aq×aQ×aY:=
 if lC.v gb eW dD=ai/\gb=1/\1<=gv.size/\gv.size<=40/\eW.size+gv.size<=400 then(gb,eW++gv,dD,ai)else(gb,eW,dD,ak)
def c(gb:aw)(eW:aq)(dD:aQ)(gv:aq):aY:=decide (dD.length<=4294967296)
theorem dP(kr:GV R)(gb:aw)(eW:aq)(dD:aQ)(gv:aq)(hc:c gb eW dD gv=ai)(f0:CD eW)(f1:ng dD)(f2:CD gv):b kr gb eW dD gv=kr (v gb eW dD gv).1 (v gb eW dD gv).2.1 (v gb eW dD gv).2.2.1 (v gb eW dD gv).2.2.2:=by
 have hs1:eW.size<=4611686018427387904:=f0;have OP:gv.size<=4611686018427387904:=f2;have e1:LG.c gb eW dD=true:=hc;have e2:∀a b c,Jw.v a b c=lC.v a b c:=λ_ _ _=>rfl;have e3:∀n a b,lj.v n a b=decide (a<=n/\n<=b):=lC.mT;unfold b v;rw[e1,e2,e3,au];cases h1:lC.v gb eW dD with
 |false=>simp
 |true=>
  by_cases h2:gb=1
  ·by_cases h3:1<=(gv.size:aw)/\(gv.size:aw)<=40
   ·have e4:br ((eW.size:aw)+(gv.size:aw))=eW.size+gv.size:=ir (by omega) (by omega);rw[e4,aE h3];by_cases h4:(eW.size:aw)+(gv.size:aw)>400
    ·rw[Lib.Bn h4,bH (by omega)];simp[h2]
    ·rw[Lib.JU h4,bB (by refine⟨rfl,h2, ?_, ?_, ?_⟩<;>omega),Lib.Bn (show eW.size+gv.size<=4611686018427387904 by omega)];simp[h2]
   ·rw[aG h3,bH (by omega)];simp
  ·have iy:(gb !=1)=true:=bne_iff_ne.mpr h2;rw[bH (by simp[h2]),iy];rfl
end EO

namespace BQ
def r1(N:aC)(g k0:jB R)(a d e f h i:aw)(j l m o p q:aQ):ay R:=bif decide (e<d)then bif decide (0<=e)&&decide (e<(j.length:aw))then bif decide (bF (ar j e.toNat (1+1))=br (a+1))then bif decide (bF (ar j e.toNat (1+1+1+1))=1)then bif decide (0<=a)&&decide (a<(q.length:aw))then bif decide (0<=e)&&decide (e<(j.length:aw))then g a d (br (e+1)) f h i (cK j e.toNat 5 [.s (bz (ar q a.toNat 1))]) l m o p q else aj else aj else g a d (br (e+1)) f h i j l m o p q else g a d (br (e+1)) f h i j l m o p q else aj else k0 a d e f h i j l m o p q
def l1(N:aC)(k0:jB R):aC->jB R
 |0=>λ_ _ _ _ _ _ _ _ _ _ _ _=>aj
 |n+1=>r1 N (l1 N k0 n) k0
def b(N:aC)(kr:eP R)(a:aw)(d e f h:aQ)(i:aw)(j l:aQ)(m o:aw):ay R:=l1 N (λ_ _ _ p q r s t u w y z=>kr p t u w y q z s r) N o (l.length:aw) 0 a i m l d e f h j
def vo:=b Lib.cy λr0 r1 r2 r3 r4 r5 r6 r7 r8=>ah (r0,r1,r2,r3,r4,r5,r6,r7,r8)
def c:=λa d e f h i j l m o=>(vo a d e f h i j l m o).isSome
def v:=λa d e f h i j l m o=>(vo a d e f h i j l m o).getD (0,[],[],[],[],0,[],[],0)
theorem out{x}:∀a d e f h i j l m o,vo a d e f h i j l m o=ah x->c a d e f h i j l m o=ai/\v a d e f h i j l m o=x:=λ_ _ _ _ _ _ _ _ _ _=>Lib.cY
end BQ

namespace XD
def b(kr:kP R)(a:aw)(d e f h:aQ)(i:aw)(j l:aQ)(m o:aw)(p:aq):ay R:=bif iM.c a d e f h i j l m then Lib.lt (iM.v a d e f h i j l m) λq=>bif uX.c a d e f h i j l m o then Lib.lt (uX.v a d e f h i j l m o) λr=>bif !r then kr q.1 q.2.1 q.2.2.1 q.2.2.2.1 q.2.2.2.2.1 q.2.2.2.2.2.1 q.2.2.2.2.2.2.1 q.2.2.2.2.2.2.2.1 q.2.2.2.2.2.2.2.2 ak else bif decide (0<=o)&&decide (o<(j.length:aw))then bif decide (0<=o)&&decide (o<(j.length:aw))then bif !(EO.v (bF (ar j o.toNat 2)) (bz (ar j o.toNat 1)) [] p).2.2.2 then kr q.1 q.2.1 q.2.2.1 q.2.2.2.1 q.2.2.2.2.1 q.2.2.2.2.2.1 q.2.2.2.2.2.2.1 q.2.2.2.2.2.2.2.1 q.2.2.2.2.2.2.2.2 ak else bif decide (0<=o)&&decide (o<(q.2.2.2.2.2.2.1.length:aw))then bif BQ.c q.1 q.2.1 q.2.2.1 q.2.2.2.1 q.2.2.2.2.1 q.2.2.2.2.2.1 (cK q.2.2.2.2.2.2.1 o.toNat 1 [.s (EO.v (bF (ar j o.toNat 2)) (bz (ar j o.toNat 1)) [] p).2.1]) q.2.2.2.2.2.2.2.1 q.2.2.2.2.2.2.2.2 o then Lib.lt (BQ.v q.1 q.2.1 q.2.2.1 q.2.2.2.1 q.2.2.2.2.1 q.2.2.2.2.2.1 (cK q.2.2.2.2.2.2.1 o.toNat 1 [.s (EO.v (bF (ar j o.toNat 2)) (bz (ar j o.toNat 1)) [] p).2.1]) q.2.2.2.2.2.2.2.1 q.2.2.2.2.2.2.2.2 o) λs=>kr s.1 s.2.1 s.2.2.1 s.2.2.2.1 s.2.2.2.2.1 s.2.2.2.2.2.1 s.2.2.2.2.2.2.1 s.2.2.2.2.2.2.2.1 s.2.2.2.2.2.2.2.2 ai else aj else aj else aj else aj else aj else aj
def vo:=b λr0 r1 r2 r3 r4 r5 r6 r7 r8 r9=>ah (r0,r1,r2,r3,r4,r5,r6,r7,r8,r9)
def c:=λa d e f h i j l m o p=>(vo a d e f h i j l m o p).isSome
def v:=λa d e f h i j l m o p=>(vo a d e f h i j l m o p).getD (0,[],[],[],[],0,[],[],0,ak)
theorem out{x}:∀a d e f h i j l m o p,vo a d e f h i j l m o p=ah x->c a d e f h i j l m o p=ai/\v a d e f h i j l m o p=x:=λ_ _ _ _ _ _ _ _ _ _ _=>Lib.cY
end XD

namespace vV
def r1(N:aC)(g k0:nW R)(a d e f h i j:aw)(l m o p q r:aQ):ay R:=bif decide (f<e)then bif decide (0<=f)&&decide (f<(l.length:aw))then bif decide (bF (ar l f.toNat (1+1))=br (a+1))then bif decide (bF (ar l f.toNat (1+1+1+1))=1)then bif decide (0<=a)&&decide (a<(r.length:aw))then bif decide (0<=f)&&decide (f<(l.length:aw))then bif decide (0<=f)&&decide (f<((cK l f.toNat 4 [.i .i64 d]).length:aw))then g a d e (br (f+1)) h i j (cK (cK l f.toNat 4 [.i .i64 d]) f.toNat 5 [.s (bz (ar r a.toNat 1))]) m o p q r else aj else aj else aj else g a d e (br (f+1)) h i j l m o p q r else g a d e (br (f+1)) h i j l m o p q r else aj else k0 a d e f h i j l m o p q r
def l1(N:aC)(k0:nW R):aC->nW R
 |0=>λ_ _ _ _ _ _ _ _ _ _ _ _ _=>aj
 |n+1=>r1 N (l1 N k0 n) k0
def b(N:aC)(kr:eP R)(a:aw)(d e f h:aQ)(i:aw)(j l:aQ)(m o p:aw):ay R:=l1 N (λ_ _ _ _ q r s t u w y z α=>kr q u w y z r α t s) N o p (l.length:aw) 0 a i m l d e f h j
def vo:=b Lib.cy λr0 r1 r2 r3 r4 r5 r6 r7 r8=>ah (r0,r1,r2,r3,r4,r5,r6,r7,r8)
def c:=λa d e f h i j l m o p=>(vo a d e f h i j l m o p).isSome
def v:=λa d e f h i j l m o p=>(vo a d e f h i j l m o p).getD (0,[],[],[],[],0,[],[],0)
theorem out{x}:∀a d e f h i j l m o p,vo a d e f h i j l m o p=ah x->c a d e f h i j l m o p=ai/\v a d e f h i j l m o p=x:=λ_ _ _ _ _ _ _ _ _ _ _=>Lib.cY
end vV


namespace uV
def r3(N:aC)(g k0:CR R)(a:aw)(d:aq)(e f:aw)(h:aq)(i:aQ):ay R:=bif decide (a<(i.length:aw))then bif decide (0<=a)&&decide (a<(i.length:aw))then bif b9 (bz (ar i a.toNat 0)).toList (aA d)then g (br (a+1)) d e f h i else k0 a d e f h i else aj else k0 a d e f h i
def l3(N:aC)(k0:CR R):aC->CR R
 |0=>λ_ _ _ _ _ _=>aj
 |n+1=>r3 N (l3 N k0 n) k0
def b(N:aC)(kr:aQ->ay R)(a:aQ)(d:aq)(e f:aw)(h:aq):ay R:=bif pJ.c a d then l3 N (λi j l m o p=>bif decide (0<=i)&&decide (i<=(p.length:aw))&&cC (p.length+(aL (aN [Ck.s,Ck.i ao,Ck.i ao,Ck.s] 1) 0 [.s j, .i .i64 l, .i .i64 m, .s o]).length) 48 then kr (Pu.tD p i.toNat (aL (aN [Ck.s,Ck.i ao,Ck.i ao,Ck.s] 1) 0 [.s j, .i .i64 l, .i .i64 m, .s o]))else aj) N 0 d e f h (pJ.v a d)else aj
def vo:=b Lib.cy λr0=>ah r0
def c:=λa d e f h=>(vo a d e f h).isSome
def v:=λa d e f h=>(vo a d e f h).getD ([])
theorem out{x}:∀a d e f h,vo a d e f h=ah x->c a d e f h=ai/\v a d e f h=x:=λ_ _ _ _ _=>Lib.cY
end uV

namespace Qe
def b(kr:eP R)(a:aw)(d e f h:aQ)(i:aw)(j l:aQ)(m:aw)(o:aq)(p q:aw)(r:aq):ay R:=bif Az.c e f h i o then Lib.lt (Az.v e f h i o) λs=>bif pJ.c d s.2.2.2.2 then Lib.lt (pJ.v d s.2.2.2.2) λt=>bif sE.c s.1 s.2.1 s.2.2.1 s.2.2.2.1 o then Lib.lt (sE.v s.1 s.2.1 s.2.2.1 s.2.2.2.1 o) λu=>bif u then bif uV.c t o p q r then Lib.lt (uV.v t o p q r) λw=>kr a w s.1 s.2.1 s.2.2.1 s.2.2.2.1 j l m else aj else kr a t s.1 s.2.1 s.2.2.1 s.2.2.2.1 j l m else aj else aj else aj
def vo:=b λr0 r1 r2 r3 r4 r5 r6 r7 r8=>ah (r0,r1,r2,r3,r4,r5,r6,r7,r8)
def c:=λa d e f h i j l m o p q r=>(vo a d e f h i j l m o p q r).isSome
def v:=λa d e f h i j l m o p q r=>(vo a d e f h i j l m o p q r).getD (0,[],[],[],[],0,[],[],0)
theorem out{x}:∀a d e f h i j l m o p q r,vo a d e f h i j l m o p q r=ah x->c a d e f h i j l m o p q r=ai/\v a d e f h i j l m o p q r=x:=λ_ _ _ _ _ _ _ _ _ _ _ _ _=>Lib.cY
end Qe

namespace EP
def b(kr:kP R)(a:aw)(d e f h:aQ)(i:aw)(j l:aQ)(m o p:aw):ay R:=bif iM.c a d e f h i j l m then Lib.lt (iM.v a d e f h i j l m) λq=>bif uX.c a d e f h i j l m o then Lib.lt (uX.v a d e f h i j l m o) λr=>bif !r then kr q.1 q.2.1 q.2.2.1 q.2.2.2.1 q.2.2.2.2.1 q.2.2.2.2.2.1 q.2.2.2.2.2.2.1 q.2.2.2.2.2.2.2.1 q.2.2.2.2.2.2.2.2 ak else bif decide (0<=o)&&decide (o<(j.length:aw))then bif bF (ar j o.toNat 2) !=1 then kr q.1 q.2.1 q.2.2.1 q.2.2.2.1 q.2.2.2.2.1 q.2.2.2.2.2.1 q.2.2.2.2.2.2.1 q.2.2.2.2.2.2.2.1 q.2.2.2.2.2.2.2.2 ak else bif !lj.v p 0 999999 then kr q.1 q.2.1 q.2.2.1 q.2.2.2.1 q.2.2.2.2.1 q.2.2.2.2.2.1 q.2.2.2.2.2.2.1 q.2.2.2.2.2.2.2.1 q.2.2.2.2.2.2.2.2 ak else bif decide (0<=o)&&decide (o<(q.2.2.2.2.2.2.1.length:aw))then bif vV.c q.1 q.2.1 q.2.2.1 q.2.2.2.1 q.2.2.2.2.1 q.2.2.2.2.2.1 (cK (cK (cK q.2.2.2.2.2.2.1 o.toNat 2 [.i .i64 2]) o.toNat 3 [.i .i64 p]) o.toNat 4 [.i .i64 a]) q.2.2.2.2.2.2.2.1 q.2.2.2.2.2.2.2.2 o 2 then Lib.lt (vV.v q.1 q.2.1 q.2.2.1 q.2.2.2.1 q.2.2.2.2.1 q.2.2.2.2.2.1 (cK (cK (cK q.2.2.2.2.2.2.1 o.toNat 2 [.i .i64 2]) o.toNat 3 [.i .i64 p]) o.toNat 4 [.i .i64 a]) q.2.2.2.2.2.2.2.1 q.2.2.2.2.2.2.2.2 o 2) λs=>bif decide (p>0)then bif Qe.c s.1 s.2.1 s.2.2.1 s.2.2.2.1 s.2.2.2.2.1 s.2.2.2.2.2.1 s.2.2.2.2.2.2.1 s.2.2.2.2.2.2.2.1 s.2.2.2.2.2.2.2.2 (bz (ar s.2.2.2.2.2.2.1 o.toNat 0)) a p (bz (ar s.2.2.2.2.2.2.1 o.toNat 1))then Lib.lt (Qe.v s.1 s.2.1 s.2.2.1 s.2.2.2.1 s.2.2.2.2.1 s.2.2.2.2.2.1 s.2.2.2.2.2.2.1 s.2.2.2.2.2.2.2.1 s.2.2.2.2.2.2.2.2 (bz (ar s.2.2.2.2.2.2.1 o.toNat 0)) a p (bz (ar s.2.2.2.2.2.2.1 o.toNat 1))) λt=>kr t.1 t.2.1 t.2.2.1 t.2.2.2.1 t.2.2.2.2.1 t.2.2.2.2.2.1 t.2.2.2.2.2.2.1 t.2.2.2.2.2.2.2.1 t.2.2.2.2.2.2.2.2 ai else aj else kr s.1 s.2.1 s.2.2.1 s.2.2.2.1 s.2.2.2.2.1 s.2.2.2.2.2.1 s.2.2.2.2.2.2.1 s.2.2.2.2.2.2.2.1 s.2.2.2.2.2.2.2.2 ai else aj else aj else aj else aj else aj
def vo:=b λr0 r1 r2 r3 r4 r5 r6 r7 r8 r9=>ah (r0,r1,r2,r3,r4,r5,r6,r7,r8,r9)
def c:=λa d e f h i j l m o p=>(vo a d e f h i j l m o p).isSome
def v:=λa d e f h i j l m o p=>(vo a d e f h i j l m o p).getD (0,[],[],[],[],0,[],[],0,ak)
theorem out{x}:∀a d e f h i j l m o p,vo a d e f h i j l m o p=ah x->c a d e f h i j l m o p=ai/\v a d e f h i j l m o p=x:=λ_ _ _ _ _ _ _ _ _ _ _=>Lib.cY
end EP

namespace nO
def r4(N:aC)(g k0:uO R)(a:aw)(d:aQ):ay R:=bif decide (a>127)then bif cC (d.length+(aL (aN [Ck.i ba] 1) 0 [CV.i ba (bE ba (br (cT a 128+128)))]).length) 1 then g (br (c7 a 128)) (d++aL (aN [Ck.i ba] 1) 0 [CV.i ba (bE ba (br (cT a 128+128)))])else aj else k0 a d
def l4(N:aC)(k0:uO R):aC->uO R
 |0=>λ_ _=>aj
 |n+1=>r4 N (l4 N k0 n) k0
def b(N:aC)(kr:zI R)(a:aw):ay R:=bif !lj.v a 0 1000000000 then kr ⟨#[]⟩ ak else l4 N (λd e=>bif cC (e.length+(aL (aN [Ck.i ba] 1) 0 [CV.i ba (bE ba d)]).length) 1 then bif decide ((e++aL (aN [Ck.i ba] 1) 0 [CV.i ba (bE ba d)]).length<=4611686018427387904)then kr (bytesOf (e++aL (aN [Ck.i ba] 1) 0 [CV.i ba (bE ba d)])) ai else aj else aj) N a (aN [Ck.i ba] 0)
def v(n0:aw):aq×aY:=if 0<=n0/\n0<=1000000000 then(bytesOf (Lib.vb n0),ai)else(⟨#[]⟩,ak)
theorem dP(kr:zI R)(n0:aw):∃N,b N kr n0=kr (v n0).1 (v n0).2:=by
 refine⟨n0.toNat+1, ?_⟩
 unfold b v;by_cases hn:0<=n0/\n0<=1000000000
 ·have e:lj.v n0 0 1000000000=true:=by simp[lj.v,hn]
  rw[e,bB hn];refine Lib.PM (λn x acc=>l4 (n0.toNat+1) _ n x acc) (λy=>kr y ai) (λn x acc h hl=> ?_) (λn x acc h hl=> ?_) n0 (by omega)
  ·simp only[l4,r4,h,aM,au,Lib.iU,show acc.length+bK [[CV.i ba (bE ba (br (cT x 128+128)))]]=acc.length+1 from rfl,Lib.IJ (show acc.length+1<=140737488355328 by omega),show decide ((128:aw)=0)=ak from rfl,wM,bS]
  ·simp only[l4,r4,h,a_,ax,Lib.iU,show acc.length+bK [[CV.i ba (bE ba x)]]=acc.length+1 from rfl,Lib.IJ (show acc.length+1<=140737488355328 by omega),au];exact Lib.qC (Lib.Bn (by rw[cf,bC];omega))
 ·have e:lj.v n0 0 1000000000=false:=by simp[lj.v];omega
  rw[e,bH hn];rfl
end nO

namespace EZ
def b(kr:zI R)(a:aq):ay R:=bif decide ((a.size:aw)>20000)then kr ⟨#[]⟩ ak else bif decide ((nO.v (a.size:aw)).1.size+a.size<=4611686018427387904)then kr ((nO.v (a.size:aw)).1++a) ai else aj
def v(s0:aq):aq×aY:=if s0.size>20000 then(⟨#[]⟩,ak)else(bytesOf (Lib.vb s0.size)++s0,ai)
theorem dP(kr:zI R)(s0:aq):b kr s0=kr (v s0).1 (v s0).2:=by
 unfold b v;by_cases h:s0.size>20000
 ·rw[bB h,show decide ((s0.size:aw)>20000)=ai by simp;omega];rfl
 ·rw[bH h,show decide ((s0.size:aw)>20000)=ak by simp;omega];have e:nO.v (s0.size:aw)=(bytesOf (Lib.vb s0.size),ai):=by unfold nO.v;rw[bB (by omega)]
  have:=Lib.jL (x:=(s0.size:aw)) (by omega);rw[e,ax];simp(disch:=omega) only[Lib.LZ,au]
end EZ

namespace EY
def b(kr:zI R)(a:aq)(d e:aw)(f:aq):ay R:=bif !wX.v a d e f then kr ⟨#[]⟩ ak else bif decide ((EZ.v a).1.size+(nO.v d).1.size<=4611686018427387904)then bif decide (((EZ.v a).1++(nO.v d).1).size+(nO.v e).1.size<=4611686018427387904)then bif decide (((EZ.v a).1++(nO.v d).1++(nO.v e).1).size+f.size<=4611686018427387904)then kr ((EZ.v a).1++(nO.v d).1++(nO.v e).1++f) ai else aj else aj else aj
def v(oE:aq)(pe:aw)(pf:aw)(vd:aq):aq×aY:=jF.v oE pe pf vd
theorem dP(kr:zI R)(oE:aq)(pe:aw)(pf:aw)(vd:aq):b kr oE pe pf vd=kr (v oE pe pf vd).1 (v oE pe pf vd).2:=by
 have ee:wX.v oE pe pf vd=nq.v oE pe pf vd:=rfl;unfold b v jF.v;rw[ee];cases h:nq.v oE pe pf vd with
 |false=>rfl
 |true=>
  have hr:=nq.KL h;have z1:(bytesOf (Lib.vb (oE.size:aw))).size<=64:=Lib.jL (x:=(oE.size:aw)) (by omega);have z2:(bytesOf (Lib.vb pe)).size<=64:=Lib.jL (x:=pe) (by omega);have z3:(bytesOf (Lib.vb pf)).size<=64:=Lib.jL (x:=pf) (by omega);have e1:EZ.v oE=(bytesOf (Lib.vb oE.size)++oE,ai):=by unfold EZ.v;rw[bH (by omega)]
  have e2:nO.v pe=(bytesOf (Lib.vb pe),ai):=by unfold nO.v;rw[bB (by omega)]
  have e3:nO.v pf=(bytesOf (Lib.vb pf),ai):=by unfold nO.v;rw[bB (by omega)]
  rw[e1,e2,e3];simp(disch:=omega) only[aX,ax,au,if_true,Lib.jK,Lib.LZ];rfl
end EY

namespace u0
def b(kr:aq->ay R)(a:aq):ay R:=bif u9.c a then kr (bytesOf (aL (aL (aL (aL (aN [Ck.i ba] 4) 0 [CV.i ba (bE ba (pP (u9.v a) (ja 2 (if bc 24<=32 then bc 24 else 32))))]) 1 [CV.i ba (bE ba (pP (u9.v a) (ja 2 (if bc 16<=32 then bc 16 else 32))))]) 2 [CV.i ba (bE ba (pP (u9.v a) (ja 2 (if bc 8<=32 then bc 8 else 32))))]) 3 [CV.i ba (bE ba (u9.v a))]))else aj
def vo:=b λr0=>ah r0
def c:=λa=>(vo a).isSome
def v:=λa=>(vo a).getD (⟨#[]⟩)
theorem out{x}:∀a,vo a=ah x->c a=ai/\v a=x:=λ_=>Lib.cY
end u0

namespace C4
def b(kr:zI R)(a:aq):ay R:=bif !lj.v (a.size:aw) 1 9000 then kr ⟨#[]⟩ ak else bif u0.c a then bif decide ((nO.v (a.size:aw)).1.size+(u0.v a).size<=4611686018427387904)then bif decide (((nO.v (a.size:aw)).1++u0.v a).size+a.size<=4611686018427387904)then kr ((nO.v (a.size:aw)).1++u0.v a++a) ai else aj else aj else aj
def vo:=b λr0 r1=>ah (r0,r1)
def c:=λa=>(vo a).isSome
def v:=λa=>(vo a).getD (⟨#[]⟩,ak)
theorem out{x}:∀a,vo a=ah x->c a=ai/\v a=x:=λ_=>Lib.cY
end C4

namespace mM
def b(kr:zI R)(a:aq)(d e:aw)(f:aq):ay R:=bif !(EY.v a d e f).2 then kr ⟨#[]⟩ ak else bif C4.c (EY.v a d e f).1 then kr (C4.v (EY.v a d e f).1).1 (C4.v (EY.v a d e f).1).2 else aj
def vo:=b λr0 r1=>ah (r0,r1)
def c:=λa d e f=>(vo a d e f).isSome
def v:=λa d e f=>(vo a d e f).getD (⟨#[]⟩,ak)
theorem out{x}:∀a d e f,vo a d e f=ah x->c a d e f=ai/\v a d e f=x:=λ_ _ _ _=>Lib.cY
end mM

namespace uY
def b(kr:Jl R)(a:aq)(d e:aw)(f:aq):ay R:=bif mM.c a d e f then bif !(mM.v a d e f).2 then kr [] ak else kr (aL (aL (aN [Ck.i ao,Ck.s,Ck.s,Ck.s] 2) 0 [.i .i64 1, .s {data:= #[aP 107,aP 101,aP 112,aP 116]}, .s (mM.v a d e f).1, .s ⟨#[]⟩]) 1 [.i .i64 2, .s {data:= #[aP 107,aP 101,aP 112,aP 116]}, .s ⟨#[]⟩, .s ⟨#[]⟩]) ai else aj
def vo:=b λr0 r1=>ah (r0,r1)
def c:=λa d e f=>(vo a d e f).isSome
def v:=λa d e f=>(vo a d e f).getD ([],ak)
theorem out{x}:∀a d e f,vo a d e f=ah x->c a d e f=ai/\v a d e f=x:=λ_ _ _ _=>Lib.cY
end uY

namespace s9
def b(kr:aQ->ay R)(a:aQ):ay R:=bif cC ((aN [Ck.s,Ck.s,Ck.i ao] 0).length+a.length) 40 then kr (aN [Ck.s,Ck.s,Ck.i ao] 0++a)else aj
def vo:=b λr0=>ah r0
def c:=λa=>(vo a).isSome
def v:=λa=>(vo a).getD ([])
theorem out{x}:∀a,vo a=ah x->c a=ai/\v a=x:=λ_=>Lib.cY
end s9

namespace LH
def b(kr:aY->ay R)(a d:aq)(e:aw)(kK:aq):ay R:=kr (cW (aA a) (aA kK))
def v(a0 a1:aq)(a2:aw)(kK:aq):aY:=(cW (aA a0) (aA kK))
theorem dP(kr:aY->ay R)(a0 a1:aq)(a2:aw)(kK:aq):b kr a0 a1 a2 kK=kr (v a0 a1 a2 kK):=by first|rfl|(unfold b v;simp only[ca];(repeat' split)<;>rfl)
end LH

namespace sj
def r2(N:aC)(g k0 k1:hZ R)(a:aQ)(d:aq)(e f h:aw):ay R:=bif decide (h<f)then bif decide (0<=h)&&decide (h<(a.length:aw))then bif LH.v (bz (ar a h.toNat 0)) (bz (ar a h.toNat 1)) (bF (ar a h.toNat (1+1))) d then k0 a d h f h else g a d e f (br (h+1))else aj else k1 a d e f h
def l2(N:aC)(k0 k1:hZ R):aC->hZ R
 |0=>λ_ _ _ _ _=>aj
 |n+1=>r2 N (l2 N k0 k1 n) k0 k1
def b(N:aC)(kr:aw->ay R)(a:aQ)(kK:aq):ay R:=l2 N (λ_ _ d _ _=>kr d) (λ_ _ _ _ _=>kr (-1)) N a kK 0 (a.length:aw) 0
def vo:=b Lib.cy λr0=>ah r0
def c:=λa d=>(vo a d).isSome
def v:=λa d=>(vo a d).getD (0)
theorem out{x}:∀a d,vo a d=ah x->c a d=ai/\v a d=x:=λ_ _=>Lib.cY
end sj

namespace B0
def b(kr:aY->ay R)(a d:aq)(e:aw)(kK:aq):ay R:=kr (cW (aA a) (aA kK))
def v(a0 a1:aq)(a2:aw)(kK:aq):aY:=(cW (aA a0) (aA kK))
theorem dP(kr:aY->ay R)(a0 a1:aq)(a2:aw)(kK:aq):b kr a0 a1 a2 kK=kr (v a0 a1 a2 kK):=by first|rfl|(unfold b v;simp only[ca];(repeat' split)<;>rfl)
end B0

namespace nc
def r2(N:aC)(g k0 k1:hZ R)(a:aQ)(d:aq)(e f h:aw):ay R:=bif decide (h<f)then bif decide (0<=h)&&decide (h<(a.length:aw))then bif B0.v (bz (ar a h.toNat 0)) (bz (ar a h.toNat 1)) (bF (ar a h.toNat (1+1))) d then k0 a d h f h else g a d e f (br (h+1))else aj else k1 a d e f h
def l2(N:aC)(k0 k1:hZ R):aC->hZ R
 |0=>λ_ _ _ _ _=>aj
 |n+1=>r2 N (l2 N k0 k1 n) k0 k1
def b(N:aC)(kr:aw->ay R)(a:aQ)(kK:aq):ay R:=l2 N (λ_ _ d _ _=>kr d) (λ_ _ _ _ _=>kr (-1)) N a kK 0 (a.length:aw) 0
def vo:=b Lib.cy λr0=>ah r0
def c:=λa d=>(vo a d).isSome
def v:=λa d=>(vo a d).getD (0)
theorem out{x}:∀a d,vo a d=ah x->c a d=ai/\v a d=x:=λ_ _=>Lib.cY
end nc

namespace eF
def b(kr:aw->ay R)(a:aQ)(d:aq):ay R:=bif sj.c a d then kr (sj.v a d)else aj
def vo:=b λr0=>ah r0
def c:=λa d=>(vo a d).isSome
def v:=λa d=>(vo a d).getD (0)
theorem out{x}:∀a d,vo a d=ah x->c a d=ai/\v a d=x:=λ_ _=>Lib.cY
end eF

namespace ia
def r2(N:aC)(g k0 k1:GS R)(a:aY)(d:aQ)(e f:aw)(h:aQ):ay R:=bif decide (f<e)then bif decide (0<=f)&&decide (f<(d.length:aw))then bif !lj.v ((bz (ar d f.toNat 0)).size:aw) 1 8 then k0 ak d e f h else bif decide (((bz (ar d f.toNat 1)).size:aw)>20000)then k0 ak d e f h else bif !lj.v (bF (ar d f.toNat (1+1))) 0 ((bz (ar d f.toNat 1)).size:aw)then k0 ak d e f h else bif decide (f>0)then bif decide (0<=br (f-1))&&decide (br (f-1)<(h.length:aw))then bif !Op.bytesLess (bz (ar h (br (f-1)).toNat 0)).toList (bz (ar d f.toNat 0)).toList then k0 ak d e f h else g a d e (br (f+1)) h else aj else g a d e (br (f+1)) h else aj else k1 a d e f h
def l2(N:aC)(k0 k1:GS R):aC->GS R
 |0=>λ_ _ _ _ _=>aj
 |n+1=>r2 N (l2 N k0 k1 n) k0 k1
def b(N:aC)(kr:aY->ay R)(a:aQ):ay R:=l2 N (λd _ _ _ _=>kr d) (λ_ _ _ _ e=>kr (decide ((e.length:aw)<=30))) N ak a (a.length:aw) 0 a
def vo:=b Lib.cy λr0=>ah r0
def c:=λa=>(vo a).isSome
def v:=λa=>(vo a).getD ak
theorem out{x}:∀a,vo a=ah x->c a=ai/\v a=x:=λ_=>Lib.cY
end ia

namespace LI
def b(kr:aY->ay R)(a:aw)(d e f:aq):ay R:=bif lj.v a 1 4 then bif cW (aA e) (aA ⟨#[]⟩)then bif cW (aA f) (aA ⟨#[]⟩)then kr ai else kr (decide (a=3))else bif decide (a=1)then bif cW (aA f) (aA ⟨#[]⟩)then kr ai else kr (decide (a=3))else kr ak else kr ak
def v(a0:aw)(a1 a2 a3:aq):aY:=bif lj.v a0 1 4 then bif cW (aA a2) (aA {data:= #[]})then bif cW (aA a3) (aA {data:= #[]})then ai else decide (a0=3)else bif decide (a0=1)then bif cW (aA a3) (aA {data:= #[]})then ai else decide (a0=3)else ak else ak
theorem dP(kr:aY->ay R)(a0:aw)(a1 a2 a3:aq):b kr a0 a1 a2 a3=kr (v a0 a1 a2 a3):=by first|rfl|(unfold b v;simp only[ca];(repeat' split)<;>rfl)
end LI

namespace xD
def r5(N:aC)(g k0:me R)(a:aq)(d e:aw)(f:aQ):ay R:=bif decide (e<(f.length:aw))then bif decide (0<=e)&&decide (e<(f.length:aw))then bif !B0.v (bz (ar f e.toNat 0)) (bz (ar f e.toNat 1)) (bF (ar f e.toNat (1+1))) a then bif decide (0<=d)&&decide (d<(f.length:aw))then g a (br (d+1)) (br (e+1)) (cK f d.toNat 0 [.s (bz (ar f e.toNat 0)), .s (bz (ar f e.toNat 1)), .i .i64 (bF (ar f e.toNat (1+1)))])else aj else g a d (br (e+1)) f else aj else k0 a d e f
def l5(N:aC)(k0:me R):aC->me R
 |0=>λ_ _ _ _=>aj
 |n+1=>r5 N (l5 N k0 n) k0
def b(N:aC)(kr:aQ->ay R)(a:aQ)(kK:aq):ay R:=bif nc.c a kK then bif decide (nc.v a kK=Lt 1)then kr a else l5 N (λ_ d _ e=>bif iA d (e.length:aw) (e.length:aw)then bif iA 0 d ((gY d.toNat e++aN [Ck.s,Ck.s,Ck.i ao] ((e.length:aw).toNat-d.toNat)++m9 (e.length:aw).toNat e).length:aw)then kr (e8 (gY d.toNat e++aN [Ck.s,Ck.s,Ck.i ao] ((e.length:aw).toNat-d.toNat)++m9 (e.length:aw).toNat e) (bc 0) d.toNat)else aj else aj) N kK (nc.v a kK) (br (nc.v a kK+1)) a else aj
def vo:=b Lib.cy λr0=>ah r0
def c:=λa d=>(vo a d).isSome
def v:=λa d=>(vo a d).getD ([])
theorem out{x}:∀a d,vo a d=ah x->c a d=ai/\v a d=x:=λ_ _=>Lib.cY
end xD

namespace iR
def b(kr:aQ->ay R)(a:aQ)(d:aq):ay R:=bif s9.c a then bif xD.c (s9.v a) d then kr (xD.v (s9.v a) d)else aj else aj
def vo:=b λr0=>ah r0
def c:=λa d=>(vo a d).isSome
def v:=λa d=>(vo a d).getD ([])
theorem out{x}:∀a d,vo a d=ah x->c a d=ai/\v a d=x:=λ_ _=>Lib.cY
end iR


namespace gO
def r3(N:aC)(g k0:GW R)(a:aw)(d e:aq)(f:aw)(h:aQ):ay R:=bif decide (a<(h.length:aw))then bif decide (0<=a)&&decide (a<(h.length:aw))then bif b9 (bz (ar h a.toNat 0)).toList (aA d)then g (br (a+1)) d e f h else k0 a d e f h else aj else k0 a d e f h
def l3(N:aC)(k0:GW R):aC->GW R
 |0=>λ_ _ _ _ _=>aj
 |n+1=>r3 N (l3 N k0 n) k0
def b(N:aC)(kr:aQ->ay R)(a:aQ)(d e:aq)(f:aw):ay R:=bif iR.c a d then l3 N (λh i j l m=>bif decide (0<=h)&&decide (h<=(m.length:aw))&&cC (m.length+(aL (aN [Ck.s,Ck.s,Ck.i ao] 1) 0 [.s i, .s j, .i .i64 l]).length) 40 then kr (Pu.tD m h.toNat (aL (aN [Ck.s,Ck.s,Ck.i ao] 1) 0 [.s i, .s j, .i .i64 l]))else aj) N 0 d e f (iR.v a d)else aj
def vo:=b Lib.cy λr0=>ah r0
def c:=λa d e f=>(vo a d e f).isSome
def v:=λa d e f=>(vo a d e f).getD ([])
theorem out{x}:∀a d e f,vo a d e f=ah x->c a d e f=ai/\v a d e f=x:=λ_ _ _ _=>Lib.cY
end gO

namespace rE
def b(kr:Jl R)(a:aQ)(d:aw)(e f h:aq):ay R:=bif eF.c a e then bif ia.c a then bif !ia.v a then kr [] ak else bif !LI.v d e f h then kr [] ak else bif decide (eF.v a e<0)then bif d !=1 then kr [] ak else bif decide (eF.v a e≥0)then bif decide (0<=eF.v a e)&&decide (eF.v a e<(a.length:aw))then bif decide (d=1)then bif decide ((bz (ar a (eF.v a e).toNat 1)).size+f.size<=4611686018427387904)then bif gO.c a (bz (ar a (eF.v a e).toNat 0)) (bz (ar a (eF.v a e).toNat 1)++f) (bF (ar a (eF.v a e).toNat (1+1)))then bif ia.c (gO.v a (bz (ar a (eF.v a e).toNat 0)) (bz (ar a (eF.v a e).toNat 1)++f) (bF (ar a (eF.v a e).toNat (1+1))))then bif !ia.v (gO.v a (bz (ar a (eF.v a e).toNat 0)) (bz (ar a (eF.v a e).toNat 1)++f) (bF (ar a (eF.v a e).toNat (1+1))))then kr [] ak else kr (gO.v a (bz (ar a (eF.v a e).toNat 0)) (bz (ar a (eF.v a e).toNat 1)++f) (bF (ar a (eF.v a e).toNat (1+1)))) ai else aj else aj else aj else bif decide (d=2)then bif gO.c a (bz (ar a (eF.v a e).toNat 0)) (bz (ar a (eF.v a e).toNat 1)) ((bz (ar a (eF.v a e).toNat 1)).size:aw)then bif ia.c (gO.v a (bz (ar a (eF.v a e).toNat 0)) (bz (ar a (eF.v a e).toNat 1)) ((bz (ar a (eF.v a e).toNat 1)).size:aw))then bif !ia.v (gO.v a (bz (ar a (eF.v a e).toNat 0)) (bz (ar a (eF.v a e).toNat 1)) ((bz (ar a (eF.v a e).toNat 1)).size:aw))then kr [] ak else kr (gO.v a (bz (ar a (eF.v a e).toNat 0)) (bz (ar a (eF.v a e).toNat 1)) ((bz (ar a (eF.v a e).toNat 1)).size:aw)) ai else aj else aj else bif decide (d=3)then bif bF (ar a (eF.v a e).toNat (1+1)) !=((bz (ar a (eF.v a e).toNat 1)).size:aw)then kr [] ak else bif cW (aA h) (aA e)then kr [] ak else bif iR.c a e then bif gO.c (iR.v a e) h (bz (ar a (eF.v a e).toNat 1)) (bF (ar a (eF.v a e).toNat (1+1)))then bif ia.c (gO.v (iR.v a e) h (bz (ar a (eF.v a e).toNat 1)) (bF (ar a (eF.v a e).toNat (1+1))))then bif !ia.v (gO.v (iR.v a e) h (bz (ar a (eF.v a e).toNat 1)) (bF (ar a (eF.v a e).toNat (1+1))))then kr [] ak else kr (gO.v (iR.v a e) h (bz (ar a (eF.v a e).toNat 1)) (bF (ar a (eF.v a e).toNat (1+1)))) ai else aj else aj else aj else bif iR.c a e then bif ia.c (iR.v a e)then bif !ia.v (iR.v a e)then kr [] ak else kr (iR.v a e) ai else aj else aj else aj else bif decide (d=1)then bif decide (b8 ⟨#[]⟩+f.size<=4611686018427387904)then bif gO.c a e ({data:= #[]}++f) 0 then bif ia.c (gO.v a e ({data:= #[]}++f) 0)then bif !ia.v (gO.v a e ({data:= #[]}++f) 0)then kr [] ak else kr (gO.v a e ({data:= #[]}++f) 0) ai else aj else aj else aj else bif decide (d=2)then bif gO.c a e ⟨#[]⟩ (b8 ⟨#[]⟩:aw)then bif ia.c (gO.v a e ⟨#[]⟩ (b8 ⟨#[]⟩:aw))then bif !ia.v (gO.v a e ⟨#[]⟩ (b8 ⟨#[]⟩:aw))then kr [] ak else kr (gO.v a e ⟨#[]⟩ (b8 ⟨#[]⟩:aw)) ai else aj else aj else bif decide (d=3)then bif cW (aA h) (aA e)then kr [] ak else bif iR.c a e then bif gO.c (iR.v a e) h ⟨#[]⟩ 0 then bif ia.c (gO.v (iR.v a e) h ⟨#[]⟩ 0)then bif !ia.v (gO.v (iR.v a e) h ⟨#[]⟩ 0)then kr [] ak else kr (gO.v (iR.v a e) h ⟨#[]⟩ 0) ai else aj else aj else aj else bif iR.c a e then bif ia.c (iR.v a e)then bif !ia.v (iR.v a e)then kr [] ak else kr (iR.v a e) ai else aj else aj else bif decide (eF.v a e≥0)then bif decide (0<=eF.v a e)&&decide (eF.v a e<(a.length:aw))then bif decide (d=1)then bif decide ((bz (ar a (eF.v a e).toNat 1)).size+f.size<=4611686018427387904)then bif gO.c a (bz (ar a (eF.v a e).toNat 0)) (bz (ar a (eF.v a e).toNat 1)++f) (bF (ar a (eF.v a e).toNat (1+1)))then bif ia.c (gO.v a (bz (ar a (eF.v a e).toNat 0)) (bz (ar a (eF.v a e).toNat 1)++f) (bF (ar a (eF.v a e).toNat (1+1))))then bif !ia.v (gO.v a (bz (ar a (eF.v a e).toNat 0)) (bz (ar a (eF.v a e).toNat 1)++f) (bF (ar a (eF.v a e).toNat (1+1))))then kr [] ak else kr (gO.v a (bz (ar a (eF.v a e).toNat 0)) (bz (ar a (eF.v a e).toNat 1)++f) (bF (ar a (eF.v a e).toNat (1+1)))) ai else aj else aj else aj else bif decide (d=2)then bif gO.c a (bz (ar a (eF.v a e).toNat 0)) (bz (ar a (eF.v a e).toNat 1)) ((bz (ar a (eF.v a e).toNat 1)).size:aw)then bif ia.c (gO.v a (bz (ar a (eF.v a e).toNat 0)) (bz (ar a (eF.v a e).toNat 1)) ((bz (ar a (eF.v a e).toNat 1)).size:aw))then bif !ia.v (gO.v a (bz (ar a (eF.v a e).toNat 0)) (bz (ar a (eF.v a e).toNat 1)) ((bz (ar a (eF.v a e).toNat 1)).size:aw))then kr [] ak else kr (gO.v a (bz (ar a (eF.v a e).toNat 0)) (bz (ar a (eF.v a e).toNat 1)) ((bz (ar a (eF.v a e).toNat 1)).size:aw)) ai else aj else aj else bif decide (d=3)then bif bF (ar a (eF.v a e).toNat (1+1)) !=((bz (ar a (eF.v a e).toNat 1)).size:aw)then kr [] ak else bif cW (aA h) (aA e)then kr [] ak else bif iR.c a e then bif gO.c (iR.v a e) h (bz (ar a (eF.v a e).toNat 1)) (bF (ar a (eF.v a e).toNat (1+1)))then bif ia.c (gO.v (iR.v a e) h (bz (ar a (eF.v a e).toNat 1)) (bF (ar a (eF.v a e).toNat (1+1))))then bif !ia.v (gO.v (iR.v a e) h (bz (ar a (eF.v a e).toNat 1)) (bF (ar a (eF.v a e).toNat (1+1))))then kr [] ak else kr (gO.v (iR.v a e) h (bz (ar a (eF.v a e).toNat 1)) (bF (ar a (eF.v a e).toNat (1+1)))) ai else aj else aj else aj else bif iR.c a e then bif ia.c (iR.v a e)then bif !ia.v (iR.v a e)then kr [] ak else kr (iR.v a e) ai else aj else aj else aj else bif decide (d=1)then bif decide (b8 ⟨#[]⟩+f.size<=4611686018427387904)then bif gO.c a e ({data:= #[]}++f) 0 then bif ia.c (gO.v a e ({data:= #[]}++f) 0)then bif !ia.v (gO.v a e ({data:= #[]}++f) 0)then kr [] ak else kr (gO.v a e ({data:= #[]}++f) 0) ai else aj else aj else aj else bif decide (d=2)then bif gO.c a e ⟨#[]⟩ (b8 ⟨#[]⟩:aw)then bif ia.c (gO.v a e ⟨#[]⟩ (b8 ⟨#[]⟩:aw))then bif !ia.v (gO.v a e ⟨#[]⟩ (b8 ⟨#[]⟩:aw))then kr [] ak else kr (gO.v a e ⟨#[]⟩ (b8 ⟨#[]⟩:aw)) ai else aj else aj else bif decide (d=3)then bif cW (aA h) (aA e)then kr [] ak else bif iR.c a e then bif gO.c (iR.v a e) h ⟨#[]⟩ 0 then bif ia.c (gO.v (iR.v a e) h ⟨#[]⟩ 0)then bif !ia.v (gO.v (iR.v a e) h ⟨#[]⟩ 0)then kr [] ak else kr (gO.v (iR.v a e) h ⟨#[]⟩ 0) ai else aj else aj else aj else bif iR.c a e then bif ia.c (iR.v a e)then bif !ia.v (iR.v a e)then kr [] ak else kr (iR.v a e) ai else aj else aj else aj else aj
def vo:=b λr0 r1=>ah (r0,r1)
def c:=λa d e f h=>(vo a d e f h).isSome
def v:=λa d e f h=>(vo a d e f h).getD ([],ak)
theorem out{x}:∀a d e f h,vo a d e f h=ah x->c a d e f h=ai/\v a d e f h=x:=λ_ _ _ _ _=>Lib.cY
end rE

namespace vU
def r3(N:aC)(g k0 k1:CT R)(a:aQ)(d:aw)(e:aQ)(f h:aw)(i:aQ):ay R:=bif decide (h<f)then bif decide (0<=h)&&decide (h<(e.length:aw))then bif rE.c i (bF (ar e h.toNat 0)) (bz (ar e h.toNat 1)) (bz (ar e h.toNat (1+1))) (bz (ar e h.toNat (1+1+1)))then bif !(rE.v i (bF (ar e h.toNat 0)) (bz (ar e h.toNat 1)) (bz (ar e h.toNat (1+1))) (bz (ar e h.toNat (1+1+1)))).2 then k0 a h e f h i else g a d e f (br (h+1)) (rE.v i (bF (ar e h.toNat 0)) (bz (ar e h.toNat 1)) (bz (ar e h.toNat (1+1))) (bz (ar e h.toNat (1+1+1)))).1 else aj else aj else k1 a d e f h i
def l3(N:aC)(k0 k1:CT R):aC->CT R
 |0=>λ_ _ _ _ _ _=>aj
 |n+1=>r3 N (l3 N k0 k1 n) k0 k1
def b(N:aC)(kr:EG R)(a d:aQ):ay R:=bif s9.c a then l3 N (λ_ e _ _ _ f=>kr f e) (λh _ _ _ _ i=>kr i (h.length:aw)) N d 0 d (d.length:aw) 0 (s9.v a)else aj
def vo:=b Lib.cy λr0 r1=>ah (r0,r1)
def c:=λa d=>(vo a d).isSome
def v:=λa d=>(vo a d).getD ([],0)
theorem out{x}:∀a d,vo a d=ah x->c a d=ai/\v a d=x:=λ_ _=>Lib.cY
end vU

namespace XE
def b(kr:BG R)(a:aw)(d e f h:aQ)(i:aw)(j l:aQ)(m:aw)(o p q:aQ)(r s:aw):ay R:=bif EP.c a d e f h i j l m r s then Lib.lt (EP.v a d e f h i j l m r s) λt=>bif !t.2.2.2.2.2.2.2.2.2 then kr t.2.2.2.2.2.2.2.2.2 t.1 t.2.1 t.2.2.1 t.2.2.2.1 t.2.2.2.2.1 t.2.2.2.2.2.1 t.2.2.2.2.2.2.1 t.2.2.2.2.2.2.2.1 t.2.2.2.2.2.2.2.2.1 o p q else bif decide (s=0)then kr t.2.2.2.2.2.2.2.2.2 t.1 t.2.1 t.2.2.1 t.2.2.2.1 t.2.2.2.2.1 t.2.2.2.2.2.1 t.2.2.2.2.2.2.1 t.2.2.2.2.2.2.2.1 t.2.2.2.2.2.2.2.2.1 o p q else bif decide (0<=r)&&decide (r<(t.2.2.2.2.2.2.1.length:aw))then bif sE.c t.2.2.1 t.2.2.2.1 t.2.2.2.2.1 t.2.2.2.2.2.1 (bz (ar t.2.2.2.2.2.2.1 r.toNat 0))then Lib.lt (sE.v t.2.2.1 t.2.2.2.1 t.2.2.2.2.1 t.2.2.2.2.2.1 (bz (ar t.2.2.2.2.2.2.1 r.toNat 0))) λu=>bif u then bif cC (q.length+(aL (aN [Ck.s,Ck.i ao,Ck.i ao,Ck.s] 1) 0 [.s (bz (ar t.2.2.2.2.2.2.1 r.toNat 0)), .i .i64 (bF (ar t.2.2.2.2.2.2.1 r.toNat (1+1+1+1))), .i .i64 (bF (ar t.2.2.2.2.2.2.1 r.toNat (1+1+1))), .s (bz (ar t.2.2.2.2.2.2.1 r.toNat 1))]).length) 48 then bif uY.c (bz (ar t.2.2.2.2.2.2.1 r.toNat 0)) (bF (ar t.2.2.2.2.2.2.1 r.toNat (1+1+1+1))) (bF (ar t.2.2.2.2.2.2.1 r.toNat (1+1+1))) (bz (ar t.2.2.2.2.2.2.1 r.toNat 1))then Lib.lt (uY.v (bz (ar t.2.2.2.2.2.2.1 r.toNat 0)) (bF (ar t.2.2.2.2.2.2.1 r.toNat (1+1+1+1))) (bF (ar t.2.2.2.2.2.2.1 r.toNat (1+1+1))) (bz (ar t.2.2.2.2.2.2.1 r.toNat 1))) λw=>bif vU.c o w.1 then Lib.lt (vU.v o w.1) λy=>kr ai t.1 t.2.1 t.2.2.1 t.2.2.2.1 t.2.2.2.2.1 t.2.2.2.2.2.1 t.2.2.2.2.2.2.1 t.2.2.2.2.2.2.2.1 t.2.2.2.2.2.2.2.2.1 y.1 p (q++aL (aN [Ck.s,Ck.i ao,Ck.i ao,Ck.s] 1) 0 [.s (bz (ar t.2.2.2.2.2.2.1 r.toNat 0)), .i .i64 (bF (ar t.2.2.2.2.2.2.1 r.toNat (1+1+1+1))), .i .i64 (bF (ar t.2.2.2.2.2.2.1 r.toNat (1+1+1))), .s (bz (ar t.2.2.2.2.2.2.1 r.toNat 1))])else aj else aj else aj else kr ai t.1 t.2.1 t.2.2.1 t.2.2.2.1 t.2.2.2.2.1 t.2.2.2.2.2.1 t.2.2.2.2.2.2.1 t.2.2.2.2.2.2.2.1 t.2.2.2.2.2.2.2.2.1 o p q else aj else aj else aj
def vo:=b λr0 r1 r2 r3 r4 r5 r6 r7 r8 r9 yC tO V9=>ah (r0,r1,r2,r3,r4,r5,r6,r7,r8,r9,yC,tO,V9)
def c:=λa d e f h i j l m o p q r s=>(vo a d e f h i j l m o p q r s).isSome
def v:=λa d e f h i j l m o p q r s=>(vo a d e f h i j l m o p q r s).getD (ak,0,[],[],[],[],0,[],[],0,[],[],[])
theorem out{x}:∀a d e f h i j l m o p q r s,vo a d e f h i j l m o p q r s=ah x->c a d e f h i j l m o p q r s=ai/\v a d e f h i j l m o p q r s=x:=λ_ _ _ _ _ _ _ _ _ _ _ _ _ _=>Lib.cY
end XE

namespace XF
def b(kr:kP R)(a:aw)(d e f h:aQ)(i:aw)(j l:aQ)(m o:aw):ay R:=bif iM.c a d e f h i j l m then Lib.lt (iM.v a d e f h i j l m) λp=>bif uX.c a d e f h i j l m o then Lib.lt (uX.v a d e f h i j l m o) λq=>bif !q then kr p.1 p.2.1 p.2.2.1 p.2.2.2.1 p.2.2.2.2.1 p.2.2.2.2.2.1 p.2.2.2.2.2.2.1 p.2.2.2.2.2.2.2.1 p.2.2.2.2.2.2.2.2 ak else bif decide (0<=o)&&decide (o<(j.length:aw))then bif bF (ar j o.toNat 2) !=1 then kr p.1 p.2.1 p.2.2.1 p.2.2.2.1 p.2.2.2.2.1 p.2.2.2.2.2.1 p.2.2.2.2.2.2.1 p.2.2.2.2.2.2.2.1 p.2.2.2.2.2.2.2.2 ak else bif decide (0<=o)&&decide (o<(p.2.2.2.2.2.2.1.length:aw))then bif vV.c p.1 p.2.1 p.2.2.1 p.2.2.2.1 p.2.2.2.2.1 p.2.2.2.2.2.1 (cK p.2.2.2.2.2.2.1 o.toNat 2 [.i .i64 3]) p.2.2.2.2.2.2.2.1 p.2.2.2.2.2.2.2.2 o 3 then Lib.lt (vV.v p.1 p.2.1 p.2.2.1 p.2.2.2.1 p.2.2.2.2.1 p.2.2.2.2.2.1 (cK p.2.2.2.2.2.2.1 o.toNat 2 [.i .i64 3]) p.2.2.2.2.2.2.2.1 p.2.2.2.2.2.2.2.2 o 3) λr=>kr r.1 r.2.1 r.2.2.1 r.2.2.2.1 r.2.2.2.2.1 r.2.2.2.2.2.1 r.2.2.2.2.2.2.1 r.2.2.2.2.2.2.2.1 r.2.2.2.2.2.2.2.2 ai else aj else aj else aj else aj else aj
def vo:=b λr0 r1 r2 r3 r4 r5 r6 r7 r8 r9=>ah (r0,r1,r2,r3,r4,r5,r6,r7,r8,r9)
def c:=λa d e f h i j l m o=>(vo a d e f h i j l m o).isSome
def v:=λa d e f h i j l m o=>(vo a d e f h i j l m o).getD (0,[],[],[],[],0,[],[],0,ak)
theorem out{x}:∀a d e f h i j l m o,vo a d e f h i j l m o=ah x->c a d e f h i j l m o=ai/\v a d e f h i j l m o=x:=λ_ _ _ _ _ _ _ _ _ _=>Lib.cY
end XF

namespace BR
def b(kr:aw->ay R)(a d:aw):ay R:=bif !decide (d=0)then bif !decide (d=0)then kr (cT (br (cT a d+d)) d)else aj else aj
def vo:=b λr0=>ah r0
def c:=λa d=>(vo a d).isSome
def v:=λa d=>(vo a d).getD (0)
theorem out{x}:∀a d,vo a d=ah x->c a d=ai/\v a d=x:=λ_ _=>Lib.cY
end BR

namespace EK
def b(kr:eP R)(a:aw)(d e f h:aQ)(i:aw)(j l:aQ)(m o:aw):ay R:=bif iM.c a d e f h i j l m then bif decide (a>br (1000000000-BR.v o 1000))then kr 1000000000 (iM.v a d e f h i j l m).2.1 (iM.v a d e f h i j l m).2.2.1 (iM.v a d e f h i j l m).2.2.2.1 (iM.v a d e f h i j l m).2.2.2.2.1 (iM.v a d e f h i j l m).2.2.2.2.2.1 (iM.v a d e f h i j l m).2.2.2.2.2.2.1 (iM.v a d e f h i j l m).2.2.2.2.2.2.2.1 (iM.v a d e f h i j l m).2.2.2.2.2.2.2.2 else kr (br (a+BR.v o 1000)) (iM.v a d e f h i j l m).2.1 (iM.v a d e f h i j l m).2.2.1 (iM.v a d e f h i j l m).2.2.2.1 (iM.v a d e f h i j l m).2.2.2.2.1 (iM.v a d e f h i j l m).2.2.2.2.2.1 (iM.v a d e f h i j l m).2.2.2.2.2.2.1 (iM.v a d e f h i j l m).2.2.2.2.2.2.2.1 (iM.v a d e f h i j l m).2.2.2.2.2.2.2.2 else aj
def vo:=b λr0 r1 r2 r3 r4 r5 r6 r7 r8=>ah (r0,r1,r2,r3,r4,r5,r6,r7,r8)
def c:=λa d e f h i j l m o=>(vo a d e f h i j l m o).isSome
def v:=λa d e f h i j l m o=>(vo a d e f h i j l m o).getD (0,[],[],[],[],0,[],[],0)
theorem out{x}:∀a d e f h i j l m o,vo a d e f h i j l m o=ah x->c a d e f h i j l m o=ai/\v a d e f h i j l m o=x:=λ_ _ _ _ _ _ _ _ _ _=>Lib.cY
end EK

namespace wY
def r5(N:aC)(g k0:jC R)(a d e:aw)(f:aQ):ay R:=bif decide (e<(f.length:aw))then bif decide (0<=e)&&decide (e<(f.length:aw))then bif !BS.v (bF (ar f e.toNat 0)) (bz (ar f e.toNat 1)) (bF (ar f e.toNat (1+1))) (bF (ar f e.toNat (1+1+1))) (bF (ar f e.toNat (1+1+1+1))) (bz (ar f e.toNat (1+1+1+1+1))) (bF (ar f e.toNat (1+1+1+1+1+1))) a then bif decide (0<=d)&&decide (d<(f.length:aw))then g a (br (d+1)) (br (e+1)) (cK f d.toNat 0 [.i .i64 (bF (ar f e.toNat 0)), .s (bz (ar f e.toNat 1)), .i .i64 (bF (ar f e.toNat (1+1))), .i .i64 (bF (ar f e.toNat (1+1+1))), .i .i64 (bF (ar f e.toNat (1+1+1+1))), .s (bz (ar f e.toNat (1+1+1+1+1))), .i .i64 (bF (ar f e.toNat (1+1+1+1+1+1)))])else aj else g a d (br (e+1)) f else aj else k0 a d e f
def l5(N:aC)(k0:jC R):aC->jC R
 |0=>λ_ _ _ _=>aj
 |n+1=>r5 N (l5 N k0 n) k0
def b(N:aC)(kr:aQ->ay R)(a:aQ)(DB:aw):ay R:=bif nb.c a DB then bif decide (nb.v a DB=Lt 1)then kr a else l5 N (λ_ d _ e=>bif iA d (e.length:aw) (e.length:aw)then bif iA 0 d ((gY d.toNat e++aN [Ck.i ao,Ck.s,Ck.i ao,Ck.i ao,Ck.i ao,Ck.s,Ck.i ao] ((e.length:aw).toNat-d.toNat)++m9 (e.length:aw).toNat e).length:aw)then kr (e8 (gY d.toNat e++aN [Ck.i ao,Ck.s,Ck.i ao,Ck.i ao,Ck.i ao,Ck.s,Ck.i ao] ((e.length:aw).toNat-d.toNat)++m9 (e.length:aw).toNat e) (bc 0) d.toNat)else aj else aj) N DB (nb.v a DB) (br (nb.v a DB+1)) a else aj
def vo:=b Lib.cy λr0=>ah r0
def c:=λa d=>(vo a d).isSome
def v:=λa d=>(vo a d).getD ([])
theorem out{x}:∀a d,vo a d=ah x->c a d=ai/\v a d=x:=λ_ _=>Lib.cY
end wY

namespace EL
def b(kr:eP R)(a:aw)(d e f h:aQ)(i:aw)(j l:aQ)(m o:aw):ay R:=bif iM.c a d e f h i j l m then bif wY.c (iM.v a d e f h i j l m).2.2.2.2.2.2.2.1 o then kr (iM.v a d e f h i j l m).1 (iM.v a d e f h i j l m).2.1 (iM.v a d e f h i j l m).2.2.1 (iM.v a d e f h i j l m).2.2.2.1 (iM.v a d e f h i j l m).2.2.2.2.1 (iM.v a d e f h i j l m).2.2.2.2.2.1 (iM.v a d e f h i j l m).2.2.2.2.2.2.1 (wY.v (iM.v a d e f h i j l m).2.2.2.2.2.2.2.1 o) (iM.v a d e f h i j l m).2.2.2.2.2.2.2.2 else aj else aj
def vo:=b λr0 r1 r2 r3 r4 r5 r6 r7 r8=>ah (r0,r1,r2,r3,r4,r5,r6,r7,r8)
def c:=λa d e f h i j l m o=>(vo a d e f h i j l m o).isSome
def v:=λa d e f h i j l m o=>(vo a d e f h i j l m o).getD (0,[],[],[],[],0,[],[],0)
theorem out{x}:∀a d e f h i j l m o,vo a d e f h i j l m o=ah x->c a d e f h i j l m o=ai/\v a d e f h i j l m o=x:=λ_ _ _ _ _ _ _ _ _ _=>Lib.cY
end EL

namespace wZ
def r5(N:aC)(g k0:GY R)(a d:aQ)(e f:aw)(h:aQ):ay R:=bif decide (f<e)then bif decide (0<=f)&&decide (f<(d.length:aw))then bif decide (f<(a.length:aw))then bif decide (0<=f)&&decide (f<(a.length:aw))then bif iA 0 (il ai (bF (ar d f.toNat (1+1))) (il ak (bF (ar a f.toNat 0)) ((bz (ar d f.toNat 1)).size:aw))) ((bz (ar d f.toNat 1)).size:aw)then bif decide (0<=f)&&decide (f<(h.length:aw))then g a d e (br (f+1)) (cK h f.toNat 0 [.s (bz (ar d f.toNat 0)), .s (bP (bz (ar d f.toNat 1)) (bc 0) (il ai (bF (ar d f.toNat (1+1))) (il ak (bF (ar a f.toNat 0)) ((bz (ar d f.toNat 1)).size:aw))).toNat), .i .i64 (il ai (bF (ar d f.toNat (1+1))) (il ak (bF (ar a f.toNat 0)) ((bz (ar d f.toNat 1)).size:aw)))])else aj else aj else aj else bif iA 0 (bF (ar d f.toNat (1+1))) ((bz (ar d f.toNat 1)).size:aw)then bif decide (0<=f)&&decide (f<(h.length:aw))then g a d e (br (f+1)) (cK h f.toNat 0 [.s (bz (ar d f.toNat 0)), .s (bP (bz (ar d f.toNat 1)) (bc 0) (bF (ar d f.toNat (1+1))).toNat), .i .i64 (bF (ar d f.toNat (1+1)))])else aj else aj else aj else k0 a d e f h
def l5(N:aC)(k0:GY R):aC->GY R
 |0=>λ_ _ _ _ _=>aj
 |n+1=>r5 N (l5 N k0 n) k0
def b(N:aC)(kr:Jl R)(a d:aQ):ay R:=bif ia.c a then bif !ia.v a then kr [] ak else bif s9.c a then l5 N (λ_ _ _ _ e=>kr e ai) N d a (a.length:aw) 0 (s9.v a)else aj else aj
def vo:=b Lib.cy λr0 r1=>ah (r0,r1)
def c:=λa d=>(vo a d).isSome
def v:=λa d=>(vo a d).getD ([],ak)
theorem out{x}:∀a d,vo a d=ah x->c a d=ai/\v a d=x:=λ_ _=>Lib.cY
end wZ

namespace uU
def b(kr:zI R)(a:aQ)(d:aq):ay R:=bif eF.c a d then bif decide (eF.v a d<0)then kr ⟨#[]⟩ ak else bif decide (0<=eF.v a d)&&decide (eF.v a d<(a.length:aw))then kr (bz (ar a (eF.v a d).toNat 1)) ai else aj else aj
def vo:=b λr0 r1=>ah (r0,r1)
def c:=λa d=>(vo a d).isSome
def v:=λa d=>(vo a d).getD (⟨#[]⟩,ak)
theorem out{x}:∀a d,vo a d=ah x->c a d=ai/\v a d=x:=λ_ _=>Lib.cY
end uU

namespace gq
def r5(N:aC)(g k0 k1:zJ R)(a:aq)(d e f:aw)(h:aY)(i j:aw):ay R:=bif decide (j<5)then bif decide (br (d+j)<(a.size:aw))then bif decide (0<=br (d+j))&&decide (br (d+j)<(a.size:aw))then bif decide (0<=br (7*j))then bif decide (br (↑(gU a (br (d+j)).toNat):aw)>127)then g a d e f h (br (i+br (cT (br (↑(gU a (br (d+j)).toNat):aw)) 128*ja 2 (if(br (7*j)).toNat<=64 then(br (7*j)).toNat else 64)))) (br (j+1))else bif decide (j>0)then bif decide (br (↑(gU a (br (d+j)).toNat):aw)=0)then k0 a d 0 0 ak (br (i+br (cT (br (↑(gU a (br (d+j)).toNat):aw)) 128*ja 2 (if(br (7*j)).toNat<=64 then(br (7*j)).toNat else 64)))) j else bif decide (br (i+br (cT (br (↑(gU a (br (d+j)).toNat):aw)) 128*ja 2 (if(br (7*j)).toNat<=64 then(br (7*j)).toNat else 64)))>1000000000)then k0 a d 0 0 ak (br (i+br (cT (br (↑(gU a (br (d+j)).toNat):aw)) 128*ja 2 (if(br (7*j)).toNat<=64 then(br (7*j)).toNat else 64)))) j else k0 a d (br (i+br (cT (br (↑(gU a (br (d+j)).toNat):aw)) 128*ja 2 (if(br (7*j)).toNat<=64 then(br (7*j)).toNat else 64)))) (br (br (d+j)+1)) ai (br (i+br (cT (br (↑(gU a (br (d+j)).toNat):aw)) 128*ja 2 (if(br (7*j)).toNat<=64 then(br (7*j)).toNat else 64)))) j else bif decide (br (i+br (cT (br (↑(gU a (br (d+j)).toNat):aw)) 128*ja 2 (if(br (7*j)).toNat<=64 then(br (7*j)).toNat else 64)))>1000000000)then k0 a d 0 0 ak (br (i+br (cT (br (↑(gU a (br (d+j)).toNat):aw)) 128*ja 2 (if(br (7*j)).toNat<=64 then(br (7*j)).toNat else 64)))) j else k0 a d (br (i+br (cT (br (↑(gU a (br (d+j)).toNat):aw)) 128*ja 2 (if(br (7*j)).toNat<=64 then(br (7*j)).toNat else 64)))) (br (br (d+j)+1)) ai (br (i+br (cT (br (↑(gU a (br (d+j)).toNat):aw)) 128*ja 2 (if(br (7*j)).toNat<=64 then(br (7*j)).toNat else 64)))) j else aj else aj else k1 a d e f h i j else k1 a d e f h i j
def l5(N:aC)(k0 k1:zJ R):aC->zJ R
 |0=>λ_ _ _ _ _ _ _=>aj
 |n+1=>r5 N (l5 N k0 k1 n) k0 k1
def b(N:aC)(kr:Nr R)(a:aq)(d:aw):ay R:=bif !lj.v d 0 (a.size:aw)then kr 0 0 ak else l5 N (λ_ _ e f h _ _=>kr e f h) (λ_ _ _ _ _ _ _=>kr 0 0 ak) N a d 0 0 ak 0 0
def v(cX:aq)(gT:aw):aw×aw×aY:=if 0<=gT/\gT<=cX.size then Lib.rv cX gT.toNat 5 0 0 else(0,0,ak)
theorem dP(kr:Nr R)(cX:aq)(gT:aw)(f0:CD cX):∃N,b N kr cX gT=kr (v cX gT).1 (v cX gT).2.1 (v cX gT).2.2:=by
 refine⟨6, ?_⟩
 unfold b v;by_cases hn:0<=gT/\gT<=cX.size
 ·have e:lj.v gT 0 (cX.size:aw)=true:=by simp[lj.v,hn]
  obtain⟨a,rfl⟩:∃a:aC,gT=(a:aw):=⟨gT.toNat,by omega⟩
  have ha:a<=cX.size:=by omega
  rw[e,bB hn,Lib.dU];have hs:cX.size<=4611686018427387904:=f0;simp only[aX,ax]
  have:=Lib.dB (λm (s:aC×aw)=>l5 6 (λy7 y8 y9 Lf wJ Nn I4=>kr y9 Lf wJ) (λXU XV RO EC GN Fu wK=>kr 0 0 ak) m cX a 0 0 ak s.2 s.1) (λs=>5-s.1) (λs=>s.1<=5/\0<=s.2/\s.2<128^s.1)
   (λs=>kr (Lib.rv cX a (5-s.1) s.1 s.2).1 (Lib.rv cX a (5-s.1) s.1 s.2).2.1 (Lib.rv cX a (5-s.1) s.1 s.2).2.2) (λm s hs5=>by
   obtain⟨j,n⟩:=s
   obtain⟨hj,h0,jb⟩:=hs5
   dsimp only at hj h0 jb⊢
   have hb:=Lib.H0 cX (a+j)
   by_cases hj5:j<5
   ·by_cases fP:a+j<cX.size
    ·have ew:br ((a:aw)+(j:aw))=((a+j:aC):aw):=by rw[ir (by omega) (by omega)];omega
     have ew2:br ((a+j:aC):aw)=((a+j:aC):aw):=ir (by omega) (by omega);have eb:br (gU cX (a+j):aw)=(gU cX (a+j):aw):=ir (by omega) (by omega);have em:cT (gU cX (a+j):aw) 128=(gU cX (a+j):aw)%128:=jD (by omega);have e7:br (7*(j:aw))=((7*j:aC):aw):=by rw[ir (by omega) (by omega)];omega
     have ep:ja 2 (if 7*j<=64 then 7*j else 64)=128^j:=by rw[bB (by omega)];show(2:aw)^(7*j)=128^j;rw[Int.pow_mul];rfl
     have hp:(128:aw)^j<=268435456/\(1:aw)<=128^j/\(128:aw)^(j+1)=128*128^j:=by
      obtain rfl|rfl|rfl|rfl|rfl:j=0\/j=1\/j=2\/j=3\/j=4:=by omega
      all_goals decide
     have hm0:0<=(gU cX (a+j):aw)%128/\(gU cX (a+j):aw)%128<=127:=by omega
     have hq:0<=(gU cX (a+j):aw)%128*128^j/\(gU cX (a+j):aw)%128*128^j<=127*128^j:=
      ⟨Int.mul_nonneg hm0.1 (by omega),EH hm0.2 (by omega)⟩
     have eq1:br ((gU cX (a+j):aw)%128*128^j)=(gU cX (a+j):aw)%128*128^j:=ir (by omega) (by omega);have eq2:br (n+(gU cX (a+j):aw)%128*128^j)=n+(gU cX (a+j):aw)%128*128^j:=ir (by omega) (by omega);have ej:br ((j:aw)+1)=((j+1:aC):aw):=Lib.c5 hj5 (by omega);have ef:5-j=(5-(j+1))+1:=by omega
     have c1:decide ((j:aw)<5)=true:=by simp;omega
     have c2:decide (((a+j:aC):aw)<(cX.size:aw))=true:=Lib.Ou fP
     have YV:Lib.rv cX a (5-j) j n=(if(gU cX (a+j):aw)>127 then Lib.rv cX a (5-(j+1)) (j+1) (n+(gU cX (a+j):aw)%128*128^j)
       else if(j>0/\gU cX (a+j)=0)\/n+(gU cX (a+j):aw)%128*128^j>1000000000 then(0,0,ak)
       else(n+(gU cX (a+j):aw)%128*128^j,((a+j+1:aC):aw),ai)):=by
      rw[ef];simp only[Lib.rv];rw[bB fP]
     have en:br (((a+j:aC):aw)+1)=((a+j+1:aC):aw):=Lib.c5 fP (by omega);simp only[l5,r5,c1,ew,c2,Lib.cz,Lib.dU,eb,em,e7,ep,eq1,eq2,ej,en,au,aJ];by_cases hc:(gU cX (a+j):aw)>127
     ·right;rw[aE hc];exact⟨(j+1,n+(gU cX (a+j):aw)%128*128^j),⟨by dsimp only;omega,by dsimp only;omega,by dsimp only;omega⟩,by dsimp only;omega,by dsimp only;rw[YV,bB hc],rfl⟩
     ·left;rw[aG hc,ax,YV,bH hc];by_cases hj0:(j:aw)>0
      ·rw[aE hj0,au];by_cases hz:(gU cX (a+j):aw)=0
       ·rw[aE hz,bB (.inl ⟨by omega,by omega⟩)];rfl
       ·rw[aG hz,ax];by_cases tA:n+(gU cX (a+j):aw)%128*128^j>1000000000
        ·rw[aE tA,bB (.inr tA)];rfl
        ·rw[aG tA,bH (by omega)];rfl
      ·rw[aG hj0,ax];by_cases tA:n+(gU cX (a+j):aw)%128*128^j>1000000000
       ·rw[aE tA,bB (.inr tA)];rfl
       ·rw[aG tA,bH (by omega)];rfl
    ·left;have ew:br ((a:aw)+(j:aw))=((a+j:aC):aw):=by rw[ir (by omega) (by omega)];omega
     have ef:5-j=(5-(j+1))+1:=by omega
     have YV:Lib.rv cX a (5-j) j n=(0,0,ak):=by rw[ef];simp only[Lib.rv];rw[bH fP]
     simp only[l5,r5,show decide ((j:aw)<5)=ai by simp;omega,ew,Lib.TY fP,au,ax,YV]
   ·left;have La:j=5:=by omega
    subst La;simp only[l5,r5,show decide (((5:aC):aw)<5)=ak from rfl,ax];rfl) 6 (0,0) ⟨by dsimp only;omega,by dsimp only;omega,by dsimp only;decide⟩ (by dsimp only;omega)
  exact this
 ·have e:lj.v gT 0 (cX.size:aw)=false:=by simp[lj.v];omega
  rw[e,bH hn];rfl
end gq

namespace U122
def r3(N:aC)(g k0:vi R)(a:aq)(d:aw)(e:aQ):ay R:=bif decide ((a.size:aw)<=20000)then bif !(gq.v a d).2.2 then k0 a d e else bif !lj.v (gq.v a d).1 1 9000 then k0 a d e else bif decide (br ((gq.v a d).1+4)>br ((a.size:aw)-(gq.v a d).2.1))then k0 a d e else bif iA (br ((gq.v a d).2.1+4)) (br (br ((gq.v a d).2.1+4)+(gq.v a d).1)) (a.size:aw)then bif u0.c (bP a (br ((gq.v a d).2.1+4)).toNat (br (br ((gq.v a d).2.1+4)+(gq.v a d).1)).toNat)then bif iA (gq.v a d).2.1 (br ((gq.v a d).2.1+4)) (a.size:aw)then bif !List.beq (u0.v (bP a (br ((gq.v a d).2.1+4)).toNat (br (br ((gq.v a d).2.1+4)+(gq.v a d).1)).toNat)).toList (bP a (gq.v a d).2.1.toNat (br ((gq.v a d).2.1+4)).toNat).toList then k0 a d e else bif cC (e.length+(aL (aN [.s] 1) 0 [.s (bP a (br ((gq.v a d).2.1+4)).toNat (br (br ((gq.v a d).2.1+4)+(gq.v a d).1)).toNat)]).length) 16 then g a (br (br ((gq.v a d).2.1+4)+(gq.v a d).1)) (e++aL (aN [.s] 1) 0 [.s (bP a (br ((gq.v a d).2.1+4)).toNat (br (br ((gq.v a d).2.1+4)+(gq.v a d).1)).toNat)])else aj else aj else aj else aj else k0 a d e
def l3(N:aC)(k0:vi R):aC->vi R
 |0=>λ_ _ _=>aj
 |n+1=>r3 N (l3 N k0 n) k0
def b(N:aC)(kr:EG R)(a:aq):ay R:=l3 N (λ_ d e=>kr e d) N a 0 (aN [.s] 0)
def vo:=b Lib.cy λr0 r1=>ah (r0,r1)
def c:=λa=>(vo a).isSome
def v:=λa=>(vo a).getD ([],0)
theorem out{x}:∀a,vo a=ah x->c a=ai/\v a=x:=λ_=>Lib.cY
end U122

namespace s8
def b(kr:Nv R)(a:aq)(d:aw):ay R:=bif !(gq.v a d).2.2 then kr ⟨#[]⟩ 0 ak else bif decide ((gq.v a d).1>20000)then kr ⟨#[]⟩ 0 ak else bif decide ((gq.v a d).1>br ((a.size:aw)-(gq.v a d).2.1))then kr ⟨#[]⟩ 0 ak else bif iA (gq.v a d).2.1 (br ((gq.v a d).2.1+(gq.v a d).1)) (a.size:aw)then kr (bP a (gq.v a d).2.1.toNat (br ((gq.v a d).2.1+(gq.v a d).1)).toNat) (br ((gq.v a d).2.1+(gq.v a d).1)) ai else aj
def v(cX:aq)(gT:aw):aq×aw×aY:=Lib.g6 cX gT
theorem dP(kr:Nv R)(cX:aq)(gT:aw)(f0:CD cX):b kr cX gT=kr (v cX gT).1 (v cX gT).2.1 (v cX gT).2.2:=Lib.vC f0 gT kr
end s8

namespace vR
def b(kr:wQ R)(a:aq):ay R:=bif !(s8.v a 0).2.2 then kr ⟨#[]⟩ 0 0 ⟨#[]⟩ ak else bif !(gq.v a (s8.v a 0).2.1).2.2 then kr ⟨#[]⟩ 0 0 ⟨#[]⟩ ak else bif !(gq.v a (gq.v a (s8.v a 0).2.1).2.1).2.2 then kr ⟨#[]⟩ 0 0 ⟨#[]⟩ ak else bif iA (gq.v a (gq.v a (s8.v a 0).2.1).2.1).2.1 (a.size:aw) (a.size:aw)then bif !wX.v (s8.v a 0).1 (gq.v a (s8.v a 0).2.1).1 (gq.v a (gq.v a (s8.v a 0).2.1).2.1).1 (bP a (gq.v a (gq.v a (s8.v a 0).2.1).2.1).2.1.toNat (a.size:aw).toNat)then kr ⟨#[]⟩ 0 0 ⟨#[]⟩ ak else kr (s8.v a 0).1 (gq.v a (s8.v a 0).2.1).1 (gq.v a (gq.v a (s8.v a 0).2.1).2.1).1 (bP a (gq.v a (gq.v a (s8.v a 0).2.1).2.1).2.1.toNat (a.size:aw).toNat) ai else aj
def v(t0:aq):aq×aw×aw×aq×aY:=rG.v t0
theorem dP(kr:wQ R)(t0:aq)(f0:CD t0):b kr t0=kr (v t0).1 (v t0).2.1 (v t0).2.2.1 (v t0).2.2.2.1 (v t0).2.2.2.2:=by
 have e1:s8.v=Lib.g6:=rfl;have e2:gq.v=Lib.eG:=rfl;have e3:∀a b c d,wX.v a b c d=nq.v a b c d:=λ_ _ _ _=>rfl;unfold b v rG.v;simp only[e1,e2,e3,Lib.dU];cases h1:Lib.g6 t0 0 with
 |mk k r1=>
  obtain⟨a,ok1⟩:=r1;cases ok1 with
  |false=>rfl
  |true=>
   dsimp only;cases h2:Lib.eG t0 a with
   |mk s r2=>
    obtain⟨x,ok2⟩:=r2;cases ok2 with
    |false=>rfl
    |true=>
     dsimp only;cases h3:Lib.eG t0 x with
     |mk l r3=>
      obtain⟨y,ok3⟩:=r3;cases ok3 with
      |false=>rfl
      |true=>
       obtain⟨r1,r2,r3,r4,r5,r6⟩:=Lib.jY h3;dsimp only;simp only[aX,ax];rw[Lib.qC (show iA y (t0.size:aw) (t0.size:aw)=ai by simp[iA];omega)];cases hE:nq.v k s l (t0.extract y.toNat t0.size)with
       |false=>rfl
       |true=>rfl
end vR

namespace U61
def r7(N:aC)(g k0:Lp R)(a d:aw)(e f:aQ):ay R:=bif decide (d<a)then bif decide (0<=d)&&decide (d<(f.length:aw))then bif(vR.v (bz (ar f d.toNat 0))).2.2.2.2 then bif uV.c e (vR.v (bz (ar f d.toNat 0))).1 (vR.v (bz (ar f d.toNat 0))).2.1 (vR.v (bz (ar f d.toNat 0))).2.2.1 (vR.v (bz (ar f d.toNat 0))).2.2.2.1 then g a (br (d+1)) (uV.v e (vR.v (bz (ar f d.toNat 0))).1 (vR.v (bz (ar f d.toNat 0))).2.1 (vR.v (bz (ar f d.toNat 0))).2.2.1 (vR.v (bz (ar f d.toNat 0))).2.2.2.1) f else aj else g a (br (d+1)) e f else aj else k0 a d e f
def l7(N:aC)(k0:Lp R):aC->Lp R
 |0=>λ_ _ _ _=>aj
 |n+1=>r7 N (l7 N k0 n) k0
def b(N:aC)(kr:aQ->ay R)(a:aQ):ay R:=bif ia.c a then bif !ia.v a then kr (aN [Ck.s,Ck.i ao,Ck.i ao,Ck.s] 0)else bif uU.c a {data:= #[aP 107,aP 101,aP 112,aP 116]}then bif U122.c (uU.v a {data:= #[aP 107,aP 101,aP 112,aP 116]}).1 then l7 N (λ_ _ d _=>kr d) N ((U122.v (uU.v a {data:= #[aP 107,aP 101,aP 112,aP 116]}).1).1.length:aw) 0 (aN [Ck.s,Ck.i ao,Ck.i ao,Ck.s] 0) (U122.v (uU.v a {data:= #[aP 107,aP 101,aP 112,aP 116]}).1).1 else aj else aj else aj
def vo:=b Lib.cy λr0=>ah r0
def c:=λa=>(vo a).isSome
def v:=λa=>(vo a).getD ([])
theorem out{x}:∀a,vo a=ah x->c a=ai/\v a=x:=λ_=>Lib.cY
end U61

namespace BT
def r5(N:aC)(g k0 k1:CQ R)(a:aY)(d:aq)(e:aQ)(f h:aw)(i:aQ):ay R:=bif decide (h<f)then bif decide (0<=h)&&decide (h<(e.length:aw))then bif mM.c (bz (ar e h.toNat 0)) (bF (ar e h.toNat 1)) (bF (ar e h.toNat (1+1))) (bz (ar e h.toNat (1+1+1)))then bif !(mM.v (bz (ar e h.toNat 0)) (bF (ar e h.toNat 1)) (bF (ar e h.toNat (1+1))) (bz (ar e h.toNat (1+1+1)))).2 then k0 ak d e f h i else bif decide (d.size+(mM.v (bz (ar e h.toNat 0)) (bF (ar e h.toNat 1)) (bF (ar e h.toNat (1+1))) (bz (ar e h.toNat (1+1+1)))).1.size<=4611686018427387904)then g a (d++(mM.v (bz (ar e h.toNat 0)) (bF (ar e h.toNat 1)) (bF (ar e h.toNat (1+1))) (bz (ar e h.toNat (1+1+1)))).1) e f (br (h+1)) i else aj else aj else aj else k1 a d e f h i
def l5(N:aC)(k0 k1:CQ R):aC->CQ R
 |0=>λ_ _ _ _ _ _=>aj
 |n+1=>r5 N (l5 N k0 k1 n) k0 k1
def b(N:aC)(kr:Jl R)(a d:aQ):ay R:=bif ia.c a then bif !ia.v a then kr [] ak else l5 N (λe _ _ _ _ _=>kr [] e) (λ_ f _ _ _ h=>bif uU.c h {data:= #[aP 110,aP 101,aP 119]}then bif(uU.v h {data:= #[aP 110,aP 101,aP 119]}).2 then kr (aN [Ck.i ao,Ck.s,Ck.s,Ck.s] 0++aL (aN [Ck.i ao,Ck.s,Ck.s,Ck.s] 1) 0 [.i .i64 4, .s {data:= #[aP 110,aP 101,aP 119]}, .s ⟨#[]⟩, .s ⟨#[]⟩]++aL (aL (aL (aN [Ck.i ao,Ck.s,Ck.s,Ck.s] 3) 0 [.i .i64 1, .s {data:= #[aP 110,aP 101,aP 119]}, .s f, .s ⟨#[]⟩]) 1 [.i .i64 2, .s {data:= #[aP 110,aP 101,aP 119]}, .s ⟨#[]⟩, .s ⟨#[]⟩]) 2 [.i .i64 3, .s {data:= #[aP 110,aP 101,aP 119]}, .s ⟨#[]⟩, .s {data:= #[aP 107,aP 101,aP 112,aP 116]}]) ai else kr (aN [Ck.i ao,Ck.s,Ck.s,Ck.s] 0++aL (aL (aL (aN [Ck.i ao,Ck.s,Ck.s,Ck.s] 3) 0 [.i .i64 1, .s {data:= #[aP 110,aP 101,aP 119]}, .s f, .s ⟨#[]⟩]) 1 [.i .i64 2, .s {data:= #[aP 110,aP 101,aP 119]}, .s ⟨#[]⟩, .s ⟨#[]⟩]) 2 [.i .i64 3, .s {data:= #[aP 110,aP 101,aP 119]}, .s ⟨#[]⟩, .s {data:= #[aP 107,aP 101,aP 112,aP 116]}]) ai else aj) N ak ⟨#[]⟩ d (d.length:aw) 0 a else aj
def vo:=b Lib.cy λr0 r1=>ah (r0,r1)
def c:=λa d=>(vo a d).isSome
def v:=λa d=>(vo a d).getD ([],ak)
theorem out{x}:∀a d,vo a d=ah x->c a d=ai/\v a d=x:=λ_ _=>Lib.cY
end BT

namespace Rz
def r4(N:aC)(g k0:mb R)(a:aw)(d:aQ)(e f h i j l m o:aw)(p q r s t u:aQ):ay R:=bif decide (f<e)then bif decide (0<=f)&&decide (f<(d.length:aw))then bif HR.v (bz (ar d f.toNat 0)) (bF (ar d f.toNat 1)) (bF (ar d f.toNat (1+1))) (bz (ar d f.toNat (1+1+1))) a then bif Qe.c l p q r s m t u o (bz (ar d f.toNat 0)) (bF (ar d f.toNat 1)) (bF (ar d f.toNat (1+1))) (bz (ar d f.toNat (1+1+1)))then Lib.lt (Qe.v l p q r s m t u o (bz (ar d f.toNat 0)) (bF (ar d f.toNat 1)) (bF (ar d f.toNat (1+1))) (bz (ar d f.toNat (1+1+1)))) λw=>g a d e (br (f+1)) h i j w.1 w.2.2.2.2.2.1 w.2.2.2.2.2.2.2.2 w.2.1 w.2.2.1 w.2.2.2.1 w.2.2.2.2.1 w.2.2.2.2.2.2.1 w.2.2.2.2.2.2.2.1 else aj else g a d e (br (f+1)) h i j l m o p q r s t u else aj else k0 a d e f h i j l m o p q r s t u
def l4(N:aC)(k0:mb R):aC->mb R
 |0=>λ_ _ _ _ _ _ _ _ _ _ _ _ _ _ _ _=>aj
 |n+1=>r4 N (l4 N k0 n) k0
def b(N:aC)(kr:eP R)(a:aw)(d:aQ):ay R:=l4 N (λ_ _ _ _ _ _ _ e f h i j l m o p=>kr e i j l m f o p h) N a d (d.length:aw) 0 0 0 0 a 0 0 [] [] [] ([]++aL (aN [Ck.l 3] 1) 0 [CV.l 3 (aN [Ck.i ao] (bc 16))]++aL (aN [Ck.l 3] 1) 0 [CV.l 3 (aN [Ck.i ao] (bc 16))]++aL (aN [Ck.l 3] 1) 0 [CV.l 3 (aN [Ck.i ao] (bc 16))]) [] []
def vo:=b Lib.cy λr0 r1 r2 r3 r4 r5 r6 r7 r8=>ah (r0,r1,r2,r3,r4,r5,r6,r7,r8)
def c:=λa d=>(vo a d).isSome
def v:=λa d=>(vo a d).getD (0,[],[],[],[],0,[],[],0)
theorem out{x}:∀a d,vo a d=ah x->c a d=ai/\v a d=x:=λ_ _=>Lib.cY
end Rz

namespace BL
def r3(N:aC)(g k0:ma R)(a d e f h:aw)(i j l m o p q r s t u:aQ):ay R:=bif decide (d<a)then bif decide (0<=d)&&decide (d<(j.length:aw))then bif HR.v (bz (ar j d.toNat 0)) (bF (ar j d.toNat 1)) (bF (ar j d.toNat (1+1))) (bz (ar j d.toNat (1+1+1))) e then bif cC (i.length+(aL (aN [Ck.s,Ck.i ao,Ck.i ao,Ck.s] 1) 0 [.s (bz (ar j d.toNat 0)), .i .i64 (bF (ar j d.toNat 1)), .i .i64 (bF (ar j d.toNat (1+1))), .s (bz (ar j d.toNat (1+1+1)))]).length) 48 then g a (br (d+1)) e f h (i++aL (aN [Ck.s,Ck.i ao,Ck.i ao,Ck.s] 1) 0 [.s (bz (ar j d.toNat 0)), .i .i64 (bF (ar j d.toNat 1)), .i .i64 (bF (ar j d.toNat (1+1))), .s (bz (ar j d.toNat (1+1+1)))]) j l m o p q r s t u else aj else g a (br (d+1)) e f h i j l m o p q r s t u else aj else k0 a d e f h i j l m o p q r s t u
def l3(N:aC)(k0:ma R):aC->ma R
 |0=>λ_ _ _ _ _ _ _ _ _ _ _ _ _ _ _ _=>aj
 |n+1=>r3 N (l3 N k0 n) k0
def b(N:aC)(kr:mH R)(a:aw)(d e f h:aQ)(i:aw)(j l:aQ)(m:aw)(o p q r:aQ):ay R:=bif wZ.c o r then Lib.lt (wZ.v o r) λs=>bif U61.c s.1 then Lib.lt (U61.v s.1) λt=>l3 N (λ_ _ u _ _ w _ _ _ _ _ _ _ y z α=>bif BT.c y w then Lib.lt (BT.v y w) λxa=>bif vU.c y xa.1 then Lib.lt (vU.v y xa.1) λxb=>bif Rz.c u w then Lib.lt (Rz.v u w) λxc=>kr xc.1 xc.2.1 xc.2.2.1 xc.2.2.2.1 xc.2.2.2.2.1 xc.2.2.2.2.2.1 xc.2.2.2.2.2.2.1 xc.2.2.2.2.2.2.2.1 xc.2.2.2.2.2.2.2.2 xb.1 z α else aj else aj else aj) N (t.length:aw) 0 a i m (aN [Ck.s,Ck.i ao,Ck.i ao,Ck.s] 0) t d e f h j l s.1 p q else aj else aj
def vo:=b Lib.cy λr0 r1 r2 r3 r4 r5 r6 r7 r8 r9 yC tO=>ah (r0,r1,r2,r3,r4,r5,r6,r7,r8,r9,yC,tO)
def c:=λa d e f h i j l m o p q r=>(vo a d e f h i j l m o p q r).isSome
def v:=λa d e f h i j l m o p q r=>(vo a d e f h i j l m o p q r).getD (0,[],[],[],[],0,[],[],0,[],[],[])
theorem out{x}:∀a d e f h i j l m o p q r,vo a d e f h i j l m o p q r=ah x->c a d e f h i j l m o p q r=ai/\v a d e f h i j l m o p q r=x:=λ_ _ _ _ _ _ _ _ _ _ _ _ _=>Lib.cY
end BL

namespace HL
def b(kr:aw->ay R)(a:aY):ay R:=bif a then kr 0 else kr 1
def v(a0:aY):aw:=bif a0 then 0 else 1
theorem dP(kr:aw->ay R)(a0:aY):b kr a0=kr (v a0):=by first|rfl|(unfold b v;simp only[ca];(repeat' split)<;>rfl)
end HL

namespace Xy
def b(kr:nX R)(a:aw)(d e f h:aQ)(i:aw)(j l:aQ)(m:aw)(o p q:aQ)(r s:aw)(t:aq)(u:aw)(w:aQ):ay R:=bif decide (r=1)then bif TC.c a d e f h i j l m s t then Lib.lt (TC.v a d e f h i j l m s t) λy=>kr y.2.2.2.2.2.2.2.2.2 y.1 y.2.1 y.2.2.1 y.2.2.2.1 y.2.2.2.2.1 y.2.2.2.2.2.1 y.2.2.2.2.2.2.1 y.2.2.2.2.2.2.2.1 y.2.2.2.2.2.2.2.2.1 o p q else aj else bif decide (r=2)then bif XD.c a d e f h i j l m s t then Lib.lt (XD.v a d e f h i j l m s t) λz=>kr (HL.v z.2.2.2.2.2.2.2.2.2) z.1 z.2.1 z.2.2.1 z.2.2.2.1 z.2.2.2.2.1 z.2.2.2.2.2.1 z.2.2.2.2.2.2.1 z.2.2.2.2.2.2.2.1 z.2.2.2.2.2.2.2.2.1 o p q else aj else bif decide (r=3)then bif XE.c a d e f h i j l m o p q s (cT u 1000000)then Lib.lt (XE.v a d e f h i j l m o p q s (cT u 1000000)) λα=>kr (HL.v α.1) α.2.1 α.2.2.1 α.2.2.2.1 α.2.2.2.2.1 α.2.2.2.2.2.1 α.2.2.2.2.2.2.1 α.2.2.2.2.2.2.2.1 α.2.2.2.2.2.2.2.2.1 α.2.2.2.2.2.2.2.2.2.1 α.2.2.2.2.2.2.2.2.2.2.1 α.2.2.2.2.2.2.2.2.2.2.2.1 α.2.2.2.2.2.2.2.2.2.2.2.2 else aj else bif decide (r=4)then bif XF.c a d e f h i j l m s then Lib.lt (XF.v a d e f h i j l m s) λxa=>kr (HL.v xa.2.2.2.2.2.2.2.2.2) xa.1 xa.2.1 xa.2.2.1 xa.2.2.2.1 xa.2.2.2.2.1 xa.2.2.2.2.2.1 xa.2.2.2.2.2.2.1 xa.2.2.2.2.2.2.2.1 xa.2.2.2.2.2.2.2.2.1 o p q else aj else bif decide (r=5)then bif EK.c a d e f h i j l m u then Lib.lt (EK.v a d e f h i j l m u) λxb=>kr 0 xb.1 xb.2.1 xb.2.2.1 xb.2.2.2.1 xb.2.2.2.2.1 xb.2.2.2.2.2.1 xb.2.2.2.2.2.2.1 xb.2.2.2.2.2.2.2.1 xb.2.2.2.2.2.2.2.2 o p q else aj else bif decide (r=6)then bif Av.c a d e f h i j l m s then Lib.lt (Av.v a d e f h i j l m s) λxc=>bif EL.c a d e f h i j l m s then Lib.lt (EL.v a d e f h i j l m s) λxd=>kr (HL.v (decide (xc≥0))) xd.1 xd.2.1 xd.2.2.1 xd.2.2.2.1 xd.2.2.2.2.1 xd.2.2.2.2.2.1 xd.2.2.2.2.2.2.1 xd.2.2.2.2.2.2.2.1 xd.2.2.2.2.2.2.2.2 o p q else aj else aj else bif BL.c a d e f h i j l m o p q w then Lib.lt (BL.v a d e f h i j l m o p q w) λxe=>kr 0 xe.1 xe.2.1 xe.2.2.1 xe.2.2.2.1 xe.2.2.2.2.1 xe.2.2.2.2.2.1 xe.2.2.2.2.2.2.1 xe.2.2.2.2.2.2.2.1 xe.2.2.2.2.2.2.2.2.1 xe.2.2.2.2.2.2.2.2.2.1 xe.2.2.2.2.2.2.2.2.2.2.1 xe.2.2.2.2.2.2.2.2.2.2.2 else aj
def vo:=b λr0 r1 r2 r3 r4 r5 r6 r7 r8 r9 yC tO V9=>ah (r0,r1,r2,r3,r4,r5,r6,r7,r8,r9,yC,tO,V9)
def c:=λa d e f h i j l m o p q r s t u w=>(vo a d e f h i j l m o p q r s t u w).isSome
def v:=λa d e f h i j l m o p q r s t u w=>(vo a d e f h i j l m o p q r s t u w).getD (0,0,[],[],[],[],0,[],[],0,[],[],[])
theorem out{x}:∀a d e f h i j l m o p q r s t u w,vo a d e f h i j l m o p q r s t u w=ah x->c a d e f h i j l m o p q r s t u w=ai/\v a d e f h i j l m o p q r s t u w=x:=λ_ _ _ _ _ _ _ _ _ _ _ _ _ _ _ _ _=>Lib.cY
end Xy

namespace Lw
def tO(N:aC)(g k0:kC R)(a:aQ)(d e f h i j l m:aw)(o p q r s t u w y:aQ):ay R:=bif decide (e<d)then bif decide (0<=e)&&decide (e<(a.length:aw))then bif Xy.c j o p q r l s t m u w y (bF (ar a e.toNat 0)) (bF (ar a e.toNat 1)) (bz (ar a e.toNat (1+1))) (bF (ar a e.toNat (1+1+1))) (gD (ar a e.toNat (1+1+1+1)))then Lib.lt (Xy.v j o p q r l s t m u w y (bF (ar a e.toNat 0)) (bF (ar a e.toNat 1)) (bz (ar a e.toNat (1+1))) (bF (ar a e.toNat (1+1+1))) (gD (ar a e.toNat (1+1+1+1)))) λz=>bif cC (z.2.2.2.2.2.2.2.2.2.2.2.1.length+(aL (aN [Ck.i ao] 1) 0 [.i .i64 z.1]).length) 8 then g a d (br (e+1)) f h i z.2.1 z.2.2.2.2.2.2.1 z.2.2.2.2.2.2.2.2.2.1 z.2.2.1 z.2.2.2.1 z.2.2.2.2.1 z.2.2.2.2.2.1 z.2.2.2.2.2.2.2.1 z.2.2.2.2.2.2.2.2.1 z.2.2.2.2.2.2.2.2.2.2.1 (z.2.2.2.2.2.2.2.2.2.2.2.1++aL (aN [Ck.i ao] 1) 0 [.i .i64 z.1]) z.2.2.2.2.2.2.2.2.2.2.2.2 else aj else aj else aj else k0 a d e f h i j l m o p q r s t u w y
def QP(N:aC)(k0:kC R):aC->kC R
 |0=>λ_ _ _ _ _ _ _ _ _ _ _ _ _ _ _ _ _ _=>aj
 |n+1=>tO N (QP N k0 n) k0
def r4(N:aC)(g k0 k1:vH R)(a:aQ)(d:aY)(e:aQ)(f h i j l:aw):ay R:=bif decide (h<f)then bif decide (0<=h)&&decide (h<(e.length:aw))then bif !U31.v (bF (ar e h.toNat 0)) (bF (ar e h.toNat 1)) (bz (ar e h.toNat (1+1))) (bF (ar e h.toNat (1+1+1))) (gD (ar e h.toNat (1+1+1+1)))then k0 a ak e f h 0 0 0 else g a d e f (br (h+1)) i j l else aj else k1 a d e f h i j l
def l4(N:aC)(k0 k1:vH R):aC->vH R
 |0=>λ_ _ _ _ _ _ _ _=>aj
 |n+1=>r4 N (l4 N k0 k1 n) k0 k1
def b(N:aC)(kr:sg R)(a:aQ):ay R:=bif decide ((a.length:aw)>70)then kr 0 [] [] [] [] 0 [] [] 0 [] [] [] ak else l4 N (λ_ d _ _ _ e f h=>kr e [] [] [] [] f [] [] h [] [] [] d) (λi _ _ _ _ j l m=>QP N (λ_ _ _ _ _ _ o p q r s t u w y z α xa=>kr o r s t u p w y q z α xa ai) N i (i.length:aw) 0 j l m 1 0 0 [] [] [] ([]++aL (aN [Ck.l 3] 1) 0 [CV.l 3 (aN [Ck.i ao] (bc 16))]++aL (aN [Ck.l 3] 1) 0 [CV.l 3 (aN [Ck.i ao] (bc 16))]++aL (aN [Ck.l 3] 1) 0 [CV.l 3 (aN [Ck.i ao] (bc 16))]) [] [] [] [] []) N a ak a (a.length:aw) 0 0 0 0
def vo:=b Lib.cy λr0 r1 r2 r3 r4 r5 r6 r7 r8 r9 yC tO V9=>ah (r0,r1,r2,r3,r4,r5,r6,r7,r8,r9,yC,tO,V9)
def c:=λa=>(vo a).isSome
def v:=λa=>(vo a).getD (0,[],[],[],[],0,[],[],0,[],[],[],ak)
theorem out{x}:∀a,vo a=ah x->c a=ai/\v a=x:=λ_=>Lib.cY
end Lw

namespace Lx
def b(kr:aY->ay R)(a:aq)(d e:aw)(f h:aq)(i j:aw)(l:aq):ay R:=bif !List.beq (aA a) (aA h)then kr ak else bif d !=i then kr ak else bif e !=j then kr ak else bif !List.beq (aA f) (aA l)then kr ak else kr ai
def v(a0:aq)(a1 a2:aw)(a3 a4:aq)(a5 a6:aw)(a7:aq):aY:=bif !List.beq (aA a0) (aA a4)then ak else bif a1 !=a5 then ak else bif a2 !=a6 then ak else bif !List.beq (aA a3) (aA a7)then ak else ai
theorem dP(kr:aY->ay R)(a0:aq)(a1 a2:aw)(a3 a4:aq)(a5 a6:aw)(a7:aq):b kr a0 a1 a2 a3 a4 a5 a6 a7=kr (v a0 a1 a2 a3 a4 a5 a6 a7):=by first|rfl|(unfold b v;simp only[ca];(repeat' split)<;>rfl)
end Lx

namespace LK
def r4(N:aC)(g k0 k1:iL R)(a d:aQ)(e:aY)(f:aw):ay R:=bif decide (f<(a.length:aw))then bif decide (0<=f)&&decide (f<(a.length:aw))then bif decide (0<=f)&&decide (f<(d.length:aw))then bif !Lx.v (bz (ar a f.toNat 0)) (bF (ar a f.toNat 1)) (bF (ar a f.toNat (1+1))) (bz (ar a f.toNat (1+1+1))) (bz (ar d f.toNat 0)) (bF (ar d f.toNat 1)) (bF (ar d f.toNat (1+1))) (bz (ar d f.toNat (1+1+1)))then k0 a d ak f else g a d e (br (f+1))else aj else aj else k1 a d e f
def l4(N:aC)(k0 k1:iL R):aC->iL R
 |0=>λ_ _ _ _=>aj
 |n+1=>r4 N (l4 N k0 k1 n) k0 k1
def b(N:aC)(kr:aY->ay R)(a d:aQ):ay R:=bif(a.length:aw) !=(d.length:aw)then kr ak else l4 N (λ_ _ e _=>kr e) (λ_ _ _ _=>kr ai) N a d ak 0
def vo:=b Lib.cy λr0=>ah r0
def c:=λa d=>(vo a d).isSome
def v:=λa d=>(vo a d).getD ak
theorem out{x}:∀a d,vo a d=ah x->c a d=ai/\v a d=x:=λ_ _=>Lib.cY
end LK

namespace vZ
def r4(N:aC)(g k0 k1:iL R)(a d:aQ)(e:aY)(f:aw):ay R:=bif decide (f<(a.length:aw))then bif decide (0<=f)&&decide (f<(a.length:aw))then bif decide (0<=f)&&decide (f<(d.length:aw))then bif !List.beq (bz (ar a f.toNat 0)).toList (bz (ar d f.toNat 0)).toList then k0 a d ak f else g a d e (br (f+1))else aj else aj else k1 a d e f
def l4(N:aC)(k0 k1:iL R):aC->iL R
 |0=>λ_ _ _ _=>aj
 |n+1=>r4 N (l4 N k0 k1 n) k0 k1
def b(N:aC)(kr:aY->ay R)(a d:aQ):ay R:=bif(a.length:aw) !=(d.length:aw)then kr ak else l4 N (λ_ _ e _=>kr e) (λ_ _ _ _=>kr ai) N a d ak 0
def vo:=b Lib.cy λr0=>ah r0
def c:=λa d=>(vo a d).isSome
def v:=λa d=>(vo a d).getD ak
theorem out{x}:∀a d,vo a d=ah x->c a d=ai/\v a d=x:=λ_ _=>Lib.cY
end vZ

namespace Qc
def r4(N:aC)(g k0 k1:iL R)(a d:aQ)(e:aY)(f:aw):ay R:=bif decide (f<(a.length:aw))then bif decide (0<=f)&&decide (f<(a.length:aw))then bif decide (0<=f)&&decide (f<(d.length:aw))then bif bF (ar a f.toNat 0) !=bF (ar d f.toNat 0)then k0 a d ak f else g a d e (br (f+1))else aj else aj else k1 a d e f
def l4(N:aC)(k0 k1:iL R):aC->iL R
 |0=>λ_ _ _ _=>aj
 |n+1=>r4 N (l4 N k0 k1 n) k0 k1
def b(N:aC)(kr:aY->ay R)(a d:aQ):ay R:=bif(a.length:aw) !=(d.length:aw)then kr ak else l4 N (λ_ _ e _=>kr e) (λ_ _ _ _=>kr ai) N a d ak 0
def v(a0:aQ)(b1:aQ):aY:=(a0.length==b1.length)&&(ch a0.length).all λi=> !(bF (ar a0 i 0) !=bF (ar b1 i 0))
def fr(a b:aQ)(i:aC):aY:=(iw i (a.length-i)).all λi=> !(bF (ar a i 0) !=bF (ar b i 0))
theorem run(N:aC)(kr:aY->ay R)(a b:aQ)(hl:a.length=b.length)(ha:ng a):∀n (i:aC),i<=a.length->a.length-i<n->l4 N (λ_ _ y _=>kr y) (λ_ _ _ _=>kr ai) n a b ak i=kr (fr a b i):=by
 refine Lib.dB (λn (i:aC)=>l4 N (λ_ _ y _=>kr y) (λ_ _ _ _=>kr ai) n a b ak i) (λi=>a.length-i) (λi=>i<=a.length) (λi=>kr (fr a b i)) (λn i hi=> ?_);simp only[l4,r4,Lib.de,Lib.cz,Lib.dU,bm];by_cases h:i<a.length
 ·have e:a.length-i=(a.length-(i+1))+1:=by omega
  have hf:fr a b i=(!(bF (ar a i 0) !=bF (ar b i 0))&&fr a b (i+1)):=by unfold fr;rw[e,List.range'_succ,pQ]
  have hb:i<b.length:=by omega
  simp only[h,hb,aM,au,Lib.c5 h ha.1];cases hv:(bF (ar a i 0) !=bF (ar b i 0))with
  |false=>exact .inr ⟨i+1,h,by omega,by rw[hf,hv];rfl,rfl⟩
  |true=>left;rw[hf,hv];rfl
 ·left;have:a.length-i=0:=by omega
  simp only[h,a_,ax];unfold fr;rw[this];rfl
theorem dP(kr:aY->ay R)(a0:aQ)(b1:aQ)(f0:ng a0)(f1:ng b1):∃N,b N kr a0 b1=kr (v a0 b1):=by
 refine⟨a0.length+1, ?_⟩
 unfold b v;by_cases hl:a0.length=b1.length
 ·have e:((a0.length:aw) !=(b1.length:aw))=false:=by simp[hl]
  rw[e,ax];refine(run _ kr a0 b1 hl f0 (a0.length+1) 0 (by omega) (by omega)).trans ?_;unfold fr;rw[show(a0.length==b1.length)=ai by simp[hl],oN,<-zO];rfl
 ·have e:((a0.length:aw) !=(b1.length:aw))=true:=by simp;omega
  have e2:(a0.length==b1.length)=false:=by simp;omega
  rw[e,au,e2];rfl
theorem refl(a:aQ):v a a=true:=by unfold v;simp
end Qc

namespace BW
def r4(N:aC)(g k0 k1:iL R)(a d:aQ)(e:aY)(f:aw):ay R:=bif decide (f<(a.length:aw))then bif decide (0<=f)&&decide (f<(a.length:aw))then bif decide (0<=f)&&decide (f<(d.length:aw))then bif !Qc.v (gD (ar a f.toNat 0)) (gD (ar d f.toNat 0))then k0 a d ak f else g a d e (br (f+1))else aj else aj else k1 a d e f
def l4(N:aC)(k0 k1:iL R):aC->iL R
 |0=>λ_ _ _ _=>aj
 |n+1=>r4 N (l4 N k0 k1 n) k0 k1
def b(N:aC)(kr:aY->ay R)(a d:aQ):ay R:=bif(a.length:aw) !=(d.length:aw)then kr ak else l4 N (λ_ _ e _=>kr e) (λ_ _ _ _=>kr ai) N a d ak 0
def vo:=b Lib.cy λr0=>ah r0
def c:=λa d=>(vo a d).isSome
def v:=λa d=>(vo a d).getD ak
theorem out{x}:∀a d,vo a d=ah x->c a d=ai/\v a d=x:=λ_ _=>Lib.cY
end BW

namespace EU
def b(kr:aY->ay R)(a:aQ)(d:aw)(e:aQ)(f:aw):ay R:=bif BW.c a e then bif !BW.v a e then kr ak else bif d !=f then kr ak else kr ai else aj
def vo:=b λr0=>ah r0
def c:=λa d e f=>(vo a d e f).isSome
def v:=λa d e f=>(vo a d e f).getD ak
theorem out{x}:∀a d e f,vo a d e f=ah x->c a d e f=ai/\v a d e f=x:=λ_ _ _ _=>Lib.cY
end EU

namespace EN
def b(kr:aY->ay R)(a d e:aQ)(f:aw)(h i j:aQ)(l:aw):ay R:=bif vZ.c a h then bif !vZ.v a h then kr ak else bif vZ.c d i then bif !vZ.v d i then kr ak else bif EU.c e f j l then bif !EU.v e f j l then kr ak else kr ai else aj else aj else aj
def vo:=b λr0=>ah r0
def c:=λa d e f h i j l=>(vo a d e f h i j l).isSome
def v:=λa d e f h i j l=>(vo a d e f h i j l).getD ak
theorem out{x}:∀a d e f h i j l,vo a d e f h i j l=ah x->c a d e f h i j l=ai/\v a d e f h i j l=x:=λ_ _ _ _ _ _ _ _=>Lib.cY
end EN

end Go.FG
