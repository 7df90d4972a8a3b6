/- Functions of the program, told as functions of numbers, texts and lists, and what each comes to. No condition but those that each states. -/
import Derived.Test.YtjejmgffiilmlaaGreatLib
set_option linter.unusedVariables false
set_option linter.unusedSimpArgs false
set_option maxRecDepth 100000
open BitVec renaming toNat->dM,and->iY,ofInt->b9,xor->lF
open Bool renaming cond_eq_ite->cZ,true->ai,false->ak,false_eq_true->dg,true_and->bj,not_true->aY,and_self->aM,or_true->Iz,and_false->vp,not_false->bV
open ByteArray renaming toList->aL,size->gj,extract->bR
open Go.IntKind renaming i64->ao,wrap->bI,u32->ed,u8->bg
open Go.Op renaming bytesLess->b_
open Int renaming fdiv->kJ,pow->g6,toNat->aZ,tmod->bL,neg->iT,tdiv->cS,tmod_eq_emod_of_nonneg->sa
open List renaming set->ax,beq->db,length->bP,range->cJ,range'->lI,all_cons->sb,range'_zero->PB,range_eq_range'->PC,length_append->bW,length_singleton->bB,take->ny,drop->Au
open Nat renaming sub_zero->Cm,lt_irrefl->bm
open Option renaming none->aj,some->ah
open UInt8 renaming ofNat->aw
open _root_ renaming Int->az,Option->aC,ByteArray->aq,Bool->aW,Nat->aE,cond_true->au,cond_false->aA,of_decide_eq_true->cg,decide_eq_decide->cf,decide_true->aQ,decide_false->bh,decide_eq_true->aF,if_neg->bH,if_pos->bw,decide_eq_false->aK
namespace Go.FG
variable {R:Type}
abbrev tH(R:Type):=aU->az->aC R
abbrev DX(R:Type):=az->aU->aC R
abbrev Mu(R:Type):=aq->aW->aC R
abbrev Mt(R:Type):=aU->aW->aC R
abbrev yN(R:Type):=aU->az->az->aC R
abbrev o4(R:Type):=az->az->az->aC R
abbrev CZ(R:Type):=az->aq->az->aC R
abbrev Am(R:Type):=az->aq->aU->aC R
abbrev Oc(R:Type):=aW->DX R
abbrev oj(R:Type):=aq->DX R
abbrev vv(R:Type):=aU->DX R
abbrev Od(R:Type):=az->az->aW->aC R
abbrev Oe(R:Type):=aq->az->aW->aC R
abbrev CY(R:Type):=az->aU->aU->aC R
abbrev wQ(R:Type):=az->yN R
abbrev aa1(R:Type):=aW->yN R
abbrev aa2(R:Type):=aq->yN R
abbrev kQ(R:Type):=az->az->DX R
abbrev wT(R:Type):=aU->aU->tH R
abbrev IC(R:Type):=aU->aq->aW->az->aC R
abbrev IA(R:Type):=aW->az->tH R
abbrev wS(R:Type):=az->aq->az->az->aC R
abbrev wU(R:Type):=aU->oj R
abbrev DY(R:Type):=az->aq->Mt R
abbrev nv(R:Type):=aq->az->DX R
abbrev rZ(R:Type):=aq->CY R
abbrev qv(R:Type):=aU->az->DX R
abbrev uB(R:Type):=aU->CY R
abbrev qx(R:Type):=aU->aU->aW->az->aC R
abbrev IB(R:Type):=az->CY R
abbrev T9(R:Type):=az->qv R
abbrev T_(R:Type):=aq->qv R
abbrev qs(R:Type):=az->aU->o4 R
abbrev DU(R:Type):=aW->az->az->tH R
abbrev zI(R:Type):=aq->az->az->Mu R
abbrev nN(R:Type):=az->kQ R
abbrev DZ(R:Type):=aq->kQ R
abbrev D0(R:Type):=aq->az->az->tH R
abbrev Kp(R:Type):=aU->aU->aU->az->aq->aC R
abbrev DV(R:Type):=aW->az->Am R
abbrev qu(R:Type):=az->aU->aq->aq->az->aC R
abbrev zH(R:Type):=aU->aW->oj R
abbrev qw(R:Type):=aU->wQ R
abbrev kj(R:Type):=aU->az->o4 R
abbrev iK(R:Type):=aU->aq->o4 R
abbrev D1(R:Type):=aq->wQ R
abbrev DW(R:Type):=aW->qv R
abbrev oh(R:Type):=az->aU->kQ R
abbrev k8(R:Type):=az->aU->aq->oj R
abbrev Gj(R:Type):=aU->aW->rZ R
abbrev m8(R:Type):=aU->nN R
abbrev Al(R:Type):=aW->aU->az->az->tH R
abbrev Ao(R:Type):=aq->nN R
abbrev vu(R:Type):=az->aq->az->Am R
abbrev Ak(R:Type):=aW->az->aU->az->tH R
abbrev wO(R:Type):=aW->az->aU->aU->vv R
abbrev n5(R:Type):=aU->vu R
abbrev C0(R:Type):=aU->aU->qw R
abbrev wR(R:Type):=az->m8 R
abbrev wP(R:Type):=aW->aU->az->az->Am R
abbrev wV(R:Type):=aq->az->az->az->aW->az->az->aC R
abbrev uC(R:Type):=aq->az->az->az->aW->o4 R
abbrev uz(R:Type):=aW->az->az->aU->aU->vv R
abbrev uA(R:Type):=aE->az->az->nN R
abbrev eP(R:Type):=az->aU->aU->aU->aU->az->aU->tH R
abbrev rX(R:Type):=az->aU->az->az->az->az->aU->aU->aU->aC R
abbrev kl(R:Type):=aU->az->az->aq->az->az->az->oj R
abbrev qt(R:Type):=az->aU->aU->aU->aU->az->aU->yN R
abbrev ki(R:Type):=az->aU->aU->aU->aU->az->aU->aU->az->aW->aC R
abbrev qq(R:Type):=aW->aU->aU->az->az->aU->az->az->tH R
abbrev gU(R:Type):=aW->az->eP R
abbrev uc(R:Type):=az->aU->aU->aU->aU->az->aU->aU->az->az->aq->aC R
abbrev pw(R:Type):=aU->az->aq->az->az->az->aq->az->o4 R
abbrev Cg(R:Type):=az->aU->aU->aU->aU->az->aU->aU->o4 R
abbrev iH(R:Type):=az->az->az->az->az->az->aU->aU->aU->aU->aU->aU->aC R
abbrev oi(R:Type):=az->aU->aU->aU->aU->az->aU->aU->az->aU->aU->aU->aC R
abbrev rY(R:Type):=az->aU->aU->aU->aU->az->aU->qw R
abbrev rk(R:Type):=az->oi R
abbrev eC(R:Type):=aW->aU->az->az->eP R
abbrev zk(R:Type):=az->aU->aU->aU->aU->az->aU->aU->az->wQ R
abbrev jz(R:Type):=az->iH R
abbrev lZ(R:Type):=az->aU->jz R
abbrev g_(R:Type):=az->az->az->az->aU->aU->aU->aU->aU->aU->aU->aU->aU->aU->aU->aC R
abbrev lG(R:Type):=aq->aW->az->az->aU->aU->aU->aU->az->aU->aU->az->aq->az->az->aq->aC R
abbrev ik(R:Type):=az->az->aq->az->aU->aU->az->az->aU->aU->aU->aU->aU->aU->aU->aU->aU->aC R
abbrev kP(R:Type):=az->aW->az->az->aU->aU->aU->aU->az->aU->aU->az->aq->aq->o4 R
abbrev jf(R:Type):=az->az->az->az->az->aq->az->az->az->aq->az->aU->aU->aU->aU->aU->aU->aC R
abbrev jW(R:Type):=az->az->aU->az->az->az->az->az->az->aU->az->az->aU->aU->aU->aU->aU->aU->aC R
abbrev jF(R:Type):=az->aU->az->az->az->az->az->az->az->az->aU->aU->aU->aU->aU->aU->aU->aU->aU->aC R
abbrev e_(R:Type):=aW->az->az->aU->aU->aU->aU->az->aU->aU->az->eP R
abbrev gD(R:Type):=az->az->az->aU->aU->aU->aU->az->aU->aU->jz R
abbrev iq(R:Type):=az->aq->gD R
abbrev gL(R:Type):=az->az->az->az->aU->az->az->aU->aU->aU->aU->aU->aU->aU->aU->aU->az->az->az->az->az->aq->az->az->az->oj R
abbrev gb(R:Type):=aq->aW->az->az->aU->aU->aU->aU->az->aU->aU->az->az->az->jf R

namespace U15
def b(kr:aW->aC R)(a:aU):aC R:=kr (decide ((a.length:az)>1048576))
def v(a0:aU):aW:=(decide ((a0.length:az)>1048576))
theorem fJ(kr:aW->aC R)(a0:aU):b kr a0=kr (v a0):=by first|rfl|(unfold b v;simp only[cZ];(repeat' split)<;>rfl)
end U15

namespace Cu
def r3(N:aE)(g k0:yN R)(a:aU)(d e:az):aC R:=bif decide (e<(a.length:az))then bif decide (e<4000)then bif decide (0<=e)&&decide (e<(a.length:az))then g a (bJ (↑(dM (iY (b9 64 (bJ (bJ (bJ (d*131)+bJ (bZ (ar a e.toNat 0)))+7))) (b9 64 1073741823))):az)) (bJ (e+1))else aj else k0 a d e else k0 a d e
def l3(N:aE)(k0:yN R):aE->yN R
 |0=>λ_ _ _=>aj
 |n+1=>r3 N (l3 N k0 n) k0
def b(N:aE)(kr:yN R)(a:aU):aC R:=l3 N (λd e _=>kr d 0 e) N a (bJ (34901+(a.length:az))) 0
def vo:=b Lib.cW λr0 r1 r2=>ah (r0,r1,r2)
def c:=λa=>(vo a).isSome
def v:=λa=>(vo a).getD ([],0,0)
theorem out{x}:∀a,vo a=ah x->c a=ai/\v a=x:=λ_=>Lib.dc
end Cu

namespace bO
def b(kr:wQ R)(a:aU)(d e:az):aC R:=bif decide (d<(a.length:az))then bif decide (0<=d)&&decide (d<(a.length:az))then kr (bJ (↑(dM (iY (b9 64 (bJ (bJ (↑(dM (iY (b9 64 (bJ (↑(dM (lF (b9 64 (kJ (bJ (bJ (e*6364136223846793005)+1442695040888963407)) (g6 2 (if aZ 33<=64 then aZ 33 else 64)))) (b9 64 (kJ (bJ (bJ (e*6364136223846793005)+1442695040888963407)) (g6 2 (if aZ 45<=64 then aZ 45 else 64)))))):az))) (b9 64 255))):az)+bJ (bZ (ar a d.toNat 0))))) (b9 64 255))):az)) a (bJ (d+1)) (bJ (bJ (e*6364136223846793005)+1442695040888963407))else aj else kr (bJ (↑(dM (iY (b9 64 (bJ (↑(dM (lF (b9 64 (kJ (bJ (bJ (e*6364136223846793005)+1442695040888963407)) (g6 2 (if aZ 33<=64 then aZ 33 else 64)))) (b9 64 (kJ (bJ (bJ (e*6364136223846793005)+1442695040888963407)) (g6 2 (if aZ 45<=64 then aZ 45 else 64)))))):az))) (b9 64 255))):az)) a d (bJ (bJ (e*6364136223846793005)+1442695040888963407))
def vo:=b λr0 r1 r2 r3=>ah (r0,r1,r2,r3)
def c:=λa d e=>(vo a d e).isSome
def v:=λa d e=>(vo a d e).getD (0,[],0,0)
theorem out{x}:∀a d e,vo a d e=ah x->c a d e=ai/\v a d e=x:=λ_ _ _=>Lib.dc
end bO

namespace de
def b(kr:wQ R)(a:aU)(d e f:az):aC R:=bif decide (f<=0)then kr 0 a d e else bif decide (f<=256)then bif bO.c a d e then bif !decide (f=0)then kr (bL (bO.v a d e).1 f) (bO.v a d e).2.1 (bO.v a d e).2.2.1 (bO.v a d e).2.2.2 else aj else aj else bif bO.c a d e then bif bO.c (bO.v a d e).2.1 (bO.v a d e).2.2.1 (bO.v a d e).2.2.2 then bif bO.c (bO.v (bO.v a d e).2.1 (bO.v a d e).2.2.1 (bO.v a d e).2.2.2).2.1 (bO.v (bO.v a d e).2.1 (bO.v a d e).2.2.1 (bO.v a d e).2.2.2).2.2.1 (bO.v (bO.v a d e).2.1 (bO.v a d e).2.2.1 (bO.v a d e).2.2.2).2.2.2 then bif bO.c (bO.v (bO.v (bO.v a d e).2.1 (bO.v a d e).2.2.1 (bO.v a d e).2.2.2).2.1 (bO.v (bO.v a d e).2.1 (bO.v a d e).2.2.1 (bO.v a d e).2.2.2).2.2.1 (bO.v (bO.v a d e).2.1 (bO.v a d e).2.2.1 (bO.v a d e).2.2.2).2.2.2).2.1 (bO.v (bO.v (bO.v a d e).2.1 (bO.v a d e).2.2.1 (bO.v a d e).2.2.2).2.1 (bO.v (bO.v a d e).2.1 (bO.v a d e).2.2.1 (bO.v a d e).2.2.2).2.2.1 (bO.v (bO.v a d e).2.1 (bO.v a d e).2.2.1 (bO.v a d e).2.2.2).2.2.2).2.2.1 (bO.v (bO.v (bO.v a d e).2.1 (bO.v a d e).2.2.1 (bO.v a d e).2.2.2).2.1 (bO.v (bO.v a d e).2.1 (bO.v a d e).2.2.1 (bO.v a d e).2.2.2).2.2.1 (bO.v (bO.v a d e).2.1 (bO.v a d e).2.2.1 (bO.v a d e).2.2.2).2.2.2).2.2.2 then bif !decide (f=0)then kr (bL (bJ (bJ (bJ (bJ ((bO.v a d e).1*16777216)+bJ ((bO.v (bO.v a d e).2.1 (bO.v a d e).2.2.1 (bO.v a d e).2.2.2).1*65536))+bJ ((bO.v (bO.v (bO.v a d e).2.1 (bO.v a d e).2.2.1 (bO.v a d e).2.2.2).2.1 (bO.v (bO.v a d e).2.1 (bO.v a d e).2.2.1 (bO.v a d e).2.2.2).2.2.1 (bO.v (bO.v a d e).2.1 (bO.v a d e).2.2.1 (bO.v a d e).2.2.2).2.2.2).1*256))+(bO.v (bO.v (bO.v (bO.v a d e).2.1 (bO.v a d e).2.2.1 (bO.v a d e).2.2.2).2.1 (bO.v (bO.v a d e).2.1 (bO.v a d e).2.2.1 (bO.v a d e).2.2.2).2.2.1 (bO.v (bO.v a d e).2.1 (bO.v a d e).2.2.1 (bO.v a d e).2.2.2).2.2.2).2.1 (bO.v (bO.v (bO.v a d e).2.1 (bO.v a d e).2.2.1 (bO.v a d e).2.2.2).2.1 (bO.v (bO.v a d e).2.1 (bO.v a d e).2.2.1 (bO.v a d e).2.2.2).2.2.1 (bO.v (bO.v a d e).2.1 (bO.v a d e).2.2.1 (bO.v a d e).2.2.2).2.2.2).2.2.1 (bO.v (bO.v (bO.v a d e).2.1 (bO.v a d e).2.2.1 (bO.v a d e).2.2.2).2.1 (bO.v (bO.v a d e).2.1 (bO.v a d e).2.2.1 (bO.v a d e).2.2.2).2.2.1 (bO.v (bO.v a d e).2.1 (bO.v a d e).2.2.1 (bO.v a d e).2.2.2).2.2.2).2.2.2).1)) f) (bO.v (bO.v (bO.v (bO.v a d e).2.1 (bO.v a d e).2.2.1 (bO.v a d e).2.2.2).2.1 (bO.v (bO.v a d e).2.1 (bO.v a d e).2.2.1 (bO.v a d e).2.2.2).2.2.1 (bO.v (bO.v a d e).2.1 (bO.v a d e).2.2.1 (bO.v a d e).2.2.2).2.2.2).2.1 (bO.v (bO.v (bO.v a d e).2.1 (bO.v a d e).2.2.1 (bO.v a d e).2.2.2).2.1 (bO.v (bO.v a d e).2.1 (bO.v a d e).2.2.1 (bO.v a d e).2.2.2).2.2.1 (bO.v (bO.v a d e).2.1 (bO.v a d e).2.2.1 (bO.v a d e).2.2.2).2.2.2).2.2.1 (bO.v (bO.v (bO.v a d e).2.1 (bO.v a d e).2.2.1 (bO.v a d e).2.2.2).2.1 (bO.v (bO.v a d e).2.1 (bO.v a d e).2.2.1 (bO.v a d e).2.2.2).2.2.1 (bO.v (bO.v a d e).2.1 (bO.v a d e).2.2.1 (bO.v a d e).2.2.2).2.2.2).2.2.2).2.1 (bO.v (bO.v (bO.v (bO.v a d e).2.1 (bO.v a d e).2.2.1 (bO.v a d e).2.2.2).2.1 (bO.v (bO.v a d e).2.1 (bO.v a d e).2.2.1 (bO.v a d e).2.2.2).2.2.1 (bO.v (bO.v a d e).2.1 (bO.v a d e).2.2.1 (bO.v a d e).2.2.2).2.2.2).2.1 (bO.v (bO.v (bO.v a d e).2.1 (bO.v a d e).2.2.1 (bO.v a d e).2.2.2).2.1 (bO.v (bO.v a d e).2.1 (bO.v a d e).2.2.1 (bO.v a d e).2.2.2).2.2.1 (bO.v (bO.v a d e).2.1 (bO.v a d e).2.2.1 (bO.v a d e).2.2.2).2.2.2).2.2.1 (bO.v (bO.v (bO.v a d e).2.1 (bO.v a d e).2.2.1 (bO.v a d e).2.2.2).2.1 (bO.v (bO.v a d e).2.1 (bO.v a d e).2.2.1 (bO.v a d e).2.2.2).2.2.1 (bO.v (bO.v a d e).2.1 (bO.v a d e).2.2.1 (bO.v a d e).2.2.2).2.2.2).2.2.2).2.2.1 (bO.v (bO.v (bO.v (bO.v a d e).2.1 (bO.v a d e).2.2.1 (bO.v a d e).2.2.2).2.1 (bO.v (bO.v a d e).2.1 (bO.v a d e).2.2.1 (bO.v a d e).2.2.2).2.2.1 (bO.v (bO.v a d e).2.1 (bO.v a d e).2.2.1 (bO.v a d e).2.2.2).2.2.2).2.1 (bO.v (bO.v (bO.v a d e).2.1 (bO.v a d e).2.2.1 (bO.v a d e).2.2.2).2.1 (bO.v (bO.v a d e).2.1 (bO.v a d e).2.2.1 (bO.v a d e).2.2.2).2.2.1 (bO.v (bO.v a d e).2.1 (bO.v a d e).2.2.1 (bO.v a d e).2.2.2).2.2.2).2.2.1 (bO.v (bO.v (bO.v a d e).2.1 (bO.v a d e).2.2.1 (bO.v a d e).2.2.2).2.1 (bO.v (bO.v a d e).2.1 (bO.v a d e).2.2.1 (bO.v a d e).2.2.2).2.2.1 (bO.v (bO.v a d e).2.1 (bO.v a d e).2.2.1 (bO.v a d e).2.2.2).2.2.2).2.2.2).2.2.2 else aj else aj else aj else aj else aj
def vo:=b λr0 r1 r2 r3=>ah (r0,r1,r2,r3)
def c:=λa d e f=>(vo a d e f).isSome
def v:=λa d e f=>(vo a d e f).getD (0,[],0,0)
theorem out{x}:∀a d e f,vo a d e f=ah x->c a d e f=ai/\v a d e f=x:=λ_ _ _ _=>Lib.dc
end de

namespace ia
def b(kr:aa1 R)(a:aU)(d e f:az):aC R:=bif de.c a d e f then kr (decide ((de.v a d e f).1=0)) (de.v a d e f).2.1 (de.v a d e f).2.2.1 (de.v a d e f).2.2.2 else aj
def vo:=b λr0 r1 r2 r3=>ah (r0,r1,r2,r3)
def c:=λa d e f=>(vo a d e f).isSome
def v:=λa d e f=>(vo a d e f).getD (ak,[],0,0)
theorem out{x}:∀a d e f,vo a d e f=ah x->c a d e f=ai/\v a d e f=x:=λ_ _ _ _=>Lib.dc
end ia

namespace rS
def b(kr:T9 R)(a:aU)(d e:az)(f:aU):aC R:=bif de.c a d e (f.length:az)then bif decide (0<=(de.v a d e (f.length:az)).1)&&decide ((de.v a d e (f.length:az)).1<(f.length:az))then kr (bZ (ar f (de.v a d e (f.length:az)).1.toNat 0)) (de.v a d e (f.length:az)).2.1 (de.v a d e (f.length:az)).2.2.1 (de.v a d e (f.length:az)).2.2.2 f else aj else aj
def vo:=b λr0 r1 r2 r3 r4=>ah (r0,r1,r2,r3,r4)
def c:=λa d e f=>(vo a d e f).isSome
def v:=λa d e f=>(vo a d e f).getD (0,[],0,0,[])
theorem out{x}:∀a d e f,vo a d e f=ah x->c a d e f=ai/\v a d e f=x:=λ_ _ _ _=>Lib.dc
end rS

namespace TE
def b(kr:wQ R)(a:aU)(d e f:az):aC R:=bif ia.c a d e 15 then bif(ia.v a d e 15).1 then bif rS.c (ia.v a d e 15).2.1 (ia.v a d e 15).2.2.1 (ia.v a d e 15).2.2.2 (ax (ax (ax (ax (ax (aN [Ck.i ao] 5) 0 [.i .i64 (iT 1)]) 1 [.i .i64 f]) 2 [.i .i64 (bJ (f+1))]) 3 [.i .i64 9223372036854775807]) 4 [.i .i64 (iT 9223372036854775808)])then kr (rS.v (ia.v a d e 15).2.1 (ia.v a d e 15).2.2.1 (ia.v a d e 15).2.2.2 (ax (ax (ax (ax (ax (aN [Ck.i ao] 5) 0 [.i .i64 (iT 1)]) 1 [.i .i64 f]) 2 [.i .i64 (bJ (f+1))]) 3 [.i .i64 9223372036854775807]) 4 [.i .i64 (iT 9223372036854775808)])).1 (rS.v (ia.v a d e 15).2.1 (ia.v a d e 15).2.2.1 (ia.v a d e 15).2.2.2 (ax (ax (ax (ax (ax (aN [Ck.i ao] 5) 0 [.i .i64 (iT 1)]) 1 [.i .i64 f]) 2 [.i .i64 (bJ (f+1))]) 3 [.i .i64 9223372036854775807]) 4 [.i .i64 (iT 9223372036854775808)])).2.1 (rS.v (ia.v a d e 15).2.1 (ia.v a d e 15).2.2.1 (ia.v a d e 15).2.2.2 (ax (ax (ax (ax (ax (aN [Ck.i ao] 5) 0 [.i .i64 (iT 1)]) 1 [.i .i64 f]) 2 [.i .i64 (bJ (f+1))]) 3 [.i .i64 9223372036854775807]) 4 [.i .i64 (iT 9223372036854775808)])).2.2.1 (rS.v (ia.v a d e 15).2.1 (ia.v a d e 15).2.2.1 (ia.v a d e 15).2.2.2 (ax (ax (ax (ax (ax (aN [Ck.i ao] 5) 0 [.i .i64 (iT 1)]) 1 [.i .i64 f]) 2 [.i .i64 (bJ (f+1))]) 3 [.i .i64 9223372036854775807]) 4 [.i .i64 (iT 9223372036854775808)])).2.2.2.1 else aj else bif de.c (ia.v a d e 15).2.1 (ia.v a d e 15).2.2.1 (ia.v a d e 15).2.2.2 f then kr (de.v (ia.v a d e 15).2.1 (ia.v a d e 15).2.2.1 (ia.v a d e 15).2.2.2 f).1 (de.v (ia.v a d e 15).2.1 (ia.v a d e 15).2.2.1 (ia.v a d e 15).2.2.2 f).2.1 (de.v (ia.v a d e 15).2.1 (ia.v a d e 15).2.2.1 (ia.v a d e 15).2.2.2 f).2.2.1 (de.v (ia.v a d e 15).2.1 (ia.v a d e 15).2.2.1 (ia.v a d e 15).2.2.2 f).2.2.2 else aj else aj
def vo:=b λr0 r1 r2 r3=>ah (r0,r1,r2,r3)
def c:=λa d e f=>(vo a d e f).isSome
def v:=λa d e f=>(vo a d e f).getD (0,[],0,0)
theorem out{x}:∀a d e f,vo a d e f=ah x->c a d e f=ai/\v a d e f=x:=λ_ _ _ _=>Lib.dc
end TE

namespace oW
def b(kr:T_ R)(a:aU)(d e:az)(f:aU):aC R:=bif de.c a d e (f.length:az)then bif decide (0<=(de.v a d e (f.length:az)).1)&&decide ((de.v a d e (f.length:az)).1<(f.length:az))then kr (bQ (ar f (de.v a d e (f.length:az)).1.toNat 0)) (de.v a d e (f.length:az)).2.1 (de.v a d e (f.length:az)).2.2.1 (de.v a d e (f.length:az)).2.2.2 f else aj else aj
def vo:=b λr0 r1 r2 r3 r4=>ah (r0,r1,r2,r3,r4)
def c:=λa d e f=>(vo a d e f).isSome
def v:=λa d e f=>(vo a d e f).getD (⟨#[]⟩,[],0,0,[])
theorem out{x}:∀a d e f,vo a d e f=ah x->c a d e f=ai/\v a d e f=x:=λ_ _ _ _=>Lib.dc
end oW

namespace jR
def b(kr:aa2 R)(a:aU)(d e:az):aC R:=bif oW.c a d e (ax (ax (ax (ax (ax (ax (ax (ax (aN [.s] 8) 0 [.s {data:= #[aw 47,aw 97]}]) 1 [.s {data:= #[aw 47,aw 98]}]) 2 [.s {data:= #[aw 47,aw 99]}]) 3 [.s {data:= #[aw 47,aw 100]}]) 4 [.s {data:= #[aw 47,aw 101]}]) 5 [.s {data:= #[aw 47,aw 102]}]) 6 [.s {data:= #[aw 47,aw 103]}]) 7 [.s {data:= #[aw 47,aw 104]}])then kr (oW.v a d e (ax (ax (ax (ax (ax (ax (ax (ax (aN [.s] 8) 0 [.s {data:= #[aw 47,aw 97]}]) 1 [.s {data:= #[aw 47,aw 98]}]) 2 [.s {data:= #[aw 47,aw 99]}]) 3 [.s {data:= #[aw 47,aw 100]}]) 4 [.s {data:= #[aw 47,aw 101]}]) 5 [.s {data:= #[aw 47,aw 102]}]) 6 [.s {data:= #[aw 47,aw 103]}]) 7 [.s {data:= #[aw 47,aw 104]}])).1 (oW.v a d e (ax (ax (ax (ax (ax (ax (ax (ax (aN [.s] 8) 0 [.s {data:= #[aw 47,aw 97]}]) 1 [.s {data:= #[aw 47,aw 98]}]) 2 [.s {data:= #[aw 47,aw 99]}]) 3 [.s {data:= #[aw 47,aw 100]}]) 4 [.s {data:= #[aw 47,aw 101]}]) 5 [.s {data:= #[aw 47,aw 102]}]) 6 [.s {data:= #[aw 47,aw 103]}]) 7 [.s {data:= #[aw 47,aw 104]}])).2.1 (oW.v a d e (ax (ax (ax (ax (ax (ax (ax (ax (aN [.s] 8) 0 [.s {data:= #[aw 47,aw 97]}]) 1 [.s {data:= #[aw 47,aw 98]}]) 2 [.s {data:= #[aw 47,aw 99]}]) 3 [.s {data:= #[aw 47,aw 100]}]) 4 [.s {data:= #[aw 47,aw 101]}]) 5 [.s {data:= #[aw 47,aw 102]}]) 6 [.s {data:= #[aw 47,aw 103]}]) 7 [.s {data:= #[aw 47,aw 104]}])).2.2.1 (oW.v a d e (ax (ax (ax (ax (ax (ax (ax (ax (aN [.s] 8) 0 [.s {data:= #[aw 47,aw 97]}]) 1 [.s {data:= #[aw 47,aw 98]}]) 2 [.s {data:= #[aw 47,aw 99]}]) 3 [.s {data:= #[aw 47,aw 100]}]) 4 [.s {data:= #[aw 47,aw 101]}]) 5 [.s {data:= #[aw 47,aw 102]}]) 6 [.s {data:= #[aw 47,aw 103]}]) 7 [.s {data:= #[aw 47,aw 104]}])).2.2.2.1 else aj
def vo:=b λr0 r1 r2 r3=>ah (r0,r1,r2,r3)
def c:=λa d e=>(vo a d e).isSome
def v:=λa d e=>(vo a d e).getD (⟨#[]⟩,[],0,0)
theorem out{x}:∀a d e,vo a d e=ah x->c a d e=ai/\v a d e=x:=λ_ _ _=>Lib.dc
end jR

namespace EG
def r3(N:aE)(g:o4 R)(g1:kQ R)(k0:o4 R)(k1:kQ R)(a d e:az):aC R:=bif decide (a<3)then g1 (bJ (a+1)) d e ([]++ax (aN [Ck.l 3] 1) 0 [CV.l 3 (aN [Ck.i ao] (aZ 16))])else k0 a d e
def z_(N:aE)(g:o4 R)(g1:kQ R)(k0:o4 R)(k1:kQ R)(a d e:az)(f:aU):aC R:=bif decide (a<3)then bif cB (f.length+(ax (aN [Ck.l 3] 1) 0 [CV.l 3 (aN [Ck.i ao] (aZ 16))]).length) 24 then g1 (bJ (a+1)) d e (f++ax (aN [Ck.l 3] 1) 0 [CV.l 3 (aN [Ck.i ao] (aZ 16))])else aj else k1 a d e f
def tW(N:aE)(k0:o4 R)(k1:kQ R):aE->kQ R
 |0=>λ_ _ _ _=>aj
 |n+1=>z_ N (λx0 x1 x2=>aj) (tW N k0 k1 n) k0 k1
def l3(N:aE)(k0:o4 R)(k1:kQ R):aE->o4 R
 |0=>λ_ _ _=>aj
 |n+1=>r3 N (l3 N k0 k1 n) (tW N k0 k1 n) k0 k1
def b(N:aE)(kr:tH R):aC R:=l3 N (λ_ _ a=>kr [] a) (λ_ _ a d=>kr d a) N 0 0 0
def vo:=b Lib.cW λr0 r1=>ah (r0,r1)
def c:=vo.isSome
def v:=vo.getD ([],0)
end EG

namespace Um
def b(kr:wT R):aC R:=kr [] [] ([]++ax (aN [Ck.l 3] 1) 0 [CV.l 3 (aN [Ck.i ao] (aZ 16))]++ax (aN [Ck.l 3] 1) 0 [CV.l 3 (aN [Ck.i ao] (aZ 16))]++ax (aN [Ck.l 3] 1) 0 [CV.l 3 (aN [Ck.i ao] (aZ 16))]) 0
def v:aU×aU×aU×az:=([],[],[]++ax (aN [Ck.l 3] 1) 0 [CV.l 3 (aN [Ck.i ao] (aZ 16))]++ax (aN [Ck.l 3] 1) 0 [CV.l 3 (aN [Ck.i ao] (aZ 16))]++ax (aN [Ck.l 3] 1) 0 [CV.l 3 (aN [Ck.i ao] (aZ 16))],0)
theorem fJ(kr:wT R):b kr=kr v.1 v.2.1 v.2.2.1 v.2.2.2:=by first|rfl|(unfold b v;simp only[cZ];(repeat' split)<;>rfl)
end Um

namespace Ul
def b(kr:eP R):aC R:=kr 1 [] [] [] ([]++ax (aN [Ck.l 3] 1) 0 [CV.l 3 (aN [Ck.i ao] (aZ 16))]++ax (aN [Ck.l 3] 1) 0 [CV.l 3 (aN [Ck.i ao] (aZ 16))]++ax (aN [Ck.l 3] 1) 0 [CV.l 3 (aN [Ck.i ao] (aZ 16))]) 0 [] [] 0
def v:az×aU×aU×aU×aU×az×aU×aU×az:=(1,[],[],[],[]++ax (aN [Ck.l 3] 1) 0 [CV.l 3 (aN [Ck.i ao] (aZ 16))]++ax (aN [Ck.l 3] 1) 0 [CV.l 3 (aN [Ck.i ao] (aZ 16))]++ax (aN [Ck.l 3] 1) 0 [CV.l 3 (aN [Ck.i ao] (aZ 16))],0,[],[],0)
theorem fJ(kr:eP R):b kr=kr v.1 v.2.1 v.2.2.1 v.2.2.2.1 v.2.2.2.2.1 v.2.2.2.2.2.1 v.2.2.2.2.2.2.1 v.2.2.2.2.2.2.2.1 v.2.2.2.2.2.2.2.2:=by first|rfl|(unfold b v;simp only[cZ];(repeat' split)<;>rfl)
end Ul

namespace uN
def r4(N:aE)(g k0:gL R)(a d e f:az)(h:aU)(i j:az)(l m o p q r s t u:aU)(w y z α xa:az)(xb:aq)(xc xd xe:az)(xf:aq)(xg:az)(xh:aU):aC R:=bif decide (f<(q.length:az))then bif decide (0<=f)&&decide (f<(q.length:az))then bif decide (bZ (ar q f.toNat 2)=1)then bif cB (xh.length+(ax (aN [Ck.i ao] 1) 0 [.i .i64 f]).length) 8 then g a d e (bJ (f+1)) h i j l m o p q r s t u w y z α xa xb xc xd xe xf xg (xh++ax (aN [Ck.i ao] 1) 0 [.i .i64 f])else aj else g a d e (bJ (f+1)) h i j l m o p q r s t u w y z α xa xb xc xd xe xf xg xh else aj else k0 a d e f h i j l m o p q r s t u w y z α xa xb xc xd xe xf xg xh
def l4(N:aE)(k0:gL R):aE->gL R
 |0=>λ_ _ _ _ _ _ _ _ _ _ _ _ _ _ _ _ _ _ _ _ _ _ _ _ _ _ _ _=>aj
 |n+1=>r4 N (l4 N k0 n) k0
abbrev h0{R:Type}(kr:ik R)(w:aU)(y z:az)(α xa xb xc xd xe xf xg xh:aU)(xi:az)(xk:aq)(xl:az)(xm:aU):aC R:=bif de.c w y z 3 then Lib.lt (de.v w y z 3) λxn=>bif decide ((xm.length:az)>0)then bif ia.c xn.2.1 xn.2.2.1 xn.2.2.2 6 then Lib.lt (ia.v xn.2.1 xn.2.2.1 xn.2.2.2 6) λxo=>bif !xo.1 then bif de.c xo.2.1 xo.2.2.1 xo.2.2.2 (xm.length:az)then Lib.lt (de.v xo.2.1 xo.2.2.1 xo.2.2.2 (xm.length:az)) λxp=>bif decide (0<=xp.1)&&decide (xp.1<(xm.length:az))then bif decide (xi=2)then bif oW.c xp.2.1 xp.2.2.1 xp.2.2.2 (ax (ax (ax (ax (aN [.s] 4) 0 [.s {data:= #[aw 120]}]) 1 [.s {data:= #[aw 104,aw 101,aw 108,aw 108,aw 111]}]) 2 [.s {data:= #[aw 109,aw 111,aw 114,aw 101,aw 32]}]) 3 [.s {data:= #[aw 48,aw 49,aw 50,aw 51,aw 52,aw 53,aw 54,aw 55,aw 56,aw 57]}])then Lib.lt (oW.v xp.2.1 xp.2.2.1 xp.2.2.2 (ax (ax (ax (ax (aN [.s] 4) 0 [.s {data:= #[aw 120]}]) 1 [.s {data:= #[aw 104,aw 101,aw 108,aw 108,aw 111]}]) 2 [.s {data:= #[aw 109,aw 111,aw 114,aw 101,aw 32]}]) 3 [.s {data:= #[aw 48,aw 49,aw 50,aw 51,aw 52,aw 53,aw 54,aw 55,aw 56,aw 57]}])) λxq=>bif decide (xi=3)then bif rS.c xq.2.1 xq.2.2.1 xq.2.2.2.1 (ax (ax (ax (ax (ax (aN [Ck.i ao] 5) 0 [.i .i64 0]) 1 [.i .i64 3]) 2 [.i .i64 20]) 3 [.i .i64 60]) 4 [.i .i64 60])then Lib.lt (rS.v xq.2.1 xq.2.2.1 xq.2.2.2.1 (ax (ax (ax (ax (ax (aN [Ck.i ao] 5) 0 [.i .i64 0]) 1 [.i .i64 3]) 2 [.i .i64 20]) 3 [.i .i64 60]) 4 [.i .i64 60])) λxr=>kr xi (bZ (ar xm xp.1.toNat 0)) xq.1 xr.1 [] xr.2.1 xr.2.2.1 xr.2.2.2.1 α xa xb xc xd xe xf xg xh else aj else kr xi (bZ (ar xm xp.1.toNat 0)) xq.1 xl [] xq.2.1 xq.2.2.1 xq.2.2.2.1 α xa xb xc xd xe xf xg xh else aj else bif decide (xi=3)then bif rS.c xp.2.1 xp.2.2.1 xp.2.2.2 (ax (ax (ax (ax (ax (aN [Ck.i ao] 5) 0 [.i .i64 0]) 1 [.i .i64 3]) 2 [.i .i64 20]) 3 [.i .i64 60]) 4 [.i .i64 60])then Lib.lt (rS.v xp.2.1 xp.2.2.1 xp.2.2.2 (ax (ax (ax (ax (ax (aN [Ck.i ao] 5) 0 [.i .i64 0]) 1 [.i .i64 3]) 2 [.i .i64 20]) 3 [.i .i64 60]) 4 [.i .i64 60])) λxq=>kr xi (bZ (ar xm xp.1.toNat 0)) xk xq.1 [] xq.2.1 xq.2.2.1 xq.2.2.2.1 α xa xb xc xd xe xf xg xh else aj else kr xi (bZ (ar xm xp.1.toNat 0)) xk xl [] xp.2.1 xp.2.2.1 xp.2.2.2 α xa xb xc xd xe xf xg xh else aj else aj else bif decide (xi=2)then bif oW.c xo.2.1 xo.2.2.1 xo.2.2.2 (ax (ax (ax (ax (aN [.s] 4) 0 [.s {data:= #[aw 120]}]) 1 [.s {data:= #[aw 104,aw 101,aw 108,aw 108,aw 111]}]) 2 [.s {data:= #[aw 109,aw 111,aw 114,aw 101,aw 32]}]) 3 [.s {data:= #[aw 48,aw 49,aw 50,aw 51,aw 52,aw 53,aw 54,aw 55,aw 56,aw 57]}])then Lib.lt (oW.v xo.2.1 xo.2.2.1 xo.2.2.2 (ax (ax (ax (ax (aN [.s] 4) 0 [.s {data:= #[aw 120]}]) 1 [.s {data:= #[aw 104,aw 101,aw 108,aw 108,aw 111]}]) 2 [.s {data:= #[aw 109,aw 111,aw 114,aw 101,aw 32]}]) 3 [.s {data:= #[aw 48,aw 49,aw 50,aw 51,aw 52,aw 53,aw 54,aw 55,aw 56,aw 57]}])) λxp=>bif decide (xi=3)then bif rS.c xp.2.1 xp.2.2.1 xp.2.2.2.1 (ax (ax (ax (ax (ax (aN [Ck.i ao] 5) 0 [.i .i64 0]) 1 [.i .i64 3]) 2 [.i .i64 20]) 3 [.i .i64 60]) 4 [.i .i64 60])then Lib.lt (rS.v xp.2.1 xp.2.2.1 xp.2.2.2.1 (ax (ax (ax (ax (ax (aN [Ck.i ao] 5) 0 [.i .i64 0]) 1 [.i .i64 3]) 2 [.i .i64 20]) 3 [.i .i64 60]) 4 [.i .i64 60])) λxq=>kr xi xn.1 xp.1 xq.1 [] xq.2.1 xq.2.2.1 xq.2.2.2.1 α xa xb xc xd xe xf xg xh else aj else kr xi xn.1 xp.1 xl [] xp.2.1 xp.2.2.1 xp.2.2.2.1 α xa xb xc xd xe xf xg xh else aj else bif decide (xi=3)then bif rS.c xo.2.1 xo.2.2.1 xo.2.2.2 (ax (ax (ax (ax (ax (aN [Ck.i ao] 5) 0 [.i .i64 0]) 1 [.i .i64 3]) 2 [.i .i64 20]) 3 [.i .i64 60]) 4 [.i .i64 60])then Lib.lt (rS.v xo.2.1 xo.2.2.1 xo.2.2.2 (ax (ax (ax (ax (ax (aN [Ck.i ao] 5) 0 [.i .i64 0]) 1 [.i .i64 3]) 2 [.i .i64 20]) 3 [.i .i64 60]) 4 [.i .i64 60])) λxp=>kr xi xn.1 xk xp.1 [] xp.2.1 xp.2.2.1 xp.2.2.2.1 α xa xb xc xd xe xf xg xh else aj else kr xi xn.1 xk xl [] xo.2.1 xo.2.2.1 xo.2.2.2 α xa xb xc xd xe xf xg xh else aj else bif decide (xi=2)then bif oW.c xn.2.1 xn.2.2.1 xn.2.2.2 (ax (ax (ax (ax (aN [.s] 4) 0 [.s {data:= #[aw 120]}]) 1 [.s {data:= #[aw 104,aw 101,aw 108,aw 108,aw 111]}]) 2 [.s {data:= #[aw 109,aw 111,aw 114,aw 101,aw 32]}]) 3 [.s {data:= #[aw 48,aw 49,aw 50,aw 51,aw 52,aw 53,aw 54,aw 55,aw 56,aw 57]}])then Lib.lt (oW.v xn.2.1 xn.2.2.1 xn.2.2.2 (ax (ax (ax (ax (aN [.s] 4) 0 [.s {data:= #[aw 120]}]) 1 [.s {data:= #[aw 104,aw 101,aw 108,aw 108,aw 111]}]) 2 [.s {data:= #[aw 109,aw 111,aw 114,aw 101,aw 32]}]) 3 [.s {data:= #[aw 48,aw 49,aw 50,aw 51,aw 52,aw 53,aw 54,aw 55,aw 56,aw 57]}])) λxo=>bif decide (xi=3)then bif rS.c xo.2.1 xo.2.2.1 xo.2.2.2.1 (ax (ax (ax (ax (ax (aN [Ck.i ao] 5) 0 [.i .i64 0]) 1 [.i .i64 3]) 2 [.i .i64 20]) 3 [.i .i64 60]) 4 [.i .i64 60])then Lib.lt (rS.v xo.2.1 xo.2.2.1 xo.2.2.2.1 (ax (ax (ax (ax (ax (aN [Ck.i ao] 5) 0 [.i .i64 0]) 1 [.i .i64 3]) 2 [.i .i64 20]) 3 [.i .i64 60]) 4 [.i .i64 60])) λxp=>kr xi xn.1 xo.1 xp.1 [] xp.2.1 xp.2.2.1 xp.2.2.2.1 α xa xb xc xd xe xf xg xh else aj else kr xi xn.1 xo.1 xl [] xo.2.1 xo.2.2.1 xo.2.2.2.1 α xa xb xc xd xe xf xg xh else aj else bif decide (xi=3)then bif rS.c xn.2.1 xn.2.2.1 xn.2.2.2 (ax (ax (ax (ax (ax (aN [Ck.i ao] 5) 0 [.i .i64 0]) 1 [.i .i64 3]) 2 [.i .i64 20]) 3 [.i .i64 60]) 4 [.i .i64 60])then Lib.lt (rS.v xn.2.1 xn.2.2.1 xn.2.2.2 (ax (ax (ax (ax (ax (aN [Ck.i ao] 5) 0 [.i .i64 0]) 1 [.i .i64 3]) 2 [.i .i64 20]) 3 [.i .i64 60]) 4 [.i .i64 60])) λxo=>kr xi xn.1 xk xo.1 [] xo.2.1 xo.2.2.1 xo.2.2.2.1 α xa xb xc xd xe xf xg xh else aj else kr xi xn.1 xk xl [] xn.2.1 xn.2.2.1 xn.2.2.2 α xa xb xc xd xe xf xg xh else aj
abbrev h1{R:Type}(kr:ik R)(w:aU)(y z:az)(α xa xb xc xd xe xf xg xh:aU)(xi xj:az)(xk:aq)(xl:az):aC R:=bif decide (xi=5)then bif rS.c w y z (ax (ax (ax (ax (aN [Ck.i ao] 4) 0 [.i .i64 1]) 1 [.i .i64 2]) 2 [.i .i64 5]) 3 [.i .i64 30])then Lib.lt (rS.v w y z (ax (ax (ax (ax (aN [Ck.i ao] 4) 0 [.i .i64 1]) 1 [.i .i64 2]) 2 [.i .i64 5]) 3 [.i .i64 30])) λxn=>kr xi xj xk xn.1 [] xn.2.1 xn.2.2.1 xn.2.2.2.1 α xa xb xc xd xe xf xg xh else aj else bif decide (xi=6)then bif de.c w y z 9 then Lib.lt (de.v w y z 9) λxn=>bif decide ((xe.length:az)>0)then bif ia.c xn.2.1 xn.2.2.1 xn.2.2.2 4 then Lib.lt (ia.v xn.2.1 xn.2.2.1 xn.2.2.2 4) λxo=>bif !xo.1 then bif de.c xo.2.1 xo.2.2.1 xo.2.2.2 (xe.length:az)then Lib.lt (de.v xo.2.1 xo.2.2.1 xo.2.2.2 (xe.length:az)) λxp=>bif decide (0<=xp.1)&&decide (xp.1<(xe.length:az))then kr xi (bZ (ar xe xp.1.toNat 0)) xk xl [] xp.2.1 xp.2.2.1 xp.2.2.2 α xa xb xc xd xe xf xg xh else aj else aj else kr xi (bJ (1+xn.1)) xk xl [] xo.2.1 xo.2.2.1 xo.2.2.2 α xa xb xc xd xe xf xg xh else aj else kr xi (bJ (1+xn.1)) xk xl [] xn.2.1 xn.2.2.1 xn.2.2.2 α xa xb xc xd xe xf xg xh else aj else kr xi xj xk xl [] w y z α xa xb xc xd xe xf xg xh
abbrev h2{R:Type}(kr:ik R)(w:aU)(y z:az)(α xa xb xc xd xe xf xg xh:aU)(xk:aq)(xl:az):aC R:=bif de.c w y z 9 then Lib.lt (de.v w y z 9) λxn=>bif decide ((xe.length:az)>0)then bif ia.c xn.2.1 xn.2.2.1 xn.2.2.2 4 then Lib.lt (ia.v xn.2.1 xn.2.2.1 xn.2.2.2 4) λxo=>bif !xo.1 then bif de.c xo.2.1 xo.2.2.1 xo.2.2.2 (xe.length:az)then Lib.lt (de.v xo.2.1 xo.2.2.1 xo.2.2.2 (xe.length:az)) λxp=>bif decide (0<=xp.1)&&decide (xp.1<(xe.length:az))then kr 6 (bZ (ar xe xp.1.toNat 0)) xk xl [] xp.2.1 xp.2.2.1 xp.2.2.2 α xa xb xc xd xe xf xg xh else aj else aj else kr 6 (bJ (1+xn.1)) xk xl [] xo.2.1 xo.2.2.1 xo.2.2.2 α xa xb xc xd xe xf xg xh else aj else kr 6 (bJ (1+xn.1)) xk xl [] xn.2.1 xn.2.2.1 xn.2.2.2 α xa xb xc xd xe xf xg xh else aj
abbrev h3{R:Type}(kr:ik R)(w:aU)(y z:az)(α xa xb xc xd xe xf xg xh:aU)(xi xl:az):aC R:=bif de.c w y z 9 then Lib.lt (de.v w y z 9) λxn=>bif jR.c xn.2.1 xn.2.2.1 xn.2.2.2 then Lib.lt (jR.v xn.2.1 xn.2.2.1 xn.2.2.2) λxo=>kr xi (bJ (1+xn.1)) xo.1 xl [] xo.2.1 xo.2.2.1 xo.2.2.2 α xa xb xc xd xe xf xg xh else aj else aj
def b(N:aE)(kr:ik R)(a:aU)(d e f:az)(h i j l:aU)(m:az)(o p:aU)(q:az)(r s t:aU):aC R:=bif rS.c a d e (ax (ax (ax (ax (ax (ax (ax (ax (ax (ax (ax (ax (ax (ax (aN [Ck.i ao] 14) 0 [.i .i64 1]) 1 [.i .i64 1]) 2 [.i .i64 1]) 3 [.i .i64 1]) 4 [.i .i64 2]) 5 [.i .i64 2]) 6 [.i .i64 2]) 7 [.i .i64 3]) 8 [.i .i64 3]) 9 [.i .i64 3]) 10 [.i .i64 4]) 11 [.i .i64 5]) 12 [.i .i64 6]) 13 [.i .i64 6])then Lib.lt (rS.v a d e (ax (ax (ax (ax (ax (ax (ax (ax (ax (ax (ax (ax (ax (ax (aN [Ck.i ao] 14) 0 [.i .i64 1]) 1 [.i .i64 1]) 2 [.i .i64 1]) 3 [.i .i64 1]) 4 [.i .i64 2]) 5 [.i .i64 2]) 6 [.i .i64 2]) 7 [.i .i64 3]) 8 [.i .i64 3]) 9 [.i .i64 3]) 10 [.i .i64 4]) 11 [.i .i64 5]) 12 [.i .i64 6]) 13 [.i .i64 6])) λu=>l4 N (λ_ _ _ _ w y z α xa xb xc xd xe xf xg xh _ _ _ _ _ _ _ xi xj xk xl xm=>bif decide ((xm.length:az)=0)then bif decide (xi=2)then bif decide ((xe.length:az)≥6)then h2 kr w y z α xa xb xc xd xe xf xg xh xk xl else bif de.c w y z 9 then Lib.lt (de.v w y z 9) λxn=>bif jR.c xn.2.1 xn.2.2.1 xn.2.2.2 then Lib.lt (jR.v xn.2.1 xn.2.2.1 xn.2.2.2) λxo=>kr 1 (bJ (1+xn.1)) xo.1 xl [] xo.2.1 xo.2.2.1 xo.2.2.2 α xa xb xc xd xe xf xg xh else aj else aj else bif decide (xi=3)then bif decide ((xe.length:az)≥6)then h2 kr w y z α xa xb xc xd xe xf xg xh xk xl else bif de.c w y z 9 then Lib.lt (de.v w y z 9) λxn=>bif jR.c xn.2.1 xn.2.2.1 xn.2.2.2 then Lib.lt (jR.v xn.2.1 xn.2.2.1 xn.2.2.2) λxo=>kr 1 (bJ (1+xn.1)) xo.1 xl [] xo.2.1 xo.2.2.1 xo.2.2.2 α xa xb xc xd xe xf xg xh else aj else aj else bif decide ((xe.length:az)≥6)then bif decide (xi=1)then h2 kr w y z α xa xb xc xd xe xf xg xh xk xl else bif decide (xi=1)then h3 kr w y z α xa xb xc xd xe xf xg xh xi xl else bif decide (xi=2)then h0 kr w y z α xa xb xc xd xe xf xg xh xi xk xl xm else bif decide (xi=3)then h0 kr w y z α xa xb xc xd xe xf xg xh xi xk xl xm else bif decide (xi=4)then h0 kr w y z α xa xb xc xd xe xf xg xh xi xk xl xm else h1 kr w y z α xa xb xc xd xe xf xg xh xi xj xk xl else bif decide (xi=1)then h3 kr w y z α xa xb xc xd xe xf xg xh xi xl else bif decide (xi=2)then h0 kr w y z α xa xb xc xd xe xf xg xh xi xk xl xm else bif decide (xi=3)then h0 kr w y z α xa xb xc xd xe xf xg xh xi xk xl xm else bif decide (xi=4)then h0 kr w y z α xa xb xc xd xe xf xg xh xi xk xl xm else h1 kr w y z α xa xb xc xd xe xf xg xh xi xj xk xl else bif decide ((xe.length:az)≥6)then bif decide (xi=1)then h2 kr w y z α xa xb xc xd xe xf xg xh xk xl else bif decide (xi=1)then h3 kr w y z α xa xb xc xd xe xf xg xh xi xl else bif decide (xi=2)then h0 kr w y z α xa xb xc xd xe xf xg xh xi xk xl xm else bif decide (xi=3)then h0 kr w y z α xa xb xc xd xe xf xg xh xi xk xl xm else bif decide (xi=4)then h0 kr w y z α xa xb xc xd xe xf xg xh xi xk xl xm else h1 kr w y z α xa xb xc xd xe xf xg xh xi xj xk xl else bif decide (xi=1)then h3 kr w y z α xa xb xc xd xe xf xg xh xi xl else bif decide (xi=2)then h0 kr w y z α xa xb xc xd xe xf xg xh xi xk xl xm else bif decide (xi=3)then h0 kr w y z α xa xb xc xd xe xf xg xh xi xk xl xm else bif decide (xi=4)then h0 kr w y z α xa xb xc xd xe xf xg xh xi xk xl xm else h1 kr w y z α xa xb xc xd xe xf xg xh xi xj xk xl) N f m q 0 u.2.1 u.2.2.1 u.2.2.2.1 h i j l o p r s t f m q 0 0 ⟨#[]⟩ 0 u.1 0 ⟨#[]⟩ 0 (aN [Ck.i ao] 0)else aj
def vo:=b Lib.cW λr0 r1 r2 r3 r4 r5 r6 r7 r8 r9 CM FA r12 r13 r14 r15 r16=>ah (r0,r1,r2,r3,r4,r5,r6,r7,r8,r9,CM,FA,r12,r13,r14,r15,r16)
def c:=λa d e f h i j l m o p q r s t=>(vo a d e f h i j l m o p q r s t).isSome
def v:=λa d e f h i j l m o p q r s t=>(vo a d e f h i j l m o p q r s t).getD (0,0,⟨#[]⟩,0,[],[],0,0,[],[],[],[],[],[],[],[],[])
theorem out{x}:∀a d e f h i j l m o p q r s t,vo a d e f h i j l m o p q r s t=ah x->c a d e f h i j l m o p q r s t=ai/\v a d e f h i j l m o p q r s t=x:=λ_ _ _ _ _ _ _ _ _ _ _ _ _ _ _=>Lib.dc
end uN

namespace mr
def r3(N:aE)(g:qs R)(g1:oh R)(k0:qs R)(k1:oh R)(a:az)(d:aU)(e f h:az):aC R:=bif decide (a<(d.length:az))then bif decide (0<=a)&&decide (a<(d.length:az))then bif cB ((aN [Ck.i ao] 0).length+(iD (ar d a.toNat 0)).length) 8 then g1 (bJ (a+1)) d e f h ([]++ax (aN [Ck.l 3] 1) 0 [CV.l 3 (aN [Ck.i ao] 0++iD (ar d a.toNat 0))])else aj else aj else k0 a d e f h
def z_(N:aE)(g:qs R)(g1:oh R)(k0:qs R)(k1:oh R)(a:az)(d:aU)(e f h:az)(i:aU):aC R:=bif decide (a<(d.length:az))then bif decide (0<=a)&&decide (a<(d.length:az))then bif cB ((aN [Ck.i ao] 0).length+(iD (ar d a.toNat 0)).length) 8 then bif cB (i.length+(ax (aN [Ck.l 3] 1) 0 [CV.l 3 (aN [Ck.i ao] 0++iD (ar d a.toNat 0))]).length) 24 then g1 (bJ (a+1)) d e f h (i++ax (aN [Ck.l 3] 1) 0 [CV.l 3 (aN [Ck.i ao] 0++iD (ar d a.toNat 0))])else aj else aj else aj else k1 a d e f h i
def tW(N:aE)(k0:qs R)(k1:oh R):aE->oh R
 |0=>λ_ _ _ _ _ _=>aj
 |n+1=>z_ N (λx0 x1 x2 x3 x4=>aj) (tW N k0 k1 n) k0 k1
def l3(N:aE)(k0:qs R)(k1:oh R):aE->qs R
 |0=>λ_ _ _ _ _=>aj
 |n+1=>r3 N (l3 N k0 k1 n) (tW N k0 k1 n) k0 k1
def b(N:aE)(kr:tH R)(a:aU)(d:az):aC R:=l3 N (λ_ _ _ _ e=>kr [] e) (λ_ _ _ _ e f=>kr f e) N 0 a d 0 d
def vo:=b Lib.cW λr0 r1=>ah (r0,r1)
def c:=λa d=>(vo a d).isSome
def v:=λa d=>(vo a d).getD ([],0)
theorem out{x}:∀a d,vo a d=ah x->c a d=ai/\v a d=x:=λ_ _=>Lib.dc
end mr

namespace fw
def b(kr:wT R)(a d e:aU)(f:az):aC R:=bif cB ((aN [.s] 0).length+a.length) 16 then bif cB ((aN [.s] 0).length+d.length) 16 then bif mr.c e f then kr (aN [.s] 0++a) (aN [.s] 0++d) (mr.v e f).1 (mr.v e f).2 else aj else aj else aj
def vo:=b λr0 r1 r2 r3=>ah (r0,r1,r2,r3)
def c:=λa d e f=>(vo a d e f).isSome
def v:=λa d e f=>(vo a d e f).getD ([],[],[],0)
theorem out{x}:∀a d e f,vo a d e f=ah x->c a d e f=ai/\v a d e f=x:=λ_ _ _ _=>Lib.dc
end fw

namespace ka
def b(kr:eP R)(a:az)(d e f h:aU)(i:az)(j l:aU)(m:az):aC R:=bif cB ((aN [Ck.s,Ck.i ao,Ck.i ao,Ck.s] 0).length+d.length) 48 then bif fw.c e f h i then bif cB ((aN [Ck.s,Ck.s,Ck.i ao,Ck.i ao,Ck.i ao] 0).length+j.length) 56 then bif cB ((aN [Ck.i ao,Ck.s,Ck.i ao,Ck.i ao,Ck.i ao,Ck.s,Ck.i ao] 0).length+l.length) 72 then kr a (aN [Ck.s,Ck.i ao,Ck.i ao,Ck.s] 0++d) (fw.v e f h i).1 (fw.v e f h i).2.1 (fw.v e f h i).2.2.1 (fw.v e f h i).2.2.2 (aN [Ck.s,Ck.s,Ck.i ao,Ck.i ao,Ck.i ao] 0++j) (aN [Ck.i ao,Ck.s,Ck.i ao,Ck.i ao,Ck.i ao,Ck.s,Ck.i ao] 0++l) m else aj else aj else aj else aj
def vo:=b λr0 r1 r2 r3 r4 r5 r6 r7 r8=>ah (r0,r1,r2,r3,r4,r5,r6,r7,r8)
def c:=λa d e f h i j l m=>(vo a d e f h i j l m).isSome
def v:=λa d e f h i j l m=>(vo a d e f h i j l m).getD (0,[],[],[],[],0,[],[],0)
theorem out{x}:∀a d e f h i j l m,vo a d e f h i j l m=ah x->c a d e f h i j l m=ai/\v a d e f h i j l m=x:=λ_ _ _ _ _ _ _ _ _=>Lib.dc
end ka

namespace kg
def b(kr:aW->aC R)(a d e:az):aC R:=bif decide (a≥d)then kr (decide (a<=e))else kr ak
def v(a0 a1 a2:az):aW:=bif decide (a0≥a1)then decide (a0<=a2)else ak
theorem fJ(kr:aW->aC R)(a0 a1 a2:az):b kr a0 a1 a2=kr (v a0 a1 a2):=by first|rfl|(unfold b v;simp only[cZ];(repeat' split)<;>rfl)
end kg

namespace Gu
def b(kr:aW->aC R)(a:aq):aC R:=kr (kg.v (a.size:az) 1 30)
def v(a0:aq):aW:=(kg.v (a0.size:az) 1 30)
theorem fJ(kr:aW->aC R)(a0:aq):b kr a0=kr (v a0):=by first|rfl|(unfold b v;simp only[cZ];(repeat' split)<;>rfl)
end Gu

namespace iI
def b(kr:aW->aC R)(a:aq)(d e:az)(f:aq):aC R:=bif Gu.v a then bif kg.v d 0 1000000000 then bif kg.v e 1 999999 then kr (decide ((f.size:az)<=400))else kr ak else kr ak else kr ak
def v(a0:aq)(a1 a2:az)(a3:aq):aW:=bif Gu.v a0 then bif kg.v a1 0 1000000000 then bif kg.v a2 1 999999 then decide ((a3.size:az)<=400)else ak else ak else ak
theorem fJ(kr:aW->aC R)(a0:aq)(a1 a2:az)(a3:aq):b kr a0 a1 a2 a3=kr (v a0 a1 a2 a3):=by first|rfl|(unfold b v;simp only[cZ];(repeat' split)<;>rfl)
theorem Gg{k:aq}{s l:az}{b:aq}(h:v k s l b=ai):(1<=k.size/\k.size<=30)/\(0<=s/\s<=1000000000)/\(1<=l/\l<=999999)/\b.size<=400:=by unfold v at h;cases h1:Gu.v k<;>rw[h1]at h<;>simp only[au,aA,dg]at h;cases h2:kg.v s 0 1000000000<;>rw[h2]at h<;>simp only[au,aA,dg]at h;cases h3:kg.v l 1 999999<;>rw[h3]at h<;>simp only[au,aA,dg]at h;simp[Gu.v,kg.v]at h1 h2 h3;have:=cg h;omega
end iI

namespace eT
def r2(N:aE)(g k0 k1:IC R)(a:aU)(d:aq)(e:aW)(f:az):aC R:=bif decide (f<(a.length:az))then bif decide (0<=f)&&decide (f<(a.length:az))then bif db (bQ (ar a f.toNat 0)).toList (aL d)then k0 a d ai f else g a d e (bJ (f+1))else aj else k1 a d e f
def l2(N:aE)(k0 k1:IC R):aE->IC R
 |0=>λ_ _ _ _=>aj
 |n+1=>r2 N (l2 N k0 k1 n) k0 k1
def b(N:aE)(kr:aW->aC R)(a:aU)(d:aq):aC R:=l2 N (λ_ _ e _=>kr e) (λ_ _ _ _=>kr ak) N a d ak 0
def vo:=b Lib.cW λr0=>ah r0
def c:=λa d=>(vo a d).isSome
def v:=λa d=>(vo a d).getD ak
theorem out{x}:∀a d,vo a d=ah x->c a d=ai/\v a d=x:=λ_ _=>Lib.dc
end eT

namespace sd
def b(kr:aW->aC R)(a d e:aU)(f:az)(h:aq):aC R:=bif eT.c a h then bif eT.v a h then kr ai else bif eT.c d h then kr (eT.v d h)else aj else aj
def vo:=b λr0=>ah r0
def c:=λa d e f h=>(vo a d e f h).isSome
def v:=λa d e f h=>(vo a d e f h).getD ak
theorem out{x}:∀a d e f h,vo a d e f h=ah x->c a d e f h=ai/\v a d e f h=x:=λ_ _ _ _ _=>Lib.dc
end sd

namespace e7
def r9(N:aE)(g k0 k1:DU R)(a:aW)(d e:az)(f:aU)(h:az):aC R:=bif decide (0<=d)&&decide (d<(f.length:az))then bif decide (e<((iD (ar f d.toNat 0)).length:az))then bif decide (0<=d)&&decide (d<(f.length:az))then bif decide (0<=e)&&decide (e<((iD (ar f d.toNat 0)).length:az))then bif !kg.v (bZ (ar (iD (ar f d.toNat 0)) e.toNat 0)) 0 15 then k0 ak d e f h else g a d (bJ (e+1)) f h else aj else aj else k1 a d e f h else aj
def l9(N:aE)(k0 k1:DU R):aE->DU R
 |0=>λ_ _ _ _ _=>aj
 |n+1=>r9 N (l9 N k0 k1 n) k0 k1
def r4(N:aE)(g k0 k1:IA R)(a:aW)(d:az)(e:aU)(f:az):aC R:=bif decide (d<(e.length:az))then bif decide (0<=d)&&decide (d<(e.length:az))then bif((iD (ar e d.toNat 0)).length:az) !=16 then k0 ak d e f else l9 N (λh i _ j l=>k0 h i j l) (λh i _ j l=>g h (bJ (i+1)) j l) N a d 0 e f else aj else k1 a d e f
def l4(N:aE)(k0 k1:IA R):aE->IA R
 |0=>λ_ _ _ _=>aj
 |n+1=>r4 N (l4 N k0 k1 n) k0 k1
def b(N:aE)(kr:aW->aC R)(a:aU)(d:az):aC R:=bif(a.length:az) !=3 then kr ak else bif !kg.v d 0 63 then kr ak else l4 N (λe _ _ _=>kr e) (λ_ _ _ _=>kr ai) N ak 0 a d
def vo:=b Lib.cW λr0=>ah r0
def c:=λa d=>(vo a d).isSome
def v:=λa d=>(vo a d).getD ak
theorem out{x}:∀a d,vo a d=ah x->c a d=ai/\v a d=x:=λ_ _=>Lib.dc
end e7

namespace jk
def r3(N:aE)(g k0 k1:wO R)(a:aW)(d:az)(e f h:aU)(i:az)(j:aU):aC R:=bif decide (d<(j.length:az))then bif decide (0<=d)&&decide (d<(j.length:az))then bif !Gu.v (bQ (ar j d.toNat 0))then k0 ak d e f h i j else bif iS 0 d (j.length:az)then bif decide (0<=d)&&decide (d<(j.length:az))then bif eT.c (eu j (aZ 0) d.toNat) (bQ (ar j d.toNat 0))then bif eT.v (eu j (aZ 0) d.toNat) (bQ (ar j d.toNat 0))then k0 ak d e f h i j else g a (bJ (d+1)) e f h i j else aj else aj else aj else aj else k1 a d e f h i j
def l3(N:aE)(k0 k1:wO R):aE->wO R
 |0=>λ_ _ _ _ _ _ _=>aj
 |n+1=>r3 N (l3 N k0 k1 n) k0 k1
def b(N:aE)(kr:aW->aC R)(a d e:aU)(f:az):aC R:=bif cB ((aN [.s] 0).length+a.length) 16 then bif cB ((aN [.s] 0++a).length+d.length) 16 then l3 N (λh _ _ _ _ _ _=>kr h) (λ_ _ h i j l _=>bif decide ((h.length:az)<=2)then bif decide ((i.length:az)<=4)then bif e7.c j l then kr (e7.v j l)else aj else kr ak else kr ak) N ak 0 a d e f (aN [.s] 0++a++d)else aj else aj
def vo:=b Lib.cW λr0=>ah r0
def c:=λa d e f=>(vo a d e f).isSome
def v:=λa d e f=>(vo a d e f).getD ak
theorem out{x}:∀a d e f,vo a d e f=ah x->c a d e f=ai/\v a d e f=x:=λ_ _ _ _=>Lib.dc
end jk

namespace m9
def r2(N:aE)(g k0 k1:gU R)(a:aW)(d e:az)(f h i j:aU)(l:az)(m o:aU)(p:az):aC R:=bif decide (d<(f.length:az))then bif decide (0<=d)&&decide (d<(f.length:az))then bif !iI.v (bQ (ar f d.toNat 0)) (bZ (ar f d.toNat 1)) (bZ (ar f d.toNat (1+1))) (bQ (ar f d.toNat (1+1+1)))then k0 ak d e f h i j l m o p else bif decide (d>0)then bif decide (0<=bJ (d-1))&&decide (bJ (d-1)<(f.length:az))then bif decide (0<=d)&&decide (d<(f.length:az))then bif !Op.bytesLess (bQ (ar f (bJ (d-1)).toNat 0)).toList (bQ (ar f d.toNat 0)).toList then k0 ak d e f h i j l m o p else bif decide (0<=d)&&decide (d<(f.length:az))then bif sd.c h i j l (bQ (ar f d.toNat 0))then bif !sd.v h i j l (bQ (ar f d.toNat 0))then k0 ak d e f h i j l m o p else g a (bJ (d+1)) e f h i j l m o p else aj else aj else aj else aj else bif decide (0<=d)&&decide (d<(f.length:az))then bif sd.c h i j l (bQ (ar f d.toNat 0))then bif !sd.v h i j l (bQ (ar f d.toNat 0))then k0 ak d e f h i j l m o p else g a (bJ (d+1)) e f h i j l m o p else aj else aj else aj else k1 a d e f h i j l m o p
def l2(N:aE)(k0 k1:gU R):aE->gU R
 |0=>λ_ _ _ _ _ _ _ _ _ _ _=>aj
 |n+1=>r2 N (l2 N k0 k1 n) k0 k1
def b(N:aE)(kr:aW->aC R)(a:az)(d e f h:aU)(i:az)(j l:aU)(m:az):aC R:=l2 N (λo _ _ _ _ _ _ _ _ _ _=>kr o) (λ_ _ _ o p q r s _ _ _=>bif jk.c p q r s then bif jk.v p q r s then kr (decide ((o.length:az)=bJ ((p.length:az)+(q.length:az))))else kr ak else aj) N ak 0 a d e f h i j l m
def vo:=b Lib.cW λr0=>ah r0
def c:=λa d e f h i j l m=>(vo a d e f h i j l m).isSome
def v:=λa d e f h i j l m=>(vo a d e f h i j l m).getD ak
theorem out{x}:∀a d e f h i j l m,vo a d e f h i j l m=ah x->c a d e f h i j l m=ai/\v a d e f h i j l m=x:=λ_ _ _ _ _ _ _ _ _=>Lib.dc
end m9

namespace m_
def r5(N:aE)(g k0 k1:kP R)(a:az)(d:aW)(e f:az)(h i j l:aU)(m:az)(o p:aU)(q:az)(r s:aq)(t u w:az):aC R:=bif decide (e<a)then bif decide (0<=e)&&decide (e<(o.length:az))then bif db (bQ (ar o e.toNat 0)).toList (aL r)then bif decide (0<=e)&&decide (e<(o.length:az))then bif decide (bZ (ar o e.toNat 2)=1)then bif decide (t=1)then k0 a ak e f h i j l m o p q r s t u w else g a d (bJ (e+1)) f h i j l m o p q r s t u w else g a d (bJ (e+1)) f h i j l m o p q r s t u w else aj else g a d (bJ (e+1)) f h i j l m o p q r s t u w else aj else k1 a d e f h i j l m o p q r s t u w
def l5(N:aE)(k0 k1:kP R):aE->kP R
 |0=>λ_ _ _ _ _ _ _ _ _ _ _ _ _ _ _ _ _=>aj
 |n+1=>r5 N (l5 N k0 k1 n) k0 k1
def b(N:aE)(kr:aW->aC R)(a:az)(d e f h:aU)(i:az)(j l:aU)(m o:az):aC R:=bif decide (0<=o)&&decide (o<(j.length:az))then bif !Gu.v (bQ (ar j o.toNat 0))then kr ak else bif decide (((bQ (ar j o.toNat 1)).size:az)>400)then kr ak else bif !kg.v (bZ (ar j o.toNat (1+1))) 1 3 then kr ak else bif !kg.v (bZ (ar j o.toNat (1+1+1))) 0 999999 then kr ak else bif !kg.v (bZ (ar j o.toNat (1+1+1+1))) 0 a then kr ak else l5 N (λ_ p _ _ _ _ _ _ _ _ _ _ _ _ _ _ _=>kr p) (λ_ _ _ _ _ _ _ _ _ _ _ _ _ _ _ _ _=>kr ai) N o ak 0 a d e f h i j l m (bQ (ar j o.toNat 0)) (bQ (ar j o.toNat 1)) (bZ (ar j o.toNat (1+1))) (bZ (ar j o.toNat (1+1+1))) (bZ (ar j o.toNat (1+1+1+1)))else aj
def vo:=b Lib.cW λr0=>ah r0
def c:=λa d e f h i j l m o=>(vo a d e f h i j l m o).isSome
def v:=λa d e f h i j l m o=>(vo a d e f h i j l m o).getD ak
theorem out{x}:∀a d e f h i j l m o,vo a d e f h i j l m o=ah x->c a d e f h i j l m o=ai/\v a d e f h i j l m o=x:=λ_ _ _ _ _ _ _ _ _ _=>Lib.dc
end m_

namespace mo
def r9(N:aE)(g k0 k1:gU R)(a:aW)(d e:az)(f h i j:aU)(l:az)(m o:aU)(p:az):aC R:=bif decide (d<(o.length:az))then bif decide (0<=d)&&decide (d<(o.length:az))then bif !kg.v (bZ (ar o d.toNat 0)) 1 9 then k0 ak d e f h i j l m o p else bif decide (d>0)then bif decide (0<=bJ (d-1))&&decide (bJ (d-1)<(o.length:az))then bif decide (bZ (ar o (bJ (d-1)).toNat 0)≥bZ (ar o d.toNat 0))then k0 ak d e f h i j l m o p else bif !Gu.v (bQ (ar o d.toNat 1))then k0 ak d e f h i j l m o p else bif !kg.v (bZ (ar o d.toNat (1+1+1+1))) 1 3 then k0 ak d e f h i j l m o p else bif !kg.v (bZ (ar o d.toNat (1+1))) 0 (m.length:az)then k0 ak d e f h i j l m o p else bif decide (((bQ (ar o d.toNat (1+1+1+1+1))).size:az)>400)then k0 ak d e f h i j l m o p else bif !kg.v (bZ (ar o d.toNat (1+1+1))) 0 e then k0 ak d e f h i j l m o p else bif decide (bZ (ar o d.toNat (1+1+1+1+1+1))<0)then k0 ak d e f h i j l m o p else g a (bJ (d+1)) e f h i j l m o p else aj else bif !Gu.v (bQ (ar o d.toNat 1))then k0 ak d e f h i j l m o p else bif !kg.v (bZ (ar o d.toNat (1+1+1+1))) 1 3 then k0 ak d e f h i j l m o p else bif !kg.v (bZ (ar o d.toNat (1+1))) 0 (m.length:az)then k0 ak d e f h i j l m o p else bif decide (((bQ (ar o d.toNat (1+1+1+1+1))).size:az)>400)then k0 ak d e f h i j l m o p else bif !kg.v (bZ (ar o d.toNat (1+1+1))) 0 e then k0 ak d e f h i j l m o p else bif decide (bZ (ar o d.toNat (1+1+1+1+1+1))<0)then k0 ak d e f h i j l m o p else g a (bJ (d+1)) e f h i j l m o p else aj else k1 a d e f h i j l m o p
def l9(N:aE)(k0 k1:gU R):aE->gU R
 |0=>λ_ _ _ _ _ _ _ _ _ _ _=>aj
 |n+1=>r9 N (l9 N k0 k1 n) k0 k1
def r4(N:aE)(g k0 k1:gU R)(a:aW)(d e:az)(f h i j:aU)(l:az)(m o:aU)(p:az):aC R:=bif decide (d<(m.length:az))then bif m_.c e f h i j l m o p d then bif !m_.v e f h i j l m o p d then k0 ak d e f h i j l m o p else g a (bJ (d+1)) e f h i j l m o p else aj else k1 a d e f h i j l m o p
def l4(N:aE)(k0 k1:gU R):aE->gU R
 |0=>λ_ _ _ _ _ _ _ _ _ _ _=>aj
 |n+1=>r4 N (l4 N k0 k1 n) k0 k1
def b(N:aE)(kr:aW->aC R)(a:az)(d e f h:aU)(i:az)(j l:aU)(m:az):aC R:=bif !kg.v a 1 1000000000 then kr ak else bif m9.c a d e f h i j l m then bif !m9.v a d e f h i j l m then kr ak else bif decide ((j.length:az)>20)then kr ak else bif decide ((l.length:az)>6)then kr ak else bif !kg.v m 0 1000000000 then kr ak else l4 N (λo _ _ _ _ _ _ _ _ _ _=>kr o) (λo _ p q r s t u w y z=>l9 N (λα _ _ _ _ _ _ _ _ _ _=>kr α) (λ_ _ _ _ _ _ _ _ _ _ _=>kr ai) N o 0 p q r s t u w y z) N ak 0 a d e f h i j l m else aj
def vo:=b Lib.cW λr0=>ah r0
def c:=λa d e f h i j l m=>(vo a d e f h i j l m).isSome
def v:=λa d e f h i j l m=>(vo a d e f h i j l m).getD ak
theorem out{x}:∀a d e f h i j l m,vo a d e f h i j l m=ah x->c a d e f h i j l m=ai/\v a d e f h i j l m=x:=λ_ _ _ _ _ _ _ _ _=>Lib.dc
end mo

namespace KR
def r2(N:aE)(g k0 k1:lG R)(a:aq)(d:aW)(e f:az)(h i j l:aU)(m:az)(o p:aU)(q:az)(r:aq)(s t:az)(u:aq):aC R:=bif decide (e<(h.length:az))then bif decide (0<=e)&&decide (e<(h.length:az))then bif db (bQ (ar h e.toNat 0)).toList (aL a)then bif decide (0<=e)&&decide (e<(h.length:az))then k0 a ai e f h i j l m o p q (bQ (ar h e.toNat 0)) (bZ (ar h e.toNat 1)) (bZ (ar h e.toNat (1+1))) (bQ (ar h e.toNat (1+1+1)))else aj else g a d (bJ (e+1)) f h i j l m o p q r s t u else aj else k1 a d e f h i j l m o p q r s t u
def l2(N:aE)(k0 k1:lG R):aE->lG R
 |0=>λ_ _ _ _ _ _ _ _ _ _ _ _ _ _ _ _=>aj
 |n+1=>r2 N (l2 N k0 k1 n) k0 k1
def b(N:aE)(kr:zI R)(a:az)(d e f h:aU)(i:az)(j l:aU)(m:az)(o:aq):aC R:=l2 N (λ_ p _ _ _ _ _ _ _ _ _ _ q r s t=>kr q r s t p) (λ_ _ _ _ _ _ _ _ _ _ _ _ _ _ _ _=>kr ⟨#[]⟩ 0 0 ⟨#[]⟩ ak) N o ak 0 a d e f h i j l m ⟨#[]⟩ 0 0 ⟨#[]⟩
def vo:=b Lib.cW λr0 r1 r2 r3 r4=>ah (r0,r1,r2,r3,r4)
def c:=λa d e f h i j l m o=>(vo a d e f h i j l m o).isSome
def v:=λa d e f h i j l m o=>(vo a d e f h i j l m o).getD (⟨#[]⟩,0,0,⟨#[]⟩,ak)
theorem out{x}:∀a d e f h i j l m o,vo a d e f h i j l m o=ah x->c a d e f h i j l m o=ai/\v a d e f h i j l m o=x:=λ_ _ _ _ _ _ _ _ _ _=>Lib.dc
end KR

namespace Ie
def b(kr:aW->aC R)(a:aq)(d e:az)(f:aq)(h:az):aC R:=bif iI.v a d e f then bif kg.v h d 1000000000 then kr (decide (bJ (h-d)<e))else kr ak else kr ak
def v(a0:aq)(a1 a2:az)(a3:aq)(a4:az):aW:=bif iI.v a0 a1 a2 a3 then bif kg.v a4 a1 1000000000 then decide (bJ (a4-a1)<a2)else ak else ak
theorem fJ(kr:aW->aC R)(a0:aq)(a1 a2:az)(a3:aq)(a4:az):b kr a0 a1 a2 a3 a4=kr (v a0 a1 a2 a3 a4):=by first|rfl|(unfold b v;simp only[cZ];(repeat' split)<;>rfl)
end Ie

namespace jr
def r6(N:aE)(g k0:wS R)(a:az)(d:aq)(e f:az):aC R:=bif decide (f<8)then bif decide (bL a 2=1)then g (bI ed (↑(dM (lF (b9 32 (bI ed (cS a 2))) (b9 32 3558460437))):az)) d e (bJ (f+1))else g (bI ed (cS a 2)) d e (bJ (f+1))else k0 a d e f
def l6(N:aE)(k0:wS R):aE->wS R
 |0=>λ_ _ _ _=>aj
 |n+1=>r6 N (l6 N k0 n) k0
def r2(N:aE)(g k0:CZ R)(a:az)(d:aq)(e:az):aC R:=bif decide (e<(d.size:az))then bif decide (0<=e)&&decide (e<(d.size:az))then l6 N (λf h i _=>g f h (bJ (i+1))) N (bI ed (↑(dM (lF (b9 32 a) (b9 32 (bI ed (↑(iL d e.toNat):az))))):az)) d e 0 else aj else k0 a d e
def l2(N:aE)(k0:CZ R):aE->CZ R
 |0=>λ_ _ _=>aj
 |n+1=>r2 N (l2 N k0 n) k0
def b(N:aE)(kr:az->aC R)(a:az)(d:aq):aC R:=l2 N (λe _ _=>kr e) N a d 0
def vo:=b Lib.cW λr0=>ah r0
def c:=λa d=>(vo a d).isSome
def v:=λa d=>(vo a d).getD (0)
theorem out{x}:∀a d,vo a d=ah x->c a d=ai/\v a d=x:=λ_ _=>Lib.dc
end jr

namespace uQ
def b(kr:az->aC R)(a:aq):aC R:=bif jr.c 4294967295 a then kr (jr.v 4294967295 a)else aj
def vo:=b λr0=>ah r0
def c:=λa=>(vo a).isSome
def v:=λa=>(vo a).getD (0)
theorem out{x}:∀a,vo a=ah x->c a=ai/\v a=x:=λ_=>Lib.dc
end uQ

namespace fY
def b(kr:az->aC R)(a:az)(d:aq):aC R:=bif decide (d.size+(bytesOf (ax (aN [Ck.i bg] 1) 0 [CV.i bg (bI bg a)])).size<=4611686018427387904)then bif uQ.c (d++bytesOf (ax (aN [Ck.i bg] 1) 0 [CV.i bg (bI bg a)]))then kr (bJ (bL (uQ.v (d++bytesOf (ax (aN [Ck.i bg] 1) 0 [CV.i bg (bI bg a)]))) 16))else aj else aj
def vo:=b λr0=>ah r0
def c:=λa d=>(vo a d).isSome
def v:=λa d=>(vo a d).getD (0)
theorem out{x}:∀a d,vo a d=ah x->c a d=ai/\v a d=x:=λ_ _=>Lib.dc
end fY

namespace fg
def r17(N:aE)(g k0:nN R)(a d e f:az)(h:aU):aC R:=bif decide (0<=a)&&decide (a<(h.length:az))then bif decide (d<((iD (ar h a.toNat 0)).length:az))then bif decide (0<=a)&&decide (a<(h.length:az))then bif decide (0<=a)&&decide (a<(h.length:az))then bif decide (0<=d)&&decide (d<((iD (ar h a.toNat 0)).length:az))then bif decide (0<=d)&&decide (d<((iD (ar h a.toNat 0)).length:az))then g a (bJ (d+1)) e f (dV h a.toNat 0 [CV.l 3 (dV (iD (ar h a.toNat 0)) d.toNat 0 [.i .i64 (bJ (cS (bZ (ar (iD (ar h a.toNat 0)) d.toNat 0)) 2))])])else aj else aj else aj else aj else k0 a d e f h else aj
def l17(N:aE)(k0:nN R):aE->nN R
 |0=>λ_ _ _ _ _=>aj
 |n+1=>r17 N (l17 N k0 n) k0
def r14(N:aE)(g k0:kQ R)(a d e:az)(f:aU):aC R:=bif decide (a<(f.length:az))then l17 N (λh _ i j l=>g (bJ (h+1)) i j l) N a 0 d e f else k0 a d e f
def l14(N:aE)(k0:kQ R):aE->kQ R
 |0=>λ_ _ _ _=>aj
 |n+1=>r14 N (l14 N k0 n) k0
def r5(N:aE)(g k0:DZ R)(a:aq)(d e f:az)(h:aU):aC R:=bif decide (d<(h.length:az))then bif fY.c d a then bif decide (0<=d)&&decide (d<(h.length:az))then bif decide (0<=fY.v d a)&&decide (fY.v d a<((iD (ar h d.toNat 0)).length:az))then bif decide (bZ (ar (iD (ar h d.toNat 0)) (fY.v d a).toNat 0)<15)then bif decide (0<=d)&&decide (d<(h.length:az))then bif decide (0<=fY.v d a)&&decide (fY.v d a<((iD (ar h d.toNat 0)).length:az))then bif decide (0<=fY.v d a)&&decide (fY.v d a<((iD (ar h d.toNat 0)).length:az))then g a (bJ (d+1)) e f (dV h d.toNat 0 [CV.l 3 (dV (iD (ar h d.toNat 0)) (fY.v d a).toNat 0 [.i .i64 (bJ (bZ (ar (iD (ar h d.toNat 0)) (fY.v d a).toNat 0)+1))])])else aj else aj else aj else g a (bJ (d+1)) e f h else aj else aj else aj else k0 a d e f h
def l5(N:aE)(k0:DZ R):aE->DZ R
 |0=>λ_ _ _ _ _=>aj
 |n+1=>r5 N (l5 N k0 n) k0
def b(N:aE)(kr:tH R)(a:aU)(d:az)(e:aq):aC R:=bif mr.c a d then bif e7.c a d then bif !e7.v a d then kr (mr.v a d).1 (mr.v a d).2 else l5 N (λ_ _ f h i=>bif decide (bJ (h+1)=64)then l14 N (λ_ _ j l=>kr l j) N 0 f 0 i else kr i (bJ (h+1))) N e 0 0 (mr.v a d).2 (mr.v a d).1 else aj else aj
def vo:=b Lib.cW λr0 r1=>ah (r0,r1)
def c:=λa d e=>(vo a d e).isSome
def v:=λa d e=>(vo a d e).getD ([],0)
theorem out{x}:∀a d e,vo a d e=ah x->c a d e=ai/\v a d e=x:=λ_ _ _=>Lib.dc
end fg

namespace ot
def r3(N:aE)(g k0:wU R)(a:aU)(d:aq)(e:az)(f:aU):aC R:=bif decide (e<(a.length:az))then bif decide (0<=e)&&decide (e<(a.length:az))then bif !List.beq (bQ (ar a e.toNat 0)).toList (aL d)then bif decide (0<=e)&&decide (e<(a.length:az))then bif cB (f.length+(ax (aN [.s] 1) 0 [.s (bQ (ar a e.toNat 0))]).length) 16 then g a d (bJ (e+1)) (f++ax (aN [.s] 1) 0 [.s (bQ (ar a e.toNat 0))])else aj else aj else g a d (bJ (e+1)) f else aj else k0 a d e f
def l3(N:aE)(k0:wU R):aE->wU R
 |0=>λ_ _ _ _=>aj
 |n+1=>r3 N (l3 N k0 n) k0
def b(N:aE)(kr:aU->aC R)(a:aU)(d:aq):aC R:=l3 N (λ_ _ _ e=>kr e) N a d 0 (aN [.s] 0)
def vo:=b Lib.cW λr0=>ah r0
def c:=λa d=>(vo a d).isSome
def v:=λa d=>(vo a d).getD ([])
theorem out{x}:∀a d,vo a d=ah x->c a d=ai/\v a d=x:=λ_ _=>Lib.dc
end ot

namespace lV
def r5(N:aE)(g k0:D0 R)(a:aq)(d e:az)(f:aU)(h:az):aC R:=bif decide (e<(f.length:az))then bif decide (0<=e)&&decide (e<(f.length:az))then bif fY.c e a then bif decide (0<=fY.v e a)&&decide (fY.v e a<((iD (ar f e.toNat 0)).length:az))then bif decide (bZ (ar (iD (ar f e.toNat 0)) (fY.v e a).toNat 0)<d)then g a (bZ (ar (iD (ar f e.toNat 0)) (fY.v e a).toNat 0)) (bJ (e+1)) f h else g a d (bJ (e+1)) f h else aj else aj else aj else k0 a d e f h
def l5(N:aE)(k0:D0 R):aE->D0 R
 |0=>λ_ _ _ _ _=>aj
 |n+1=>r5 N (l5 N k0 n) k0
def b(N:aE)(kr:az->aC R)(a:aU)(d:az)(e:aq):aC R:=bif e7.c a d then bif !e7.v a d then kr 0 else l5 N (λ_ f _ _ _=>kr f) N e 15 0 a d else aj
def vo:=b Lib.cW λr0=>ah r0
def c:=λa d e=>(vo a d e).isSome
def v:=λa d e=>(vo a d e).getD (0)
theorem out{x}:∀a d e,vo a d e=ah x->c a d e=ai/\v a d e=x:=λ_ _ _=>Lib.dc
end lV

namespace jd
def b(kr:Kp R)(a d e:aU)(f:az)(h:aq):aC R:=bif fw.c a d e f then bif jk.c a d e f then bif !jk.v a d e f then kr (fw.v a d e f).1 (fw.v a d e f).2.1 (fw.v a d e f).2.2.1 (fw.v a d e f).2.2.2 ⟨#[]⟩else bif !Gu.v h then kr (fw.v a d e f).1 (fw.v a d e f).2.1 (fw.v a d e f).2.2.1 (fw.v a d e f).2.2.2 ⟨#[]⟩else bif fg.c e f h then bif eT.c a h then bif eT.v a h then bif ot.c a h then bif cB ((ot.v a h).length+(ax (aN [.s] 1) 0 [.s h]).length) 16 then kr (ot.v a h++ax (aN [.s] 1) 0 [.s h]) (fw.v a d e f).2.1 (fg.v e f h).1 (fg.v e f h).2 ⟨#[]⟩else aj else aj else bif eT.c d h then bif eT.v d h then bif ot.c d h then bif cB ((ot.v d h).length+(ax (aN [.s] 1) 0 [.s h]).length) 16 then kr (fw.v a d e f).1 (ot.v d h++ax (aN [.s] 1) 0 [.s h]) (fg.v e f h).1 (fg.v e f h).2 ⟨#[]⟩else aj else aj else bif cB ((fw.v a d e f).1.length+(ax (aN [.s] 1) 0 [.s h]).length) 16 then bif decide ((((fw.v a d e f).1++ax (aN [.s] 1) 0 [.s h]).length:az)<=2)then kr ((fw.v a d e f).1++ax (aN [.s] 1) 0 [.s h]) (fw.v a d e f).2.1 (fg.v e f h).1 (fg.v e f h).2 ⟨#[]⟩else bif decide (0<(((fw.v a d e f).1++ax (aN [.s] 1) 0 [.s h]).length:az))then bif iS 1 (((fw.v a d e f).1++ax (aN [.s] 1) 0 [.s h]).length:az) (((fw.v a d e f).1++ax (aN [.s] 1) 0 [.s h]).length:az)then bif cB ((aN [.s] 0).length+(eu ((fw.v a d e f).1++ax (aN [.s] 1) 0 [.s h]) (aZ 1) (((fw.v a d e f).1++ax (aN [.s] 1) 0 [.s h]).length:az).toNat).length) 16 then bif decide (((fw.v a d e f).2.1.length:az)<4)then bif cB ((fw.v a d e f).2.1.length+(ax (aN [.s] 1) 0 [.s (bQ (ar ((fw.v a d e f).1++ax (aN [.s] 1) 0 [.s h]) (aZ 0) 0))]).length) 16 then kr (aN [.s] 0++eu ((fw.v a d e f).1++ax (aN [.s] 1) 0 [.s h]) (aZ 1) (((fw.v a d e f).1++ax (aN [.s] 1) 0 [.s h]).length:az).toNat) ((fw.v a d e f).2.1++ax (aN [.s] 1) 0 [.s (bQ (ar ((fw.v a d e f).1++ax (aN [.s] 1) 0 [.s h]) (aZ 0) 0))]) (fg.v e f h).1 (fg.v e f h).2 ⟨#[]⟩else aj else bif lV.c (fg.v e f h).1 (fg.v e f h).2 (bQ (ar ((fw.v a d e f).1++ax (aN [.s] 1) 0 [.s h]) (aZ 0) 0))then bif decide (0<((fw.v a d e f).2.1.length:az))then bif lV.c (fg.v e f h).1 (fg.v e f h).2 (bQ (ar (fw.v a d e f).2.1 (aZ 0) 0))then bif decide (lV.v (fg.v e f h).1 (fg.v e f h).2 (bQ (ar ((fw.v a d e f).1++ax (aN [.s] 1) 0 [.s h]) (aZ 0) 0))>lV.v (fg.v e f h).1 (fg.v e f h).2 (bQ (ar (fw.v a d e f).2.1 (aZ 0) 0)))then bif decide (0<((fw.v a d e f).2.1.length:az))then bif iS 1 ((fw.v a d e f).2.1.length:az) ((fw.v a d e f).2.1.length:az)then bif cB ((aN [.s] 0).length+(eu (fw.v a d e f).2.1 (aZ 1) ((fw.v a d e f).2.1.length:az).toNat).length) 16 then bif cB ((aN [.s] 0++eu (fw.v a d e f).2.1 (aZ 1) ((fw.v a d e f).2.1.length:az).toNat).length+(ax (aN [.s] 1) 0 [.s (bQ (ar ((fw.v a d e f).1++ax (aN [.s] 1) 0 [.s h]) (aZ 0) 0))]).length) 16 then kr (aN [.s] 0++eu ((fw.v a d e f).1++ax (aN [.s] 1) 0 [.s h]) (aZ 1) (((fw.v a d e f).1++ax (aN [.s] 1) 0 [.s h]).length:az).toNat) (aN [.s] 0++eu (fw.v a d e f).2.1 (aZ 1) ((fw.v a d e f).2.1.length:az).toNat++ax (aN [.s] 1) 0 [.s (bQ (ar ((fw.v a d e f).1++ax (aN [.s] 1) 0 [.s h]) (aZ 0) 0))]) (fg.v e f h).1 (fg.v e f h).2 (bQ (ar (fw.v a d e f).2.1 (aZ 0) 0))else aj else aj else aj else aj else kr (aN [.s] 0++eu ((fw.v a d e f).1++ax (aN [.s] 1) 0 [.s h]) (aZ 1) (((fw.v a d e f).1++ax (aN [.s] 1) 0 [.s h]).length:az).toNat) (fw.v a d e f).2.1 (fg.v e f h).1 (fg.v e f h).2 (bQ (ar ((fw.v a d e f).1++ax (aN [.s] 1) 0 [.s h]) (aZ 0) 0))else aj else aj else aj else aj else aj else aj else aj else aj else aj else aj else aj else aj
def vo:=b λr0 r1 r2 r3 r4=>ah (r0,r1,r2,r3,r4)
def c:=λa d e f h=>(vo a d e f h).isSome
def v:=λa d e f h=>(vo a d e f h).getD ([],[],[],0,⟨#[]⟩)
theorem out{x}:∀a d e f h,vo a d e f h=ah x->c a d e f h=ai/\v a d e f h=x:=λ_ _ _ _ _=>Lib.dc
end jd

namespace ug
def r9(N:aE)(g k0:kl R)(a:aU)(d e:az)(f:aq)(h i j:az)(l:aq)(m:az)(o:aU):aC R:=bif decide (d<(a.length:az))then bif decide (0<=d)&&decide (d<(a.length:az))then bif decide (bZ (ar a d.toNat 0)>e)then bif decide (0<=d)&&decide (d<(a.length:az))then bif cB (o.length+(ax (aN [Ck.i ao,Ck.s,Ck.i ao,Ck.i ao,Ck.i ao,Ck.s,Ck.i ao] 1) 0 [.i .i64 (bZ (ar a d.toNat 0)), .s (bQ (ar a d.toNat 1)), .i .i64 (bZ (ar a d.toNat (1+1))), .i .i64 (bZ (ar a d.toNat (1+1+1))), .i .i64 (bZ (ar a d.toNat (1+1+1+1))), .s (bQ (ar a d.toNat (1+1+1+1+1))), .i .i64 (bZ (ar a d.toNat (1+1+1+1+1+1)))]).length) 72 then g a (bJ (d+1)) e f h i j l m (o++ax (aN [Ck.i ao,Ck.s,Ck.i ao,Ck.i ao,Ck.i ao,Ck.s,Ck.i ao] 1) 0 [.i .i64 (bZ (ar a d.toNat 0)), .s (bQ (ar a d.toNat 1)), .i .i64 (bZ (ar a d.toNat (1+1))), .i .i64 (bZ (ar a d.toNat (1+1+1))), .i .i64 (bZ (ar a d.toNat (1+1+1+1))), .s (bQ (ar a d.toNat (1+1+1+1+1))), .i .i64 (bZ (ar a d.toNat (1+1+1+1+1+1)))])else aj else aj else g a (bJ (d+1)) e f h i j l m o else aj else k0 a d e f h i j l m o
def l9(N:aE)(k0:kl R):aE->kl R
 |0=>λ_ _ _ _ _ _ _ _ _ _=>aj
 |n+1=>r9 N (l9 N k0 n) k0
def r3(N:aE)(g k0:kl R)(a:aU)(d e:az)(f:aq)(h i j:az)(l:aq)(m:az)(o:aU):aC R:=bif decide (d<(a.length:az))then bif decide (0<=d)&&decide (d<(a.length:az))then bif decide (bZ (ar a d.toNat 0)<e)then bif decide (0<=d)&&decide (d<(a.length:az))then bif cB (o.length+(ax (aN [Ck.i ao,Ck.s,Ck.i ao,Ck.i ao,Ck.i ao,Ck.s,Ck.i ao] 1) 0 [.i .i64 (bZ (ar a d.toNat 0)), .s (bQ (ar a d.toNat 1)), .i .i64 (bZ (ar a d.toNat (1+1))), .i .i64 (bZ (ar a d.toNat (1+1+1))), .i .i64 (bZ (ar a d.toNat (1+1+1+1))), .s (bQ (ar a d.toNat (1+1+1+1+1))), .i .i64 (bZ (ar a d.toNat (1+1+1+1+1+1)))]).length) 72 then g a (bJ (d+1)) e f h i j l m (o++ax (aN [Ck.i ao,Ck.s,Ck.i ao,Ck.i ao,Ck.i ao,Ck.s,Ck.i ao] 1) 0 [.i .i64 (bZ (ar a d.toNat 0)), .s (bQ (ar a d.toNat 1)), .i .i64 (bZ (ar a d.toNat (1+1))), .i .i64 (bZ (ar a d.toNat (1+1+1))), .i .i64 (bZ (ar a d.toNat (1+1+1+1))), .s (bQ (ar a d.toNat (1+1+1+1+1))), .i .i64 (bZ (ar a d.toNat (1+1+1+1+1+1)))])else aj else aj else g a (bJ (d+1)) e f h i j l m o else aj else k0 a d e f h i j l m o
def l3(N:aE)(k0:kl R):aE->kl R
 |0=>λ_ _ _ _ _ _ _ _ _ _=>aj
 |n+1=>r3 N (l3 N k0 n) k0
def b(N:aE)(kr:aU->aC R)(a:aU)(d:az)(e:aq)(f h i:az)(j:aq)(l:az):aC R:=l3 N (λm _ o p q r s t u w=>bif cB (w.length+(ax (aN [Ck.i ao,Ck.s,Ck.i ao,Ck.i ao,Ck.i ao,Ck.s,Ck.i ao] 1) 0 [.i .i64 o, .s p, .i .i64 q, .i .i64 r, .i .i64 s, .s t, .i .i64 u]).length) 72 then l9 N (λ_ _ _ _ _ _ _ _ _ y=>kr y) N m 0 o p q r s t u (w++ax (aN [Ck.i ao,Ck.s,Ck.i ao,Ck.i ao,Ck.i ao,Ck.s,Ck.i ao] 1) 0 [.i .i64 o, .s p, .i .i64 q, .i .i64 r, .i .i64 s, .s t, .i .i64 u])else aj) N a 0 d e f h i j l (aN [Ck.i ao,Ck.s,Ck.i ao,Ck.i ao,Ck.i ao,Ck.s,Ck.i ao] 0)
def vo:=b Lib.cW λr0=>ah r0
def c:=λa d e f h i j l=>(vo a d e f h i j l).isSome
def v:=λa d e f h i j l=>(vo a d e f h i j l).getD ([])
theorem out{x}:∀a d e f h i j l,vo a d e f h i j l=ah x->c a d e f h i j l=ai/\v a d e f h i j l=x:=λ_ _ _ _ _ _ _ _=>Lib.dc
end ug

namespace Ct
def r3(N:aE)(g k0:wU R)(a:aU)(d:aq)(e:az)(f:aU):aC R:=bif decide (e<(a.length:az))then bif decide (0<=e)&&decide (e<(a.length:az))then bif !List.beq (bQ (ar a e.toNat 0)).toList (aL d)then bif decide (0<=e)&&decide (e<(a.length:az))then bif cB (f.length+(ax (aN [Ck.s,Ck.i ao,Ck.i ao,Ck.s] 1) 0 [.s (bQ (ar a e.toNat 0)), .i .i64 (bZ (ar a e.toNat 1)), .i .i64 (bZ (ar a e.toNat (1+1))), .s (bQ (ar a e.toNat (1+1+1)))]).length) 48 then g a d (bJ (e+1)) (f++ax (aN [Ck.s,Ck.i ao,Ck.i ao,Ck.s] 1) 0 [.s (bQ (ar a e.toNat 0)), .i .i64 (bZ (ar a e.toNat 1)), .i .i64 (bZ (ar a e.toNat (1+1))), .s (bQ (ar a e.toNat (1+1+1)))])else aj else aj else g a d (bJ (e+1)) f else aj else k0 a d e f
def l3(N:aE)(k0:wU R):aE->wU R
 |0=>λ_ _ _ _=>aj
 |n+1=>r3 N (l3 N k0 n) k0
def b(N:aE)(kr:aU->aC R)(a:aU)(d:aq):aC R:=l3 N (λ_ _ _ e=>kr e) N a d 0 (aN [Ck.s,Ck.i ao,Ck.i ao,Ck.s] 0)
def vo:=b Lib.cW λr0=>ah r0
def c:=λa d=>(vo a d).isSome
def v:=λa d=>(vo a d).getD ([])
theorem out{x}:∀a d,vo a d=ah x->c a d=ai/\v a d=x:=λ_ _=>Lib.dc
end Ct

namespace Ig
def b(kr:wT R)(a d e:aU)(f:az)(h:aq):aC R:=bif ot.c a h then bif ot.c d h then bif mr.c e f then kr (ot.v a h) (ot.v d h) (mr.v e f).1 (mr.v e f).2 else aj else aj else aj
def vo:=b λr0 r1 r2 r3=>ah (r0,r1,r2,r3)
def c:=λa d e f h=>(vo a d e f h).isSome
def v:=λa d e f h=>(vo a d e f h).getD ([],[],[],0)
theorem out{x}:∀a d e f h,vo a d e f h=ah x->c a d e f h=ai/\v a d e f h=x:=λ_ _ _ _ _=>Lib.dc
end Ig

namespace U9
def r22(N:aE)(g k0:gb R)(a:aq)(d:aW)(e f:az)(h i j l:aU)(m:az)(o p:aU)(q r s t u w y z:az)(α:aq)(xa xb xc:az)(xd:aq)(xe:az)(xf xg xh xi xj xk:aU):aC R:=bif decide (e<(o.length:az))then bif decide (0<=e)&&decide (e<(o.length:az))then bif db (bQ (ar o e.toNat 0)).toList (aL a)then bif decide (0<=e)&&decide (e<(o.length:az))then bif decide (bZ (ar o e.toNat 2)=1)then bif decide (0<=e)&&decide (e<(o.length:az))then g a d (bJ (e+1)) f h i j l m o p q r s t u w y z α (bJ (e+1)) xb xc (bQ (ar o e.toNat 1)) xe xf xg xh xi xj xk else aj else g a d (bJ (e+1)) f h i j l m o p q r s t u w y z α xa xb xc xd xe xf xg xh xi xj xk else aj else g a d (bJ (e+1)) f h i j l m o p q r s t u w y z α xa xb xc xd xe xf xg xh xi xj xk else aj else k0 a d e f h i j l m o p q r s t u w y z α xa xb xc xd xe xf xg xh xi xj xk
def Vu(N:aE)(k0:gb R):aE->gb R
 |0=>λ_ _ _ _ _ _ _ _ _ _ _ _ _ _ _ _ _ _ _ _ _ _ _ _ _ _ _ _ _ _ _=>aj
 |n+1=>r22 N (Vu N k0 n) k0
def r5(N:aE)(g k0 k1:iq R)(a:az)(d:aq)(e f h:az)(i j l m:aU)(o:az)(p q:aU)(r s t u w y z:az)(α xa xb xc xd xe:aU):aC R:=bif decide (f<(q.length:az))then bif decide (0<=f)&&decide (f<(q.length:az))then bif decide (bZ (ar q f.toNat 0)=a)then k0 a d 1 f h i j l m o p q r w y z w y z α xa xb xc xd xe else g a d e (bJ (f+1)) h i j l m o p q r s t u w y z α xa xb xc xd xe else aj else k1 a d e f h i j l m o p q r s t u w y z α xa xb xc xd xe
def l5(N:aE)(k0 k1:iq R):aE->iq R
 |0=>λ_ _ _ _ _ _ _ _ _ _ _ _ _ _ _ _ _ _ _ _ _ _ _ _ _=>aj
 |n+1=>r5 N (l5 N k0 k1 n) k0 k1
def b(N:aE)(kr:qt R)(a:az)(d e f h:aU)(i:az)(j l:aU)(m o:az)(p:aq):aC R:=bif ka.c a d e f h i j l m then Lib.lt (ka.v a d e f h i j l m) λq=>bif mo.c a d e f h i j l m then Lib.lt (mo.v a d e f h i j l m) λr=>bif !r then kr q.1 q.2.1 q.2.2.1 q.2.2.2.1 q.2.2.2.2.1 q.2.2.2.2.2.1 q.2.2.2.2.2.2.1 q.2.2.2.2.2.2.2.1 q.2.2.2.2.2.2.2.2 1 else bif !kg.v o 1 9 then kr q.1 q.2.1 q.2.2.1 q.2.2.2.1 q.2.2.2.2.1 q.2.2.2.2.2.1 q.2.2.2.2.2.2.1 q.2.2.2.2.2.2.2.1 q.2.2.2.2.2.2.2.2 1 else bif !Gu.v p then kr q.1 q.2.1 q.2.2.1 q.2.2.2.1 q.2.2.2.2.1 q.2.2.2.2.2.1 q.2.2.2.2.2.2.1 q.2.2.2.2.2.2.2.1 q.2.2.2.2.2.2.2.2 1 else bif decide ((l.length:az)≥6)then kr q.1 q.2.1 q.2.2.1 q.2.2.2.1 q.2.2.2.2.1 q.2.2.2.2.2.1 q.2.2.2.2.2.2.1 q.2.2.2.2.2.2.2.1 q.2.2.2.2.2.2.2.2 1 else l5 N (λ_ _ s _ _ _ _ _ _ _ _ _ _ t u w _ _ _ y z α xa xb xc=>kr t y z α xa u xb xc w s) (λs t _ _ u w y z α xa xb xc xd xe xf xg xh xi xj xk xl xm xn xo xp=>bif KR.c u w y z α xa xb xc xd t then Lib.lt (KR.v u w y z α xa xb xc xd t) λxq=>bif xq.2.2.2.2 then bif Ie.v xq.1 xq.2.1 xq.2.2.1 xq.2.2.2.1 u then bif jd.c y z α xa t then Lib.lt (jd.v y z α xa t) λxr=>bif decide (xj<1000000000)then bif ug.c xp s t 0 xq.2.1 2 xq.2.2.2.1 (bJ (u-xq.2.1))then Lib.lt (ug.v xp s t 0 xq.2.1 2 xq.2.2.2.1 (bJ (u-xq.2.1))) λxs=>kr xh xk xr.1 xr.2.1 xr.2.2.1 xr.2.2.2.1 xo xs (bJ (xj+1)) 0 else aj else bif ug.c xp s t 0 xq.2.1 2 xq.2.2.2.1 (bJ (u-xq.2.1))then Lib.lt (ug.v xp s t 0 xq.2.1 2 xq.2.2.2.1 (bJ (u-xq.2.1))) λxs=>kr xh xk xr.1 xr.2.1 xr.2.2.1 xr.2.2.2.1 xo xs xj 0 else aj else aj else Vu N (λxr xs _ _ _ _ _ _ _ xt _ _ _ _ _ xu xv xw xx xy xz ya yb yc yd ye yf yg yh yi yj=>bif decide (xz=0)then bif decide ((xt.length:az)≥20)then kr xu ye yf yg yh xv yi yj xw 2 else bif cB (yi.length+(ax (aN [Ck.s,Ck.s,Ck.i ao,Ck.i ao,Ck.i ao] 1) 0 [.s xr, .s ⟨#[]⟩, .i .i64 1, .i .i64 0, .i .i64 0]).length) 56 then bif xs then bif Ct.c ye xr then Lib.lt (Ct.v ye xr) λyk=>bif Ig.c yf yg yh xv xr then Lib.lt (Ig.v yf yg yh xv xr) λyl=>bif fg.c yl.2.2.1 yl.2.2.2 xr then Lib.lt (fg.v yl.2.2.1 yl.2.2.2 xr) λym=>bif ug.c yj xx xy ((yi++ax (aN [Ck.s,Ck.s,Ck.i ao,Ck.i ao,Ck.i ao] 1) 0 [.s xr, .s ⟨#[]⟩, .i .i64 1, .i .i64 0, .i .i64 0]).length:az) ya yb yc yd then Lib.lt (ug.v yj xx xy ((yi++ax (aN [Ck.s,Ck.s,Ck.i ao,Ck.i ao,Ck.i ao] 1) 0 [.s xr, .s ⟨#[]⟩, .i .i64 1, .i .i64 0, .i .i64 0]).length:az) ya yb yc yd) λyn=>kr xu yk yl.1 yl.2.1 ym.1 ym.2 (yi++ax (aN [Ck.s,Ck.s,Ck.i ao,Ck.i ao,Ck.i ao] 1) 0 [.s xr, .s ⟨#[]⟩, .i .i64 1, .i .i64 0, .i .i64 0]) yn xw 0 else aj else aj else aj else aj else bif fg.c yh xv xr then Lib.lt (fg.v yh xv xr) λyk=>bif ug.c yj xx xy ((yi++ax (aN [Ck.s,Ck.s,Ck.i ao,Ck.i ao,Ck.i ao] 1) 0 [.s xr, .s ⟨#[]⟩, .i .i64 1, .i .i64 0, .i .i64 0]).length:az) ya yb yc yd then Lib.lt (ug.v yj xx xy ((yi++ax (aN [Ck.s,Ck.s,Ck.i ao,Ck.i ao,Ck.i ao] 1) 0 [.s xr, .s ⟨#[]⟩, .i .i64 1, .i .i64 0, .i .i64 0]).length:az) ya yb yc yd) λyl=>kr xu ye yf yg yk.1 yk.2 (yi++ax (aN [Ck.s,Ck.s,Ck.i ao,Ck.i ao,Ck.i ao] 1) 0 [.s xr, .s ⟨#[]⟩, .i .i64 1, .i .i64 0, .i .i64 0]) yl xw 0 else aj else aj else aj else bif xs then bif Ct.c ye xr then Lib.lt (Ct.v ye xr) λyk=>bif Ig.c yf yg yh xv xr then Lib.lt (Ig.v yf yg yh xv xr) λyl=>bif fg.c yl.2.2.1 yl.2.2.2 xr then Lib.lt (fg.v yl.2.2.1 yl.2.2.2 xr) λym=>bif ug.c yj xx xy xz ya yb yc yd then Lib.lt (ug.v yj xx xy xz ya yb yc yd) λyn=>kr xu yk yl.1 yl.2.1 ym.1 ym.2 yi yn xw 0 else aj else aj else aj else aj else bif fg.c yh xv xr then Lib.lt (fg.v yh xv xr) λyk=>bif ug.c yj xx xy xz ya yb yc yd then Lib.lt (ug.v yj xx xy xz ya yb yc yd) λyl=>kr xu ye yf yg yk.1 yk.2 yi yl xw 0 else aj else aj) N t xq.2.2.2.2 0 u w y z α xa xb xc xd xe xf xg xh xi xj s t 0 0 1 ⟨#[]⟩ 0 xk xl xm xn xo xp else Vu N (λxr xs _ _ _ _ _ _ _ xt _ _ _ _ _ xu xv xw xx xy xz ya yb yc yd ye yf yg yh yi yj=>bif decide (xz=0)then bif decide ((xt.length:az)≥20)then kr xu ye yf yg yh xv yi yj xw 2 else bif cB (yi.length+(ax (aN [Ck.s,Ck.s,Ck.i ao,Ck.i ao,Ck.i ao] 1) 0 [.s xr, .s ⟨#[]⟩, .i .i64 1, .i .i64 0, .i .i64 0]).length) 56 then bif xs then bif Ct.c ye xr then Lib.lt (Ct.v ye xr) λyk=>bif Ig.c yf yg yh xv xr then Lib.lt (Ig.v yf yg yh xv xr) λyl=>bif fg.c yl.2.2.1 yl.2.2.2 xr then Lib.lt (fg.v yl.2.2.1 yl.2.2.2 xr) λym=>bif ug.c yj xx xy ((yi++ax (aN [Ck.s,Ck.s,Ck.i ao,Ck.i ao,Ck.i ao] 1) 0 [.s xr, .s ⟨#[]⟩, .i .i64 1, .i .i64 0, .i .i64 0]).length:az) ya yb yc yd then Lib.lt (ug.v yj xx xy ((yi++ax (aN [Ck.s,Ck.s,Ck.i ao,Ck.i ao,Ck.i ao] 1) 0 [.s xr, .s ⟨#[]⟩, .i .i64 1, .i .i64 0, .i .i64 0]).length:az) ya yb yc yd) λyn=>kr xu yk yl.1 yl.2.1 ym.1 ym.2 (yi++ax (aN [Ck.s,Ck.s,Ck.i ao,Ck.i ao,Ck.i ao] 1) 0 [.s xr, .s ⟨#[]⟩, .i .i64 1, .i .i64 0, .i .i64 0]) yn xw 0 else aj else aj else aj else aj else bif fg.c yh xv xr then Lib.lt (fg.v yh xv xr) λyk=>bif ug.c yj xx xy ((yi++ax (aN [Ck.s,Ck.s,Ck.i ao,Ck.i ao,Ck.i ao] 1) 0 [.s xr, .s ⟨#[]⟩, .i .i64 1, .i .i64 0, .i .i64 0]).length:az) ya yb yc yd then Lib.lt (ug.v yj xx xy ((yi++ax (aN [Ck.s,Ck.s,Ck.i ao,Ck.i ao,Ck.i ao] 1) 0 [.s xr, .s ⟨#[]⟩, .i .i64 1, .i .i64 0, .i .i64 0]).length:az) ya yb yc yd) λyl=>kr xu ye yf yg yk.1 yk.2 (yi++ax (aN [Ck.s,Ck.s,Ck.i ao,Ck.i ao,Ck.i ao] 1) 0 [.s xr, .s ⟨#[]⟩, .i .i64 1, .i .i64 0, .i .i64 0]) yl xw 0 else aj else aj else aj else bif xs then bif Ct.c ye xr then Lib.lt (Ct.v ye xr) λyk=>bif Ig.c yf yg yh xv xr then Lib.lt (Ig.v yf yg yh xv xr) λyl=>bif fg.c yl.2.2.1 yl.2.2.2 xr then Lib.lt (fg.v yl.2.2.1 yl.2.2.2 xr) λym=>bif ug.c yj xx xy xz ya yb yc yd then Lib.lt (ug.v yj xx xy xz ya yb yc yd) λyn=>kr xu yk yl.1 yl.2.1 ym.1 ym.2 yi yn xw 0 else aj else aj else aj else aj else bif fg.c yh xv xr then Lib.lt (fg.v yh xv xr) λyk=>bif ug.c yj xx xy xz ya yb yc yd then Lib.lt (ug.v yj xx xy xz ya yb yc yd) λyl=>kr xu ye yf yg yk.1 yk.2 yi yl xw 0 else aj else aj) N t xq.2.2.2.2 0 u w y z α xa xb xc xd xe xf xg xh xi xj s t 0 0 1 ⟨#[]⟩ 0 xk xl xm xn xo xp else aj) N o p 0 0 a d e f h i j l m 0 0 0 q.1 q.2.2.2.2.2.1 q.2.2.2.2.2.2.2.2 q.2.1 q.2.2.1 q.2.2.2.1 q.2.2.2.2.1 q.2.2.2.2.2.2.1 q.2.2.2.2.2.2.2.1 else aj else aj
def vo:=b Lib.cW λr0 r1 r2 r3 r4 r5 r6 r7 r8 r9=>ah (r0,r1,r2,r3,r4,r5,r6,r7,r8,r9)
def c:=λa d e f h i j l m o p=>(vo a d e f h i j l m o p).isSome
def v:=λa d e f h i j l m o p=>(vo a d e f h i j l m o p).getD (0,[],[],[],[],0,[],[],0,0)
theorem out{x}:∀a d e f h i j l m o p,vo a d e f h i j l m o p=ah x->c a d e f h i j l m o p=ai/\v a d e f h i j l m o p=x:=λ_ _ _ _ _ _ _ _ _ _ _=>Lib.dc
end U9

namespace tO
def b(kr:aW->aC R)(a:az)(d e f h:aU)(i:az)(j l:aU)(m o:az):aC R:=bif mo.c a d e f h i j l m then bif mo.v a d e f h i j l m then bif kg.v o 0 (bJ ((j.length:az)-1))then bif decide (0<=o)&&decide (o<(j.length:az))then kr (decide (bZ (ar j o.toNat 2)=1))else aj else kr ak else kr ak else aj
def vo:=b λr0=>ah r0
def c:=λa d e f h i j l m o=>(vo a d e f h i j l m o).isSome
def v:=λa d e f h i j l m o=>(vo a d e f h i j l m o).getD ak
theorem out{x}:∀a d e f h i j l m o,vo a d e f h i j l m o=ah x->c a d e f h i j l m o=ai/\v a d e f h i j l m o=x:=λ_ _ _ _ _ _ _ _ _ _=>Lib.dc
end tO

namespace IL
def b(kr:Am R)(a:az)(d:aq)(e:aU):aC R:=bif cB ((aN [Ck.i ao,Ck.i ao] 0).length+e.length) 16 then kr a d (aN [Ck.i ao,Ck.i ao] 0++e)else aj
def v(fM:az)(eI:aq)(dq:aU):az×aq×aU:=(fM,eI,dq)
def c(fM:az)(eI:aq)(dq:aU):aW:=decide (dq.length<=4294967296)
theorem fJ(kr:Am R)(fM:az)(eI:aq)(dq:aU)(hc:c fM eI dq=ai):b kr fM eI dq=kr (v fM eI dq).1 (v fM eI dq).2.1 (v fM eI dq).2.2:=by have h:dq.length<=4294967296:=cg hc;unfold b;rw[show bP (aN [Ck.i ao,Ck.i ao] 0)+dq.length=dq.length by simp[aN],Lib.cC (by omega) (by omega)];rfl
end IL

namespace kU
def r2(N:aE)(g k0 k1:DV R)(a:aW)(d e:az)(f:aq)(h:aU):aC R:=bif decide (d<(h.length:az))then bif decide (0<=d)&&decide (d<(h.length:az))then bif !kg.v (bZ (ar h d.toNat 0)) 1 9 then k0 ak d e f h else bif decide (d>0)then bif decide (0<=bJ (d-1))&&decide (bJ (d-1)<(h.length:az))then bif decide (bZ (ar h (bJ (d-1)).toNat 0)≥bZ (ar h d.toNat 0))then k0 ak d e f h else bif !kg.v (bZ (ar h d.toNat 1)) 0 (f.size:az)then k0 ak d e f h else g a (bJ (d+1)) e f h else aj else bif !kg.v (bZ (ar h d.toNat 1)) 0 (f.size:az)then k0 ak d e f h else g a (bJ (d+1)) e f h else aj else k1 a d e f h
def l2(N:aE)(k0 k1:DV R):aE->DV R
 |0=>λ_ _ _ _ _=>aj
 |n+1=>r2 N (l2 N k0 k1 n) k0 k1
def b(N:aE)(kr:aW->aC R)(a:az)(d:aq)(e:aU):aC R:=l2 N (λf _ _ _ _=>kr f) (λ_ _ f h i=>bif kg.v f 1 3 then bif decide ((h.size:az)<=400)then kr (decide ((i.length:az)<=6))else kr ak else kr ak) N ak 0 a d e
def el(t:aq)(rs:aU)(i:aE):aW:=decide (1<=bZ (ar rs i 0)/\bZ (ar rs i 0)<=9)&&(decide (0<=bZ (ar rs i 1)/\bZ (ar rs i 1)<=t.size)&&(i==0||decide (bZ (ar rs (i-1) 0)<bZ (ar rs i 0))))
def rest(st:az)(t:aq)(rs:aU):aW:=decide (1<=st/\st<=3)&&(decide (t.size<=400)&&decide (rs.length<=6))
def v(fM:az)(eI:aq)(dq:aU):aW:=(cJ dq.length).all (el eI dq)&&rest fM eI dq
theorem mi(n a b:az):kg.v n a b=decide (a<=n/\n<=b):=by unfold kg.v;by_cases h:a<=n<;>by_cases h2:n<=b<;>simp[h,h2]
theorem LP(st:az)(t:aq)(rs:aU){R:Type}(kr:aW->aC R):(bif kg.v st 1 3 then bif decide ((t.size:az)<=400)then kr (decide ((rs.length:az)<=6))else kr ak else kr ak)=kr (rest st t rs):=by
 unfold rest;rw[mi];have e1:decide ((t.size:az)<=400)=decide (t.size<=400):=by rw[cf];omega
 have e2:decide ((rs.length:az)<=6)=decide (rs.length<=6):=by rw[cf];omega
 rw[e1,e2];cases decide (1<=st/\st<=3)<;>cases decide (t.size<=400)<;>rfl
theorem BZ{i:aE}(h:0<i)(hn:i<=9223372036854775807):bJ ((i:az)-1)=((i-1:aE):az):=by rw[jN (by omega) (by omega)];omega
theorem Gz(p:aE->aW){i n:aE}(h:i<n):(lI i (n-i)).all p=(p i&&(lI (i+1) (n-(i+1))).all p):=by rw[show n-i=(n-(i+1))+1 by omega,List.range'_succ,sb]
theorem fJ(kr:aW->aC R)(fM:az)(eI:aq)(dq:aU)(f0:Ge eI)(f1:uD dq):∃N,b N kr fM eI dq=kr (v fM eI dq):=by
 refine⟨dq.length+1, ?_⟩
 unfold b;simp only[LP]
 have:=Lib.gn (λn (i:aE)=>l2 (dq.length+1) (λy5 y6 y7 y8 y9=>kr y5) (λMl yL N9 Gi Xq=>kr (rest N9 Gi Xq)) n ak i fM eI dq) (λi=>dq.length-i) (λi=>i<=dq.length)
  (λi=>kr ((lI i (dq.length-i)).all (el eI dq)&&rest fM eI dq)) (λn i hi=>by
  simp only[l2,r2,Lib.du,Lib.cQ,Lib.eD,bj,mi]
  by_cases h:i<dq.length
  ·rw[Gz _ h];simp only[h,aQ,au,Lib.di h f1.1];cases h1:decide (1<=bZ (ar dq i 0)/\bZ (ar dq i 0)<=9)with
   |false=>left;simp[el,h1]
   |true=>
    simp only[aY,aA];by_cases hz:0<i
    ·have e0:decide ((i:az)>0)=true:=by simp;omega
     have hp:i-1<dq.length:=by omega
     have hi0:(i==0)=false:=by simp;omega
     simp only[e0,au,BZ hz (by have:=f1.1;omega),Lib.cQ,Lib.du,Lib.eD,hp,aQ,aM];cases h2:decide (bZ (ar dq (i-1) 0)≥bZ (ar dq i 0))with
     |true=>
      left;have e3:decide (bZ (ar dq (i-1) 0)<bZ (ar dq i 0))=false:=by simp at h2⊢;omega
      simp[el,e3,hi0]
     |false=>
      have e3:decide (bZ (ar dq (i-1) 0)<bZ (ar dq i 0))=true:=by simp at h2⊢;omega
      cases h3:decide (0<=bZ (ar dq i 1)/\bZ (ar dq i 1)<=eI.size)with
      |false=>left;simp[el,h3]
      |true=>right;exact⟨i+1,h,by omega,by simp only[el,h1,h3,e3,Iz,bj],rfl⟩
    ·have hz:i=0:=by omega
     subst hz;simp only[show decide (((0:aE):az)>0)=ak from rfl,aA];cases h3:decide (0<=bZ (ar dq 0 1)/\bZ (ar dq 0 1)<=eI.size)with
     |false=>left;simp[el,h3]
     |true=>right;exact⟨1,h,by omega,by simp only[el,h1,h3,bj];rfl,rfl⟩
  ·left;have h0:dq.length-i=0:=by omega
   simp only[h,bh,aA,h0,PB,List.all_nil,bj]) (dq.length+1) 0 (by omega) (by omega)
 refine this.trans ?_;unfold v;rw[Cm,<-PC]
end kU

namespace EE
def b(kr:DY R)(a:az)(d:aq)(e:aU)(f:aq):aC R:=bif IL.c a d e then bif !kU.v a d e then kr a d e ak else bif a !=1 then kr a d e ak else bif !kg.v (f.size:az) 1 40 then kr a d e ak else bif decide (bJ ((d.size:az)+(f.size:az))>400)then kr a d e ak else bif decide (d.size+f.size<=4611686018427387904)then kr a (d++f) e ai else aj else aj
def v(fM:az)(eI:aq)(dq:aU)(fZ:aq):az×aq×aU×aW:=
 if kU.v fM eI dq=ai/\fM=1/\1<=fZ.size/\fZ.size<=40/\eI.size+fZ.size<=400 then(fM,eI++fZ,dq,ai)else(fM,eI,dq,ak)
def c(fM:az)(eI:aq)(dq:aU)(fZ:aq):aW:=decide (dq.length<=4294967296)
theorem fJ(kr:DY R)(fM:az)(eI:aq)(dq:aU)(fZ:aq)(hc:c fM eI dq fZ=ai)(f0:Ge eI)(f1:uD dq)(f2:Ge fZ):b kr fM eI dq fZ=kr (v fM eI dq fZ).1 (v fM eI dq fZ).2.1 (v fM eI dq fZ).2.2.1 (v fM eI dq fZ).2.2.2:=by
 have hs1:eI.size<=4611686018427387904:=f0;have Ln:fZ.size<=4611686018427387904:=f2;have e1:IL.c fM eI dq=true:=hc;have e2:∀a b c,kU.v a b c=kU.v a b c:=λ_ _ _=>rfl;have e3:∀n a b,kg.v n a b=decide (a<=n/\n<=b):=kU.mi;unfold b v;rw[e1,e2,e3,au];cases h1:kU.v fM eI dq with
 |false=>simp
 |true=>
  by_cases h2:fM=1
  ·by_cases h3:1<=(fZ.size:az)/\(fZ.size:az)<=40
   ·have e4:bJ ((eI.size:az)+(fZ.size:az))=eI.size+fZ.size:=jN (by omega) (by omega);rw[e4,aF h3];by_cases h4:(eI.size:az)+(fZ.size:az)>400
    ·rw[Lib.AY h4,bH (by omega)];simp[h2]
    ·rw[Lib.GV h4,bw (by refine⟨rfl,h2, ?_, ?_, ?_⟩<;>omega),Lib.AY (show eI.size+fZ.size<=4611686018427387904 by omega)];simp[h2]
   ·rw[aK h3,bH (by omega)];simp
  ·have il:(fM !=1)=true:=bne_iff_ne.mpr h2;rw[bH (by simp[h2]),il];rfl
end EE

namespace rK
def r1(N:aE)(g k0:iH R)(a d e f h i:az)(j l m o p q:aU):aC R:=bif decide (e<(q.length:az))then bif decide (0<=e)&&decide (e<(q.length:az))then bif decide (bZ (ar q e.toNat 2)=bJ (a+1))then bif decide (0<=e)&&decide (e<(q.length:az))then bif decide (bZ (ar q e.toNat 4)=1)then bif decide (0<=a)&&decide (a<(p.length:az))then bif decide (0<=e)&&decide (e<(q.length:az))then bif decide (0<=e)&&decide (e<((dV q e.toNat 5 [.s (bQ (ar p a.toNat 1))]).length:az))then g a d (bJ (e+1)) f h i j l m o p (dV (dV q e.toNat 5 [.s (bQ (ar p a.toNat 1))]) e.toNat 4 [.i .i64 d])else aj else aj else aj else g a d (bJ (e+1)) f h i j l m o p q else aj else g a d (bJ (e+1)) f h i j l m o p q else aj else k0 a d e f h i j l m o p q
def l1(N:aE)(k0:iH R):aE->iH R
 |0=>λ_ _ _ _ _ _ _ _ _ _ _ _=>aj
 |n+1=>r1 N (l1 N k0 n) k0
def b(N:aE)(kr:eP R)(a:az)(d e f h:aU)(i:az)(j l:aU)(m o p:az):aC R:=l1 N (λ_ _ _ q r s t u w y z α=>kr q t u w y r z α s) N o p 0 a i m d e f h j l
def vo:=b Lib.cW λr0 r1 r2 r3 r4 r5 r6 r7 r8=>ah (r0,r1,r2,r3,r4,r5,r6,r7,r8)
def c:=λa d e f h i j l m o p=>(vo a d e f h i j l m o p).isSome
def v:=λa d e f h i j l m o p=>(vo a d e f h i j l m o p).getD (0,[],[],[],[],0,[],[],0)
theorem out{x}:∀a d e f h i j l m o p,vo a d e f h i j l m o p=ah x->c a d e f h i j l m o p=ai/\v a d e f h i j l m o p=x:=λ_ _ _ _ _ _ _ _ _ _ _=>Lib.dc
end rK

namespace Mz
def b(kr:ki R)(a:az)(d e f h:aU)(i:az)(j l:aU)(m o:az)(p:aq):aC R:=bif ka.c a d e f h i j l m then Lib.lt (ka.v a d e f h i j l m) λq=>bif tO.c a d e f h i j l m o then Lib.lt (tO.v a d e f h i j l m o) λr=>bif !r then kr q.1 q.2.1 q.2.2.1 q.2.2.2.1 q.2.2.2.2.1 q.2.2.2.2.2.1 q.2.2.2.2.2.2.1 q.2.2.2.2.2.2.2.1 q.2.2.2.2.2.2.2.2 ak else bif decide (0<=o)&&decide (o<(j.length:az))then bif !(EE.v 1 (bQ (ar j o.toNat 1)) [] p).2.2.2 then kr q.1 q.2.1 q.2.2.1 q.2.2.2.1 q.2.2.2.2.1 q.2.2.2.2.2.1 q.2.2.2.2.2.2.1 q.2.2.2.2.2.2.2.1 q.2.2.2.2.2.2.2.2 ak else bif decide (0<=o)&&decide (o<(q.2.2.2.2.2.2.1.length:az))then bif rK.c q.1 q.2.1 q.2.2.1 q.2.2.2.1 q.2.2.2.2.1 q.2.2.2.2.2.1 (dV q.2.2.2.2.2.2.1 o.toNat 1 [.s (EE.v 1 (bQ (ar j o.toNat 1)) [] p).2.1]) q.2.2.2.2.2.2.2.1 q.2.2.2.2.2.2.2.2 o 1 then Lib.lt (rK.v q.1 q.2.1 q.2.2.1 q.2.2.2.1 q.2.2.2.2.1 q.2.2.2.2.2.1 (dV q.2.2.2.2.2.2.1 o.toNat 1 [.s (EE.v 1 (bQ (ar j o.toNat 1)) [] p).2.1]) q.2.2.2.2.2.2.2.1 q.2.2.2.2.2.2.2.2 o 1) λs=>kr s.1 s.2.1 s.2.2.1 s.2.2.2.1 s.2.2.2.2.1 s.2.2.2.2.2.1 s.2.2.2.2.2.2.1 s.2.2.2.2.2.2.2.1 s.2.2.2.2.2.2.2.2 ai else aj else aj else aj else aj else aj
def vo:=b λr0 r1 r2 r3 r4 r5 r6 r7 r8 r9=>ah (r0,r1,r2,r3,r4,r5,r6,r7,r8,r9)
def c:=λa d e f h i j l m o p=>(vo a d e f h i j l m o p).isSome
def v:=λa d e f h i j l m o p=>(vo a d e f h i j l m o p).getD (0,[],[],[],[],0,[],[],0,ak)
theorem out{x}:∀a d e f h i j l m o p,vo a d e f h i j l m o p=ah x->c a d e f h i j l m o p=ai/\v a d e f h i j l m o p=x:=λ_ _ _ _ _ _ _ _ _ _ _=>Lib.dc
end Mz

namespace fI
def r9(N:aE)(g k0:n5 R)(a:aU)(d:az)(e:aq)(f h:az)(i:aq)(j:aU):aC R:=bif decide (d<(a.length:az))then bif decide (0<=d)&&decide (d<(a.length:az))then bif !(b_ (bQ (ar a d.toNat 0)).toList (aL e)||List.beq (bQ (ar a d.toNat 0)).toList (aL e))then bif decide (0<=d)&&decide (d<(a.length:az))then bif cB (j.length+(ax (aN [Ck.s,Ck.i ao,Ck.i ao,Ck.s] 1) 0 [.s (bQ (ar a d.toNat 0)), .i .i64 (bZ (ar a d.toNat 1)), .i .i64 (bZ (ar a d.toNat (1+1))), .s (bQ (ar a d.toNat (1+1+1)))]).length) 48 then g a (bJ (d+1)) e f h i (j++ax (aN [Ck.s,Ck.i ao,Ck.i ao,Ck.s] 1) 0 [.s (bQ (ar a d.toNat 0)), .i .i64 (bZ (ar a d.toNat 1)), .i .i64 (bZ (ar a d.toNat (1+1))), .s (bQ (ar a d.toNat (1+1+1)))])else aj else aj else g a (bJ (d+1)) e f h i j else aj else k0 a d e f h i j
def l9(N:aE)(k0:n5 R):aE->n5 R
 |0=>λ_ _ _ _ _ _ _=>aj
 |n+1=>r9 N (l9 N k0 n) k0
def r3(N:aE)(g k0:n5 R)(a:aU)(d:az)(e:aq)(f h:az)(i:aq)(j:aU):aC R:=bif decide (d<(a.length:az))then bif decide (0<=d)&&decide (d<(a.length:az))then bif b_ (bQ (ar a d.toNat 0)).toList (aL e)then bif decide (0<=d)&&decide (d<(a.length:az))then bif cB (j.length+(ax (aN [Ck.s,Ck.i ao,Ck.i ao,Ck.s] 1) 0 [.s (bQ (ar a d.toNat 0)), .i .i64 (bZ (ar a d.toNat 1)), .i .i64 (bZ (ar a d.toNat (1+1))), .s (bQ (ar a d.toNat (1+1+1)))]).length) 48 then g a (bJ (d+1)) e f h i (j++ax (aN [Ck.s,Ck.i ao,Ck.i ao,Ck.s] 1) 0 [.s (bQ (ar a d.toNat 0)), .i .i64 (bZ (ar a d.toNat 1)), .i .i64 (bZ (ar a d.toNat (1+1))), .s (bQ (ar a d.toNat (1+1+1)))])else aj else aj else g a (bJ (d+1)) e f h i j else aj else k0 a d e f h i j
def l3(N:aE)(k0:n5 R):aE->n5 R
 |0=>λ_ _ _ _ _ _ _=>aj
 |n+1=>r3 N (l3 N k0 n) k0
def b(N:aE)(kr:aU->aC R)(a:aU)(d:aq)(e f:az)(h:aq):aC R:=l3 N (λi _ j l m o p=>bif cB (p.length+(ax (aN [Ck.s,Ck.i ao,Ck.i ao,Ck.s] 1) 0 [.s j, .i .i64 l, .i .i64 m, .s o]).length) 48 then l9 N (λ_ _ _ _ _ _ q=>kr q) N i 0 j l m o (p++ax (aN [Ck.s,Ck.i ao,Ck.i ao,Ck.s] 1) 0 [.s j, .i .i64 l, .i .i64 m, .s o])else aj) N a 0 d e f h (aN [Ck.s,Ck.i ao,Ck.i ao,Ck.s] 0)
def vo:=b Lib.cW λr0=>ah r0
def c:=λa d e f h=>(vo a d e f h).isSome
def v:=λa d e f h=>(vo a d e f h).getD ([])
theorem out{x}:∀a d e f h,vo a d e f h=ah x->c a d e f h=ai/\v a d e f h=x:=λ_ _ _ _ _=>Lib.dc
end fI

namespace xV
def b(kr:eP R)(a:az)(d e f h:aU)(i:az)(j l:aU)(m:az)(o:aq)(p q:az)(r:aq):aC R:=bif jd.c e f h i o then Lib.lt (jd.v e f h i o) λs=>bif !List.beq (aL s.2.2.2.2) (aL ⟨#[]⟩)then bif Ct.c d s.2.2.2.2 then Lib.lt (Ct.v d s.2.2.2.2) λt=>bif sd.c s.1 s.2.1 s.2.2.1 s.2.2.2.1 o then Lib.lt (sd.v s.1 s.2.1 s.2.2.1 s.2.2.2.1 o) λu=>bif u then bif fI.c t o p q r then Lib.lt (fI.v t o p q r) λw=>kr a w s.1 s.2.1 s.2.2.1 s.2.2.2.1 j l m else aj else kr a t s.1 s.2.1 s.2.2.1 s.2.2.2.1 j l m else aj else aj else bif sd.c s.1 s.2.1 s.2.2.1 s.2.2.2.1 o then Lib.lt (sd.v s.1 s.2.1 s.2.2.1 s.2.2.2.1 o) λt=>bif t then bif fI.c d o p q r then Lib.lt (fI.v d o p q r) λu=>kr a u s.1 s.2.1 s.2.2.1 s.2.2.2.1 j l m else aj else kr a d s.1 s.2.1 s.2.2.1 s.2.2.2.1 j l m else aj else aj
def vo:=b λr0 r1 r2 r3 r4 r5 r6 r7 r8=>ah (r0,r1,r2,r3,r4,r5,r6,r7,r8)
def c:=λa d e f h i j l m o p q r=>(vo a d e f h i j l m o p q r).isSome
def v:=λa d e f h i j l m o p q r=>(vo a d e f h i j l m o p q r).getD (0,[],[],[],[],0,[],[],0)
theorem out{x}:∀a d e f h i j l m o p q r,vo a d e f h i j l m o p q r=ah x->c a d e f h i j l m o p q r=ai/\v a d e f h i j l m o p q r=x:=λ_ _ _ _ _ _ _ _ _ _ _ _ _=>Lib.dc
end xV

namespace MA
def b(kr:ki R)(a:az)(d e f h:aU)(i:az)(j l:aU)(m o p:az):aC R:=bif ka.c a d e f h i j l m then Lib.lt (ka.v a d e f h i j l m) λq=>bif tO.c a d e f h i j l m o then Lib.lt (tO.v a d e f h i j l m o) λr=>bif !r then kr q.1 q.2.1 q.2.2.1 q.2.2.2.1 q.2.2.2.2.1 q.2.2.2.2.2.1 q.2.2.2.2.2.2.1 q.2.2.2.2.2.2.2.1 q.2.2.2.2.2.2.2.2 ak else bif !kg.v p 0 999999 then kr q.1 q.2.1 q.2.2.1 q.2.2.2.1 q.2.2.2.2.1 q.2.2.2.2.2.1 q.2.2.2.2.2.2.1 q.2.2.2.2.2.2.2.1 q.2.2.2.2.2.2.2.2 ak else bif decide (0<=o)&&decide (o<(j.length:az))then bif decide (0<=o)&&decide (o<(q.2.2.2.2.2.2.1.length:az))then bif rK.c q.1 q.2.1 q.2.2.1 q.2.2.2.1 q.2.2.2.2.1 q.2.2.2.2.2.1 (dV q.2.2.2.2.2.2.1 o.toNat 0 [.s (bQ (ar j o.toNat 0)), .s (bQ (ar j o.toNat 1)), .i .i64 2, .i .i64 p, .i .i64 a]) q.2.2.2.2.2.2.2.1 q.2.2.2.2.2.2.2.2 o 2 then Lib.lt (rK.v q.1 q.2.1 q.2.2.1 q.2.2.2.1 q.2.2.2.2.1 q.2.2.2.2.2.1 (dV q.2.2.2.2.2.2.1 o.toNat 0 [.s (bQ (ar j o.toNat 0)), .s (bQ (ar j o.toNat 1)), .i .i64 2, .i .i64 p, .i .i64 a]) q.2.2.2.2.2.2.2.1 q.2.2.2.2.2.2.2.2 o 2) λs=>bif decide (p>0)then bif xV.c s.1 s.2.1 s.2.2.1 s.2.2.2.1 s.2.2.2.2.1 s.2.2.2.2.2.1 s.2.2.2.2.2.2.1 s.2.2.2.2.2.2.2.1 s.2.2.2.2.2.2.2.2 (bQ (ar j o.toNat 0)) a p (bQ (ar j o.toNat 1))then Lib.lt (xV.v s.1 s.2.1 s.2.2.1 s.2.2.2.1 s.2.2.2.2.1 s.2.2.2.2.2.1 s.2.2.2.2.2.2.1 s.2.2.2.2.2.2.2.1 s.2.2.2.2.2.2.2.2 (bQ (ar j o.toNat 0)) a p (bQ (ar j o.toNat 1))) λt=>kr t.1 t.2.1 t.2.2.1 t.2.2.2.1 t.2.2.2.2.1 t.2.2.2.2.2.1 t.2.2.2.2.2.2.1 t.2.2.2.2.2.2.2.1 t.2.2.2.2.2.2.2.2 ai else aj else kr s.1 s.2.1 s.2.2.1 s.2.2.2.1 s.2.2.2.2.1 s.2.2.2.2.2.1 s.2.2.2.2.2.2.1 s.2.2.2.2.2.2.2.1 s.2.2.2.2.2.2.2.2 ai else aj else aj else aj else aj else aj
def vo:=b λr0 r1 r2 r3 r4 r5 r6 r7 r8 r9=>ah (r0,r1,r2,r3,r4,r5,r6,r7,r8,r9)
def c:=λa d e f h i j l m o p=>(vo a d e f h i j l m o p).isSome
def v:=λa d e f h i j l m o p=>(vo a d e f h i j l m o p).getD (0,[],[],[],[],0,[],[],0,ak)
theorem out{x}:∀a d e f h i j l m o p,vo a d e f h i j l m o p=ah x->c a d e f h i j l m o p=ai/\v a d e f h i j l m o p=x:=λ_ _ _ _ _ _ _ _ _ _ _=>Lib.dc
end MA

namespace jT
def r2(N:aE)(g k0:DX R)(a:az)(d:aU):aC R:=bif decide (a>127)then bif cB (d.length+(ax (aN [Ck.i bg] 1) 0 [CV.i bg (bI bg (bJ (bL a 128+128)))]).length) 1 then g (bJ (cS a 128)) (d++ax (aN [Ck.i bg] 1) 0 [CV.i bg (bI bg (bJ (bL a 128+128)))])else aj else k0 a d
def l2(N:aE)(k0:DX R):aE->DX R
 |0=>λ_ _=>aj
 |n+1=>r2 N (l2 N k0 n) k0
def b(N:aE)(kr:aq->aC R)(a:az):aC R:=l2 N (λd e=>bif cB (e.length+(ax (aN [Ck.i bg] 1) 0 [CV.i bg (bI bg d)]).length) 1 then bif decide ((e++ax (aN [Ck.i bg] 1) 0 [CV.i bg (bI bg d)]).length<=4611686018427387904)then kr (bytesOf (e++ax (aN [Ck.i bg] 1) 0 [CV.i bg (bI bg d)]))else aj else aj) N a (aN [Ck.i bg] 0)
def v(n0:az):aq:=bytesOf (Lib.vb n0)
def c(n0:az):aW:=decide (n0<=9223372036854775807)
theorem fJ(kr:aq->aC R)(n0:az)(hc:c n0=ai):∃N,b N kr n0=kr (v n0):=by
 refine⟨n0.toNat+1, ?_⟩
 refine Lib.Xl (λn x acc=>l2 (n0.toNat+1) _ n x acc) kr (λn x acc h hl=> ?_) (λn x acc h hl=> ?_) n0 (cg hc)
 ·simp only[l2,r2,h,aQ,au,Lib.j8,show acc.length+bP [[CV.i bg (bI bg (bJ (bL x 128+128)))]]=acc.length+1 from rfl,Lib.J5 (show acc.length+1<=140737488355328 by omega),show decide ((128:az)=0)=ak from rfl,vp,bV]
 ·simp only[l2,r2,h,bh,aA,Lib.j8,show acc.length+bP [[CV.i bg (bI bg x)]]=acc.length+1 from rfl,Lib.J5 (show acc.length+1<=140737488355328 by omega),au];exact Lib.AP (Lib.AY (by rw[bW,bB];omega))
end jT

namespace jI
def b(kr:Mu R)(a:aq)(d e:az)(f:aq):aC R:=bif !iI.v a d e f then kr ⟨#[]⟩ ak else bif jT.c (a.size:az)then bif decide ((jT.v (a.size:az)).size+a.size<=4611686018427387904)then bif jT.c d then bif decide ((jT.v (a.size:az)++a).size+(jT.v d).size<=4611686018427387904)then bif jT.c e then bif decide ((jT.v (a.size:az)++a++jT.v d).size+(jT.v e).size<=4611686018427387904)then bif decide ((jT.v (a.size:az)++a++jT.v d++jT.v e).size+f.size<=4611686018427387904)then kr (jT.v (a.size:az)++a++jT.v d++jT.v e++f) ai else aj else aj else aj else aj else aj else aj else aj
def rU(k:aq)(s l:az)(b:aq):aq:=bytesOf (Lib.vb k.size)++k++bytesOf (Lib.vb s)++bytesOf (Lib.vb l)++b
def v(Cx:aq)(Cy:az)(Cz:az)(Ja:aq):aq×aW:=if iI.v Cx Cy Cz Ja=ai then(rU Cx Cy Cz Ja,ai)else(⟨#[]⟩,ak)
theorem fJ(kr:Mu R)(Cx:aq)(Cy:az)(Cz:az)(Ja:aq):b kr Cx Cy Cz Ja=kr (v Cx Cy Cz Ja).1 (v Cx Cy Cz Ja).2:=by
 unfold b v;cases h:iI.v Cx Cy Cz Ja with
 |false=>rfl
 |true=>have hr:=iI.Gg h;have cc:∀x:az,x<=9223372036854775807->jT.c x=true:=λx hx=>aF hx;have z1:(jT.v (Cx.size:az)).size<=64:=Lib.nr (x:=(Cx.size:az)) (by omega);have z2:(jT.v Cy).size<=64:=Lib.nr (x:=Cy) (by omega);have z3:(jT.v Cz).size<=64:=Lib.nr (x:=Cz) (by omega);simp(disch:=omega) only[aY,aA,cc _ (show(Cx.size:az)<=9223372036854775807 by omega),cc Cy (by omega),cc Cz (by omega),au,if_true,Lib.lx,Lib.afw];rfl
end jI

namespace oX
def b(kr:aq->aC R)(a:az):aC R:=kr (bytesOf (ax (ax (ax (ax (aN [Ck.i bg] 4) 0 [CV.i bg (bI bg (kJ a (g6 2 (if aZ 24<=32 then aZ 24 else 32))))]) 1 [CV.i bg (bI bg (kJ a (g6 2 (if aZ 16<=32 then aZ 16 else 32))))]) 2 [CV.i bg (bI bg (kJ a (g6 2 (if aZ 8<=32 then aZ 8 else 32))))]) 3 [CV.i bg (bI bg a)]))
def v(a0:az):aq:=(bytesOf (ax (ax (ax (ax (aN [Ck.i bg] 4) 0 [CV.i bg (bI bg (kJ a0 (g6 2 (if aZ 24<=32 then aZ 24 else 32))))]) 1 [CV.i bg (bI bg (kJ a0 (g6 2 (if aZ 16<=32 then aZ 16 else 32))))]) 2 [CV.i bg (bI bg (kJ a0 (g6 2 (if aZ 8<=32 then aZ 8 else 32))))]) 3 [CV.i bg (bI bg a0)]))
theorem fJ(kr:aq->aC R)(a0:az):b kr a0=kr (v a0):=by first|rfl|(unfold b v;simp only[cZ];(repeat' split)<;>rfl)
end oX

namespace fT
def b(kr:Mu R)(a:aq):aC R:=bif !kg.v (a.size:az) 1 9000 then kr ⟨#[]⟩ ak else bif jT.c (a.size:az)then bif uQ.c a then bif decide ((jT.v (a.size:az)).size+(oX.v (uQ.v a)).size<=4611686018427387904)then bif decide ((jT.v (a.size:az)++oX.v (uQ.v a)).size+a.size<=4611686018427387904)then kr (jT.v (a.size:az)++oX.v (uQ.v a)++a) ai else aj else aj else aj else aj
def vo:=b λr0 r1=>ah (r0,r1)
def c:=λa=>(vo a).isSome
def v:=λa=>(vo a).getD (⟨#[]⟩,ak)
theorem out{x}:∀a,vo a=ah x->c a=ai/\v a=x:=λ_=>Lib.dc
end fT

namespace Cs
def b(kr:Mt R)(a:aq)(d e:az)(f:aq):aC R:=bif fT.c (jI.v a d e f).1 then bif !(jI.v a d e f).2 then kr (aN [Ck.i ao,Ck.s,Ck.s,Ck.s] 0) ak else bif !(fT.v (jI.v a d e f).1).2 then kr (aN [Ck.i ao,Ck.s,Ck.s,Ck.s] 0) ak else kr (ax (ax (aN [Ck.i ao,Ck.s,Ck.s,Ck.s] 2) 0 [.i .i64 1, .s {data:= #[aw 107,aw 101,aw 112,aw 116]}, .s (fT.v (jI.v a d e f).1).1, .s ⟨#[]⟩]) 1 [.i .i64 2, .s {data:= #[aw 107,aw 101,aw 112,aw 116]}, .s ⟨#[]⟩, .s ⟨#[]⟩]) ai else aj
def vo:=b λr0 r1=>ah (r0,r1)
def c:=λa d e f=>(vo a d e f).isSome
def v:=λa d e f=>(vo a d e f).getD ([],ak)
theorem out{x}:∀a d e f,vo a d e f=ah x->c a d e f=ai/\v a d e f=x:=λ_ _ _ _=>Lib.dc
end Cs

namespace uS
def b(kr:aW->aC R)(a:aq):aC R:=kr (kg.v (a.size:az) 1 8)
def v(a0:aq):aW:=(kg.v (a0.size:az) 1 8)
theorem fJ(kr:aW->aC R)(a0:aq):b kr a0=kr (v a0):=by first|rfl|(unfold b v;simp only[cZ];(repeat' split)<;>rfl)
end uS

namespace fy
def r4(N:aE)(g k0 k1:Oc R)(a:aW)(d:az)(e:aU):aC R:=bif decide (d<(e.length:az))then bif decide (0<=d)&&decide (d<(e.length:az))then bif !uS.v (bQ (ar e d.toNat 0))then k0 ak d e else bif decide (((bQ (ar e d.toNat 1)).size:az)>20000)then k0 ak d e else bif !kg.v (bZ (ar e d.toNat (1+1))) 0 ((bQ (ar e d.toNat 1)).size:az)then k0 ak d e else bif decide (d>0)then bif decide (0<=bJ (d-1))&&decide (bJ (d-1)<(e.length:az))then bif !Op.bytesLess (bQ (ar e (bJ (d-1)).toNat 0)).toList (bQ (ar e d.toNat 0)).toList then k0 ak d e else g a (bJ (d+1)) e else aj else g a (bJ (d+1)) e else aj else k1 a d e
def l4(N:aE)(k0 k1:Oc R):aE->Oc R
 |0=>λ_ _ _=>aj
 |n+1=>r4 N (l4 N k0 k1 n) k0 k1
def b(N:aE)(kr:aW->aC R)(a:aU):aC R:=bif decide ((a.length:az)>30)then kr ak else l4 N (λd _ _=>kr d) (λ_ _ _=>kr ai) N ak 0 a
def vo:=b Lib.cW λr0=>ah r0
def c:=λa=>(vo a).isSome
def v:=λa=>(vo a).getD ak
theorem out{x}:∀a,vo a=ah x->c a=ai/\v a=x:=λ_=>Lib.dc
end fy

namespace jS
def r2(N:aE)(g k0 k1:nv R)(a:aq)(d e:az)(f:aU):aC R:=bif decide (e<(f.length:az))then bif decide (0<=e)&&decide (e<(f.length:az))then bif db (bQ (ar f e.toNat 0)).toList (aL a)then k0 a e e f else g a d (bJ (e+1)) f else aj else k1 a d e f
def l2(N:aE)(k0 k1:nv R):aE->nv R
 |0=>λ_ _ _ _=>aj
 |n+1=>r2 N (l2 N k0 k1 n) k0 k1
def b(N:aE)(kr:az->aC R)(a:aU)(d:aq):aC R:=l2 N (λ_ e _ _=>kr e) (λ_ _ _ _=>kr (-1)) N d 0 0 a
def vo:=b Lib.cW λr0=>ah r0
def c:=λa d=>(vo a d).isSome
def v:=λa d=>(vo a d).getD (0)
theorem out{x}:∀a d,vo a d=ah x->c a d=ai/\v a d=x:=λ_ _=>Lib.dc
end jS

namespace kB
def r9(N:aE)(g k0:k8 R)(a:az)(d:aU)(e f:aq)(h:az)(i:aU):aC R:=bif decide (a<(d.length:az))then bif decide (0<=a)&&decide (a<(d.length:az))then bif !(b_ (bQ (ar d a.toNat 0)).toList (aL e)||List.beq (bQ (ar d a.toNat 0)).toList (aL e))then bif decide (0<=a)&&decide (a<(d.length:az))then bif cB (i.length+(ax (aN [Ck.s,Ck.s,Ck.i ao] 1) 0 [.s (bQ (ar d a.toNat 0)), .s (bQ (ar d a.toNat 1)), .i .i64 (bZ (ar d a.toNat (1+1)))]).length) 40 then g (bJ (a+1)) d e f h (i++ax (aN [Ck.s,Ck.s,Ck.i ao] 1) 0 [.s (bQ (ar d a.toNat 0)), .s (bQ (ar d a.toNat 1)), .i .i64 (bZ (ar d a.toNat (1+1)))])else aj else aj else g (bJ (a+1)) d e f h i else aj else k0 a d e f h i
def l9(N:aE)(k0:k8 R):aE->k8 R
 |0=>λ_ _ _ _ _ _=>aj
 |n+1=>r9 N (l9 N k0 n) k0
def r3(N:aE)(g:qu R)(g1:k8 R)(k0:qu R)(k1:k8 R)(a:az)(d:aU)(e f:aq)(h:az):aC R:=bif decide (a<(d.length:az))then bif decide (0<=a)&&decide (a<(d.length:az))then bif b_ (bQ (ar d a.toNat 0)).toList (aL e)then bif decide (0<=a)&&decide (a<(d.length:az))then g1 (bJ (a+1)) d e f h ([]++ax (aN [Ck.s,Ck.s,Ck.i ao] 1) 0 [.s (bQ (ar d a.toNat 0)), .s (bQ (ar d a.toNat 1)), .i .i64 (bZ (ar d a.toNat (1+1)))])else aj else g (bJ (a+1)) d e f h else aj else k0 a d e f h
def z_(N:aE)(g:qu R)(g1:k8 R)(k0:qu R)(k1:k8 R)(a:az)(d:aU)(e f:aq)(h:az)(i:aU):aC R:=bif decide (a<(d.length:az))then bif decide (0<=a)&&decide (a<(d.length:az))then bif b_ (bQ (ar d a.toNat 0)).toList (aL e)then bif decide (0<=a)&&decide (a<(d.length:az))then bif cB (i.length+(ax (aN [Ck.s,Ck.s,Ck.i ao] 1) 0 [.s (bQ (ar d a.toNat 0)), .s (bQ (ar d a.toNat 1)), .i .i64 (bZ (ar d a.toNat (1+1)))]).length) 40 then g1 (bJ (a+1)) d e f h (i++ax (aN [Ck.s,Ck.s,Ck.i ao] 1) 0 [.s (bQ (ar d a.toNat 0)), .s (bQ (ar d a.toNat 1)), .i .i64 (bZ (ar d a.toNat (1+1)))])else aj else aj else g1 (bJ (a+1)) d e f h i else aj else k1 a d e f h i
def tW(N:aE)(k0:qu R)(k1:k8 R):aE->k8 R
 |0=>λ_ _ _ _ _ _=>aj
 |n+1=>z_ N (λx0 x1 x2 x3 x4=>aj) (tW N k0 k1 n) k0 k1
def l3(N:aE)(k0:qu R)(k1:k8 R):aE->qu R
 |0=>λ_ _ _ _ _=>aj
 |n+1=>r3 N (l3 N k0 k1 n) (tW N k0 k1 n) k0 k1
def b(N:aE)(kr:aU->aC R)(a:aU)(d e:aq)(f:az):aC R:=l3 N (λ_ h i j l=>l9 N (λ_ _ _ _ _ m=>kr m) N 0 h i j l ([]++ax (aN [Ck.s,Ck.s,Ck.i ao] 1) 0 [.s i, .s j, .i .i64 l])) (λ_ h i j l m=>bif cB (m.length+(ax (aN [Ck.s,Ck.s,Ck.i ao] 1) 0 [.s i, .s j, .i .i64 l]).length) 40 then l9 N (λ_ _ _ _ _ o=>kr o) N 0 h i j l (m++ax (aN [Ck.s,Ck.s,Ck.i ao] 1) 0 [.s i, .s j, .i .i64 l])else aj) N 0 a d e f
def vo:=b Lib.cW λr0=>ah r0
def c:=λa d e f=>(vo a d e f).isSome
def v:=λa d e f=>(vo a d e f).getD ([])
theorem out{x}:∀a d e f,vo a d e f=ah x->c a d e f=ai/\v a d e f=x:=λ_ _ _ _=>Lib.dc
end kB

namespace lW
def r3(N:aE)(g:oj R)(g1:rZ R)(k0:oj R)(k1:rZ R)(a:aq)(d:az)(e:aU):aC R:=bif decide (d<(e.length:az))then bif decide (0<=d)&&decide (d<(e.length:az))then bif !List.beq (bQ (ar e d.toNat 0)).toList (aL a)then bif decide (0<=d)&&decide (d<(e.length:az))then g1 a (bJ (d+1)) e ([]++ax (aN [Ck.s,Ck.s,Ck.i ao] 1) 0 [.s (bQ (ar e d.toNat 0)), .s (bQ (ar e d.toNat 1)), .i .i64 (bZ (ar e d.toNat (1+1)))])else aj else g a (bJ (d+1)) e else aj else k0 a d e
def z_(N:aE)(g:oj R)(g1:rZ R)(k0:oj R)(k1:rZ R)(a:aq)(d:az)(e f:aU):aC R:=bif decide (d<(e.length:az))then bif decide (0<=d)&&decide (d<(e.length:az))then bif !List.beq (bQ (ar e d.toNat 0)).toList (aL a)then bif decide (0<=d)&&decide (d<(e.length:az))then bif cB (f.length+(ax (aN [Ck.s,Ck.s,Ck.i ao] 1) 0 [.s (bQ (ar e d.toNat 0)), .s (bQ (ar e d.toNat 1)), .i .i64 (bZ (ar e d.toNat (1+1)))]).length) 40 then g1 a (bJ (d+1)) e (f++ax (aN [Ck.s,Ck.s,Ck.i ao] 1) 0 [.s (bQ (ar e d.toNat 0)), .s (bQ (ar e d.toNat 1)), .i .i64 (bZ (ar e d.toNat (1+1)))])else aj else aj else g1 a (bJ (d+1)) e f else aj else k1 a d e f
def tW(N:aE)(k0:oj R)(k1:rZ R):aE->rZ R
 |0=>λ_ _ _ _=>aj
 |n+1=>z_ N (λx0 x1 x2=>aj) (tW N k0 k1 n) k0 k1
def l3(N:aE)(k0:oj R)(k1:rZ R):aE->oj R
 |0=>λ_ _ _=>aj
 |n+1=>r3 N (l3 N k0 k1 n) (tW N k0 k1 n) k0 k1
def b(N:aE)(kr:aU->aC R)(a:aU)(d:aq):aC R:=l3 N (λ_ _ _=>kr []) (λ_ _ _ e=>kr e) N d 0 a
def vo:=b Lib.cW λr0=>ah r0
def c:=λa d=>(vo a d).isSome
def v:=λa d=>(vo a d).getD ([])
theorem out{x}:∀a d,vo a d=ah x->c a d=ai/\v a d=x:=λ_ _=>Lib.dc
end lW

namespace AF
abbrev h0{R:Type}(kr:Mt R)(a:aU)(d:az)(e f h:aq):aC R:=bif jS.c a e then Lib.lt (jS.v a e) λi=>bif decide (i≥0)then bif decide (0<=i)&&decide (i<(a.length:az))then bif decide (d=1)then bif decide ((bQ (ar a i.toNat 1)).size+f.size<=4611686018427387904)then bif kB.c a (bQ (ar a i.toNat 0)) (bQ (ar a i.toNat 1)++f) (bZ (ar a i.toNat (1+1)))then Lib.lt (kB.v a (bQ (ar a i.toNat 0)) (bQ (ar a i.toNat 1)++f) (bZ (ar a i.toNat (1+1)))) λj=>bif fy.c j then bif !fy.v j then kr [] ak else kr j ai else aj else aj else aj else bif decide (i<0)then kr [] ak else bif decide (d=2)then bif kB.c a (bQ (ar a i.toNat 0)) (bQ (ar a i.toNat 1)) ((bQ (ar a i.toNat 1)).size:az)then Lib.lt (kB.v a (bQ (ar a i.toNat 0)) (bQ (ar a i.toNat 1)) ((bQ (ar a i.toNat 1)).size:az)) λj=>bif fy.c j then bif !fy.v j then kr [] ak else kr j ai else aj else aj else bif decide (d=3)then bif decide (bZ (ar a i.toNat (1+1))<((bQ (ar a i.toNat 1)).size:az))then kr [] ak else bif db (aL h) (aL e)then kr [] ak else bif !uS.v h then kr [] ak else bif lW.c a e then bif kB.c (lW.v a e) h (bQ (ar a i.toNat 1)) (bZ (ar a i.toNat (1+1)))then bif fy.c (kB.v (lW.v a e) h (bQ (ar a i.toNat 1)) (bZ (ar a i.toNat (1+1))))then bif !fy.v (kB.v (lW.v a e) h (bQ (ar a i.toNat 1)) (bZ (ar a i.toNat (1+1))))then kr [] ak else kr (kB.v (lW.v a e) h (bQ (ar a i.toNat 1)) (bZ (ar a i.toNat (1+1)))) ai else aj else aj else aj else bif decide (d=4)then bif lW.c a e then bif fy.c (lW.v a e)then bif !fy.v (lW.v a e)then kr [] ak else kr (lW.v a e) ai else aj else aj else kr [] ak else aj else bif decide (d=1)then bif decide (gj ⟨#[]⟩+f.size<=4611686018427387904)then bif kB.c a e ({data:= #[]}++f) 0 then bif fy.c (kB.v a e ({data:= #[]}++f) 0)then bif !fy.v (kB.v a e ({data:= #[]}++f) 0)then kr [] ak else kr (kB.v a e ({data:= #[]}++f) 0) ai else aj else aj else aj else bif decide (i<0)then kr [] ak else bif decide (d=2)then bif kB.c a e ⟨#[]⟩ (gj ⟨#[]⟩:az)then bif fy.c (kB.v a e ⟨#[]⟩ (gj ⟨#[]⟩:az))then bif !fy.v (kB.v a e ⟨#[]⟩ (gj ⟨#[]⟩:az))then kr [] ak else kr (kB.v a e ⟨#[]⟩ (gj ⟨#[]⟩:az)) ai else aj else aj else bif decide (d=3)then bif db (aL h) (aL e)then kr [] ak else bif !uS.v h then kr [] ak else bif lW.c a e then bif kB.c (lW.v a e) h ⟨#[]⟩ 0 then bif fy.c (kB.v (lW.v a e) h ⟨#[]⟩ 0)then bif !fy.v (kB.v (lW.v a e) h ⟨#[]⟩ 0)then kr [] ak else kr (kB.v (lW.v a e) h ⟨#[]⟩ 0) ai else aj else aj else aj else bif decide (d=4)then bif lW.c a e then bif fy.c (lW.v a e)then bif !fy.v (lW.v a e)then kr [] ak else kr (lW.v a e) ai else aj else aj else kr [] ak else aj
def b(kr:Mt R)(a:aU)(d:az)(e f h:aq):aC R:=bif fy.c a then bif !fy.v a then kr [] ak else bif !uS.v e then kr [] ak else bif d !=3 then bif !List.beq (aL h) (aL ⟨#[]⟩)then kr [] ak else bif d !=1 then bif !List.beq (aL f) (aL ⟨#[]⟩)then kr [] ak else h0 kr a d e f h else h0 kr a d e f h else bif d !=1 then bif !List.beq (aL f) (aL ⟨#[]⟩)then kr [] ak else h0 kr a d e f h else h0 kr a d e f h else aj
def vo:=b λr0 r1=>ah (r0,r1)
def c:=λa d e f h=>(vo a d e f h).isSome
def v:=λa d e f h=>(vo a d e f h).getD ([],ak)
theorem out{x}:∀a d e f h,vo a d e f h=ah x->c a d e f h=ai/\v a d e f h=x:=λ_ _ _ _ _=>Lib.dc
end AF

namespace pC
def r3(N:aE)(g k0 k1:qv R)(a:aU)(d e:az)(f:aU):aC R:=bif decide (e<(a.length:az))then bif decide (0<=e)&&decide (e<(a.length:az))then bif AF.c f (bZ (ar a e.toNat 0)) (bQ (ar a e.toNat 1)) (bQ (ar a e.toNat (1+1))) (bQ (ar a e.toNat (1+1+1)))then bif !(AF.v f (bZ (ar a e.toNat 0)) (bQ (ar a e.toNat 1)) (bQ (ar a e.toNat (1+1))) (bQ (ar a e.toNat (1+1+1)))).2 then k0 a e e f else g a d (bJ (e+1)) (AF.v f (bZ (ar a e.toNat 0)) (bQ (ar a e.toNat 1)) (bQ (ar a e.toNat (1+1))) (bQ (ar a e.toNat (1+1+1)))).1 else aj else aj else k1 a d e f
def l3(N:aE)(k0 k1:qv R):aE->qv R
 |0=>λ_ _ _ _=>aj
 |n+1=>r3 N (l3 N k0 k1 n) k0 k1
def b(N:aE)(kr:tH R)(a d:aU):aC R:=bif cB ((aN [Ck.s,Ck.s,Ck.i ao] 0).length+a.length) 40 then l3 N (λ_ e _ f=>kr f e) (λe _ _ f=>kr f (e.length:az)) N d 0 0 (aN [Ck.s,Ck.s,Ck.i ao] 0++a)else aj
def vo:=b Lib.cW λr0 r1=>ah (r0,r1)
def c:=λa d=>(vo a d).isSome
def v:=λa d=>(vo a d).getD ([],0)
theorem out{x}:∀a d,vo a d=ah x->c a d=ai/\v a d=x:=λ_ _=>Lib.dc
end pC

namespace zA
def b(kr:az->aC R)(a:aW):aC R:=bif a then kr 0 else kr 1
def v(a0:aW):az:=bif a0 then 0 else 1
theorem fJ(kr:az->aC R)(a0:aW):b kr a0=kr (v a0):=by first|rfl|(unfold b v;simp only[cZ];(repeat' split)<;>rfl)
end zA

namespace Cq
def b(kr:rk R)(a:az)(d e f h:aU)(i:az)(j l:aU)(m:az)(o p q:aU)(r s:az)(t:aq)(u:az)(w:aU):aC R:=bif MA.c a d e f h i j l m s (bL u 1000000)then Lib.lt (MA.v a d e f h i j l m s (bL u 1000000)) λy=>bif y.2.2.2.2.2.2.2.2.2 then bif decide (bL u 1000000>0)then bif decide (0<=s)&&decide (s<(y.2.2.2.2.2.2.1.length:az))then bif cB ((aN [Ck.s,Ck.i ao,Ck.i ao,Ck.s] 0).length+q.length) 48 then bif cB ((aN [Ck.s,Ck.i ao,Ck.i ao,Ck.s] 0++q).length+(ax (aN [Ck.s,Ck.i ao,Ck.i ao,Ck.s] 1) 0 [.s (bQ (ar y.2.2.2.2.2.2.1 s.toNat 0)), .i .i64 (bZ (ar y.2.2.2.2.2.2.1 s.toNat (1+1+1+1))), .i .i64 (bZ (ar y.2.2.2.2.2.2.1 s.toNat (1+1+1))), .s (bQ (ar y.2.2.2.2.2.2.1 s.toNat 1))]).length) 48 then bif Cs.c (bQ (ar y.2.2.2.2.2.2.1 s.toNat 0)) (bZ (ar y.2.2.2.2.2.2.1 s.toNat (1+1+1+1))) (bZ (ar y.2.2.2.2.2.2.1 s.toNat (1+1+1))) (bQ (ar y.2.2.2.2.2.2.1 s.toNat 1))then Lib.lt (Cs.v (bQ (ar y.2.2.2.2.2.2.1 s.toNat 0)) (bZ (ar y.2.2.2.2.2.2.1 s.toNat (1+1+1+1))) (bZ (ar y.2.2.2.2.2.2.1 s.toNat (1+1+1))) (bQ (ar y.2.2.2.2.2.2.1 s.toNat 1))) λz=>bif z.2 then bif pC.c o z.1 then Lib.lt (pC.v o z.1) λα=>kr (zA.v y.2.2.2.2.2.2.2.2.2) y.1 y.2.1 y.2.2.1 y.2.2.2.1 y.2.2.2.2.1 y.2.2.2.2.2.1 y.2.2.2.2.2.2.1 y.2.2.2.2.2.2.2.1 y.2.2.2.2.2.2.2.2.1 α.1 p (aN [Ck.s,Ck.i ao,Ck.i ao,Ck.s] 0++q++ax (aN [Ck.s,Ck.i ao,Ck.i ao,Ck.s] 1) 0 [.s (bQ (ar y.2.2.2.2.2.2.1 s.toNat 0)), .i .i64 (bZ (ar y.2.2.2.2.2.2.1 s.toNat (1+1+1+1))), .i .i64 (bZ (ar y.2.2.2.2.2.2.1 s.toNat (1+1+1))), .s (bQ (ar y.2.2.2.2.2.2.1 s.toNat 1))])else aj else kr (zA.v y.2.2.2.2.2.2.2.2.2) y.1 y.2.1 y.2.2.1 y.2.2.2.1 y.2.2.2.2.1 y.2.2.2.2.2.1 y.2.2.2.2.2.2.1 y.2.2.2.2.2.2.2.1 y.2.2.2.2.2.2.2.2.1 o p (aN [Ck.s,Ck.i ao,Ck.i ao,Ck.s] 0++q++ax (aN [Ck.s,Ck.i ao,Ck.i ao,Ck.s] 1) 0 [.s (bQ (ar y.2.2.2.2.2.2.1 s.toNat 0)), .i .i64 (bZ (ar y.2.2.2.2.2.2.1 s.toNat (1+1+1+1))), .i .i64 (bZ (ar y.2.2.2.2.2.2.1 s.toNat (1+1+1))), .s (bQ (ar y.2.2.2.2.2.2.1 s.toNat 1))])else aj else aj else aj else aj else kr (zA.v y.2.2.2.2.2.2.2.2.2) y.1 y.2.1 y.2.2.1 y.2.2.2.1 y.2.2.2.2.1 y.2.2.2.2.2.1 y.2.2.2.2.2.2.1 y.2.2.2.2.2.2.2.1 y.2.2.2.2.2.2.2.2.1 o p q else kr (zA.v y.2.2.2.2.2.2.2.2.2) y.1 y.2.1 y.2.2.1 y.2.2.2.1 y.2.2.2.2.1 y.2.2.2.2.2.1 y.2.2.2.2.2.2.1 y.2.2.2.2.2.2.2.1 y.2.2.2.2.2.2.2.2.1 o p q else aj
def vo:=b λr0 r1 r2 r3 r4 r5 r6 r7 r8 r9 CM FA r12=>ah (r0,r1,r2,r3,r4,r5,r6,r7,r8,r9,CM,FA,r12)
def c:=λa d e f h i j l m o p q r s t u w=>(vo a d e f h i j l m o p q r s t u w).isSome
def v:=λa d e f h i j l m o p q r s t u w=>(vo a d e f h i j l m o p q r s t u w).getD (0,0,[],[],[],[],0,[],[],0,[],[],[])
theorem out{x}:∀a d e f h i j l m o p q r s t u w,vo a d e f h i j l m o p q r s t u w=ah x->c a d e f h i j l m o p q r s t u w=ai/\v a d e f h i j l m o p q r s t u w=x:=λ_ _ _ _ _ _ _ _ _ _ _ _ _ _ _ _ _=>Lib.dc
end Cq

namespace MB
def b(kr:ki R)(a:az)(d e f h:aU)(i:az)(j l:aU)(m o:az):aC R:=bif ka.c a d e f h i j l m then Lib.lt (ka.v a d e f h i j l m) λp=>bif tO.c a d e f h i j l m o then Lib.lt (tO.v a d e f h i j l m o) λq=>bif !q then kr p.1 p.2.1 p.2.2.1 p.2.2.2.1 p.2.2.2.2.1 p.2.2.2.2.2.1 p.2.2.2.2.2.2.1 p.2.2.2.2.2.2.2.1 p.2.2.2.2.2.2.2.2 ak else bif decide (0<=o)&&decide (o<(p.2.2.2.2.2.2.1.length:az))then bif rK.c p.1 p.2.1 p.2.2.1 p.2.2.2.1 p.2.2.2.2.1 p.2.2.2.2.2.1 (dV p.2.2.2.2.2.2.1 o.toNat 2 [.i .i64 3]) p.2.2.2.2.2.2.2.1 p.2.2.2.2.2.2.2.2 o 3 then Lib.lt (rK.v p.1 p.2.1 p.2.2.1 p.2.2.2.1 p.2.2.2.2.1 p.2.2.2.2.2.1 (dV p.2.2.2.2.2.2.1 o.toNat 2 [.i .i64 3]) p.2.2.2.2.2.2.2.1 p.2.2.2.2.2.2.2.2 o 3) λr=>kr r.1 r.2.1 r.2.2.1 r.2.2.2.1 r.2.2.2.2.1 r.2.2.2.2.2.1 r.2.2.2.2.2.2.1 r.2.2.2.2.2.2.2.1 r.2.2.2.2.2.2.2.2 ai else aj else aj else aj else aj
def vo:=b λr0 r1 r2 r3 r4 r5 r6 r7 r8 r9=>ah (r0,r1,r2,r3,r4,r5,r6,r7,r8,r9)
def c:=λa d e f h i j l m o=>(vo a d e f h i j l m o).isSome
def v:=λa d e f h i j l m o=>(vo a d e f h i j l m o).getD (0,[],[],[],[],0,[],[],0,ak)
theorem out{x}:∀a d e f h i j l m o,vo a d e f h i j l m o=ah x->c a d e f h i j l m o=ai/\v a d e f h i j l m o=x:=λ_ _ _ _ _ _ _ _ _ _=>Lib.dc
end MB

namespace IM
def b(kr:eP R)(a:az)(d e f h:aU)(i:az)(j l:aU)(m o:az):aC R:=bif ka.c a d e f h i j l m then bif decide (bL o 1000<0)then bif decide ((ka.v a d e f h i j l m).1>bJ (1000000000-bJ (bL o 1000+1000)))then kr 1000000000 (ka.v a d e f h i j l m).2.1 (ka.v a d e f h i j l m).2.2.1 (ka.v a d e f h i j l m).2.2.2.1 (ka.v a d e f h i j l m).2.2.2.2.1 (ka.v a d e f h i j l m).2.2.2.2.2.1 (ka.v a d e f h i j l m).2.2.2.2.2.2.1 (ka.v a d e f h i j l m).2.2.2.2.2.2.2.1 (ka.v a d e f h i j l m).2.2.2.2.2.2.2.2 else kr (bJ ((ka.v a d e f h i j l m).1+bJ (bL o 1000+1000))) (ka.v a d e f h i j l m).2.1 (ka.v a d e f h i j l m).2.2.1 (ka.v a d e f h i j l m).2.2.2.1 (ka.v a d e f h i j l m).2.2.2.2.1 (ka.v a d e f h i j l m).2.2.2.2.2.1 (ka.v a d e f h i j l m).2.2.2.2.2.2.1 (ka.v a d e f h i j l m).2.2.2.2.2.2.2.1 (ka.v a d e f h i j l m).2.2.2.2.2.2.2.2 else bif decide ((ka.v a d e f h i j l m).1>bJ (1000000000-bL o 1000))then kr 1000000000 (ka.v a d e f h i j l m).2.1 (ka.v a d e f h i j l m).2.2.1 (ka.v a d e f h i j l m).2.2.2.1 (ka.v a d e f h i j l m).2.2.2.2.1 (ka.v a d e f h i j l m).2.2.2.2.2.1 (ka.v a d e f h i j l m).2.2.2.2.2.2.1 (ka.v a d e f h i j l m).2.2.2.2.2.2.2.1 (ka.v a d e f h i j l m).2.2.2.2.2.2.2.2 else kr (bJ ((ka.v a d e f h i j l m).1+bL o 1000)) (ka.v a d e f h i j l m).2.1 (ka.v a d e f h i j l m).2.2.1 (ka.v a d e f h i j l m).2.2.2.1 (ka.v a d e f h i j l m).2.2.2.2.1 (ka.v a d e f h i j l m).2.2.2.2.2.1 (ka.v a d e f h i j l m).2.2.2.2.2.2.1 (ka.v a d e f h i j l m).2.2.2.2.2.2.2.1 (ka.v a d e f h i j l m).2.2.2.2.2.2.2.2 else aj
def vo:=b λr0 r1 r2 r3 r4 r5 r6 r7 r8=>ah (r0,r1,r2,r3,r4,r5,r6,r7,r8)
def c:=λa d e f h i j l m o=>(vo a d e f h i j l m o).isSome
def v:=λa d e f h i j l m o=>(vo a d e f h i j l m o).getD (0,[],[],[],[],0,[],[],0)
theorem out{x}:∀a d e f h i j l m o,vo a d e f h i j l m o=ah x->c a d e f h i j l m o=ai/\v a d e f h i j l m o=x:=λ_ _ _ _ _ _ _ _ _ _=>Lib.dc
end IM

namespace IP
def r4(N:aE)(g k0:gD R)(a d e:az)(f h i j:aU)(l:az)(m o:aU)(p q r s t u w:az)(y z α xa xb xc:aU):aC R:=bif decide (d<(o.length:az))then bif decide (0<=d)&&decide (d<(o.length:az))then bif bZ (ar o d.toNat 0) !=a then bif decide (0<=d)&&decide (d<(o.length:az))then bif cB (xc.length+(ax (aN [Ck.i ao,Ck.s,Ck.i ao,Ck.i ao,Ck.i ao,Ck.s,Ck.i ao] 1) 0 [.i .i64 (bZ (ar o d.toNat 0)), .s (bQ (ar o d.toNat 1)), .i .i64 (bZ (ar o d.toNat (1+1))), .i .i64 (bZ (ar o d.toNat (1+1+1))), .i .i64 (bZ (ar o d.toNat (1+1+1+1))), .s (bQ (ar o d.toNat (1+1+1+1+1))), .i .i64 (bZ (ar o d.toNat (1+1+1+1+1+1)))]).length) 72 then g a (bJ (d+1)) e f h i j l m o p q r s t u w y z α xa xb (xc++ax (aN [Ck.i ao,Ck.s,Ck.i ao,Ck.i ao,Ck.i ao,Ck.s,Ck.i ao] 1) 0 [.i .i64 (bZ (ar o d.toNat 0)), .s (bQ (ar o d.toNat 1)), .i .i64 (bZ (ar o d.toNat (1+1))), .i .i64 (bZ (ar o d.toNat (1+1+1))), .i .i64 (bZ (ar o d.toNat (1+1+1+1))), .s (bQ (ar o d.toNat (1+1+1+1+1))), .i .i64 (bZ (ar o d.toNat (1+1+1+1+1+1)))])else aj else aj else g a (bJ (d+1)) e f h i j l m o p q r s t u w y z α xa xb xc else aj else k0 a d e f h i j l m o p q r s t u w y z α xa xb xc
def l4(N:aE)(k0:gD R):aE->gD R
 |0=>λ_ _ _ _ _ _ _ _ _ _ _ _ _ _ _ _ _ _ _ _ _ _ _=>aj
 |n+1=>r4 N (l4 N k0 n) k0
def b(N:aE)(kr:eP R)(a:az)(d e f h:aU)(i:az)(j l:aU)(m o:az):aC R:=bif ka.c a d e f h i j l m then l4 N (λ_ _ _ _ _ _ _ _ _ _ _ _ _ _ p q r s t u w y z=>kr p s t u w q y z r) N o 0 a d e f h i j l m 0 0 0 (ka.v a d e f h i j l m).1 (ka.v a d e f h i j l m).2.2.2.2.2.1 (ka.v a d e f h i j l m).2.2.2.2.2.2.2.2 (ka.v a d e f h i j l m).2.1 (ka.v a d e f h i j l m).2.2.1 (ka.v a d e f h i j l m).2.2.2.1 (ka.v a d e f h i j l m).2.2.2.2.1 (ka.v a d e f h i j l m).2.2.2.2.2.2.1 (aN [Ck.i ao,Ck.s,Ck.i ao,Ck.i ao,Ck.i ao,Ck.s,Ck.i ao] 0)else aj
def vo:=b Lib.cW λr0 r1 r2 r3 r4 r5 r6 r7 r8=>ah (r0,r1,r2,r3,r4,r5,r6,r7,r8)
def c:=λa d e f h i j l m o=>(vo a d e f h i j l m o).isSome
def v:=λa d e f h i j l m o=>(vo a d e f h i j l m o).getD (0,[],[],[],[],0,[],[],0)
theorem out{x}:∀a d e f h i j l m o,vo a d e f h i j l m o=ah x->c a d e f h i j l m o=ai/\v a d e f h i j l m o=x:=λ_ _ _ _ _ _ _ _ _ _=>Lib.dc
end IP

namespace vI
def r5(N:aE)(g:vv R)(g1:uB R)(k0:vv R)(k1:uB R)(a:aU)(d:az)(e:aU):aC R:=bif decide (d<(e.length:az))then bif decide (0<=d)&&decide (d<(e.length:az))then bif decide (d<(a.length:az))then bif decide (0<=d)&&decide (d<(a.length:az))then bif decide (bZ (ar a d.toNat 0)>((bQ (ar e d.toNat 1)).size:az))then bif decide (((bQ (ar e d.toNat 1)).size:az)<bZ (ar e d.toNat (1+1)))then bif iS 0 (bZ (ar e d.toNat (1+1))) ((bQ (ar e d.toNat 1)).size:az)then g1 a (bJ (d+1)) e ([]++ax (aN [Ck.s,Ck.s,Ck.i ao] 1) 0 [.s (bQ (ar e d.toNat 0)), .s (bR (bQ (ar e d.toNat 1)) (aZ 0) (bZ (ar e d.toNat (1+1))).toNat), .i .i64 (bZ (ar e d.toNat (1+1)))])else aj else bif iS 0 ((bQ (ar e d.toNat 1)).size:az) ((bQ (ar e d.toNat 1)).size:az)then g1 a (bJ (d+1)) e ([]++ax (aN [Ck.s,Ck.s,Ck.i ao] 1) 0 [.s (bQ (ar e d.toNat 0)), .s (bR (bQ (ar e d.toNat 1)) (aZ 0) ((bQ (ar e d.toNat 1)).size:az).toNat), .i .i64 ((bQ (ar e d.toNat 1)).size:az)])else aj else bif decide (bZ (ar a d.toNat 0)<bZ (ar e d.toNat (1+1)))then bif iS 0 (bZ (ar e d.toNat (1+1))) ((bQ (ar e d.toNat 1)).size:az)then g1 a (bJ (d+1)) e ([]++ax (aN [Ck.s,Ck.s,Ck.i ao] 1) 0 [.s (bQ (ar e d.toNat 0)), .s (bR (bQ (ar e d.toNat 1)) (aZ 0) (bZ (ar e d.toNat (1+1))).toNat), .i .i64 (bZ (ar e d.toNat (1+1)))])else aj else bif iS 0 (bZ (ar a d.toNat 0)) ((bQ (ar e d.toNat 1)).size:az)then g1 a (bJ (d+1)) e ([]++ax (aN [Ck.s,Ck.s,Ck.i ao] 1) 0 [.s (bQ (ar e d.toNat 0)), .s (bR (bQ (ar e d.toNat 1)) (aZ 0) (bZ (ar a d.toNat 0)).toNat), .i .i64 (bZ (ar a d.toNat 0))])else aj else aj else bif decide (0<bZ (ar e d.toNat (1+1)))then bif iS 0 (bZ (ar e d.toNat (1+1))) ((bQ (ar e d.toNat 1)).size:az)then g1 a (bJ (d+1)) e ([]++ax (aN [Ck.s,Ck.s,Ck.i ao] 1) 0 [.s (bQ (ar e d.toNat 0)), .s (bR (bQ (ar e d.toNat 1)) (aZ 0) (bZ (ar e d.toNat (1+1))).toNat), .i .i64 (bZ (ar e d.toNat (1+1)))])else aj else g1 a (bJ (d+1)) e ([]++ax (aN [Ck.s,Ck.s,Ck.i ao] 1) 0 [.s (bQ (ar e d.toNat 0)), .s (bR (bQ (ar e d.toNat 1)) (aZ 0) (aZ 0)), .i .i64 0])else aj else k0 a d e
def r5a(N:aE)(g:vv R)(g1:uB R)(k0:vv R)(k1:uB R)(a:aU)(d:az)(e f:aU):aC R:=bif decide (d<(e.length:az))then bif decide (0<=d)&&decide (d<(e.length:az))then bif decide (d<(a.length:az))then bif decide (0<=d)&&decide (d<(a.length:az))then bif decide (bZ (ar a d.toNat 0)>((bQ (ar e d.toNat 1)).size:az))then bif decide (((bQ (ar e d.toNat 1)).size:az)<bZ (ar e d.toNat (1+1)))then bif iS 0 (bZ (ar e d.toNat (1+1))) ((bQ (ar e d.toNat 1)).size:az)then bif cB (f.length+(ax (aN [Ck.s,Ck.s,Ck.i ao] 1) 0 [.s (bQ (ar e d.toNat 0)), .s (bR (bQ (ar e d.toNat 1)) (aZ 0) (bZ (ar e d.toNat (1+1))).toNat), .i .i64 (bZ (ar e d.toNat (1+1)))]).length) 40 then g1 a (bJ (d+1)) e (f++ax (aN [Ck.s,Ck.s,Ck.i ao] 1) 0 [.s (bQ (ar e d.toNat 0)), .s (bR (bQ (ar e d.toNat 1)) (aZ 0) (bZ (ar e d.toNat (1+1))).toNat), .i .i64 (bZ (ar e d.toNat (1+1)))])else aj else aj else bif iS 0 ((bQ (ar e d.toNat 1)).size:az) ((bQ (ar e d.toNat 1)).size:az)then bif cB (f.length+(ax (aN [Ck.s,Ck.s,Ck.i ao] 1) 0 [.s (bQ (ar e d.toNat 0)), .s (bR (bQ (ar e d.toNat 1)) (aZ 0) ((bQ (ar e d.toNat 1)).size:az).toNat), .i .i64 ((bQ (ar e d.toNat 1)).size:az)]).length) 40 then g1 a (bJ (d+1)) e (f++ax (aN [Ck.s,Ck.s,Ck.i ao] 1) 0 [.s (bQ (ar e d.toNat 0)), .s (bR (bQ (ar e d.toNat 1)) (aZ 0) ((bQ (ar e d.toNat 1)).size:az).toNat), .i .i64 ((bQ (ar e d.toNat 1)).size:az)])else aj else aj else bif decide (bZ (ar a d.toNat 0)<bZ (ar e d.toNat (1+1)))then bif iS 0 (bZ (ar e d.toNat (1+1))) ((bQ (ar e d.toNat 1)).size:az)then bif cB (f.length+(ax (aN [Ck.s,Ck.s,Ck.i ao] 1) 0 [.s (bQ (ar e d.toNat 0)), .s (bR (bQ (ar e d.toNat 1)) (aZ 0) (bZ (ar e d.toNat (1+1))).toNat), .i .i64 (bZ (ar e d.toNat (1+1)))]).length) 40 then g1 a (bJ (d+1)) e (f++ax (aN [Ck.s,Ck.s,Ck.i ao] 1) 0 [.s (bQ (ar e d.toNat 0)), .s (bR (bQ (ar e d.toNat 1)) (aZ 0) (bZ (ar e d.toNat (1+1))).toNat), .i .i64 (bZ (ar e d.toNat (1+1)))])else aj else aj else bif iS 0 (bZ (ar a d.toNat 0)) ((bQ (ar e d.toNat 1)).size:az)then bif cB (f.length+(ax (aN [Ck.s,Ck.s,Ck.i ao] 1) 0 [.s (bQ (ar e d.toNat 0)), .s (bR (bQ (ar e d.toNat 1)) (aZ 0) (bZ (ar a d.toNat 0)).toNat), .i .i64 (bZ (ar a d.toNat 0))]).length) 40 then g1 a (bJ (d+1)) e (f++ax (aN [Ck.s,Ck.s,Ck.i ao] 1) 0 [.s (bQ (ar e d.toNat 0)), .s (bR (bQ (ar e d.toNat 1)) (aZ 0) (bZ (ar a d.toNat 0)).toNat), .i .i64 (bZ (ar a d.toNat 0))])else aj else aj else aj else bif decide (0<bZ (ar e d.toNat (1+1)))then bif iS 0 (bZ (ar e d.toNat (1+1))) ((bQ (ar e d.toNat 1)).size:az)then bif cB (f.length+(ax (aN [Ck.s,Ck.s,Ck.i ao] 1) 0 [.s (bQ (ar e d.toNat 0)), .s (bR (bQ (ar e d.toNat 1)) (aZ 0) (bZ (ar e d.toNat (1+1))).toNat), .i .i64 (bZ (ar e d.toNat (1+1)))]).length) 40 then g1 a (bJ (d+1)) e (f++ax (aN [Ck.s,Ck.s,Ck.i ao] 1) 0 [.s (bQ (ar e d.toNat 0)), .s (bR (bQ (ar e d.toNat 1)) (aZ 0) (bZ (ar e d.toNat (1+1))).toNat), .i .i64 (bZ (ar e d.toNat (1+1)))])else aj else aj else bif cB (f.length+(ax (aN [Ck.s,Ck.s,Ck.i ao] 1) 0 [.s (bQ (ar e d.toNat 0)), .s (bR (bQ (ar e d.toNat 1)) (aZ 0) (aZ 0)), .i .i64 0]).length) 40 then g1 a (bJ (d+1)) e (f++ax (aN [Ck.s,Ck.s,Ck.i ao] 1) 0 [.s (bQ (ar e d.toNat 0)), .s (bR (bQ (ar e d.toNat 1)) (aZ 0) (aZ 0)), .i .i64 0])else aj else aj else k1 a d e f
def l5a(N:aE)(k0:vv R)(k1:uB R):aE->uB R
 |0=>λ_ _ _ _=>aj
 |n+1=>r5a N (λx0 x1 x2=>aj) (l5a N k0 k1 n) k0 k1
def l5(N:aE)(k0:vv R)(k1:uB R):aE->vv R
 |0=>λ_ _ _=>aj
 |n+1=>r5 N (l5 N k0 k1 n) (l5a N k0 k1 n) k0 k1
def b(N:aE)(kr:Mt R)(a d:aU):aC R:=bif fy.c a then bif !fy.v a then kr [] ak else l5 N (λ_ _ _=>kr [] ai) (λ_ _ _ e=>kr e ai) N d 0 a else aj
def vo:=b Lib.cW λr0 r1=>ah (r0,r1)
def c:=λa d=>(vo a d).isSome
def v:=λa d=>(vo a d).getD ([],ak)
theorem out{x}:∀a d,vo a d=ah x->c a d=ai/\v a d=x:=λ_ _=>Lib.dc
end vI

namespace mJ
def b(kr:Mu R)(a:aU)(d:aq):aC R:=bif jS.c a d then bif decide (jS.v a d<0)then kr ⟨#[]⟩ ak else bif decide (0<=jS.v a d)&&decide (jS.v a d<(a.length:az))then kr (bQ (ar a (jS.v a d).toNat 1)) ai else aj else aj
def vo:=b λr0 r1=>ah (r0,r1)
def c:=λa d=>(vo a d).isSome
def v:=λa d=>(vo a d).getD (⟨#[]⟩,ak)
theorem out{x}:∀a d,vo a d=ah x->c a d=ai/\v a d=x:=λ_ _=>Lib.dc
end mJ

namespace fA
def r6(N:aE)(g k0 k1:uC R)(a:aq)(d e f:az)(h:aW)(i j l:az):aC R:=bif decide (l<(a.size:az))then bif decide (l<bJ (d+5))then bif decide (0<=l)&&decide (l<(a.size:az))then bif decide (0<=l)&&decide (l<(a.size:az))then bif decide ((↑(iL a l.toNat):az)<128)then bif decide (bJ (i+bJ (bL (bJ (↑(iL a l.toNat):az)) 128*j))>1000000000)then k0 a d 0 0 ak (bJ (i+bJ (bL (bJ (↑(iL a l.toNat):az)) 128*j))) (bJ (j*128)) l else bif jT.c (bJ (i+bJ (bL (bJ (↑(iL a l.toNat):az)) 128*j)))then bif iS d (bJ (l+1)) (a.size:az)then bif !List.beq (jT.v (bJ (i+bJ (bL (bJ (↑(iL a l.toNat):az)) 128*j)))).toList (bR a d.toNat (bJ (l+1)).toNat).toList then k0 a d 0 0 ak (bJ (i+bJ (bL (bJ (↑(iL a l.toNat):az)) 128*j))) (bJ (j*128)) l else k0 a d (bJ (i+bJ (bL (bJ (↑(iL a l.toNat):az)) 128*j))) (bJ (l+1)) ai (bJ (i+bJ (bL (bJ (↑(iL a l.toNat):az)) 128*j))) (bJ (j*128)) l else aj else aj else g a d e f h (bJ (i+bJ (bL (bJ (↑(iL a l.toNat):az)) 128*j))) (bJ (j*128)) (bJ (l+1))else aj else aj else k1 a d e f h i j l else k1 a d e f h i j l
def l6(N:aE)(k0 k1:uC R):aE->uC R
 |0=>λ_ _ _ _ _ _ _ _=>aj
 |n+1=>r6 N (l6 N k0 k1 n) k0 k1
def b(N:aE)(kr:Od R)(a:aq)(d:az):aC R:=bif !kg.v d 0 (a.size:az)then kr 0 0 ak else l6 N (λ_ _ e f h _ _ _=>kr e f h) (λ_ _ _ _ _ _ _ _=>kr 0 0 ak) N a d 0 0 ak 0 1 d
def v(dX:aq)(ic:az):az×az×aW:=if 0<=ic/\ic<=dX.size then Lib.rv dX ic.toNat 5 0 0 else(0,0,ak)
theorem fJ(kr:Od R)(dX:aq)(ic:az)(f0:Ge dX):∃N,b N kr dX ic=kr (v dX ic).1 (v dX ic).2.1 (v dX ic).2.2:=by
 refine⟨6, ?_⟩
 unfold b v;by_cases hn:0<=ic/\ic<=dX.size
 ·have e:kg.v ic 0 (dX.size:az)=true:=by simp[kg.v,hn]
  obtain⟨a,rfl⟩:∃a:aE,ic=(a:az):=⟨ic.toNat,by omega⟩
  have ha:a<=dX.size:=by omega
  rw[e,bw hn,Lib.eD];have hs:dX.size<=4611686018427387904:=f0;simp only[aY,aA]
  have:=Lib.gn (λm (s:aE×az)=>l6 6 (λy8 y9 Ml yL N9 Gi Xq Xr=>kr Ml yL N9) (λTc FV FW DR vm Is Iu Td=>kr 0 0 ak) m dX a 0 0 ak s.2 (128^s.1) ((a+s.1:aE):az)) (λs=>5-s.1) (λs=>s.1<=5/\s.2=Lib.num dX a s.1/\∀i,i<s.1->128<=iL dX (a+i))
   (λs=>kr (Lib.rv dX a (5-s.1) s.1 s.2).1 (Lib.rv dX a (5-s.1) s.1 s.2).2.1 (Lib.rv dX a (5-s.1) s.1 s.2).2.2) (λm s hs5=>by
   obtain⟨j,n⟩:=s
   obtain⟨hj,acd,Yi⟩:=hs5
   dsimp only at hj acd Yi⊢
   have hb:=Lib.IY dX (a+j)
   have e5:bJ ((a:az)+5)=((a+5:aE):az):=by rw[jN (by omega) (by omega)];omega
   by_cases g9:a+j<dX.size
   ·by_cases hj5:j<5
    ·have eb:bJ (iL dX (a+j):az)=(iL dX (a+j):az):=jN (by omega) (by omega);have em:bL (iL dX (a+j):az) 128=(iL dX (a+j):az)%128:=sa (by omega);have hp:(128:az)^j<=268435456/\(1:az)<=128^j/\(128:az)^(j+1)=128^j*128:=by
      obtain rfl|rfl|rfl|rfl|rfl:j=0\/j=1\/j=2\/j=3\/j=4:=by omega
      all_goals decide
     have hrg:=Lib.z7 dX j a;rw[<-acd]at hrg;have hm0:0<=(iL dX (a+j):az)%128/\(iL dX (a+j):az)%128<=127:=by omega
     have hq:0<=(iL dX (a+j):az)%128*128^j/\(iL dX (a+j):az)%128*128^j<=127*128^j:=
      ⟨Int.mul_nonneg hm0.1 (by omega),Int.mul_le_mul_of_nonneg_right hm0.2 (by omega)⟩
     have eq1:bJ ((iL dX (a+j):az)%128*128^j)=(iL dX (a+j):az)%128*128^j:=jN (by omega) (by omega);have eq2:bJ (n+(iL dX (a+j):az)%128*128^j)=n+(iL dX (a+j):az)%128*128^j:=jN (by omega) (by omega);have eq3:bJ ((128:az)^j*128)=128^(j+1):=by rw[hp.2.2];exact jN (by omega) (by omega)
     have ef:5-j=(5-(j+1))+1:=by omega
     have U5:n+(iL dX (a+j):az)%128*128^j=Lib.num dX a (j+1):=by rw[Lib.wc,<-acd]
     have en:bJ (((a+j:aE):az)+1)=((a+(j+1):aE):az):=Lib.di g9 (by omega);have c2:decide (((a+j:aE):az)<((a+5:aE):az))=true:=Lib.P8 (by omega)
     have hrv:Lib.rv dX a (5-j) j n=(if(iL dX (a+j):az)>127 then Lib.rv dX a (5-(j+1)) (j+1) (n+(iL dX (a+j):az)%128*128^j)
       else if(j>0/\iL dX (a+j)=0)\/n+(iL dX (a+j):az)%128*128^j>1000000000 then(0,0,ak)
       else(n+(iL dX (a+j):az)%128*128^j,((a+j+1:aE):az),ai)):=by
      rw[ef];simp only[Lib.rv];rw[bw g9]
     simp only[l6,r6,Lib.P8 g9,e5,c2,Lib.cQ,Lib.eD,eb,em,eq1,eq2,eq3,en,au,aM];by_cases hc:(iL dX (a+j):az)<128
     ·left;rw[aF hc,au,hrv,bH (by omega)];by_cases E5:n+(iL dX (a+j):az)%128*128^j>1000000000
      ·rw[aF E5,bw (.inr E5)];rfl
      ·have ec:jT.c (n+(iL dX (a+j):az)%128*128^j)=true:=aF (by omega);have ein:iS (a:az) ((a+(j+1):aE):az) (dX.size:az)=true:=by simp[iS];omega
       rw[aK E5,aA,ec,au,ein,au,U5];have anq:=Lib.canon dX j a (by omega) Yi (by omega) (by rw[<-U5];omega);unfold jT.v;rw[anq];by_cases hz:j>0/\iL dX (a+j)=0
       ·rw[aF hz,bw (.inl hz)];rfl
       ·rw[aK hz,bH (by rw[U5]at E5;omega)];rfl
     ·right;rw[aK hc];refine⟨(j+1,n+(iL dX (a+j):az)%128*128^j),⟨by dsimp only;omega,U5,λi hi=> ?_⟩,by dsimp only;omega,by dsimp only;rw[hrv,bw (by omega)],rfl⟩
      by_cases M1:i<j
      ·exact Yi i M1
      ·have:i=j:=by dsimp only at hi;omega
       subst this;omega
    ·left;have E6:j=5:=by omega
     subst E6;simp only[l6,r6,Lib.P8 g9,e5,Lib.X9 (bm (a+5)),au,aA];rfl
   ·left;have hrv:Lib.rv dX a (5-j) j n=(0,0,ak):=by
     by_cases hj5:j<5
     ·have ef:5-j=(5-(j+1))+1:=by omega
      rw[ef];simp only[Lib.rv];rw[bH g9]
     ·rw[show 5-j=0 by omega];rfl
    simp only[l6,r6,Lib.X9 g9,aA,hrv]) 6 (0,0) ⟨by dsimp only;omega,rfl,λi hi=>by dsimp only at hi;omega⟩ (by dsimp only;omega)
  exact this
 ·have e:kg.v ic 0 (dX.size:az)=false:=by simp[kg.v];omega
  rw[e,bH hn];rfl
end fA

namespace rM
def r5(N:aE)(g k0 k1:nv R)(a:aq)(d e:az)(f:aU):aC R:=bif decide (e<(a.size:az))then bif !(fA.v a e).2.2 then k0 a e e f else bif decide ((fA.v a e).1>bJ (bJ ((a.size:az)-(fA.v a e).2.1)-4))then k0 a e e f else bif iS (bJ ((fA.v a e).2.1+4)) (bJ (bJ ((fA.v a e).2.1+4)+(fA.v a e).1)) (a.size:az)then bif fT.c (bR a (bJ ((fA.v a e).2.1+4)).toNat (bJ (bJ ((fA.v a e).2.1+4)+(fA.v a e).1)).toNat)then bif !(fT.v (bR a (bJ ((fA.v a e).2.1+4)).toNat (bJ (bJ ((fA.v a e).2.1+4)+(fA.v a e).1)).toNat)).2 then k0 a e e f else bif iS e (bJ (bJ ((fA.v a e).2.1+4)+(fA.v a e).1)) (a.size:az)then bif !List.beq (fT.v (bR a (bJ ((fA.v a e).2.1+4)).toNat (bJ (bJ ((fA.v a e).2.1+4)+(fA.v a e).1)).toNat)).1.toList (bR a e.toNat (bJ (bJ ((fA.v a e).2.1+4)+(fA.v a e).1)).toNat).toList then k0 a e e f else bif cB (f.length+(ax (aN [.s] 1) 0 [.s (bR a (bJ ((fA.v a e).2.1+4)).toNat (bJ (bJ ((fA.v a e).2.1+4)+(fA.v a e).1)).toNat)]).length) 16 then g a d (bJ (bJ ((fA.v a e).2.1+4)+(fA.v a e).1)) (f++ax (aN [.s] 1) 0 [.s (bR a (bJ ((fA.v a e).2.1+4)).toNat (bJ (bJ ((fA.v a e).2.1+4)+(fA.v a e).1)).toNat)])else aj else aj else aj else aj else k1 a d e f
def l5(N:aE)(k0 k1:nv R):aE->nv R
 |0=>λ_ _ _ _=>aj
 |n+1=>r5 N (l5 N k0 k1 n) k0 k1
def b(N:aE)(kr:tH R)(a:aq):aC R:=bif decide ((a.size:az)>20000)then kr (aN [.s] 0) 0 else l5 N (λ_ d _ e=>kr e d) (λ_ _ d e=>kr e d) N a 0 0 (aN [.s] 0)
def vo:=b Lib.cW λr0 r1=>ah (r0,r1)
def c:=λa=>(vo a).isSome
def v:=λa=>(vo a).getD ([],0)
theorem out{x}:∀a,vo a=ah x->c a=ai/\v a=x:=λ_=>Lib.dc
end rM

namespace pB
def b(kr:Oe R)(a:aq)(d:az):aC R:=bif !(fA.v a d).2.2 then kr ⟨#[]⟩ 0 ak else bif decide ((fA.v a d).1>20000)then kr ⟨#[]⟩ 0 ak else bif decide ((fA.v a d).1>bJ ((a.size:az)-(fA.v a d).2.1))then kr ⟨#[]⟩ 0 ak else bif iS (fA.v a d).2.1 (bJ ((fA.v a d).2.1+(fA.v a d).1)) (a.size:az)then kr (bR a (fA.v a d).2.1.toNat (bJ ((fA.v a d).2.1+(fA.v a d).1)).toNat) (bJ ((fA.v a d).2.1+(fA.v a d).1)) ai else aj
def v(dX:aq)(ic:az):aq×az×aW:=Lib.iE dX ic
theorem fJ(kr:Oe R)(dX:aq)(ic:az)(f0:Ge dX):b kr dX ic=kr (v dX ic).1 (v dX ic).2.1 (v dX ic).2.2:=Lib.CN f0 ic kr
end pB

namespace jC
def b(kr:zI R)(a:aq):aC R:=bif !(pB.v a 0).2.2 then kr ⟨#[]⟩ 0 0 ⟨#[]⟩ ak else bif !(fA.v a (pB.v a 0).2.1).2.2 then kr ⟨#[]⟩ 0 0 ⟨#[]⟩ ak else bif !(fA.v a (fA.v a (pB.v a 0).2.1).2.1).2.2 then kr ⟨#[]⟩ 0 0 ⟨#[]⟩ ak else bif iS (fA.v a (fA.v a (pB.v a 0).2.1).2.1).2.1 (a.size:az) (a.size:az)then bif !(jI.v (pB.v a 0).1 (fA.v a (pB.v a 0).2.1).1 (fA.v a (fA.v a (pB.v a 0).2.1).2.1).1 (bR a (fA.v a (fA.v a (pB.v a 0).2.1).2.1).2.1.toNat (a.size:az).toNat)).2 then kr ⟨#[]⟩ 0 0 ⟨#[]⟩ ak else bif !List.beq (jI.v (pB.v a 0).1 (fA.v a (pB.v a 0).2.1).1 (fA.v a (fA.v a (pB.v a 0).2.1).2.1).1 (bR a (fA.v a (fA.v a (pB.v a 0).2.1).2.1).2.1.toNat (a.size:az).toNat)).1.toList (aL a)then kr ⟨#[]⟩ 0 0 ⟨#[]⟩ ak else kr (pB.v a 0).1 (fA.v a (pB.v a 0).2.1).1 (fA.v a (fA.v a (pB.v a 0).2.1).2.1).1 (bR a (fA.v a (fA.v a (pB.v a 0).2.1).2.1).2.1.toNat (a.size:az).toNat) ai else aj
def no:aq×az×az×aq×aW:=(⟨#[]⟩,0,0,⟨#[]⟩,ak)
def v(t0:aq):aq×az×az×aq×aW:=
 match Lib.iE t0 0 with
 |(k,a,ai)=>(match Lib.eB t0 a with
  |(s,x,ai)=>(match Lib.eB t0 x with
   |(l,y,ai)=>if iI.v k s l (t0.extract y.toNat t0.size)=ai then(k,s,l,t0.extract y.toNat t0.size,ai)else no
   |_=>no)
  |_=>no)
 |_=>no
theorem fJ(kr:zI R)(t0:aq)(f0:Ge t0):b kr t0=kr (v t0).1 (v t0).2.1 (v t0).2.2.1 (v t0).2.2.2.1 (v t0).2.2.2.2:=by
 have e1:pB.v=Lib.iE:=rfl;have e2:fA.v=Lib.eB:=rfl;unfold b v;simp only[e1,e2,Lib.eD];cases h1:Lib.iE t0 0 with
 |mk k r1=>
  obtain⟨a,ok1⟩:=r1;cases ok1 with
  |false=>rfl
  |true=>
   dsimp only;cases h2:Lib.eB t0 a with
   |mk s r2=>
    obtain⟨x,ok2⟩:=r2;cases ok2 with
    |false=>rfl
    |true=>
     dsimp only;cases h3:Lib.eB t0 x with
     |mk l r3=>
      obtain⟨y,ok3⟩:=r3;cases ok3 with
      |false=>rfl
      |true=>
       obtain⟨p1,p2,p3,p4,p5⟩:=Lib.FD h1;obtain⟨q1,q2,q3,q4,q5,q6⟩:=Lib.j_ h2;obtain⟨r1,r2,r3,r4,r5,r6⟩:=Lib.j_ h3;dsimp only;simp only[aY,aA];rw[Lib.AP (show iS y (t0.size:az) (t0.size:az)=ai by simp[iS];omega)];unfold jI.v;cases hE:iI.v k s l (t0.extract y.toNat t0.size)with
       |false=>rfl
       |true=>
        have ht:jI.rU k s l (t0.extract y.toNat t0.size)=t0:=by unfold jI.rU;rw[p5,q6,Lib.vQ t0 (by omega) (by omega),r6,Lib.vQ t0 (by omega) (by omega),Lib.vQ t0 (by omega) (by omega)];exact Lib.K6 t0
        simp only[if_true,aY,aA,ht,Lib.pV]
end jC

namespace rI
def r7(N:aE)(g k0:CY R)(a:az)(d e:aU):aC R:=bif decide (a<(e.length:az))then bif decide (0<=a)&&decide (a<(e.length:az))then bif(jC.v (bQ (ar e a.toNat 0))).2.2.2.2 then bif fI.c d (jC.v (bQ (ar e a.toNat 0))).1 (jC.v (bQ (ar e a.toNat 0))).2.1 (jC.v (bQ (ar e a.toNat 0))).2.2.1 (jC.v (bQ (ar e a.toNat 0))).2.2.2.1 then g (bJ (a+1)) (fI.v d (jC.v (bQ (ar e a.toNat 0))).1 (jC.v (bQ (ar e a.toNat 0))).2.1 (jC.v (bQ (ar e a.toNat 0))).2.2.1 (jC.v (bQ (ar e a.toNat 0))).2.2.2.1) e else aj else g (bJ (a+1)) d e else aj else k0 a d e
def l7(N:aE)(k0:CY R):aE->CY R
 |0=>λ_ _ _=>aj
 |n+1=>r7 N (l7 N k0 n) k0
def b(N:aE)(kr:aU->aC R)(a:aU):aC R:=bif fy.c a then bif !fy.v a then kr (aN [Ck.s,Ck.i ao,Ck.i ao,Ck.s] 0)else bif mJ.c a {data:= #[aw 107,aw 101,aw 112,aw 116]}then bif rM.c (mJ.v a {data:= #[aw 107,aw 101,aw 112,aw 116]}).1 then l7 N (λ_ d _=>kr d) N 0 (aN [Ck.s,Ck.i ao,Ck.i ao,Ck.s] 0) (rM.v (mJ.v a {data:= #[aw 107,aw 101,aw 112,aw 116]}).1).1 else aj else aj else aj
def vo:=b Lib.cW λr0=>ah r0
def c:=λa=>(vo a).isSome
def v:=λa=>(vo a).getD ([])
theorem out{x}:∀a,vo a=ah x->c a=ai/\v a=x:=λ_=>Lib.dc
end rI

namespace mv
def r9(N:aE)(g:zH R)(k0:Gj R)(k1:zH R)(a:aU)(d:aW)(e:aq)(f:az)(h:aU):aC R:=bif decide (f<(a.length:az))then bif decide (0<=f)&&decide (f<(a.length:az))then bif fT.c (jI.v (bQ (ar a f.toNat 0)) (bZ (ar a f.toNat 1)) (bZ (ar a f.toNat (1+1))) (bQ (ar a f.toNat (1+1+1)))).1 then bif !(jI.v (bQ (ar a f.toNat 0)) (bZ (ar a f.toNat 1)) (bZ (ar a f.toNat (1+1))) (bQ (ar a f.toNat (1+1+1)))).2 then k0 a ak e f (aN [Ck.i ao,Ck.s,Ck.s,Ck.s] 0) h else bif !(fT.v (jI.v (bQ (ar a f.toNat 0)) (bZ (ar a f.toNat 1)) (bZ (ar a f.toNat (1+1))) (bQ (ar a f.toNat (1+1+1)))).1).2 then k0 a ak e f (aN [Ck.i ao,Ck.s,Ck.s,Ck.s] 0) h else bif decide (e.size+(fT.v (jI.v (bQ (ar a f.toNat 0)) (bZ (ar a f.toNat 1)) (bZ (ar a f.toNat (1+1))) (bQ (ar a f.toNat (1+1+1)))).1).1.size<=4611686018427387904)then g a d (e++(fT.v (jI.v (bQ (ar a f.toNat 0)) (bZ (ar a f.toNat 1)) (bZ (ar a f.toNat (1+1))) (bQ (ar a f.toNat (1+1+1)))).1).1) (bJ (f+1)) h else aj else aj else aj else k1 a d e f h
def l9(N:aE)(k0:Gj R)(k1:zH R):aE->zH R
 |0=>λ_ _ _ _ _=>aj
 |n+1=>r9 N (l9 N k0 k1 n) k0 k1
def b(N:aE)(kr:Mt R)(a d:aU):aC R:=bif fy.c a then bif !fy.v a then kr (aN [Ck.i ao,Ck.s,Ck.s,Ck.s] 0) ak else bif mJ.c a {data:= #[aw 110,aw 101,aw 119]}then bif(mJ.v a {data:= #[aw 110,aw 101,aw 119]}).2 then l9 N (λ_ e _ _ f _=>kr f e) (λ_ _ e _ f=>bif cB (f.length+(ax (ax (ax (aN [Ck.i ao,Ck.s,Ck.s,Ck.s] 3) 0 [.i .i64 1, .s {data:= #[aw 110,aw 101,aw 119]}, .s e, .s ⟨#[]⟩]) 1 [.i .i64 2, .s {data:= #[aw 110,aw 101,aw 119]}, .s ⟨#[]⟩, .s ⟨#[]⟩]) 2 [.i .i64 3, .s {data:= #[aw 110,aw 101,aw 119]}, .s ⟨#[]⟩, .s {data:= #[aw 107,aw 101,aw 112,aw 116]}]).length) 56 then kr (f++ax (ax (ax (aN [Ck.i ao,Ck.s,Ck.s,Ck.s] 3) 0 [.i .i64 1, .s {data:= #[aw 110,aw 101,aw 119]}, .s e, .s ⟨#[]⟩]) 1 [.i .i64 2, .s {data:= #[aw 110,aw 101,aw 119]}, .s ⟨#[]⟩, .s ⟨#[]⟩]) 2 [.i .i64 3, .s {data:= #[aw 110,aw 101,aw 119]}, .s ⟨#[]⟩, .s {data:= #[aw 107,aw 101,aw 112,aw 116]}]) ai else aj) N d ak ⟨#[]⟩ 0 (aN [Ck.i ao,Ck.s,Ck.s,Ck.s] 0++ax (aN [Ck.i ao,Ck.s,Ck.s,Ck.s] 1) 0 [.i .i64 4, .s {data:= #[aw 110,aw 101,aw 119]}, .s ⟨#[]⟩, .s ⟨#[]⟩])else l9 N (λ_ e _ _ f _=>kr f e) (λ_ _ e _ f=>bif cB (f.length+(ax (ax (ax (aN [Ck.i ao,Ck.s,Ck.s,Ck.s] 3) 0 [.i .i64 1, .s {data:= #[aw 110,aw 101,aw 119]}, .s e, .s ⟨#[]⟩]) 1 [.i .i64 2, .s {data:= #[aw 110,aw 101,aw 119]}, .s ⟨#[]⟩, .s ⟨#[]⟩]) 2 [.i .i64 3, .s {data:= #[aw 110,aw 101,aw 119]}, .s ⟨#[]⟩, .s {data:= #[aw 107,aw 101,aw 112,aw 116]}]).length) 56 then kr (f++ax (ax (ax (aN [Ck.i ao,Ck.s,Ck.s,Ck.s] 3) 0 [.i .i64 1, .s {data:= #[aw 110,aw 101,aw 119]}, .s e, .s ⟨#[]⟩]) 1 [.i .i64 2, .s {data:= #[aw 110,aw 101,aw 119]}, .s ⟨#[]⟩, .s ⟨#[]⟩]) 2 [.i .i64 3, .s {data:= #[aw 110,aw 101,aw 119]}, .s ⟨#[]⟩, .s {data:= #[aw 107,aw 101,aw 112,aw 116]}]) ai else aj) N d ak ⟨#[]⟩ 0 (aN [Ck.i ao,Ck.s,Ck.s,Ck.s] 0)else aj else aj
def vo:=b Lib.cW λr0 r1=>ah (r0,r1)
def c:=λa d=>(vo a d).isSome
def v:=λa d=>(vo a d).getD ([],ak)
theorem out{x}:∀a d,vo a d=ah x->c a d=ai/\v a d=x:=λ_ _=>Lib.dc
end mv

namespace na
def r4(N:aE)(g k0:lZ R)(a:az)(d:aU)(e f h i j l m:az)(o p q r s t:aU):aC R:=bif decide (e<(d.length:az))then bif decide (0<=e)&&decide (e<(d.length:az))then bif iI.v (bQ (ar d e.toNat 0)) (bZ (ar d e.toNat 1)) (bZ (ar d e.toNat (1+1))) (bQ (ar d e.toNat (1+1+1)))then bif decide (0<=e)&&decide (e<(d.length:az))then bif Ie.v (bQ (ar d e.toNat 0)) (bZ (ar d e.toNat 1)) (bZ (ar d e.toNat (1+1))) (bQ (ar d e.toNat (1+1+1))) a then bif decide (0<=e)&&decide (e<(d.length:az))then bif xV.c j o p q r l s t m (bQ (ar d e.toNat 0)) (bZ (ar d e.toNat 1)) (bZ (ar d e.toNat (1+1))) (bQ (ar d e.toNat (1+1+1)))then Lib.lt (xV.v j o p q r l s t m (bQ (ar d e.toNat 0)) (bZ (ar d e.toNat 1)) (bZ (ar d e.toNat (1+1))) (bQ (ar d e.toNat (1+1+1)))) λu=>g a d (bJ (e+1)) f h i u.1 u.2.2.2.2.2.1 u.2.2.2.2.2.2.2.2 u.2.1 u.2.2.1 u.2.2.2.1 u.2.2.2.2.1 u.2.2.2.2.2.2.1 u.2.2.2.2.2.2.2.1 else aj else aj else g a d (bJ (e+1)) f h i j l m o p q r s t else aj else g a d (bJ (e+1)) f h i j l m o p q r s t else aj else k0 a d e f h i j l m o p q r s t
def l4(N:aE)(k0:lZ R):aE->lZ R
 |0=>λ_ _ _ _ _ _ _ _ _ _ _ _ _ _ _=>aj
 |n+1=>r4 N (l4 N k0 n) k0
def b(N:aE)(kr:eP R)(a:az)(d:aU):aC R:=l4 N (λ_ _ _ _ _ _ e f h i j l m o p=>kr e i j l m f o p h) N a d 0 0 0 0 a 0 0 [] [] [] ([]++ax (aN [Ck.l 3] 1) 0 [CV.l 3 (aN [Ck.i ao] (aZ 16))]++ax (aN [Ck.l 3] 1) 0 [CV.l 3 (aN [Ck.i ao] (aZ 16))]++ax (aN [Ck.l 3] 1) 0 [CV.l 3 (aN [Ck.i ao] (aZ 16))]) [] []
def vo:=b Lib.cW λr0 r1 r2 r3 r4 r5 r6 r7 r8=>ah (r0,r1,r2,r3,r4,r5,r6,r7,r8)
def c:=λa d=>(vo a d).isSome
def v:=λa d=>(vo a d).getD (0,[],[],[],[],0,[],[],0)
theorem out{x}:∀a d,vo a d=ah x->c a d=ai/\v a d=x:=λ_ _=>Lib.dc
end na

namespace vG
def r7(N:aE)(g g1 k0 k1:g_ R)(a d e f:az)(h i j l m o p q r s t:aU):aC R:=bif decide (a<(h.length:az))then bif decide (0<=a)&&decide (a<(h.length:az))then bif Ie.v (bQ (ar h a.toNat 0)) (bZ (ar h a.toNat 1)) (bZ (ar h a.toNat (1+1))) (bQ (ar h a.toNat (1+1+1))) d then bif decide (0<=a)&&decide (a<(h.length:az))then bif cB (i.length+(ax (aN [Ck.s,Ck.i ao,Ck.i ao,Ck.s] 1) 0 [.s (bQ (ar h a.toNat 0)), .i .i64 (bZ (ar h a.toNat 1)), .i .i64 (bZ (ar h a.toNat (1+1))), .s (bQ (ar h a.toNat (1+1+1)))]).length) 48 then g (bJ (a+1)) d e f h (i++ax (aN [Ck.s,Ck.i ao,Ck.i ao,Ck.s] 1) 0 [.s (bQ (ar h a.toNat 0)), .i .i64 (bZ (ar h a.toNat 1)), .i .i64 (bZ (ar h a.toNat (1+1))), .s (bQ (ar h a.toNat (1+1+1)))]) j l m o p q r s t else aj else aj else g (bJ (a+1)) d e f h i j l m o p q r s t else aj else k0 a d e f h i j l m o p q r s t
def r7a(N:aE)(g g1 k0 k1:g_ R)(a d e f:az)(h i j l m o p q r s t:aU):aC R:=bif decide (a<(h.length:az))then bif decide (0<=a)&&decide (a<(h.length:az))then bif Ie.v (bQ (ar h a.toNat 0)) (bZ (ar h a.toNat 1)) (bZ (ar h a.toNat (1+1))) (bQ (ar h a.toNat (1+1+1))) d then bif decide (0<=a)&&decide (a<(h.length:az))then bif cB (i.length+(ax (aN [Ck.s,Ck.i ao,Ck.i ao,Ck.s] 1) 0 [.s (bQ (ar h a.toNat 0)), .i .i64 (bZ (ar h a.toNat 1)), .i .i64 (bZ (ar h a.toNat (1+1))), .s (bQ (ar h a.toNat (1+1+1)))]).length) 48 then g1 (bJ (a+1)) d e f h (i++ax (aN [Ck.s,Ck.i ao,Ck.i ao,Ck.s] 1) 0 [.s (bQ (ar h a.toNat 0)), .i .i64 (bZ (ar h a.toNat 1)), .i .i64 (bZ (ar h a.toNat (1+1))), .s (bQ (ar h a.toNat (1+1+1)))]) j l m o p q r s t else aj else aj else g1 (bJ (a+1)) d e f h i j l m o p q r s t else aj else k1 a d e f h i j l m o p q r s t
def l7a(N:aE)(k0 k1:g_ R):aE->g_ R
 |0=>λ_ _ _ _ _ _ _ _ _ _ _ _ _ _ _=>aj
 |n+1=>r7a N (λx2 x3 x4 x5 x6 x7 x8 x9 x10 x11 Kl x13 x14 x15 x16=>aj) (l7a N k0 k1 n) k0 k1
def l7(N:aE)(k0 k1:g_ R):aE->g_ R
 |0=>λ_ _ _ _ _ _ _ _ _ _ _ _ _ _ _=>aj
 |n+1=>r7 N (l7 N k0 k1 n) (l7a N k0 k1 n) k0 k1
def b(N:aE)(kr:oi R)(a:az)(d e f h:aU)(i:az)(j l:aU)(m:az)(o p q:aU)(r s:az)(t:aq)(u:az)(w:aU):aC R:=bif vI.c o w then Lib.lt (vI.v o w) λy=>bif y.2 then bif rI.c y.1 then Lib.lt (rI.v y.1) λz=>l7 N (λ_ α _ _ _ xa _ _ _ _ _ _ xb xc xd=>bif mv.c xb xa then Lib.lt (mv.v xb xa) λxe=>bif xe.2 then bif pC.c xb xe.1 then Lib.lt (pC.v xb xe.1) λxf=>bif na.c α xa then Lib.lt (na.v α xa) λxg=>kr xg.1 xg.2.1 xg.2.2.1 xg.2.2.2.1 xg.2.2.2.2.1 xg.2.2.2.2.2.1 xg.2.2.2.2.2.2.1 xg.2.2.2.2.2.2.2.1 xg.2.2.2.2.2.2.2.2 xf.1 xc xd else aj else aj else bif na.c α xa then Lib.lt (na.v α xa) λxf=>kr xf.1 xf.2.1 xf.2.2.1 xf.2.2.2.1 xf.2.2.2.2.1 xf.2.2.2.2.2.1 xf.2.2.2.2.2.2.1 xf.2.2.2.2.2.2.2.1 xf.2.2.2.2.2.2.2.2 xb xc xd else aj else aj) (λ_ α _ _ _ xa _ _ _ _ _ _ xb xc xd=>bif mv.c xb xa then Lib.lt (mv.v xb xa) λxe=>bif xe.2 then bif pC.c xb xe.1 then Lib.lt (pC.v xb xe.1) λxf=>bif na.c α xa then Lib.lt (na.v α xa) λxg=>kr xg.1 xg.2.1 xg.2.2.1 xg.2.2.2.1 xg.2.2.2.2.1 xg.2.2.2.2.2.1 xg.2.2.2.2.2.2.1 xg.2.2.2.2.2.2.2.1 xg.2.2.2.2.2.2.2.2 xf.1 xc xd else aj else aj else bif na.c α xa then Lib.lt (na.v α xa) λxf=>kr xf.1 xf.2.1 xf.2.2.1 xf.2.2.2.1 xf.2.2.2.2.1 xf.2.2.2.2.2.1 xf.2.2.2.2.2.2.1 xf.2.2.2.2.2.2.2.1 xf.2.2.2.2.2.2.2.2 xb xc xd else aj else aj) N 0 a i m z (aN [Ck.s,Ck.i ao,Ck.i ao,Ck.s] 0) d e f h j l y.1 p q else aj else bif rI.c o then Lib.lt (rI.v o) λz=>l7a N (λ_ α _ _ _ xa _ _ _ _ _ _ xb xc xd=>bif mv.c xb xa then Lib.lt (mv.v xb xa) λxe=>bif xe.2 then bif pC.c xb xe.1 then Lib.lt (pC.v xb xe.1) λxf=>bif na.c α xa then Lib.lt (na.v α xa) λxg=>kr xg.1 xg.2.1 xg.2.2.1 xg.2.2.2.1 xg.2.2.2.2.1 xg.2.2.2.2.2.1 xg.2.2.2.2.2.2.1 xg.2.2.2.2.2.2.2.1 xg.2.2.2.2.2.2.2.2 xf.1 xc xd else aj else aj else bif na.c α xa then Lib.lt (na.v α xa) λxf=>kr xf.1 xf.2.1 xf.2.2.1 xf.2.2.2.1 xf.2.2.2.2.1 xf.2.2.2.2.2.1 xf.2.2.2.2.2.2.1 xf.2.2.2.2.2.2.2.1 xf.2.2.2.2.2.2.2.2 xb xc xd else aj else aj) (λ_ α _ _ _ xa _ _ _ _ _ _ xb xc xd=>bif mv.c xb xa then Lib.lt (mv.v xb xa) λxe=>bif xe.2 then bif pC.c xb xe.1 then Lib.lt (pC.v xb xe.1) λxf=>bif na.c α xa then Lib.lt (na.v α xa) λxg=>kr xg.1 xg.2.1 xg.2.2.1 xg.2.2.2.1 xg.2.2.2.2.1 xg.2.2.2.2.2.1 xg.2.2.2.2.2.2.1 xg.2.2.2.2.2.2.2.1 xg.2.2.2.2.2.2.2.2 xf.1 xc xd else aj else aj else bif na.c α xa then Lib.lt (na.v α xa) λxf=>kr xf.1 xf.2.1 xf.2.2.1 xf.2.2.2.1 xf.2.2.2.2.1 xf.2.2.2.2.2.1 xf.2.2.2.2.2.2.1 xf.2.2.2.2.2.2.2.1 xf.2.2.2.2.2.2.2.2 xb xc xd else aj else aj) N 0 a i m z (aN [Ck.s,Ck.i ao,Ck.i ao,Ck.s] 0) d e f h j l o p q else aj else aj
def vo:=b Lib.cW λr0 r1 r2 r3 r4 r5 r6 r7 r8 r9 CM FA=>ah (r0,r1,r2,r3,r4,r5,r6,r7,r8,r9,CM,FA)
def c:=λa d e f h i j l m o p q r s t u w=>(vo a d e f h i j l m o p q r s t u w).isSome
def v:=λa d e f h i j l m o p q r s t u w=>(vo a d e f h i j l m o p q r s t u w).getD (0,[],[],[],[],0,[],[],0,[],[],[])
theorem out{x}:∀a d e f h i j l m o p q r s t u w,vo a d e f h i j l m o p q r s t u w=ah x->c a d e f h i j l m o p q r s t u w=ai/\v a d e f h i j l m o p q r s t u w=x:=λ_ _ _ _ _ _ _ _ _ _ _ _ _ _ _ _ _=>Lib.dc
end vG

namespace Cp
def b(kr:rk R)(a:az)(d e f h:aU)(i:az)(j l:aU)(m:az)(o p q:aU)(r s:az)(t:aq)(u:az)(w:aU):aC R:=bif decide (r=1)then bif U9.c a d e f h i j l m s t then Lib.lt (U9.v a d e f h i j l m s t) λy=>kr y.2.2.2.2.2.2.2.2.2 y.1 y.2.1 y.2.2.1 y.2.2.2.1 y.2.2.2.2.1 y.2.2.2.2.2.1 y.2.2.2.2.2.2.1 y.2.2.2.2.2.2.2.1 y.2.2.2.2.2.2.2.2.1 o p q else aj else bif decide (r=2)then bif Mz.c a d e f h i j l m s t then Lib.lt (Mz.v a d e f h i j l m s t) λy=>kr (zA.v y.2.2.2.2.2.2.2.2.2) y.1 y.2.1 y.2.2.1 y.2.2.2.1 y.2.2.2.2.1 y.2.2.2.2.2.1 y.2.2.2.2.2.2.1 y.2.2.2.2.2.2.2.1 y.2.2.2.2.2.2.2.2.1 o p q else aj else bif decide (r=3)then bif Cq.c a d e f h i j l m o p q r s t u w then Lib.lt (Cq.v a d e f h i j l m o p q r s t u w) λy=>kr y.1 y.2.1 y.2.2.1 y.2.2.2.1 y.2.2.2.2.1 y.2.2.2.2.2.1 y.2.2.2.2.2.2.1 y.2.2.2.2.2.2.2.1 y.2.2.2.2.2.2.2.2.1 y.2.2.2.2.2.2.2.2.2.1 y.2.2.2.2.2.2.2.2.2.2.1 y.2.2.2.2.2.2.2.2.2.2.2.1 y.2.2.2.2.2.2.2.2.2.2.2.2 else aj else bif decide (r=4)then bif MB.c a d e f h i j l m s then Lib.lt (MB.v a d e f h i j l m s) λy=>kr (zA.v y.2.2.2.2.2.2.2.2.2) y.1 y.2.1 y.2.2.1 y.2.2.2.1 y.2.2.2.2.1 y.2.2.2.2.2.1 y.2.2.2.2.2.2.1 y.2.2.2.2.2.2.2.1 y.2.2.2.2.2.2.2.2.1 o p q else aj else bif decide (r=5)then bif IM.c a d e f h i j l m u then Lib.lt (IM.v a d e f h i j l m u) λy=>kr 0 y.1 y.2.1 y.2.2.1 y.2.2.2.1 y.2.2.2.2.1 y.2.2.2.2.2.1 y.2.2.2.2.2.2.1 y.2.2.2.2.2.2.2.1 y.2.2.2.2.2.2.2.2 o p q else aj else bif decide (r=6)then bif IP.c a d e f h i j l m s then Lib.lt (IP.v a d e f h i j l m s) λy=>kr (zA.v (decide ((y.2.2.2.2.2.2.2.1.length:az)<(l.length:az)))) y.1 y.2.1 y.2.2.1 y.2.2.2.1 y.2.2.2.2.1 y.2.2.2.2.2.1 y.2.2.2.2.2.2.1 y.2.2.2.2.2.2.2.1 y.2.2.2.2.2.2.2.2 o p q else aj else bif decide (r=7)then bif vG.c a d e f h i j l m o p q r s t u w then Lib.lt (vG.v a d e f h i j l m o p q r s t u w) λy=>kr 0 y.1 y.2.1 y.2.2.1 y.2.2.2.1 y.2.2.2.2.1 y.2.2.2.2.2.1 y.2.2.2.2.2.2.1 y.2.2.2.2.2.2.2.1 y.2.2.2.2.2.2.2.2.1 y.2.2.2.2.2.2.2.2.2.1 y.2.2.2.2.2.2.2.2.2.2.1 y.2.2.2.2.2.2.2.2.2.2.2 else aj else kr 0 a d e f h i j l m o p q
def vo:=b λr0 r1 r2 r3 r4 r5 r6 r7 r8 r9 CM FA r12=>ah (r0,r1,r2,r3,r4,r5,r6,r7,r8,r9,CM,FA,r12)
def c:=λa d e f h i j l m o p q r s t u w=>(vo a d e f h i j l m o p q r s t u w).isSome
def v:=λa d e f h i j l m o p q r s t u w=>(vo a d e f h i j l m o p q r s t u w).getD (0,0,[],[],[],[],0,[],[],0,[],[],[])
theorem out{x}:∀a d e f h i j l m o p q r s t u w,vo a d e f h i j l m o p q r s t u w=ah x->c a d e f h i j l m o p q r s t u w=ai/\v a d e f h i j l m o p q r s t u w=x:=λ_ _ _ _ _ _ _ _ _ _ _ _ _ _ _ _ _=>Lib.dc
end Cp

namespace xW
def b(kr:oi R)(a:az)(d e f h:aU)(i:az)(j l:aU)(m:az)(o p q:aU)(r s:az)(t:aq)(u:az)(w:aU):aC R:=bif Cp.c a d e f h i j l m o p q r s t u w then Lib.lt (Cp.v a d e f h i j l m o p q r s t u w) λy=>bif cB ((aN [Ck.i ao] 0).length+y.2.2.2.2.2.2.2.2.2.2.2.1.length) 8 then bif cB ((aN [Ck.i ao] 0++y.2.2.2.2.2.2.2.2.2.2.2.1).length+(ax (aN [Ck.i ao] 1) 0 [.i .i64 y.1]).length) 8 then kr y.2.1 y.2.2.1 y.2.2.2.1 y.2.2.2.2.1 y.2.2.2.2.2.1 y.2.2.2.2.2.2.1 y.2.2.2.2.2.2.2.1 y.2.2.2.2.2.2.2.2.1 y.2.2.2.2.2.2.2.2.2.1 y.2.2.2.2.2.2.2.2.2.2.1 (aN [Ck.i ao] 0++y.2.2.2.2.2.2.2.2.2.2.2.1++ax (aN [Ck.i ao] 1) 0 [.i .i64 y.1]) y.2.2.2.2.2.2.2.2.2.2.2.2 else aj else aj else aj
def vo:=b λr0 r1 r2 r3 r4 r5 r6 r7 r8 r9 CM FA=>ah (r0,r1,r2,r3,r4,r5,r6,r7,r8,r9,CM,FA)
def c:=λa d e f h i j l m o p q r s t u w=>(vo a d e f h i j l m o p q r s t u w).isSome
def v:=λa d e f h i j l m o p q r s t u w=>(vo a d e f h i j l m o p q r s t u w).getD (0,[],[],[],[],0,[],[],0,[],[],[])
theorem out{x}:∀a d e f h i j l m o p q r s t u w,vo a d e f h i j l m o p q r s t u w=ah x->c a d e f h i j l m o p q r s t u w=ai/\v a d e f h i j l m o p q r s t u w=x:=λ_ _ _ _ _ _ _ _ _ _ _ _ _ _ _ _ _=>Lib.dc
end xW

namespace NV
def r3(N:aE)(g k0:jF R)(a:az)(d:aU)(e f h i j l m o:az)(p q r s t u w y z:aU):aC R:=bif de.c d e f 30 then Lib.lt (de.v d e f 30) λα=>bif decide (a<α.1)then bif uN.c α.2.1 α.2.2.1 α.2.2.2 l p q r s m t u o w y z then Lib.lt (uN.v α.2.1 α.2.2.1 α.2.2.2 l p q r s m t u o w y z) λxa=>bif xW.c l xa.2.2.2.2.2.2.2.2.1 xa.2.2.2.2.2.2.2.2.2.1 xa.2.2.2.2.2.2.2.2.2.2.1 xa.2.2.2.2.2.2.2.2.2.2.2.1 m xa.2.2.2.2.2.2.2.2.2.2.2.2.1 xa.2.2.2.2.2.2.2.2.2.2.2.2.2.1 o xa.2.2.2.2.2.2.2.2.2.2.2.2.2.2.1 xa.2.2.2.2.2.2.2.2.2.2.2.2.2.2.2.1 xa.2.2.2.2.2.2.2.2.2.2.2.2.2.2.2.2 xa.1 xa.2.1 xa.2.2.1 xa.2.2.2.1 xa.2.2.2.2.1 then Lib.lt (xW.v l xa.2.2.2.2.2.2.2.2.1 xa.2.2.2.2.2.2.2.2.2.1 xa.2.2.2.2.2.2.2.2.2.2.1 xa.2.2.2.2.2.2.2.2.2.2.2.1 m xa.2.2.2.2.2.2.2.2.2.2.2.2.1 xa.2.2.2.2.2.2.2.2.2.2.2.2.2.1 o xa.2.2.2.2.2.2.2.2.2.2.2.2.2.2.1 xa.2.2.2.2.2.2.2.2.2.2.2.2.2.2.2.1 xa.2.2.2.2.2.2.2.2.2.2.2.2.2.2.2.2 xa.1 xa.2.1 xa.2.2.1 xa.2.2.2.1 xa.2.2.2.2.1) λxb=>g (bJ (a+1)) xa.2.2.2.2.2.1 xa.2.2.2.2.2.2.1 xa.2.2.2.2.2.2.2.1 h i j xb.1 xb.2.2.2.2.2.1 xb.2.2.2.2.2.2.2.2.1 xb.2.1 xb.2.2.1 xb.2.2.2.1 xb.2.2.2.2.1 xb.2.2.2.2.2.2.1 xb.2.2.2.2.2.2.2.1 xb.2.2.2.2.2.2.2.2.2.1 xb.2.2.2.2.2.2.2.2.2.2.1 xb.2.2.2.2.2.2.2.2.2.2.2 else aj else aj else k0 a α.2.1 α.2.2.1 α.2.2.2 h i j l m o p q r s t u w y z else aj
def l3(N:aE)(k0:jF R):aE->jF R
 |0=>λ_ _ _ _ _ _ _ _ _ _ _ _ _ _ _ _ _ _ _=>aj
 |n+1=>r3 N (l3 N k0 n) k0
def b(N:aE)(kr:rY R)(a:aU)(d e:az):aC R:=l3 N (λ_ f h i _ _ _ j l m o p q r s t _ _ _=>kr j o p q r l s t m f h i) N 0 a d e 0 0 0 1 0 0 [] [] [] ([]++ax (aN [Ck.l 3] 1) 0 [CV.l 3 (aN [Ck.i ao] (aZ 16))]++ax (aN [Ck.l 3] 1) 0 [CV.l 3 (aN [Ck.i ao] (aZ 16))]++ax (aN [Ck.l 3] 1) 0 [CV.l 3 (aN [Ck.i ao] (aZ 16))]) [] [] [] [] []
def vo:=b Lib.cW λr0 r1 r2 r3 r4 r5 r6 r7 r8 r9 CM FA=>ah (r0,r1,r2,r3,r4,r5,r6,r7,r8,r9,CM,FA)
def c:=λa d e=>(vo a d e).isSome
def v:=λa d e=>(vo a d e).getD (0,[],[],[],[],0,[],[],0,[],0,0)
theorem out{x}:∀a d e,vo a d e=ah x->c a d e=ai/\v a d e=x:=λ_ _ _=>Lib.dc
end NV

namespace zx
def r3(N:aE)(g k0:rX R)(a:az)(d:aU)(e f h i:az)(j l m:aU):aC R:=bif de.c d e f 40 then bif decide (a<(de.v d e f 40).1)then bif jR.c (de.v d e f 40).2.1 (de.v d e f 40).2.2.1 (de.v d e f 40).2.2.2 then bif jd.c j l m i (jR.v (de.v d e f 40).2.1 (de.v d e f 40).2.2.1 (de.v d e f 40).2.2.2).1 then g (bJ (a+1)) (jR.v (de.v d e f 40).2.1 (de.v d e f 40).2.2.1 (de.v d e f 40).2.2.2).2.1 (jR.v (de.v d e f 40).2.1 (de.v d e f 40).2.2.1 (de.v d e f 40).2.2.2).2.2.1 (jR.v (de.v d e f 40).2.1 (de.v d e f 40).2.2.1 (de.v d e f 40).2.2.2).2.2.2 h (jd.v j l m i (jR.v (de.v d e f 40).2.1 (de.v d e f 40).2.2.1 (de.v d e f 40).2.2.2).1).2.2.2.1 (jd.v j l m i (jR.v (de.v d e f 40).2.1 (de.v d e f 40).2.2.1 (de.v d e f 40).2.2.2).1).1 (jd.v j l m i (jR.v (de.v d e f 40).2.1 (de.v d e f 40).2.2.1 (de.v d e f 40).2.2.2).1).2.1 (jd.v j l m i (jR.v (de.v d e f 40).2.1 (de.v d e f 40).2.2.1 (de.v d e f 40).2.2.2).1).2.2.1 else aj else aj else k0 a (de.v d e f 40).2.1 (de.v d e f 40).2.2.1 (de.v d e f 40).2.2.2 h i j l m else aj
def l3(N:aE)(k0:rX R):aE->rX R
 |0=>λ_ _ _ _ _ _ _ _ _=>aj
 |n+1=>r3 N (l3 N k0 n) k0
def b(N:aE)(kr:C0 R)(a:aU)(d e:az):aC R:=l3 N (λ_ f h i _ j l m o=>kr l m o j f h i) N 0 a d e 0 0 [] [] ([]++ax (aN [Ck.l 3] 1) 0 [CV.l 3 (aN [Ck.i ao] (aZ 16))]++ax (aN [Ck.l 3] 1) 0 [CV.l 3 (aN [Ck.i ao] (aZ 16))]++ax (aN [Ck.l 3] 1) 0 [CV.l 3 (aN [Ck.i ao] (aZ 16))])
def vo:=b Lib.cW λr0 r1 r2 r3 r4 r5 r6=>ah (r0,r1,r2,r3,r4,r5,r6)
def c:=λa d e=>(vo a d e).isSome
def v:=λa d e=>(vo a d e).getD ([],[],[],0,[],0,0)
theorem out{x}:∀a d e,vo a d e=ah x->c a d e=ai/\v a d e=x:=λ_ _ _=>Lib.dc
end zx

namespace sg
def r3(N:aE)(g k0:wR R)(a:az)(d:aU)(e f h i:az)(j:aU):aC R:=bif de.c d e f 90 then bif decide (a<(de.v d e f 90).1)then bif jR.c (de.v d e f 90).2.1 (de.v d e f 90).2.2.1 (de.v d e f 90).2.2.2 then bif fg.c j i (jR.v (de.v d e f 90).2.1 (de.v d e f 90).2.2.1 (de.v d e f 90).2.2.2).1 then g (bJ (a+1)) (jR.v (de.v d e f 90).2.1 (de.v d e f 90).2.2.1 (de.v d e f 90).2.2.2).2.1 (jR.v (de.v d e f 90).2.1 (de.v d e f 90).2.2.1 (de.v d e f 90).2.2.2).2.2.1 (jR.v (de.v d e f 90).2.1 (de.v d e f 90).2.2.1 (de.v d e f 90).2.2.2).2.2.2 h (fg.v j i (jR.v (de.v d e f 90).2.1 (de.v d e f 90).2.2.1 (de.v d e f 90).2.2.2).1).2 (fg.v j i (jR.v (de.v d e f 90).2.1 (de.v d e f 90).2.2.1 (de.v d e f 90).2.2.2).1).1 else aj else aj else k0 a (de.v d e f 90).2.1 (de.v d e f 90).2.2.1 (de.v d e f 90).2.2.2 h i j else aj
def l3(N:aE)(k0:wR R):aE->wR R
 |0=>λ_ _ _ _ _ _ _=>aj
 |n+1=>r3 N (l3 N k0 n) k0
def b(N:aE)(kr:qw R)(a:aU)(d e:az):aC R:=l3 N (λ_ f h i _ j l=>kr l j f h i) N 0 a d e 0 0 ([]++ax (aN [Ck.l 3] 1) 0 [CV.l 3 (aN [Ck.i ao] (aZ 16))]++ax (aN [Ck.l 3] 1) 0 [CV.l 3 (aN [Ck.i ao] (aZ 16))]++ax (aN [Ck.l 3] 1) 0 [CV.l 3 (aN [Ck.i ao] (aZ 16))])
def vo:=b Lib.cW λr0 r1 r2 r3 r4=>ah (r0,r1,r2,r3,r4)
def c:=λa d e=>(vo a d e).isSome
def v:=λa d e=>(vo a d e).getD ([],0,[],0,0)
theorem out{x}:∀a d e,vo a d e=ah x->c a d e=ai/\v a d e=x:=λ_ _ _=>Lib.dc
end sg

namespace xY
def b(kr:qw R)(a:aU)(d e:az):aC R:=bif de.c a d e 12 then Lib.lt (de.v a d e 12) λf=>bif de.c f.2.1 f.2.2.1 f.2.2.2 60 then Lib.lt (de.v f.2.1 f.2.2.1 f.2.2.2 60) λh=>bif sg.c h.2.1 h.2.2.1 h.2.2.2 then Lib.lt (sg.v h.2.1 h.2.2.1 h.2.2.2) λi=>bif mr.c i.1 i.2.1 then Lib.lt (mr.v i.1 i.2.1) λj=>bif decide (f.1=0)then bif decide (0<=bL h.1 3)&&decide (bL h.1 3<(j.1.length:az))then bif decide (0<=bL h.1 3)&&decide (bL h.1 3<((ax (ax (ax (aN [Ck.i ao] 3) 0 [.i .i64 (iT 1)]) 1 [.i .i64 15]) 2 [.i .i64 16]).length:az))then bif decide (0<=bL h.1 16)&&decide (bL h.1 16<((iD (ar j.1 (bL h.1 3).toNat 0)).length:az))then kr (dV j.1 (bL h.1 3).toNat 0 [CV.l 3 (dV (iD (ar j.1 (bL h.1 3).toNat 0)) (bL h.1 16).toNat 0 [.i .i64 (bZ (ar (ax (ax (ax (aN [Ck.i ao] 3) 0 [.i .i64 (iT 1)]) 1 [.i .i64 15]) 2 [.i .i64 16]) (bL h.1 3).toNat 0))])]) j.2 i.2.2.1 i.2.2.2.1 i.2.2.2.2 else aj else aj else aj else bif decide (f.1=1)then bif decide (0<=bL h.1 3)&&decide (bL h.1 3<((ax (ax (ax (aN [Ck.i ao] 3) 0 [.i .i64 (iT 1)]) 1 [.i .i64 63]) 2 [.i .i64 64]).length:az))then kr j.1 (bZ (ar (ax (ax (ax (aN [Ck.i ao] 3) 0 [.i .i64 (iT 1)]) 1 [.i .i64 63]) 2 [.i .i64 64]) (bL h.1 3).toNat 0)) i.2.2.1 i.2.2.2.1 i.2.2.2.2 else aj else bif decide (f.1=2)then bif iS 1 (j.1.length:az) (j.1.length:az)then kr (eu j.1 (aZ 1) (j.1.length:az).toNat) j.2 i.2.2.1 i.2.2.2.1 i.2.2.2.2 else aj else bif decide (f.1=3)then bif decide (0<(j.1.length:az))then bif iS 1 ((iD (ar j.1 (aZ 0) 0)).length:az) ((iD (ar j.1 (aZ 0) 0)).length:az)then bif decide (0<(j.1.length:az))then kr (dV j.1 (aZ 0) 0 [CV.l 3 (eu (iD (ar j.1 (aZ 0) 0)) (aZ 1) ((iD (ar j.1 (aZ 0) 0)).length:az).toNat)]) j.2 i.2.2.1 i.2.2.2.1 i.2.2.2.2 else aj else aj else aj else kr j.1 j.2 i.2.2.1 i.2.2.2.1 i.2.2.2.2 else aj else aj else aj else aj
def vo:=b λr0 r1 r2 r3 r4=>ah (r0,r1,r2,r3,r4)
def c:=λa d e=>(vo a d e).isSome
def v:=λa d e=>(vo a d e).getD ([],0,[],0,0)
theorem out{x}:∀a d e,vo a d e=ah x->c a d e=ai/\v a d e=x:=λ_ _ _=>Lib.dc
end xY

namespace AB
def b(kr:C0 R)(a:aU)(d e:az):aC R:=bif de.c a d e 12 then Lib.lt (de.v a d e 12) λf=>bif de.c f.2.1 f.2.2.1 f.2.2.2 60 then Lib.lt (de.v f.2.1 f.2.2.1 f.2.2.2 60) λh=>bif zx.c h.2.1 h.2.2.1 h.2.2.2 then Lib.lt (zx.v h.2.1 h.2.2.1 h.2.2.2) λi=>bif fw.c i.1 i.2.1 i.2.2.1 i.2.2.2.1 then Lib.lt (fw.v i.1 i.2.1 i.2.2.1 i.2.2.2.1) λj=>bif decide (f.1=0)then bif decide (0<=bL h.1 4)&&decide (bL h.1 4<((ax (ax (ax (ax (aN [.s] 4) 0 [.s ⟨#[]⟩]) 1 [.s {data:= #[aw 47,aw 97]}]) 2 [.s {data:= #[aw 47,aw 110,aw 101,aw 119]}]) 3 [.s {data:= #[aw 47,aw 120]}]).length:az))then bif cB (j.1.length+(ax (aN [.s] 1) 0 [.s (bQ (ar (ax (ax (ax (ax (aN [.s] 4) 0 [.s ⟨#[]⟩]) 1 [.s {data:= #[aw 47,aw 97]}]) 2 [.s {data:= #[aw 47,aw 110,aw 101,aw 119]}]) 3 [.s {data:= #[aw 47,aw 120]}]) (bL h.1 4).toNat 0))]).length) 16 then kr (j.1++ax (aN [.s] 1) 0 [.s (bQ (ar (ax (ax (ax (ax (aN [.s] 4) 0 [.s ⟨#[]⟩]) 1 [.s {data:= #[aw 47,aw 97]}]) 2 [.s {data:= #[aw 47,aw 110,aw 101,aw 119]}]) 3 [.s {data:= #[aw 47,aw 120]}]) (bL h.1 4).toNat 0))]) j.2.1 j.2.2.1 j.2.2.2 i.2.2.2.2.1 i.2.2.2.2.2.1 i.2.2.2.2.2.2 else aj else aj else bif decide (f.1=1)then bif decide (0<=bL h.1 2)&&decide (bL h.1 2<((ax (ax (aN [.s] 2) 0 [.s {data:= #[aw 47,aw 98]}]) 1 [.s {data:= #[aw 47,aw 110,aw 101,aw 119]}]).length:az))then bif cB (j.2.1.length+(ax (aN [.s] 1) 0 [.s (bQ (ar (ax (ax (aN [.s] 2) 0 [.s {data:= #[aw 47,aw 98]}]) 1 [.s {data:= #[aw 47,aw 110,aw 101,aw 119]}]) (bL h.1 2).toNat 0))]).length) 16 then kr j.1 (j.2.1++ax (aN [.s] 1) 0 [.s (bQ (ar (ax (ax (aN [.s] 2) 0 [.s {data:= #[aw 47,aw 98]}]) 1 [.s {data:= #[aw 47,aw 110,aw 101,aw 119]}]) (bL h.1 2).toNat 0))]) j.2.2.1 j.2.2.2 i.2.2.2.2.1 i.2.2.2.2.2.1 i.2.2.2.2.2.2 else aj else aj else bif decide (f.1=2)then bif xY.c i.2.2.2.2.1 i.2.2.2.2.2.1 i.2.2.2.2.2.2 then Lib.lt (xY.v i.2.2.2.2.1 i.2.2.2.2.2.1 i.2.2.2.2.2.2) λl=>kr j.1 j.2.1 l.1 l.2.1 l.2.2.1 l.2.2.2.1 l.2.2.2.2 else aj else kr j.1 j.2.1 j.2.2.1 j.2.2.2 i.2.2.2.2.1 i.2.2.2.2.2.1 i.2.2.2.2.2.2 else aj else aj else aj else aj
def vo:=b λr0 r1 r2 r3 r4 r5 r6=>ah (r0,r1,r2,r3,r4,r5,r6)
def c:=λa d e=>(vo a d e).isSome
def v:=λa d e=>(vo a d e).getD ([],[],[],0,[],0,0)
theorem out{x}:∀a d e,vo a d e=ah x->c a d e=ai/\v a d e=x:=λ_ _ _=>Lib.dc
end AB

namespace Cv
def b(kr:rY R)(a:aU)(d e:az):aC R:=bif de.c a d e 16 then Lib.lt (de.v a d e 16) λf=>bif de.c f.2.1 f.2.2.1 f.2.2.2 60 then Lib.lt (de.v f.2.1 f.2.2.1 f.2.2.2 60) λh=>bif NV.c h.2.1 h.2.2.1 h.2.2.2 then Lib.lt (NV.v h.2.1 h.2.2.1 h.2.2.2) λi=>bif ka.c i.1 i.2.1 i.2.2.1 i.2.2.2.1 i.2.2.2.2.1 i.2.2.2.2.2.1 i.2.2.2.2.2.2.1 i.2.2.2.2.2.2.2.1 i.2.2.2.2.2.2.2.2.1 then Lib.lt (ka.v i.1 i.2.1 i.2.2.1 i.2.2.2.1 i.2.2.2.2.1 i.2.2.2.2.2.1 i.2.2.2.2.2.2.1 i.2.2.2.2.2.2.2.1 i.2.2.2.2.2.2.2.2.1) λj=>bif decide (f.1=0)then bif decide (0<=bL h.1 4)&&decide (bL h.1 4<((ax (ax (ax (ax (aN [Ck.i ao] 4) 0 [.i .i64 0]) 1 [.i .i64 1]) 2 [.i .i64 1000000000]) 3 [.i .i64 1000000001]).length:az))then kr (bZ (ar (ax (ax (ax (ax (aN [Ck.i ao] 4) 0 [.i .i64 0]) 1 [.i .i64 1]) 2 [.i .i64 1000000000]) 3 [.i .i64 1000000001]) (bL h.1 4).toNat 0)) j.2.1 j.2.2.1 j.2.2.2.1 j.2.2.2.2.1 j.2.2.2.2.2.1 j.2.2.2.2.2.2.1 j.2.2.2.2.2.2.2.1 j.2.2.2.2.2.2.2.2 i.2.2.2.2.2.2.2.2.2.1 i.2.2.2.2.2.2.2.2.2.2.1 i.2.2.2.2.2.2.2.2.2.2.2 else aj else bif decide (f.1=1)then bif AB.c i.2.2.2.2.2.2.2.2.2.1 i.2.2.2.2.2.2.2.2.2.2.1 i.2.2.2.2.2.2.2.2.2.2.2 then Lib.lt (AB.v i.2.2.2.2.2.2.2.2.2.1 i.2.2.2.2.2.2.2.2.2.2.1 i.2.2.2.2.2.2.2.2.2.2.2) λl=>kr j.1 j.2.1 l.1 l.2.1 l.2.2.1 l.2.2.2.1 j.2.2.2.2.2.2.1 j.2.2.2.2.2.2.2.1 j.2.2.2.2.2.2.2.2 l.2.2.2.2.1 l.2.2.2.2.2.1 l.2.2.2.2.2.2 else aj else bif decide (f.1=2)then bif decide ((j.2.2.2.2.2.2.1.length:az)>0)then bif !decide ((j.2.2.2.2.2.2.1.length:az)=0)then bif decide (0<=bL h.1 (j.2.2.2.2.2.2.1.length:az))&&decide (bL h.1 (j.2.2.2.2.2.2.1.length:az)<(j.2.2.2.2.2.2.1.length:az))then kr j.1 j.2.1 j.2.2.1 j.2.2.2.1 j.2.2.2.2.1 j.2.2.2.2.2.1 (dV j.2.2.2.2.2.2.1 (bL h.1 (j.2.2.2.2.2.2.1.length:az)).toNat 2 [.i .i64 (bL h.1 5)]) j.2.2.2.2.2.2.2.1 j.2.2.2.2.2.2.2.2 i.2.2.2.2.2.2.2.2.2.1 i.2.2.2.2.2.2.2.2.2.2.1 i.2.2.2.2.2.2.2.2.2.2.2 else aj else aj else kr j.1 j.2.1 j.2.2.1 j.2.2.2.1 j.2.2.2.2.1 j.2.2.2.2.2.1 j.2.2.2.2.2.2.1 j.2.2.2.2.2.2.2.1 j.2.2.2.2.2.2.2.2 i.2.2.2.2.2.2.2.2.2.1 i.2.2.2.2.2.2.2.2.2.2.1 i.2.2.2.2.2.2.2.2.2.2.2 else bif decide (f.1=3)then bif decide ((j.2.2.2.2.2.2.2.1.length:az)>0)then bif !decide ((j.2.2.2.2.2.2.2.1.length:az)=0)then bif decide (0<=bL h.1 (j.2.2.2.2.2.2.2.1.length:az))&&decide (bL h.1 (j.2.2.2.2.2.2.2.1.length:az)<(j.2.2.2.2.2.2.2.1.length:az))then kr j.1 j.2.1 j.2.2.1 j.2.2.2.1 j.2.2.2.2.1 j.2.2.2.2.2.1 j.2.2.2.2.2.2.1 (dV j.2.2.2.2.2.2.2.1 (bL h.1 (j.2.2.2.2.2.2.2.1.length:az)).toNat 2 [.i .i64 (bJ (bL h.1 30-1))]) j.2.2.2.2.2.2.2.2 i.2.2.2.2.2.2.2.2.2.1 i.2.2.2.2.2.2.2.2.2.2.1 i.2.2.2.2.2.2.2.2.2.2.2 else aj else aj else kr j.1 j.2.1 j.2.2.1 j.2.2.2.1 j.2.2.2.2.1 j.2.2.2.2.2.1 j.2.2.2.2.2.2.1 j.2.2.2.2.2.2.2.1 j.2.2.2.2.2.2.2.2 i.2.2.2.2.2.2.2.2.2.1 i.2.2.2.2.2.2.2.2.2.2.1 i.2.2.2.2.2.2.2.2.2.2.2 else bif decide (f.1=4)then kr j.1 j.2.1 j.2.2.1 j.2.2.2.1 j.2.2.2.2.1 j.2.2.2.2.2.1 j.2.2.2.2.2.2.1 j.2.2.2.2.2.2.2.1 (-1) i.2.2.2.2.2.2.2.2.2.1 i.2.2.2.2.2.2.2.2.2.2.1 i.2.2.2.2.2.2.2.2.2.2.2 else kr j.1 j.2.1 j.2.2.1 j.2.2.2.1 j.2.2.2.2.1 j.2.2.2.2.2.1 j.2.2.2.2.2.2.1 j.2.2.2.2.2.2.2.1 j.2.2.2.2.2.2.2.2 i.2.2.2.2.2.2.2.2.2.1 i.2.2.2.2.2.2.2.2.2.2.1 i.2.2.2.2.2.2.2.2.2.2.2 else aj else aj else aj else aj
def vo:=b λr0 r1 r2 r3 r4 r5 r6 r7 r8 r9 CM FA=>ah (r0,r1,r2,r3,r4,r5,r6,r7,r8,r9,CM,FA)
def c:=λa d e=>(vo a d e).isSome
def v:=λa d e=>(vo a d e).getD (0,[],[],[],[],0,[],[],0,[],0,0)
theorem out{x}:∀a d e,vo a d e=ah x->c a d e=ai/\v a d e=x:=λ_ _ _=>Lib.dc
end Cv

namespace Tz
def b(kr:uc R)(a:aU):aC R:=bif Cu.c a then Lib.lt (Cu.v a) λd=>bif TE.c d.1 d.2.1 d.2.2 9 then Lib.lt (TE.v d.1 d.2.1 d.2.2 9) λe=>bif jR.c e.2.1 e.2.2.1 e.2.2.2 then Lib.lt (jR.v e.2.1 e.2.2.1 e.2.2.2) λf=>bif ia.c f.2.1 f.2.2.1 f.2.2.2 12 then Lib.lt (ia.v f.2.1 f.2.2.1 f.2.2.2 12) λh=>bif h.1 then bif Cv.c h.2.1 h.2.2.1 h.2.2.2 then Lib.lt (Cv.v h.2.1 h.2.2.1 h.2.2.2) λi=>kr i.1 i.2.1 i.2.2.1 i.2.2.2.1 i.2.2.2.2.1 i.2.2.2.2.2.1 i.2.2.2.2.2.2.1 i.2.2.2.2.2.2.2.1 i.2.2.2.2.2.2.2.2.1 e.1 ⟨#[]⟩else aj else bif Cv.c h.2.1 h.2.2.1 h.2.2.2 then Lib.lt (Cv.v h.2.1 h.2.2.1 h.2.2.2) λi=>kr i.1 i.2.1 i.2.2.1 i.2.2.2.1 i.2.2.2.2.1 i.2.2.2.2.2.1 i.2.2.2.2.2.2.1 i.2.2.2.2.2.2.2.1 i.2.2.2.2.2.2.2.2.1 e.1 f.1 else aj else aj else aj else aj else aj
def vo:=b λr0 r1 r2 r3 r4 r5 r6 r7 r8 r9 CM=>ah (r0,r1,r2,r3,r4,r5,r6,r7,r8,r9,CM)
def c:=λa=>(vo a).isSome
def v:=λa=>(vo a).getD (0,[],[],[],[],0,[],[],0,0,⟨#[]⟩)
theorem out{x}:∀a,vo a=ah x->c a=ai/\v a=x:=λ_=>Lib.dc
end Tz

namespace vB
def b(kr:aU->aC R)(a:aU):aC R:=bif cB ((aN [Ck.s,Ck.i ao,Ck.i ao,Ck.s] 0).length+a.length) 48 then kr (aN [Ck.s,Ck.i ao,Ck.i ao,Ck.s] 0++a)else aj
def vo:=b λr0=>ah r0
def c:=λa=>(vo a).isSome
def v:=λa=>(vo a).getD ([])
theorem out{x}:∀a,vo a=ah x->c a=ai/\v a=x:=λ_=>Lib.dc
end vB

namespace se
def b(kr:aU->aC R)(a:aU):aC R:=bif cB ((aN [.s] 0).length+a.length) 16 then kr (aN [.s] 0++a)else aj
def vo:=b λr0=>ah r0
def c:=λa=>(vo a).isSome
def v:=λa=>(vo a).getD ([])
theorem out{x}:∀a,vo a=ah x->c a=ai/\v a=x:=λ_=>Lib.dc
end se

namespace uR
def b(kr:aU->aC R)(a:aU):aC R:=bif cB ((aN [Ck.i ao] 0).length+a.length) 8 then kr (aN [Ck.i ao] 0++a)else aj
def vo:=b λr0=>ah r0
def c:=λa=>(vo a).isSome
def v:=λa=>(vo a).getD ([])
theorem out{x}:∀a,vo a=ah x->c a=ai/\v a=x:=λ_=>Lib.dc
end uR

namespace iO
def r3(N:aE)(g:kj R)(g1:m8 R)(k0:kj R)(k1:m8 R)(a:aU)(d e f h:az):aC R:=bif decide (e<d)then bif decide (0<=e)&&decide (e<(a.length:az))then bif uR.c (iD (ar a e.toNat 0))then g1 a d (bJ (e+1)) f h ([]++ax (aN [Ck.l 3] 1) 0 [CV.l 3 (uR.v (iD (ar a e.toNat 0)))])else aj else aj else k0 a d e f h
def z_(N:aE)(g:kj R)(g1:m8 R)(k0:kj R)(k1:m8 R)(a:aU)(d e f h:az)(i:aU):aC R:=bif decide (e<d)then bif decide (0<=e)&&decide (e<(a.length:az))then bif uR.c (iD (ar a e.toNat 0))then bif cB (i.length+(ax (aN [Ck.l 3] 1) 0 [CV.l 3 (uR.v (iD (ar a e.toNat 0)))]).length) 24 then g1 a d (bJ (e+1)) f h (i++ax (aN [Ck.l 3] 1) 0 [CV.l 3 (uR.v (iD (ar a e.toNat 0)))])else aj else aj else aj else k1 a d e f h i
def tW(N:aE)(k0:kj R)(k1:m8 R):aE->m8 R
 |0=>λ_ _ _ _ _ _=>aj
 |n+1=>z_ N (λx0 x1 x2 x3 x4=>aj) (tW N k0 k1 n) k0 k1
def l3(N:aE)(k0:kj R)(k1:m8 R):aE->kj R
 |0=>λ_ _ _ _ _=>aj
 |n+1=>r3 N (l3 N k0 k1 n) (tW N k0 k1 n) k0 k1
def b(N:aE)(kr:tH R)(a:aU)(d:az):aC R:=l3 N (λ_ _ _ _ e=>kr [] e) (λ_ _ _ _ e f=>kr f e) N a (a.length:az) 0 0 d
def vo:=b Lib.cW λr0 r1=>ah (r0,r1)
def c:=λa d=>(vo a d).isSome
def v:=λa d=>(vo a d).getD ([],0)
theorem out{x}:∀a d,vo a d=ah x->c a d=ai/\v a d=x:=λ_ _=>Lib.dc
end iO

namespace i9
def b(kr:wT R)(a d e:aU)(f:az):aC R:=bif se.c a then bif se.c d then bif iO.c e f then kr (se.v a) (se.v d) (iO.v e f).1 (iO.v e f).2 else aj else aj else aj
def vo:=b λr0 r1 r2 r3=>ah (r0,r1,r2,r3)
def c:=λa d e f=>(vo a d e f).isSome
def v:=λa d e f=>(vo a d e f).getD ([],[],[],0)
theorem out{x}:∀a d e f,vo a d e f=ah x->c a d e f=ai/\v a d e f=x:=λ_ _ _ _=>Lib.dc
end i9

namespace EH
def b(kr:eP R)(a:az)(d e f h:aU)(i:az)(j l:aU)(m:az):aC R:=bif vB.c d then bif i9.c e f h i then bif cB ((aN [Ck.s,Ck.s,Ck.i ao,Ck.i ao,Ck.i ao] 0).length+j.length) 56 then bif cB ((aN [Ck.i ao,Ck.s,Ck.i ao,Ck.i ao,Ck.i ao,Ck.s,Ck.i ao] 0).length+l.length) 72 then kr a (vB.v d) (i9.v e f h i).1 (i9.v e f h i).2.1 (i9.v e f h i).2.2.1 (i9.v e f h i).2.2.2 (aN [Ck.s,Ck.s,Ck.i ao,Ck.i ao,Ck.i ao] 0++j) (aN [Ck.i ao,Ck.s,Ck.i ao,Ck.i ao,Ck.i ao,Ck.s,Ck.i ao] 0++l) m else aj else aj else aj else aj
def vo:=b λr0 r1 r2 r3 r4 r5 r6 r7 r8=>ah (r0,r1,r2,r3,r4,r5,r6,r7,r8)
def c:=λa d e f h i j l m=>(vo a d e f h i j l m).isSome
def v:=λa d e f h i j l m=>(vo a d e f h i j l m).getD (0,[],[],[],[],0,[],[],0)
theorem out{x}:∀a d e f h i j l m,vo a d e f h i j l m=ah x->c a d e f h i j l m=ai/\v a d e f h i j l m=x:=λ_ _ _ _ _ _ _ _ _=>Lib.dc
end EH

namespace n7
def b(kr:aW->aC R)(a d e:az):aC R:=bif decide (a≥d)then kr (decide (a<=e))else kr ak
def v(a0 a1 a2:az):aW:=bif decide (a0≥a1)then decide (a0<=a2)else ak
theorem fJ(kr:aW->aC R)(a0 a1 a2:az):b kr a0 a1 a2=kr (v a0 a1 a2):=by first|rfl|(unfold b v;simp only[cZ];(repeat' split)<;>rfl)
end n7

namespace MC
def b(kr:aW->aC R)(a:aq):aC R:=kr (n7.v (a.size:az) 1 30)
def v(a0:aq):aW:=(n7.v (a0.size:az) 1 30)
theorem fJ(kr:aW->aC R)(a0:aq):b kr a0=kr (v a0):=by first|rfl|(unfold b v;simp only[cZ];(repeat' split)<;>rfl)
end MC

namespace Ax
def b(kr:aW->aC R)(a:az):aC R:=kr (n7.v a 0 1000000000)
def v(a0:az):aW:=(n7.v a0 0 1000000000)
theorem fJ(kr:aW->aC R)(a0:az):b kr a0=kr (v a0):=by first|rfl|(unfold b v;simp only[cZ];(repeat' split)<;>rfl)
end Ax

namespace Az
def b(kr:aW->aC R)(a:aq)(d e:az)(f:aq):aC R:=bif MC.v a then bif Ax.v d then bif n7.v e 1 999999 then kr (decide ((f.size:az)<=400))else kr ak else kr ak else kr ak
def v(a0:aq)(a1 a2:az)(a3:aq):aW:=bif MC.v a0 then bif Ax.v a1 then bif n7.v a2 1 999999 then decide ((a3.size:az)<=400)else ak else ak else ak
theorem fJ(kr:aW->aC R)(a0:aq)(a1 a2:az)(a3:aq):b kr a0 a1 a2 a3=kr (v a0 a1 a2 a3):=by first|rfl|(unfold b v;simp only[cZ];(repeat' split)<;>rfl)
end Az

namespace Cr
def b(kr:aU->aC R)(a:az):aC R:=bif decide (a<0)then aj else bif decide (bJ (a-bJ (0-0))>0)then bif decide (0<=bJ (a-bJ (0-0)))&&cB (([]:aU).length+(bJ (a-bJ (0-0))).toNat) 16&&decide (bJ (a-bJ (0-0))<=9223372036854775807)then kr (eu ([]++aN [.s] (bJ (a-bJ (0-0))).toNat) (aZ 0) (aZ 0))else aj else kr []
def vo:=b λr0=>ah r0
def c:=λa=>(vo a).isSome
def v:=λa=>(vo a).getD ([])
theorem out{x}:∀a,vo a=ah x->c a=ai/\v a=x:=λ_=>Lib.dc
end Cr

namespace vD
def FA(N:aE)(g k0:qv R)(a:aU)(d e:az)(f:aU):aC R:=bif decide (e<d)then bif decide (0<=e)&&decide (e<(a.length:az))then bif cB (f.length+(iD (ar a e.toNat 0)).length) 16 then g a d (bJ (e+1)) (f++iD (ar a e.toNat 0))else aj else aj else k0 a d e f
def l11(N:aE)(k0:qv R):aE->qv R
 |0=>λ_ _ _ _=>aj
 |n+1=>FA N (l11 N k0 n) k0
def r3(N:aE)(g k0:qw R)(a:aU)(d:az)(e:aU)(f h:az):aC R:=bif decide (h<f)then bif decide (0<=h)&&decide (h<(e.length:az))then bif decide (bJ (d+((iD (ar e h.toNat 0)).length:az))<0)then aj else g a (bJ (d+((iD (ar e h.toNat 0)).length:az))) e f (bJ (h+1))else aj else k0 a d e f h
def l3(N:aE)(k0:qw R):aE->qw R
 |0=>λ_ _ _ _ _=>aj
 |n+1=>r3 N (l3 N k0 n) k0
def b(N:aE)(kr:aU->aC R)(a:aU):aC R:=l3 N (λd e _ _ _=>bif Cr.c e then l11 N (λ_ _ _ f=>kr f) N d (d.length:az) 0 (Cr.v e)else aj) N a 0 a (a.length:az) 0
def vo:=b Lib.cW λr0=>ah r0
def c:=λa=>(vo a).isSome
def v:=λa=>(vo a).getD ([])
theorem out{x}:∀a,vo a=ah x->c a=ai/\v a=x:=λ_=>Lib.dc
end vD

namespace pU
def b(kr:aU->aC R)(a d e:aU)(f:az):aC R:=bif vD.c (ax (ax (aN [Ck.l 9] 2) 0 [CV.l 9 a]) 1 [CV.l 9 d])then kr (vD.v (ax (ax (aN [Ck.l 9] 2) 0 [CV.l 9 a]) 1 [CV.l 9 d]))else aj
def vo:=b λr0=>ah r0
def c:=λa d e f=>(vo a d e f).isSome
def v:=λa d e f=>(vo a d e f).getD ([])
theorem out{x}:∀a d e f,vo a d e f=ah x->c a d e f=ai/\v a d e f=x:=λ_ _ _ _=>Lib.dc
end pU

namespace zv
def r2(N:aE)(g k0 k1:iK R)(a:aU)(d:aq)(e f h:az):aC R:=bif decide (h<f)then bif decide (0<=h)&&decide (h<(a.length:az))then bif db (aL d) (bQ (ar a h.toNat 0)).toList then k0 a d h f h else g a d e f (bJ (h+1))else aj else k1 a d e f h
def l2(N:aE)(k0 k1:iK R):aE->iK R
 |0=>λ_ _ _ _ _=>aj
 |n+1=>r2 N (l2 N k0 k1 n) k0 k1
def b(N:aE)(kr:az->aC R)(a:aU)(d:aq):aC R:=l2 N (λ_ _ e _ _=>kr e) (λ_ _ _ _ _=>kr (-1)) N a d 0 (a.length:az) 0
def vo:=b Lib.cW λr0=>ah r0
def c:=λa d=>(vo a d).isSome
def v:=λa d=>(vo a d).getD (0)
theorem out{x}:∀a d,vo a d=ah x->c a d=ai/\v a d=x:=λ_ _=>Lib.dc
end zv

namespace rL
def b(kr:aW->aC R)(a:aU)(d:aq):aC R:=bif zv.c a d then kr (decide (zv.v a d≥0))else aj
def vo:=b λr0=>ah r0
def c:=λa d=>(vo a d).isSome
def v:=λa d=>(vo a d).getD ak
theorem out{x}:∀a d,vo a d=ah x->c a d=ai/\v a d=x:=λ_ _=>Lib.dc
end rL

namespace uP
def b(kr:aW->aC R)(a d e:aU)(f:az)(h:aq):aC R:=bif pU.c a d e f then bif rL.c (pU.v a d e f) h then kr (rL.v (pU.v a d e f) h)else aj else aj
def vo:=b λr0=>ah r0
def c:=λa d e f h=>(vo a d e f h).isSome
def v:=λa d e f h=>(vo a d e f h).getD ak
theorem out{x}:∀a d e f h,vo a d e f h=ah x->c a d e f h=ai/\v a d e f h=x:=λ_ _ _ _ _=>Lib.dc
end uP

namespace oV
def r5(N:aE)(g k0 k1:qq R)(a:aW)(d e:aU)(f h:az)(i:aU)(j l:az)(m:aU)(o:az):aC R:=bif decide (l<j)then bif decide (0<=l)&&decide (l<(i.length:az))then bif !n7.v (bZ (ar i l.toNat 0)) 0 15 then k0 ak d e f h i j l m o else g a d e f h i j (bJ (l+1)) m o else aj else k1 a d e f h i j l m o
def l5(N:aE)(k0 k1:qq R):aE->qq R
 |0=>λ_ _ _ _ _ _ _ _ _ _=>aj
 |n+1=>r5 N (l5 N k0 k1 n) k0 k1
def r2(N:aE)(g k0 k1:Al R)(a:aW)(d:aU)(e f:az)(h:aU)(i:az):aC R:=bif decide (f<e)then bif decide (0<=f)&&decide (f<(d.length:az))then l5 N (λj _ l m o _ _ _ p q=>k0 j l m o p q) (λj l m o p _ _ _ q r=>bif(l.length:az) !=16 then k0 ak m o p q r else g j m o (bJ (p+1)) q r) N a (iD (ar d f.toNat 0)) d e f (iD (ar d f.toNat 0)) ((iD (ar d f.toNat 0)).length:az) 0 h i else aj else k1 a d e f h i
def l2(N:aE)(k0 k1:Al R):aE->Al R
 |0=>λ_ _ _ _ _ _=>aj
 |n+1=>r2 N (l2 N k0 k1 n) k0 k1
def b(N:aE)(kr:aW->aC R)(a:aU)(d:az):aC R:=l2 N (λe _ _ _ _ _=>kr e) (λ_ _ _ _ e f=>bif decide ((e.length:az)=3)then kr (n7.v f 0 63)else kr ak) N ak a (a.length:az) 0 a d
def vo:=b Lib.cW λr0=>ah r0
def c:=λa d=>(vo a d).isSome
def v:=λa d=>(vo a d).getD ak
theorem out{x}:∀a d,vo a d=ah x->c a d=ai/\v a d=x:=λ_ _=>Lib.dc
end oV

namespace ou
def r3(N:aE)(g k0 k1:uz R)(a:aW)(d e:az)(f h i:aU)(j:az)(l:aU):aC R:=bif decide (e<d)then bif decide (0<=e)&&decide (e<(l.length:az))then bif !MC.v (bQ (ar l e.toNat 0))then k0 ak d e f h i j l else bif iS 0 e (l.length:az)then bif rL.c (eu l (aZ 0) e.toNat) (bQ (ar l e.toNat 0))then bif rL.v (eu l (aZ 0) e.toNat) (bQ (ar l e.toNat 0))then k0 ak d e f h i j l else g a d (bJ (e+1)) f h i j l else aj else aj else aj else k1 a d e f h i j l
def l3(N:aE)(k0 k1:uz R):aE->uz R
 |0=>λ_ _ _ _ _ _ _ _=>aj
 |n+1=>r3 N (l3 N k0 k1 n) k0 k1
def b(N:aE)(kr:aW->aC R)(a d e:aU)(f:az):aC R:=bif pU.c a d e f then l3 N (λh _ _ _ _ _ _ _=>kr h) (λ_ _ _ h i j l _=>bif decide ((h.length:az)<=2)then bif decide ((i.length:az)<=4)then bif oV.c j l then kr (oV.v j l)else aj else kr ak else kr ak) N ak ((pU.v a d e f).length:az) 0 a d e f (pU.v a d e f)else aj
def vo:=b Lib.cW λr0=>ah r0
def c:=λa d e f=>(vo a d e f).isSome
def v:=λa d e f=>(vo a d e f).getD ak
theorem out{x}:∀a d e f,vo a d e f=ah x->c a d e f=ai/\v a d e f=x:=λ_ _ _ _=>Lib.dc
end ou

namespace NX
def r2(N:aE)(g k0 k1:eC R)(a:aW)(d:aU)(e f h:az)(i j l m:aU)(o:az)(p q:aU)(r:az):aC R:=bif decide (f<e)then bif decide (0<=f)&&decide (f<(d.length:az))then bif !Az.v (bQ (ar d f.toNat 0)) (bZ (ar d f.toNat 1)) (bZ (ar d f.toNat (1+1))) (bQ (ar d f.toNat (1+1+1)))then k0 ak d e f h i j l m o p q r else bif decide (f>0)then bif decide (0<=bJ (f-1))&&decide (bJ (f-1)<(i.length:az))then bif !Op.bytesLess (bQ (ar i (bJ (f-1)).toNat 0)).toList (bQ (ar d f.toNat 0)).toList then k0 ak d e f h i j l m o p q r else bif uP.c j l m o (bQ (ar d f.toNat 0))then bif !uP.v j l m o (bQ (ar d f.toNat 0))then k0 ak d e f h i j l m o p q r else g a d e (bJ (f+1)) h i j l m o p q r else aj else aj else bif uP.c j l m o (bQ (ar d f.toNat 0))then bif !uP.v j l m o (bQ (ar d f.toNat 0))then k0 ak d e f h i j l m o p q r else g a d e (bJ (f+1)) h i j l m o p q r else aj else aj else k1 a d e f h i j l m o p q r
def l2(N:aE)(k0 k1:eC R):aE->eC R
 |0=>λ_ _ _ _ _ _ _ _ _ _ _ _ _=>aj
 |n+1=>r2 N (l2 N k0 k1 n) k0 k1
def b(N:aE)(kr:aW->aC R)(a:az)(d e f h:aU)(i:az)(j l:aU)(m:az):aC R:=l2 N (λo _ _ _ _ _ _ _ _ _ _ _ _=>kr o) (λ_ _ _ _ _ o p q r s _ _ _=>bif ou.c p q r s then bif ou.v p q r s then bif pU.c p q r s then kr (decide (((pU.v p q r s).length:az)=(o.length:az)))else aj else kr ak else aj) N ak d (d.length:az) 0 a d e f h i j l m
def vo:=b Lib.cW λr0=>ah r0
def c:=λa d e f h i j l m=>(vo a d e f h i j l m).isSome
def v:=λa d e f h i j l m=>(vo a d e f h i j l m).getD ak
theorem out{x}:∀a d e f h i j l m,vo a d e f h i j l m=ah x->c a d e f h i j l m=ai/\v a d e f h i j l m=x:=λ_ _ _ _ _ _ _ _ _=>Lib.dc
end NX

namespace Gs
def b(kr:aW->aC R)(a d:aq)(e f h:az)(gz:aq):aC R:=bif db (aL a) (aL gz)then kr (decide (e=1))else kr ak
def v(a0 a1:aq)(a2 a3 a4:az)(gz:aq):aW:=bif db (aL a0) (aL gz)then decide (a2=1)else ak
theorem fJ(kr:aW->aC R)(a0 a1:aq)(a2 a3 a4:az)(gz:aq):b kr a0 a1 a2 a3 a4 gz=kr (v a0 a1 a2 a3 a4 gz):=by first|rfl|(unfold b v;simp only[cZ];(repeat' split)<;>rfl)
end Gs

namespace pS
def r2(N:aE)(g k0 k1:iK R)(a:aU)(d:aq)(e f h:az):aC R:=bif decide (h<f)then bif decide (0<=h)&&decide (h<(a.length:az))then bif Gs.v (bQ (ar a h.toNat 0)) (bQ (ar a h.toNat 1)) (bZ (ar a h.toNat (1+1))) (bZ (ar a h.toNat (1+1+1))) (bZ (ar a h.toNat (1+1+1+1))) d then k0 a d h f h else g a d e f (bJ (h+1))else aj else k1 a d e f h
def l2(N:aE)(k0 k1:iK R):aE->iK R
 |0=>λ_ _ _ _ _=>aj
 |n+1=>r2 N (l2 N k0 k1 n) k0 k1
def b(N:aE)(kr:az->aC R)(a:aU)(gz:aq):aC R:=l2 N (λ_ _ d _ _=>kr d) (λ_ _ _ _ _=>kr (-1)) N a gz 0 (a.length:az) 0
def vo:=b Lib.cW λr0=>ah r0
def c:=λa d=>(vo a d).isSome
def v:=λa d=>(vo a d).getD (0)
theorem out{x}:∀a d,vo a d=ah x->c a d=ai/\v a d=x:=λ_ _=>Lib.dc
end pS

namespace IU
def b(kr:az->aC R)(a:az)(d e f h:aU)(i:az)(j l:aU)(m:az)(o:aq):aC R:=bif pS.c j o then kr (pS.v j o)else aj
def vo:=b λr0=>ah r0
def c:=λa d e f h i j l m o=>(vo a d e f h i j l m o).isSome
def v:=λa d e f h i j l m o=>(vo a d e f h i j l m o).getD (0)
theorem out{x}:∀a d e f h i j l m o,vo a d e f h i j l m o=ah x->c a d e f h i j l m o=ai/\v a d e f h i j l m o=x:=λ_ _ _ _ _ _ _ _ _ _=>Lib.dc
end IU

namespace vA
def r2(N:aE)(g k0 k1:eC R)(a:aW)(d:aU)(e f h:az)(i j l m:aU)(o:az)(p q:aU)(r:az):aC R:=bif decide (f<e)then bif decide (0<=f)&&decide (f<(d.length:az))then bif decide (bZ (ar d f.toNat (1+1))=1)then bif IU.c h i j l m o p q r (bQ (ar d f.toNat 0))then bif IU.v h i j l m o p q r (bQ (ar d f.toNat 0)) !=f then k0 ak d e f h i j l m o p q r else g a d e (bJ (f+1)) h i j l m o p q r else aj else g a d e (bJ (f+1)) h i j l m o p q r else aj else k1 a d e f h i j l m o p q r
def l2(N:aE)(k0 k1:eC R):aE->eC R
 |0=>λ_ _ _ _ _ _ _ _ _ _ _ _ _=>aj
 |n+1=>r2 N (l2 N k0 k1 n) k0 k1
def b(N:aE)(kr:aW->aC R)(a:az)(d e f h:aU)(i:az)(j l:aU)(m:az):aC R:=l2 N (λo _ _ _ _ _ _ _ _ _ _ _ _=>kr o) (λ_ _ _ _ _ _ _ _ _ _ _ _ _=>kr ai) N ak j (j.length:az) 0 a d e f h i j l m
def vo:=b Lib.cW λr0=>ah r0
def c:=λa d e f h i j l m=>(vo a d e f h i j l m).isSome
def v:=λa d e f h i j l m=>(vo a d e f h i j l m).getD ak
theorem out{x}:∀a d e f h i j l m,vo a d e f h i j l m=ah x->c a d e f h i j l m=ai/\v a d e f h i j l m=x:=λ_ _ _ _ _ _ _ _ _=>Lib.dc
end vA

namespace ME
def r2(N:aE)(g k0 k1:eC R)(a:aW)(d:aU)(e f h:az)(i j l m:aU)(o:az)(p q:aU)(r:az):aC R:=bif decide (f<e)then bif decide (0<=f)&&decide (f<(d.length:az))then bif !MC.v (bQ (ar d f.toNat 0))then k0 ak d e f h i j l m o p q r else bif decide (((bQ (ar d f.toNat 1)).size:az)>400)then k0 ak d e f h i j l m o p q r else bif !n7.v (bZ (ar d f.toNat (1+1))) 1 3 then k0 ak d e f h i j l m o p q r else bif !n7.v (bZ (ar d f.toNat (1+1+1))) 0 999999 then k0 ak d e f h i j l m o p q r else bif !n7.v (bZ (ar d f.toNat (1+1+1+1))) 0 h then k0 ak d e f h i j l m o p q r else g a d e (bJ (f+1)) h i j l m o p q r else aj else k1 a d e f h i j l m o p q r
def l2(N:aE)(k0 k1:eC R):aE->eC R
 |0=>λ_ _ _ _ _ _ _ _ _ _ _ _ _=>aj
 |n+1=>r2 N (l2 N k0 k1 n) k0 k1
def b(N:aE)(kr:aW->aC R)(a:az)(d e f h:aU)(i:az)(j l:aU)(m:az):aC R:=l2 N (λo _ _ _ _ _ _ _ _ _ _ _ _=>kr o) (λ_ _ _ _ o p q r s t u w y=>bif decide ((u.length:az)<=20)then bif vA.c o p q r s t u w y then kr (vA.v o p q r s t u w y)else aj else kr ak) N ak j (j.length:az) 0 a d e f h i j l m
def vo:=b Lib.cW λr0=>ah r0
def c:=λa d e f h i j l m=>(vo a d e f h i j l m).isSome
def v:=λa d e f h i j l m=>(vo a d e f h i j l m).getD ak
theorem out{x}:∀a d e f h i j l m,vo a d e f h i j l m=ah x->c a d e f h i j l m=ai/\v a d e f h i j l m=x:=λ_ _ _ _ _ _ _ _ _=>Lib.dc
end ME

namespace NY
def r2(N:aE)(g k0 k1:eC R)(a:aW)(d:aU)(e f h:az)(i j l m:aU)(o:az)(p q:aU)(r:az):aC R:=bif decide (f<e)then bif decide (0<=f)&&decide (f<(d.length:az))then bif !n7.v (bZ (ar d f.toNat 0)) 1 9 then k0 ak d e f h i j l m o p q r else bif decide (f>0)then bif decide (0<=bJ (f-1))&&decide (bJ (f-1)<(q.length:az))then bif decide (bZ (ar q (bJ (f-1)).toNat 0)≥bZ (ar d f.toNat 0))then k0 ak d e f h i j l m o p q r else bif !MC.v (bQ (ar d f.toNat 1))then k0 ak d e f h i j l m o p q r else bif !n7.v (bZ (ar d f.toNat (1+1+1+1))) 1 3 then k0 ak d e f h i j l m o p q r else bif !n7.v (bZ (ar d f.toNat (1+1))) 0 (p.length:az)then k0 ak d e f h i j l m o p q r else bif decide (((bQ (ar d f.toNat (1+1+1+1+1))).size:az)>400)then k0 ak d e f h i j l m o p q r else bif !n7.v (bZ (ar d f.toNat (1+1+1))) 0 h then k0 ak d e f h i j l m o p q r else bif decide (bZ (ar d f.toNat (1+1+1+1+1+1))<0)then k0 ak d e f h i j l m o p q r else g a d e (bJ (f+1)) h i j l m o p q r else aj else bif !MC.v (bQ (ar d f.toNat 1))then k0 ak d e f h i j l m o p q r else bif !n7.v (bZ (ar d f.toNat (1+1+1+1))) 1 3 then k0 ak d e f h i j l m o p q r else bif !n7.v (bZ (ar d f.toNat (1+1))) 0 (p.length:az)then k0 ak d e f h i j l m o p q r else bif decide (((bQ (ar d f.toNat (1+1+1+1+1))).size:az)>400)then k0 ak d e f h i j l m o p q r else bif !n7.v (bZ (ar d f.toNat (1+1+1))) 0 h then k0 ak d e f h i j l m o p q r else bif decide (bZ (ar d f.toNat (1+1+1+1+1+1))<0)then k0 ak d e f h i j l m o p q r else g a d e (bJ (f+1)) h i j l m o p q r else aj else k1 a d e f h i j l m o p q r
def l2(N:aE)(k0 k1:eC R):aE->eC R
 |0=>λ_ _ _ _ _ _ _ _ _ _ _ _ _=>aj
 |n+1=>r2 N (l2 N k0 k1 n) k0 k1
def b(N:aE)(kr:aW->aC R)(a:az)(d e f h:aU)(i:az)(j l:aU)(m:az):aC R:=l2 N (λo _ _ _ _ _ _ _ _ _ _ _ _=>kr o) (λ_ _ _ _ _ _ _ _ _ _ _ o _=>kr (decide ((o.length:az)<=6))) N ak l (l.length:az) 0 a d e f h i j l m
def vo:=b Lib.cW λr0=>ah r0
def c:=λa d e f h i j l m=>(vo a d e f h i j l m).isSome
def v:=λa d e f h i j l m=>(vo a d e f h i j l m).getD ak
theorem out{x}:∀a d e f h i j l m,vo a d e f h i j l m=ah x->c a d e f h i j l m=ai/\v a d e f h i j l m=x:=λ_ _ _ _ _ _ _ _ _=>Lib.dc
end NY

namespace o9
def b(kr:aW->aC R)(a:az)(d e f h:aU)(i:az)(j l:aU)(m:az):aC R:=bif n7.v a 1 1000000000 then bif NX.c a d e f h i j l m then bif NX.v a d e f h i j l m then bif ME.c a d e f h i j l m then bif ME.v a d e f h i j l m then bif NY.c a d e f h i j l m then bif NY.v a d e f h i j l m then kr (Ax.v m)else kr ak else aj else kr ak else aj else kr ak else aj else kr ak
def vo:=b λr0=>ah r0
def c:=λa d e f h i j l m=>(vo a d e f h i j l m).isSome
def v:=λa d e f h i j l m=>(vo a d e f h i j l m).getD ak
theorem out{x}:∀a d e f h i j l m,vo a d e f h i j l m=ah x->c a d e f h i j l m=ai/\v a d e f h i j l m=x:=λ_ _ _ _ _ _ _ _ _=>Lib.dc
end o9

namespace IJ
def b(kr:aW->aC R)(a:az)(d:aq)(e f h:az)(i:aq)(j Hl:az):aC R:=kr (decide (a=Hl))
def v(a0:az)(a1:aq)(a2 a3 a4:az)(a5:aq)(a6 Hl:az):aW:=(decide (a0=Hl))
theorem fJ(kr:aW->aC R)(a0:az)(a1:aq)(a2 a3 a4:az)(a5:aq)(a6 Hl:az):b kr a0 a1 a2 a3 a4 a5 a6 Hl=kr (v a0 a1 a2 a3 a4 a5 a6 Hl):=by first|rfl|(unfold b v;simp only[cZ];(repeat' split)<;>rfl)
end IJ

namespace pR
def r2(N:aE)(g k0 k1:kj R)(a:aU)(d e f h:az):aC R:=bif decide (h<f)then bif decide (0<=h)&&decide (h<(a.length:az))then bif IJ.v (bZ (ar a h.toNat 0)) (bQ (ar a h.toNat 1)) (bZ (ar a h.toNat (1+1))) (bZ (ar a h.toNat (1+1+1))) (bZ (ar a h.toNat (1+1+1+1))) (bQ (ar a h.toNat (1+1+1+1+1))) (bZ (ar a h.toNat (1+1+1+1+1+1))) d then k0 a d h f h else g a d e f (bJ (h+1))else aj else k1 a d e f h
def l2(N:aE)(k0 k1:kj R):aE->kj R
 |0=>λ_ _ _ _ _=>aj
 |n+1=>r2 N (l2 N k0 k1 n) k0 k1
def b(N:aE)(kr:az->aC R)(a:aU)(Hl:az):aC R:=l2 N (λ_ _ d _ _=>kr d) (λ_ _ _ _ _=>kr (-1)) N a Hl 0 (a.length:az) 0
def vo:=b Lib.cW λr0=>ah r0
def c:=λa d=>(vo a d).isSome
def v:=λa d=>(vo a d).getD (0)
theorem out{x}:∀a d,vo a d=ah x->c a d=ai/\v a d=x:=λ_ _=>Lib.dc
end pR

namespace U93
def b(kr:aW->aC R)(a:az)(d:aq)(e f h:az)(i:aq)(j Hl:az):aC R:=kr (decide (a=Hl))
def v(a0:az)(a1:aq)(a2 a3 a4:az)(a5:aq)(a6 Hl:az):aW:=(decide (a0=Hl))
theorem fJ(kr:aW->aC R)(a0:az)(a1:aq)(a2 a3 a4:az)(a5:aq)(a6 Hl:az):b kr a0 a1 a2 a3 a4 a5 a6 Hl=kr (v a0 a1 a2 a3 a4 a5 a6 Hl):=by first|rfl|(unfold b v;simp only[cZ];(repeat' split)<;>rfl)
end U93

namespace Ay
def r2(N:aE)(g k0 k1:kj R)(a:aU)(d e f h:az):aC R:=bif decide (h<f)then bif decide (0<=h)&&decide (h<(a.length:az))then bif U93.v (bZ (ar a h.toNat 0)) (bQ (ar a h.toNat 1)) (bZ (ar a h.toNat (1+1))) (bZ (ar a h.toNat (1+1+1))) (bZ (ar a h.toNat (1+1+1+1))) (bQ (ar a h.toNat (1+1+1+1+1))) (bZ (ar a h.toNat (1+1+1+1+1+1))) d then k0 a d h f h else g a d e f (bJ (h+1))else aj else k1 a d e f h
def l2(N:aE)(k0 k1:kj R):aE->kj R
 |0=>λ_ _ _ _ _=>aj
 |n+1=>r2 N (l2 N k0 k1 n) k0 k1
def b(N:aE)(kr:az->aC R)(a:aU)(Hl:az):aC R:=l2 N (λ_ _ d _ _=>kr d) (λ_ _ _ _ _=>kr (-1)) N a Hl 0 (a.length:az) 0
def vo:=b Lib.cW λr0=>ah r0
def c:=λa d=>(vo a d).isSome
def v:=λa d=>(vo a d).getD (0)
theorem out{x}:∀a d,vo a d=ah x->c a d=ai/\v a d=x:=λ_ _=>Lib.dc
end Ay

namespace TD
def b(kr:az->aC R)(a:az)(d e f h:aU)(i:az)(j l:aU)(m o:az):aC R:=bif pR.c l o then kr (pR.v l o)else aj
def vo:=b λr0=>ah r0
def c:=λa d e f h i j l m o=>(vo a d e f h i j l m o).isSome
def v:=λa d e f h i j l m o=>(vo a d e f h i j l m o).getD (0)
theorem out{x}:∀a d e f h i j l m o,vo a d e f h i j l m o=ah x->c a d e f h i j l m o=ai/\v a d e f h i j l m o=x:=λ_ _ _ _ _ _ _ _ _ _=>Lib.dc
end TD

namespace U67
def b(kr:aW->aC R)(a:aq)(d e:az)(f gz:aq):aC R:=kr (db (aL a) (aL gz))
def v(a0:aq)(a1 a2:az)(a3 gz:aq):aW:=(db (aL a0) (aL gz))
theorem fJ(kr:aW->aC R)(a0:aq)(a1 a2:az)(a3 gz:aq):b kr a0 a1 a2 a3 gz=kr (v a0 a1 a2 a3 gz):=by first|rfl|(unfold b v;simp only[cZ];(repeat' split)<;>rfl)
end U67

namespace vJ
def r2(N:aE)(g k0 k1:iK R)(a:aU)(d:aq)(e f h:az):aC R:=bif decide (h<f)then bif decide (0<=h)&&decide (h<(a.length:az))then bif U67.v (bQ (ar a h.toNat 0)) (bZ (ar a h.toNat 1)) (bZ (ar a h.toNat (1+1))) (bQ (ar a h.toNat (1+1+1))) d then k0 a d h f h else g a d e f (bJ (h+1))else aj else k1 a d e f h
def l2(N:aE)(k0 k1:iK R):aE->iK R
 |0=>λ_ _ _ _ _=>aj
 |n+1=>r2 N (l2 N k0 k1 n) k0 k1
def b(N:aE)(kr:az->aC R)(a:aU)(gz:aq):aC R:=l2 N (λ_ _ d _ _=>kr d) (λ_ _ _ _ _=>kr (-1)) N a gz 0 (a.length:az) 0
def vo:=b Lib.cW λr0=>ah r0
def c:=λa d=>(vo a d).isSome
def v:=λa d=>(vo a d).getD (0)
theorem out{x}:∀a d,vo a d=ah x->c a d=ai/\v a d=x:=λ_ _=>Lib.dc
end vJ

namespace zr
def b(kr:aW->aC R)(a:aq)(d e:az)(f gz:aq):aC R:=kr (db (aL a) (aL gz))
def v(a0:aq)(a1 a2:az)(a3 gz:aq):aW:=(db (aL a0) (aL gz))
theorem fJ(kr:aW->aC R)(a0:aq)(a1 a2:az)(a3 gz:aq):b kr a0 a1 a2 a3 gz=kr (v a0 a1 a2 a3 gz):=by first|rfl|(unfold b v;simp only[cZ];(repeat' split)<;>rfl)
end zr

namespace rO
def r2(N:aE)(g k0 k1:iK R)(a:aU)(d:aq)(e f h:az):aC R:=bif decide (h<f)then bif decide (0<=h)&&decide (h<(a.length:az))then bif zr.v (bQ (ar a h.toNat 0)) (bZ (ar a h.toNat 1)) (bZ (ar a h.toNat (1+1))) (bQ (ar a h.toNat (1+1+1))) d then k0 a d h f h else g a d e f (bJ (h+1))else aj else k1 a d e f h
def l2(N:aE)(k0 k1:iK R):aE->iK R
 |0=>λ_ _ _ _ _=>aj
 |n+1=>r2 N (l2 N k0 k1 n) k0 k1
def b(N:aE)(kr:az->aC R)(a:aU)(gz:aq):aC R:=l2 N (λ_ _ d _ _=>kr d) (λ_ _ _ _ _=>kr (-1)) N a gz 0 (a.length:az) 0
def vo:=b Lib.cW λr0=>ah r0
def c:=λa d=>(vo a d).isSome
def v:=λa d=>(vo a d).getD (0)
theorem out{x}:∀a d,vo a d=ah x->c a d=ai/\v a d=x:=λ_ _=>Lib.dc
end rO

namespace PJ
def b(kr:aW->aC R)(a:aq)(d e:az)(f:aq)(MH:az)(GH:aq)(MI GI MJ:az)(GJ:aq)(GK:az):aC R:=bif db (aL a) (aL GH)then bif decide (d=GI)then bif db (aL f) (aL GJ)then kr (decide (e>GK))else kr ak else kr ak else kr ak
def v(a0:aq)(a1 a2:az)(a3:aq)(MH:az)(GH:aq)(MI GI MJ:az)(GJ:aq)(GK:az):aW:=bif db (aL a0) (aL GH)then bif decide (a1=GI)then bif db (aL a3) (aL GJ)then decide (a2>GK)else ak else ak else ak
theorem fJ(kr:aW->aC R)(a0:aq)(a1 a2:az)(a3:aq)(MH:az)(GH:aq)(MI GI MJ:az)(GJ:aq)(GK:az):b kr a0 a1 a2 a3 MH GH MI GI MJ GJ GK=kr (v a0 a1 a2 a3 MH GH MI GI MJ GJ GK):=by first|rfl|(unfold b v;simp only[cZ];(repeat' split)<;>rfl)
end PJ

namespace IQ
def r2(N:aE)(g k0 k1:pw R)(a:aU)(d:az)(e:aq)(f h i:az)(j:aq)(l m o p:az):aC R:=bif decide (p<o)then bif decide (0<=p)&&decide (p<(a.length:az))then bif PJ.v (bQ (ar a p.toNat 0)) (bZ (ar a p.toNat 1)) (bZ (ar a p.toNat (1+1))) (bQ (ar a p.toNat (1+1+1))) d e f h i j l then k0 a d e f h i j l p o p else g a d e f h i j l m o (bJ (p+1))else aj else k1 a d e f h i j l m o p
def l2(N:aE)(k0 k1:pw R):aE->pw R
 |0=>λ_ _ _ _ _ _ _ _ _ _ _=>aj
 |n+1=>r2 N (l2 N k0 k1 n) k0 k1
def b(N:aE)(kr:az->aC R)(a:aU)(MH:az)(GH:aq)(MI GI MJ:az)(GJ:aq)(GK:az):aC R:=l2 N (λ_ _ _ _ _ _ _ _ d _ _=>kr d) (λ_ _ _ _ _ _ _ _ _ _ _=>kr (-1)) N a MH GH MI GI MJ GJ GK 0 (a.length:az) 0
def vo:=b Lib.cW λr0=>ah r0
def c:=λa d e f h i j l=>(vo a d e f h i j l).isSome
def v:=λa d e f h i j l=>(vo a d e f h i j l).getD (0)
theorem out{x}:∀a d e f h i j l,vo a d e f h i j l=ah x->c a d e f h i j l=ai/\v a d e f h i j l=x:=λ_ _ _ _ _ _ _ _=>Lib.dc
end IQ

namespace Ih
def b(kr:aW->aC R)(a:aq)(d e:az)(f:aq)(h:az):aC R:=bif Az.v a d e f then bif Ax.v h then kr (n7.v h d (bJ (bJ (d+e)-1)))else kr ak else kr ak
def v(a0:aq)(a1 a2:az)(a3:aq)(a4:az):aW:=bif Az.v a0 a1 a2 a3 then bif Ax.v a4 then n7.v a4 a1 (bJ (bJ (a1+a2)-1))else ak else ak
theorem fJ(kr:aW->aC R)(a0:aq)(a1 a2:az)(a3:aq)(a4:az):b kr a0 a1 a2 a3 a4=kr (v a0 a1 a2 a3 a4):=by first|rfl|(unfold b v;simp only[cZ];(repeat' split)<;>rfl)
end Ih

namespace vF
def r6(N:aE)(g k0:wS R)(a:az)(d:aq)(e f:az):aC R:=bif decide (f<8)then bif decide (bL a 2=1)then g (bI ed (↑(dM (lF (b9 32 (bI ed (cS a 2))) (b9 32 3558460437))):az)) d e (bJ (f+1))else g (bI ed (cS a 2)) d e (bJ (f+1))else k0 a d e f
def l6(N:aE)(k0:wS R):aE->wS R
 |0=>λ_ _ _ _=>aj
 |n+1=>r6 N (l6 N k0 n) k0
def r2(N:aE)(g k0:CZ R)(a:az)(d:aq)(e:az):aC R:=bif decide (e<(d.size:az))then bif decide (0<=e)&&decide (e<(d.size:az))then l6 N (λf h i _=>g f h (bJ (i+1))) N (bI ed (↑(dM (lF (b9 32 a) (b9 32 (bI ed (↑(iL d e.toNat):az))))):az)) d e 0 else aj else k0 a d e
def l2(N:aE)(k0:CZ R):aE->CZ R
 |0=>λ_ _ _=>aj
 |n+1=>r2 N (l2 N k0 n) k0
def b(N:aE)(kr:az->aC R)(a:az)(d:aq):aC R:=l2 N (λe _ _=>kr e) N a d 0
def vo:=b Lib.cW λr0=>ah r0
def c:=λa d=>(vo a d).isSome
def v:=λa d=>(vo a d).getD (0)
theorem out{x}:∀a d,vo a d=ah x->c a d=ai/\v a d=x:=λ_ _=>Lib.dc
end vF

namespace tQ
def b(kr:az->aC R)(a:aq):aC R:=bif vF.c 4294967295 a then kr (vF.v 4294967295 a)else aj
def vo:=b λr0=>ah r0
def c:=λa=>(vo a).isSome
def v:=λa=>(vo a).getD (0)
theorem out{x}:∀a,vo a=ah x->c a=ai/\v a=x:=λ_=>Lib.dc
end tQ

namespace pT
def b(kr:az->aC R)(a:az)(d:aq):aC R:=bif decide (d.size+(bytesOf (ax (aN [Ck.i bg] 1) 0 [CV.i bg (bI bg (bJ (↑(dM (iY (b9 64 a) (b9 64 255))):az)))])).size<=4611686018427387904)then bif tQ.c (d++bytesOf (ax (aN [Ck.i bg] 1) 0 [CV.i bg (bI bg (bJ (↑(dM (iY (b9 64 a) (b9 64 255))):az)))]))then kr (bL (bJ (tQ.v (d++bytesOf (ax (aN [Ck.i bg] 1) 0 [CV.i bg (bI bg (bJ (↑(dM (iY (b9 64 a) (b9 64 255))):az)))])))) 16)else aj else aj
def vo:=b λr0=>ah r0
def c:=λa d=>(vo a d).isSome
def v:=λa d=>(vo a d).getD (0)
theorem out{x}:∀a d,vo a d=ah x->c a d=ai/\v a d=x:=λ_ _=>Lib.dc
end pT

namespace nI
def r18(N:aE)(g k0:uA R)(a:aE)(d e f h i j:az)(l:aU):aC R:=bif decide (h<f)then bif decide (0<=h)&&decide (h<((iD (ar l a 0)).length:az))then bif decide (0<=h)&&decide (h<((iD (ar l a 0)).length:az))then g a d e f (bJ (h+1)) i j (dV l a 0 [CV.l 3 (dV (iD (ar l a 0)) h.toNat 0 [.i .i64 (bJ (cS (bZ (ar (iD (ar l a 0)) h.toNat 0)) 2))])])else aj else aj else k0 a d e f h i j l
def l18(N:aE)(k0:uA R):aE->uA R
 |0=>λ_ _ _ _ _ _ _ _=>aj
 |n+1=>r18 N (l18 N k0 n) k0
def r15(N:aE)(g k0:nN R)(a d e f:az)(h:aU):aC R:=bif decide (d<a)then bif decide (0<=d)&&decide (d<(h.length:az))then l18 N (λ_ i j _ _ l m o=>g i (bJ (j+1)) l m o) N d.toNat a d ((iD (ar h d.toNat 0)).length:az) 0 e f h else aj else k0 a d e f h
def l15(N:aE)(k0:nN R):aE->nN R
 |0=>λ_ _ _ _ _=>aj
 |n+1=>r15 N (l15 N k0 n) k0
def r5(N:aE)(g k0:Ao R)(a:aq)(d e f h:az)(i:aU):aC R:=bif decide (e<d)then bif decide (0<=e)&&decide (e<(i.length:az))then bif pT.c e a then bif decide (0<=pT.v e a)&&decide (pT.v e a<((iD (ar i e.toNat 0)).length:az))then bif decide (0<=pT.v e a)&&decide (pT.v e a<((iD (ar i e.toNat 0)).length:az))then g a d (bJ (e+1)) f h (dV i e.toNat 0 [CV.l 3 (dV (iD (ar i e.toNat 0)) (pT.v e a).toNat 0 [.i .i64 (kW ak (bJ (bZ (ar (iD (ar i e.toNat 0)) (pT.v e a).toNat 0)+1)) 15)])])else aj else aj else aj else aj else k0 a d e f h i
def l5(N:aE)(k0:Ao R):aE->Ao R
 |0=>λ_ _ _ _ _ _=>aj
 |n+1=>r5 N (l5 N k0 n) k0
def b(N:aE)(kr:tH R)(a:aU)(d:az)(e:aq):aC R:=bif iO.c a d then bif oV.c a d then bif !oV.v a d then kr (iO.v a d).1 (iO.v a d).2 else l5 N (λ_ _ _ f h i=>bif decide (bJ (h+1)<64)then kr i (bJ (h+1))else l15 N (λ_ _ _ j l=>kr l j) N (i.length:az) 0 f 0 i) N e ((iO.v a d).1.length:az) 0 0 (iO.v a d).2 (iO.v a d).1 else aj else aj
def vo:=b Lib.cW λr0 r1=>ah (r0,r1)
def c:=λa d e=>(vo a d e).isSome
def v:=λa d e=>(vo a d e).getD ([],0)
theorem out{x}:∀a d e,vo a d e=ah x->c a d e=ai/\v a d e=x:=λ_ _ _=>Lib.dc
end nI

namespace zw
def b(kr:aW->aC R)(a gz:aq):aC R:=kr (db (aL a) (aL gz))
def v(a0 gz:aq):aW:=(db (aL a0) (aL gz))
theorem fJ(kr:aW->aC R)(a0 gz:aq):b kr a0 gz=kr (v a0 gz):=by first|rfl|(unfold b v;simp only[cZ];(repeat' split)<;>rfl)
end zw

namespace rN
def r2(N:aE)(g k0 k1:iK R)(a:aU)(d:aq)(e f h:az):aC R:=bif decide (h<f)then bif decide (0<=h)&&decide (h<(a.length:az))then bif zw.v (bQ (ar a h.toNat 0)) d then k0 a d h f h else g a d e f (bJ (h+1))else aj else k1 a d e f h
def l2(N:aE)(k0 k1:iK R):aE->iK R
 |0=>λ_ _ _ _ _=>aj
 |n+1=>r2 N (l2 N k0 k1 n) k0 k1
def b(N:aE)(kr:az->aC R)(a:aU)(gz:aq):aC R:=l2 N (λ_ _ d _ _=>kr d) (λ_ _ _ _ _=>kr (-1)) N a gz 0 (a.length:az) 0
def vo:=b Lib.cW λr0=>ah r0
def c:=λa d=>(vo a d).isSome
def v:=λa d=>(vo a d).getD (0)
theorem out{x}:∀a d,vo a d=ah x->c a d=ai/\v a d=x:=λ_ _=>Lib.dc
end rN

namespace vC
def r5(N:aE)(g k0:nv R)(a:aq)(d e:az)(f:aU):aC R:=bif decide (e<(f.length:az))then bif decide (0<=e)&&decide (e<(f.length:az))then bif !zw.v (bQ (ar f e.toNat 0)) a then bif decide (0<=d)&&decide (d<(f.length:az))then g a (bJ (d+1)) (bJ (e+1)) (dV f d.toNat 0 [.s (bQ (ar f e.toNat 0))])else aj else g a d (bJ (e+1)) f else aj else k0 a d e f
def l5(N:aE)(k0:nv R):aE->nv R
 |0=>λ_ _ _ _=>aj
 |n+1=>r5 N (l5 N k0 n) k0
def b(N:aE)(kr:aU->aC R)(a:aU)(gz:aq):aC R:=bif rN.c a gz then bif decide (rN.v a gz=iT 1)then kr a else l5 N (λ_ d _ e=>bif iS d (e.length:az) (e.length:az)then bif iS 0 d ((ny d.toNat e++aN [.s] ((e.length:az).toNat-d.toNat)++Au (e.length:az).toNat e).length:az)then kr (eu (ny d.toNat e++aN [.s] ((e.length:az).toNat-d.toNat)++Au (e.length:az).toNat e) (aZ 0) d.toNat)else aj else aj) N gz (rN.v a gz) (bJ (rN.v a gz+1)) a else aj
def vo:=b Lib.cW λr0=>ah r0
def c:=λa d=>(vo a d).isSome
def v:=λa d=>(vo a d).getD ([])
theorem out{x}:∀a d,vo a d=ah x->c a d=ai/\v a d=x:=λ_ _=>Lib.dc
end vC

namespace jB
def b(kr:aU->aC R)(a:aU)(d:aq):aC R:=bif se.c a then bif vC.c (se.v a) d then kr (vC.v (se.v a) d)else aj else aj
def vo:=b λr0=>ah r0
def c:=λa d=>(vo a d).isSome
def v:=λa d=>(vo a d).getD ([])
theorem out{x}:∀a d,vo a d=ah x->c a d=ai/\v a d=x:=λ_ _=>Lib.dc
end jB

namespace uM
def r5(N:aE)(g k0:D1 R)(a:aq)(d:az)(e:aU)(f h:az):aC R:=bif decide (h<f)then bif decide (0<=h)&&decide (h<(e.length:az))then bif pT.c h a then bif decide (0<=pT.v h a)&&decide (pT.v h a<((iD (ar e h.toNat 0)).length:az))then g a (kW ak d (bZ (ar (iD (ar e h.toNat 0)) (pT.v h a).toNat 0))) e f (bJ (h+1))else aj else aj else aj else k0 a d e f h
def l5(N:aE)(k0:D1 R):aE->D1 R
 |0=>λ_ _ _ _ _=>aj
 |n+1=>r5 N (l5 N k0 n) k0
def b(N:aE)(kr:az->aC R)(a:aU)(d:az)(e:aq):aC R:=bif oV.c a d then bif !oV.v a d then kr 0 else l5 N (λ_ f _ _ _=>kr f) N e 15 a (a.length:az) 0 else aj
def vo:=b Lib.cW λr0=>ah r0
def c:=λa d e=>(vo a d e).isSome
def v:=λa d e=>(vo a d e).getD (0)
theorem out{x}:∀a d e,vo a d e=ah x->c a d e=ai/\v a d e=x:=λ_ _ _=>Lib.dc
end uM

namespace MD
def b(kr:Kp R)(a d e:aU)(f:az)(h:aq):aC R:=bif i9.c a d e f then bif ou.c a d e f then bif !ou.v a d e f then kr (i9.v a d e f).1 (i9.v a d e f).2.1 (i9.v a d e f).2.2.1 (i9.v a d e f).2.2.2 ⟨#[]⟩else bif !MC.v h then kr (i9.v a d e f).1 (i9.v a d e f).2.1 (i9.v a d e f).2.2.1 (i9.v a d e f).2.2.2 ⟨#[]⟩else bif nI.c e f h then bif rL.c d h then bif rL.v d h then bif jB.c d h then bif cB ((jB.v d h).length+(ax (aN [.s] 1) 0 [.s h]).length) 16 then kr (i9.v a d e f).1 (jB.v d h++ax (aN [.s] 1) 0 [.s h]) (nI.v e f h).1 (nI.v e f h).2 ⟨#[]⟩else aj else aj else bif jB.c a h then bif cB ((jB.v a h).length+(ax (aN [.s] 1) 0 [.s h]).length) 16 then bif decide (((jB.v a h++ax (aN [.s] 1) 0 [.s h]).length:az)<=2)then kr (jB.v a h++ax (aN [.s] 1) 0 [.s h]) (i9.v a d e f).2.1 (nI.v e f h).1 (nI.v e f h).2 ⟨#[]⟩else bif decide (0<((jB.v a h++ax (aN [.s] 1) 0 [.s h]).length:az))then bif iS 1 ((jB.v a h++ax (aN [.s] 1) 0 [.s h]).length:az) ((jB.v a h++ax (aN [.s] 1) 0 [.s h]).length:az)then bif decide (((i9.v a d e f).2.1.length:az)<4)then bif cB ((i9.v a d e f).2.1.length+(ax (aN [.s] 1) 0 [.s (bQ (ar (jB.v a h++ax (aN [.s] 1) 0 [.s h]) (aZ 0) 0))]).length) 16 then kr (eu (jB.v a h++ax (aN [.s] 1) 0 [.s h]) (aZ 1) ((jB.v a h++ax (aN [.s] 1) 0 [.s h]).length:az).toNat) ((i9.v a d e f).2.1++ax (aN [.s] 1) 0 [.s (bQ (ar (jB.v a h++ax (aN [.s] 1) 0 [.s h]) (aZ 0) 0))]) (nI.v e f h).1 (nI.v e f h).2 ⟨#[]⟩else aj else bif decide (0<((i9.v a d e f).2.1.length:az))then bif uM.c (nI.v e f h).1 (nI.v e f h).2 (bQ (ar (jB.v a h++ax (aN [.s] 1) 0 [.s h]) (aZ 0) 0))then bif uM.c (nI.v e f h).1 (nI.v e f h).2 (bQ (ar (i9.v a d e f).2.1 (aZ 0) 0))then bif decide (uM.v (nI.v e f h).1 (nI.v e f h).2 (bQ (ar (jB.v a h++ax (aN [.s] 1) 0 [.s h]) (aZ 0) 0))>uM.v (nI.v e f h).1 (nI.v e f h).2 (bQ (ar (i9.v a d e f).2.1 (aZ 0) 0)))then bif iS 1 ((i9.v a d e f).2.1.length:az) ((i9.v a d e f).2.1.length:az)then bif cB ((eu (i9.v a d e f).2.1 (aZ 1) ((i9.v a d e f).2.1.length:az).toNat).length+(ax (aN [.s] 1) 0 [.s (bQ (ar (jB.v a h++ax (aN [.s] 1) 0 [.s h]) (aZ 0) 0))]).length) 16 then kr (eu (jB.v a h++ax (aN [.s] 1) 0 [.s h]) (aZ 1) ((jB.v a h++ax (aN [.s] 1) 0 [.s h]).length:az).toNat) (eu (i9.v a d e f).2.1 (aZ 1) ((i9.v a d e f).2.1.length:az).toNat++ax (aN [.s] 1) 0 [.s (bQ (ar (jB.v a h++ax (aN [.s] 1) 0 [.s h]) (aZ 0) 0))]) (nI.v e f h).1 (nI.v e f h).2 (bQ (ar (i9.v a d e f).2.1 (aZ 0) 0))else aj else aj else kr (eu (jB.v a h++ax (aN [.s] 1) 0 [.s h]) (aZ 1) ((jB.v a h++ax (aN [.s] 1) 0 [.s h]).length:az).toNat) (i9.v a d e f).2.1 (nI.v e f h).1 (nI.v e f h).2 (bQ (ar (jB.v a h++ax (aN [.s] 1) 0 [.s h]) (aZ 0) 0))else aj else aj else aj else aj else aj else aj else aj else aj else aj else aj else aj
def vo:=b λr0 r1 r2 r3 r4=>ah (r0,r1,r2,r3,r4)
def c:=λa d e f h=>(vo a d e f h).isSome
def v:=λa d e f h=>(vo a d e f h).getD ([],[],[],0,⟨#[]⟩)
theorem out{x}:∀a d e f h,vo a d e f h=ah x->c a d e f h=ai/\v a d e f h=x:=λ_ _ _ _ _=>Lib.dc
end MD


namespace o_
def r2(N:aE)(g k0:jf R)(a d e f h:az)(i:aq)(j l m:az)(o:aq)(p:az)(q r s t u w:aU):aC R:=bif decide (a<(w.length:az))then bif decide (0<=a)&&decide (a<(w.length:az))then bif decide (bZ (ar w a.toNat 0)<h)then g (bJ (a+1)) d e f h i j l m o p q r s t u w else k0 a d e f h i j l m o p q r s t u w else aj else k0 a d e f h i j l m o p q r s t u w
def l2(N:aE)(k0:jf R):aE->jf R
 |0=>λ_ _ _ _ _ _ _ _ _ _ _ _ _ _ _ _ _=>aj
 |n+1=>r2 N (l2 N k0 n) k0
def b(N:aE)(kr:eP R)(a:az)(d e f h:aU)(i:az)(j l:aU)(m o:az)(p:aq)(q r s:az)(t:aq)(u:az):aC R:=l2 N (λw y z α xa xb xc xd xe xf xg xh xi xj xk xl xm=>bif decide (0<=w)&&decide (w<=(xm.length:az))&&cB (xm.length+(ax (aN [Ck.i ao,Ck.s,Ck.i ao,Ck.i ao,Ck.i ao,Ck.s,Ck.i ao] 1) 0 [.i .i64 xa, .s xb, .i .i64 xc, .i .i64 xd, .i .i64 xe, .s xf, .i .i64 xg]).length) 72 then kr y xh xi xj xk z xl (Pu.yr xm w.toNat (ax (aN [Ck.i ao,Ck.s,Ck.i ao,Ck.i ao,Ck.i ao,Ck.s,Ck.i ao] 1) 0 [.i .i64 xa, .s xb, .i .i64 xc, .i .i64 xd, .i .i64 xe, .s xf, .i .i64 xg])) α else aj) N 0 a i m o p q r s t u d e f h j l
def vo:=b Lib.cW λr0 r1 r2 r3 r4 r5 r6 r7 r8=>ah (r0,r1,r2,r3,r4,r5,r6,r7,r8)
def c:=λa d e f h i j l m o p q r s t u=>(vo a d e f h i j l m o p q r s t u).isSome
def v:=λa d e f h i j l m o p q r s t u=>(vo a d e f h i j l m o p q r s t u).getD (0,[],[],[],[],0,[],[],0)
theorem out{x}:∀a d e f h i j l m o p q r s t u,vo a d e f h i j l m o p q r s t u=ah x->c a d e f h i j l m o p q r s t u=ai/\v a d e f h i j l m o p q r s t u=x:=λ_ _ _ _ _ _ _ _ _ _ _ _ _ _ _ _=>Lib.dc
end o_

namespace ov
def r5(N:aE)(g k0:nv R)(a:aq)(d e:az)(f:aU):aC R:=bif decide (e<(f.length:az))then bif decide (0<=e)&&decide (e<(f.length:az))then bif !zr.v (bQ (ar f e.toNat 0)) (bZ (ar f e.toNat 1)) (bZ (ar f e.toNat (1+1))) (bQ (ar f e.toNat (1+1+1))) a then bif decide (0<=d)&&decide (d<(f.length:az))then g a (bJ (d+1)) (bJ (e+1)) (dV f d.toNat 0 [.s (bQ (ar f e.toNat 0)), .i .i64 (bZ (ar f e.toNat 1)), .i .i64 (bZ (ar f e.toNat (1+1))), .s (bQ (ar f e.toNat (1+1+1)))])else aj else g a d (bJ (e+1)) f else aj else k0 a d e f
def l5(N:aE)(k0:nv R):aE->nv R
 |0=>λ_ _ _ _=>aj
 |n+1=>r5 N (l5 N k0 n) k0
def b(N:aE)(kr:aU->aC R)(a:aU)(gz:aq):aC R:=bif rO.c a gz then bif decide (rO.v a gz=iT 1)then kr a else l5 N (λ_ d _ e=>bif iS d (e.length:az) (e.length:az)then bif iS 0 d ((ny d.toNat e++aN [Ck.s,Ck.i ao,Ck.i ao,Ck.s] ((e.length:az).toNat-d.toNat)++Au (e.length:az).toNat e).length:az)then kr (eu (ny d.toNat e++aN [Ck.s,Ck.i ao,Ck.i ao,Ck.s] ((e.length:az).toNat-d.toNat)++Au (e.length:az).toNat e) (aZ 0) d.toNat)else aj else aj) N gz (rO.v a gz) (bJ (rO.v a gz+1)) a else aj
def vo:=b Lib.cW λr0=>ah r0
def c:=λa d=>(vo a d).isSome
def v:=λa d=>(vo a d).getD ([])
theorem out{x}:∀a d,vo a d=ah x->c a d=ai/\v a d=x:=λ_ _=>Lib.dc
end ov

namespace B7
def b(kr:aU->aC R)(a:aU)(d:aq):aC R:=bif vB.c a then bif ov.c (vB.v a) d then kr (ov.v (vB.v a) d)else aj else aj
def vo:=b λr0=>ah r0
def c:=λa d=>(vo a d).isSome
def v:=λa d=>(vo a d).getD ([])
theorem out{x}:∀a d,vo a d=ah x->c a d=ai/\v a d=x:=λ_ _=>Lib.dc
end B7

namespace Ii
def b(kr:wT R)(a d e:aU)(f:az)(h:aq):aC R:=bif i9.c a d e f then bif jB.c a h then bif jB.c d h then kr (jB.v a h) (jB.v d h) (i9.v a d e f).2.2.1 (i9.v a d e f).2.2.2 else aj else aj else aj
def vo:=b λr0 r1 r2 r3=>ah (r0,r1,r2,r3)
def c:=λa d e f h=>(vo a d e f h).isSome
def v:=λa d e f h=>(vo a d e f h).getD ([],[],[],0)
theorem out{x}:∀a d e f h,vo a d e f h=ah x->c a d e f h=ai/\v a d e f h=x:=λ_ _ _ _ _=>Lib.dc
end Ii

namespace PI
def b(kr:qt R)(a:az)(d e f h:aU)(i:az)(j l:aU)(m o:az)(p:aq):aC R:=bif EH.c a d e f h i j l m then Lib.lt (EH.v a d e f h i j l m) λq=>bif o9.c a d e f h i j l m then Lib.lt (o9.v a d e f h i j l m) λr=>bif !r then kr q.1 q.2.1 q.2.2.1 q.2.2.2.1 q.2.2.2.2.1 q.2.2.2.2.2.1 q.2.2.2.2.2.2.1 q.2.2.2.2.2.2.2.1 q.2.2.2.2.2.2.2.2 1 else bif !n7.v o 1 9 then kr q.1 q.2.1 q.2.2.1 q.2.2.2.1 q.2.2.2.2.1 q.2.2.2.2.2.1 q.2.2.2.2.2.2.1 q.2.2.2.2.2.2.2.1 q.2.2.2.2.2.2.2.2 1 else bif !MC.v p then kr q.1 q.2.1 q.2.2.1 q.2.2.2.1 q.2.2.2.2.1 q.2.2.2.2.2.1 q.2.2.2.2.2.2.1 q.2.2.2.2.2.2.2.1 q.2.2.2.2.2.2.2.2 1 else bif TD.c a d e f h i j l m o then Lib.lt (TD.v a d e f h i j l m o) λs=>bif decide (s≥0)then kr q.1 q.2.1 q.2.2.1 q.2.2.2.1 q.2.2.2.2.1 q.2.2.2.2.2.1 q.2.2.2.2.2.2.1 q.2.2.2.2.2.2.2.1 q.2.2.2.2.2.2.2.2 1 else bif decide ((l.length:az)=6)then kr q.1 q.2.1 q.2.2.1 q.2.2.2.1 q.2.2.2.2.1 q.2.2.2.2.2.1 q.2.2.2.2.2.2.1 q.2.2.2.2.2.2.2.1 q.2.2.2.2.2.2.2.2 1 else bif vJ.c d p then Lib.lt (vJ.v d p) λt=>bif decide (t≥0)then bif decide (0<=t)&&decide (t<(d.length:az))then bif Ih.v (bQ (ar d t.toNat 0)) (bZ (ar d t.toNat 1)) (bZ (ar d t.toNat (1+1))) (bQ (ar d t.toNat (1+1+1))) a then bif decide (0<=t)&&decide (t<(d.length:az))then bif MD.c e f h i p then Lib.lt (MD.v e f h i p) λu=>bif o_.c q.1 q.2.1 u.1 u.2.1 u.2.2.1 u.2.2.2.1 q.2.2.2.2.2.2.1 q.2.2.2.2.2.2.2.1 q.2.2.2.2.2.2.2.2 o p 0 (bZ (ar d t.toNat 1)) 2 (bQ (ar d t.toNat (1+1+1))) (bJ (a-bZ (ar d t.toNat 1)))then Lib.lt (o_.v q.1 q.2.1 u.1 u.2.1 u.2.2.1 u.2.2.2.1 q.2.2.2.2.2.2.1 q.2.2.2.2.2.2.2.1 q.2.2.2.2.2.2.2.2 o p 0 (bZ (ar d t.toNat 1)) 2 (bQ (ar d t.toNat (1+1+1))) (bJ (a-bZ (ar d t.toNat 1)))) λw=>kr w.1 w.2.1 w.2.2.1 w.2.2.2.1 w.2.2.2.2.1 w.2.2.2.2.2.1 w.2.2.2.2.2.2.1 w.2.2.2.2.2.2.2.1 (kW ak (bJ (m+1)) 1000000000) 0 else aj else aj else aj else bif IU.c a d e f h i j l m p then Lib.lt (IU.v a d e f h i j l m p) λu=>bif decide (u<0)then bif decide ((j.length:az)=20)then kr q.1 q.2.1 q.2.2.1 q.2.2.2.1 q.2.2.2.2.1 q.2.2.2.2.2.1 q.2.2.2.2.2.2.1 q.2.2.2.2.2.2.2.1 q.2.2.2.2.2.2.2.2 2 else bif decide (t≥0)then bif B7.c d p then Lib.lt (B7.v d p) λw=>bif Ii.c e f h i p then Lib.lt (Ii.v e f h i p) λy=>bif nI.c h i p then Lib.lt (nI.v h i p) λz=>bif decide (u<0)then bif cB (q.2.2.2.2.2.2.1.length+(ax (aN [Ck.s,Ck.s,Ck.i ao,Ck.i ao,Ck.i ao] 1) 0 [.s p, .s ⟨#[]⟩, .i .i64 1, .i .i64 0, .i .i64 0]).length) 56 then bif decide ((j.length:az)<((q.2.2.2.2.2.2.1++ax (aN [Ck.s,Ck.s,Ck.i ao,Ck.i ao,Ck.i ao] 1) 0 [.s p, .s ⟨#[]⟩, .i .i64 1, .i .i64 0, .i .i64 0]).length:az))then bif o_.c q.1 w y.1 y.2.1 z.1 z.2 (q.2.2.2.2.2.2.1++ax (aN [Ck.s,Ck.s,Ck.i ao,Ck.i ao,Ck.i ao] 1) 0 [.s p, .s ⟨#[]⟩, .i .i64 1, .i .i64 0, .i .i64 0]) q.2.2.2.2.2.2.2.1 q.2.2.2.2.2.2.2.2 o p (bJ ((j.length:az)+1)) 0 1 (bQ (ar (q.2.2.2.2.2.2.1++ax (aN [Ck.s,Ck.s,Ck.i ao,Ck.i ao,Ck.i ao] 1) 0 [.s p, .s ⟨#[]⟩, .i .i64 1, .i .i64 0, .i .i64 0]) (j.length:az).toNat 1)) 0 then Lib.lt (o_.v q.1 w y.1 y.2.1 z.1 z.2 (q.2.2.2.2.2.2.1++ax (aN [Ck.s,Ck.s,Ck.i ao,Ck.i ao,Ck.i ao] 1) 0 [.s p, .s ⟨#[]⟩, .i .i64 1, .i .i64 0, .i .i64 0]) q.2.2.2.2.2.2.2.1 q.2.2.2.2.2.2.2.2 o p (bJ ((j.length:az)+1)) 0 1 (bQ (ar (q.2.2.2.2.2.2.1++ax (aN [Ck.s,Ck.s,Ck.i ao,Ck.i ao,Ck.i ao] 1) 0 [.s p, .s ⟨#[]⟩, .i .i64 1, .i .i64 0, .i .i64 0]) (j.length:az).toNat 1)) 0) λα=>kr α.1 α.2.1 α.2.2.1 α.2.2.2.1 α.2.2.2.2.1 α.2.2.2.2.2.1 α.2.2.2.2.2.2.1 α.2.2.2.2.2.2.2.1 α.2.2.2.2.2.2.2.2 0 else aj else aj else aj else bif decide (0<=u)&&decide (u<(q.2.2.2.2.2.2.1.length:az))then bif o_.c q.1 w y.1 y.2.1 z.1 z.2 q.2.2.2.2.2.2.1 q.2.2.2.2.2.2.2.1 q.2.2.2.2.2.2.2.2 o p (bJ (u+1)) 0 1 (bQ (ar q.2.2.2.2.2.2.1 u.toNat 1)) 0 then Lib.lt (o_.v q.1 w y.1 y.2.1 z.1 z.2 q.2.2.2.2.2.2.1 q.2.2.2.2.2.2.2.1 q.2.2.2.2.2.2.2.2 o p (bJ (u+1)) 0 1 (bQ (ar q.2.2.2.2.2.2.1 u.toNat 1)) 0) λα=>kr α.1 α.2.1 α.2.2.1 α.2.2.2.1 α.2.2.2.2.1 α.2.2.2.2.2.1 α.2.2.2.2.2.2.1 α.2.2.2.2.2.2.2.1 α.2.2.2.2.2.2.2.2 0 else aj else aj else aj else aj else aj else bif nI.c h i p then Lib.lt (nI.v h i p) λw=>bif decide (u<0)then bif cB (q.2.2.2.2.2.2.1.length+(ax (aN [Ck.s,Ck.s,Ck.i ao,Ck.i ao,Ck.i ao] 1) 0 [.s p, .s ⟨#[]⟩, .i .i64 1, .i .i64 0, .i .i64 0]).length) 56 then bif decide ((j.length:az)<((q.2.2.2.2.2.2.1++ax (aN [Ck.s,Ck.s,Ck.i ao,Ck.i ao,Ck.i ao] 1) 0 [.s p, .s ⟨#[]⟩, .i .i64 1, .i .i64 0, .i .i64 0]).length:az))then bif o_.c q.1 q.2.1 q.2.2.1 q.2.2.2.1 w.1 w.2 (q.2.2.2.2.2.2.1++ax (aN [Ck.s,Ck.s,Ck.i ao,Ck.i ao,Ck.i ao] 1) 0 [.s p, .s ⟨#[]⟩, .i .i64 1, .i .i64 0, .i .i64 0]) q.2.2.2.2.2.2.2.1 q.2.2.2.2.2.2.2.2 o p (bJ ((j.length:az)+1)) 0 1 (bQ (ar (q.2.2.2.2.2.2.1++ax (aN [Ck.s,Ck.s,Ck.i ao,Ck.i ao,Ck.i ao] 1) 0 [.s p, .s ⟨#[]⟩, .i .i64 1, .i .i64 0, .i .i64 0]) (j.length:az).toNat 1)) 0 then Lib.lt (o_.v q.1 q.2.1 q.2.2.1 q.2.2.2.1 w.1 w.2 (q.2.2.2.2.2.2.1++ax (aN [Ck.s,Ck.s,Ck.i ao,Ck.i ao,Ck.i ao] 1) 0 [.s p, .s ⟨#[]⟩, .i .i64 1, .i .i64 0, .i .i64 0]) q.2.2.2.2.2.2.2.1 q.2.2.2.2.2.2.2.2 o p (bJ ((j.length:az)+1)) 0 1 (bQ (ar (q.2.2.2.2.2.2.1++ax (aN [Ck.s,Ck.s,Ck.i ao,Ck.i ao,Ck.i ao] 1) 0 [.s p, .s ⟨#[]⟩, .i .i64 1, .i .i64 0, .i .i64 0]) (j.length:az).toNat 1)) 0) λy=>kr y.1 y.2.1 y.2.2.1 y.2.2.2.1 y.2.2.2.2.1 y.2.2.2.2.2.1 y.2.2.2.2.2.2.1 y.2.2.2.2.2.2.2.1 y.2.2.2.2.2.2.2.2 0 else aj else aj else aj else bif decide (0<=u)&&decide (u<(q.2.2.2.2.2.2.1.length:az))then bif o_.c q.1 q.2.1 q.2.2.1 q.2.2.2.1 w.1 w.2 q.2.2.2.2.2.2.1 q.2.2.2.2.2.2.2.1 q.2.2.2.2.2.2.2.2 o p (bJ (u+1)) 0 1 (bQ (ar q.2.2.2.2.2.2.1 u.toNat 1)) 0 then Lib.lt (o_.v q.1 q.2.1 q.2.2.1 q.2.2.2.1 w.1 w.2 q.2.2.2.2.2.2.1 q.2.2.2.2.2.2.2.1 q.2.2.2.2.2.2.2.2 o p (bJ (u+1)) 0 1 (bQ (ar q.2.2.2.2.2.2.1 u.toNat 1)) 0) λy=>kr y.1 y.2.1 y.2.2.1 y.2.2.2.1 y.2.2.2.2.1 y.2.2.2.2.2.1 y.2.2.2.2.2.2.1 y.2.2.2.2.2.2.2.1 y.2.2.2.2.2.2.2.2 0 else aj else aj else aj else bif decide (t≥0)then bif B7.c d p then Lib.lt (B7.v d p) λw=>bif Ii.c e f h i p then Lib.lt (Ii.v e f h i p) λy=>bif nI.c h i p then Lib.lt (nI.v h i p) λz=>bif decide (u<0)then bif cB (q.2.2.2.2.2.2.1.length+(ax (aN [Ck.s,Ck.s,Ck.i ao,Ck.i ao,Ck.i ao] 1) 0 [.s p, .s ⟨#[]⟩, .i .i64 1, .i .i64 0, .i .i64 0]).length) 56 then bif decide ((j.length:az)<((q.2.2.2.2.2.2.1++ax (aN [Ck.s,Ck.s,Ck.i ao,Ck.i ao,Ck.i ao] 1) 0 [.s p, .s ⟨#[]⟩, .i .i64 1, .i .i64 0, .i .i64 0]).length:az))then bif o_.c q.1 w y.1 y.2.1 z.1 z.2 (q.2.2.2.2.2.2.1++ax (aN [Ck.s,Ck.s,Ck.i ao,Ck.i ao,Ck.i ao] 1) 0 [.s p, .s ⟨#[]⟩, .i .i64 1, .i .i64 0, .i .i64 0]) q.2.2.2.2.2.2.2.1 q.2.2.2.2.2.2.2.2 o p (bJ ((j.length:az)+1)) 0 1 (bQ (ar (q.2.2.2.2.2.2.1++ax (aN [Ck.s,Ck.s,Ck.i ao,Ck.i ao,Ck.i ao] 1) 0 [.s p, .s ⟨#[]⟩, .i .i64 1, .i .i64 0, .i .i64 0]) (j.length:az).toNat 1)) 0 then Lib.lt (o_.v q.1 w y.1 y.2.1 z.1 z.2 (q.2.2.2.2.2.2.1++ax (aN [Ck.s,Ck.s,Ck.i ao,Ck.i ao,Ck.i ao] 1) 0 [.s p, .s ⟨#[]⟩, .i .i64 1, .i .i64 0, .i .i64 0]) q.2.2.2.2.2.2.2.1 q.2.2.2.2.2.2.2.2 o p (bJ ((j.length:az)+1)) 0 1 (bQ (ar (q.2.2.2.2.2.2.1++ax (aN [Ck.s,Ck.s,Ck.i ao,Ck.i ao,Ck.i ao] 1) 0 [.s p, .s ⟨#[]⟩, .i .i64 1, .i .i64 0, .i .i64 0]) (j.length:az).toNat 1)) 0) λα=>kr α.1 α.2.1 α.2.2.1 α.2.2.2.1 α.2.2.2.2.1 α.2.2.2.2.2.1 α.2.2.2.2.2.2.1 α.2.2.2.2.2.2.2.1 α.2.2.2.2.2.2.2.2 0 else aj else aj else aj else bif decide (0<=u)&&decide (u<(q.2.2.2.2.2.2.1.length:az))then bif o_.c q.1 w y.1 y.2.1 z.1 z.2 q.2.2.2.2.2.2.1 q.2.2.2.2.2.2.2.1 q.2.2.2.2.2.2.2.2 o p (bJ (u+1)) 0 1 (bQ (ar q.2.2.2.2.2.2.1 u.toNat 1)) 0 then Lib.lt (o_.v q.1 w y.1 y.2.1 z.1 z.2 q.2.2.2.2.2.2.1 q.2.2.2.2.2.2.2.1 q.2.2.2.2.2.2.2.2 o p (bJ (u+1)) 0 1 (bQ (ar q.2.2.2.2.2.2.1 u.toNat 1)) 0) λα=>kr α.1 α.2.1 α.2.2.1 α.2.2.2.1 α.2.2.2.2.1 α.2.2.2.2.2.1 α.2.2.2.2.2.2.1 α.2.2.2.2.2.2.2.1 α.2.2.2.2.2.2.2.2 0 else aj else aj else aj else aj else aj else bif nI.c h i p then Lib.lt (nI.v h i p) λw=>bif decide (u<0)then bif cB (q.2.2.2.2.2.2.1.length+(ax (aN [Ck.s,Ck.s,Ck.i ao,Ck.i ao,Ck.i ao] 1) 0 [.s p, .s ⟨#[]⟩, .i .i64 1, .i .i64 0, .i .i64 0]).length) 56 then bif decide ((j.length:az)<((q.2.2.2.2.2.2.1++ax (aN [Ck.s,Ck.s,Ck.i ao,Ck.i ao,Ck.i ao] 1) 0 [.s p, .s ⟨#[]⟩, .i .i64 1, .i .i64 0, .i .i64 0]).length:az))then bif o_.c q.1 q.2.1 q.2.2.1 q.2.2.2.1 w.1 w.2 (q.2.2.2.2.2.2.1++ax (aN [Ck.s,Ck.s,Ck.i ao,Ck.i ao,Ck.i ao] 1) 0 [.s p, .s ⟨#[]⟩, .i .i64 1, .i .i64 0, .i .i64 0]) q.2.2.2.2.2.2.2.1 q.2.2.2.2.2.2.2.2 o p (bJ ((j.length:az)+1)) 0 1 (bQ (ar (q.2.2.2.2.2.2.1++ax (aN [Ck.s,Ck.s,Ck.i ao,Ck.i ao,Ck.i ao] 1) 0 [.s p, .s ⟨#[]⟩, .i .i64 1, .i .i64 0, .i .i64 0]) (j.length:az).toNat 1)) 0 then Lib.lt (o_.v q.1 q.2.1 q.2.2.1 q.2.2.2.1 w.1 w.2 (q.2.2.2.2.2.2.1++ax (aN [Ck.s,Ck.s,Ck.i ao,Ck.i ao,Ck.i ao] 1) 0 [.s p, .s ⟨#[]⟩, .i .i64 1, .i .i64 0, .i .i64 0]) q.2.2.2.2.2.2.2.1 q.2.2.2.2.2.2.2.2 o p (bJ ((j.length:az)+1)) 0 1 (bQ (ar (q.2.2.2.2.2.2.1++ax (aN [Ck.s,Ck.s,Ck.i ao,Ck.i ao,Ck.i ao] 1) 0 [.s p, .s ⟨#[]⟩, .i .i64 1, .i .i64 0, .i .i64 0]) (j.length:az).toNat 1)) 0) λy=>kr y.1 y.2.1 y.2.2.1 y.2.2.2.1 y.2.2.2.2.1 y.2.2.2.2.2.1 y.2.2.2.2.2.2.1 y.2.2.2.2.2.2.2.1 y.2.2.2.2.2.2.2.2 0 else aj else aj else aj else bif decide (0<=u)&&decide (u<(q.2.2.2.2.2.2.1.length:az))then bif o_.c q.1 q.2.1 q.2.2.1 q.2.2.2.1 w.1 w.2 q.2.2.2.2.2.2.1 q.2.2.2.2.2.2.2.1 q.2.2.2.2.2.2.2.2 o p (bJ (u+1)) 0 1 (bQ (ar q.2.2.2.2.2.2.1 u.toNat 1)) 0 then Lib.lt (o_.v q.1 q.2.1 q.2.2.1 q.2.2.2.1 w.1 w.2 q.2.2.2.2.2.2.1 q.2.2.2.2.2.2.2.1 q.2.2.2.2.2.2.2.2 o p (bJ (u+1)) 0 1 (bQ (ar q.2.2.2.2.2.2.1 u.toNat 1)) 0) λy=>kr y.1 y.2.1 y.2.2.1 y.2.2.2.1 y.2.2.2.2.1 y.2.2.2.2.2.1 y.2.2.2.2.2.2.1 y.2.2.2.2.2.2.2.1 y.2.2.2.2.2.2.2.2 0 else aj else aj else aj else aj else aj else bif IU.c a d e f h i j l m p then Lib.lt (IU.v a d e f h i j l m p) λu=>bif decide (u<0)then bif decide ((j.length:az)=20)then kr q.1 q.2.1 q.2.2.1 q.2.2.2.1 q.2.2.2.2.1 q.2.2.2.2.2.1 q.2.2.2.2.2.2.1 q.2.2.2.2.2.2.2.1 q.2.2.2.2.2.2.2.2 2 else bif decide (t≥0)then bif B7.c d p then Lib.lt (B7.v d p) λw=>bif Ii.c e f h i p then Lib.lt (Ii.v e f h i p) λy=>bif nI.c h i p then Lib.lt (nI.v h i p) λz=>bif decide (u<0)then bif cB (q.2.2.2.2.2.2.1.length+(ax (aN [Ck.s,Ck.s,Ck.i ao,Ck.i ao,Ck.i ao] 1) 0 [.s p, .s ⟨#[]⟩, .i .i64 1, .i .i64 0, .i .i64 0]).length) 56 then bif decide ((j.length:az)<((q.2.2.2.2.2.2.1++ax (aN [Ck.s,Ck.s,Ck.i ao,Ck.i ao,Ck.i ao] 1) 0 [.s p, .s ⟨#[]⟩, .i .i64 1, .i .i64 0, .i .i64 0]).length:az))then bif o_.c q.1 w y.1 y.2.1 z.1 z.2 (q.2.2.2.2.2.2.1++ax (aN [Ck.s,Ck.s,Ck.i ao,Ck.i ao,Ck.i ao] 1) 0 [.s p, .s ⟨#[]⟩, .i .i64 1, .i .i64 0, .i .i64 0]) q.2.2.2.2.2.2.2.1 q.2.2.2.2.2.2.2.2 o p (bJ ((j.length:az)+1)) 0 1 (bQ (ar (q.2.2.2.2.2.2.1++ax (aN [Ck.s,Ck.s,Ck.i ao,Ck.i ao,Ck.i ao] 1) 0 [.s p, .s ⟨#[]⟩, .i .i64 1, .i .i64 0, .i .i64 0]) (j.length:az).toNat 1)) 0 then Lib.lt (o_.v q.1 w y.1 y.2.1 z.1 z.2 (q.2.2.2.2.2.2.1++ax (aN [Ck.s,Ck.s,Ck.i ao,Ck.i ao,Ck.i ao] 1) 0 [.s p, .s ⟨#[]⟩, .i .i64 1, .i .i64 0, .i .i64 0]) q.2.2.2.2.2.2.2.1 q.2.2.2.2.2.2.2.2 o p (bJ ((j.length:az)+1)) 0 1 (bQ (ar (q.2.2.2.2.2.2.1++ax (aN [Ck.s,Ck.s,Ck.i ao,Ck.i ao,Ck.i ao] 1) 0 [.s p, .s ⟨#[]⟩, .i .i64 1, .i .i64 0, .i .i64 0]) (j.length:az).toNat 1)) 0) λα=>kr α.1 α.2.1 α.2.2.1 α.2.2.2.1 α.2.2.2.2.1 α.2.2.2.2.2.1 α.2.2.2.2.2.2.1 α.2.2.2.2.2.2.2.1 α.2.2.2.2.2.2.2.2 0 else aj else aj else aj else bif decide (0<=u)&&decide (u<(q.2.2.2.2.2.2.1.length:az))then bif o_.c q.1 w y.1 y.2.1 z.1 z.2 q.2.2.2.2.2.2.1 q.2.2.2.2.2.2.2.1 q.2.2.2.2.2.2.2.2 o p (bJ (u+1)) 0 1 (bQ (ar q.2.2.2.2.2.2.1 u.toNat 1)) 0 then Lib.lt (o_.v q.1 w y.1 y.2.1 z.1 z.2 q.2.2.2.2.2.2.1 q.2.2.2.2.2.2.2.1 q.2.2.2.2.2.2.2.2 o p (bJ (u+1)) 0 1 (bQ (ar q.2.2.2.2.2.2.1 u.toNat 1)) 0) λα=>kr α.1 α.2.1 α.2.2.1 α.2.2.2.1 α.2.2.2.2.1 α.2.2.2.2.2.1 α.2.2.2.2.2.2.1 α.2.2.2.2.2.2.2.1 α.2.2.2.2.2.2.2.2 0 else aj else aj else aj else aj else aj else bif nI.c h i p then Lib.lt (nI.v h i p) λw=>bif decide (u<0)then bif cB (q.2.2.2.2.2.2.1.length+(ax (aN [Ck.s,Ck.s,Ck.i ao,Ck.i ao,Ck.i ao] 1) 0 [.s p, .s ⟨#[]⟩, .i .i64 1, .i .i64 0, .i .i64 0]).length) 56 then bif decide ((j.length:az)<((q.2.2.2.2.2.2.1++ax (aN [Ck.s,Ck.s,Ck.i ao,Ck.i ao,Ck.i ao] 1) 0 [.s p, .s ⟨#[]⟩, .i .i64 1, .i .i64 0, .i .i64 0]).length:az))then bif o_.c q.1 q.2.1 q.2.2.1 q.2.2.2.1 w.1 w.2 (q.2.2.2.2.2.2.1++ax (aN [Ck.s,Ck.s,Ck.i ao,Ck.i ao,Ck.i ao] 1) 0 [.s p, .s ⟨#[]⟩, .i .i64 1, .i .i64 0, .i .i64 0]) q.2.2.2.2.2.2.2.1 q.2.2.2.2.2.2.2.2 o p (bJ ((j.length:az)+1)) 0 1 (bQ (ar (q.2.2.2.2.2.2.1++ax (aN [Ck.s,Ck.s,Ck.i ao,Ck.i ao,Ck.i ao] 1) 0 [.s p, .s ⟨#[]⟩, .i .i64 1, .i .i64 0, .i .i64 0]) (j.length:az).toNat 1)) 0 then Lib.lt (o_.v q.1 q.2.1 q.2.2.1 q.2.2.2.1 w.1 w.2 (q.2.2.2.2.2.2.1++ax (aN [Ck.s,Ck.s,Ck.i ao,Ck.i ao,Ck.i ao] 1) 0 [.s p, .s ⟨#[]⟩, .i .i64 1, .i .i64 0, .i .i64 0]) q.2.2.2.2.2.2.2.1 q.2.2.2.2.2.2.2.2 o p (bJ ((j.length:az)+1)) 0 1 (bQ (ar (q.2.2.2.2.2.2.1++ax (aN [Ck.s,Ck.s,Ck.i ao,Ck.i ao,Ck.i ao] 1) 0 [.s p, .s ⟨#[]⟩, .i .i64 1, .i .i64 0, .i .i64 0]) (j.length:az).toNat 1)) 0) λy=>kr y.1 y.2.1 y.2.2.1 y.2.2.2.1 y.2.2.2.2.1 y.2.2.2.2.2.1 y.2.2.2.2.2.2.1 y.2.2.2.2.2.2.2.1 y.2.2.2.2.2.2.2.2 0 else aj else aj else aj else bif decide (0<=u)&&decide (u<(q.2.2.2.2.2.2.1.length:az))then bif o_.c q.1 q.2.1 q.2.2.1 q.2.2.2.1 w.1 w.2 q.2.2.2.2.2.2.1 q.2.2.2.2.2.2.2.1 q.2.2.2.2.2.2.2.2 o p (bJ (u+1)) 0 1 (bQ (ar q.2.2.2.2.2.2.1 u.toNat 1)) 0 then Lib.lt (o_.v q.1 q.2.1 q.2.2.1 q.2.2.2.1 w.1 w.2 q.2.2.2.2.2.2.1 q.2.2.2.2.2.2.2.1 q.2.2.2.2.2.2.2.2 o p (bJ (u+1)) 0 1 (bQ (ar q.2.2.2.2.2.2.1 u.toNat 1)) 0) λy=>kr y.1 y.2.1 y.2.2.1 y.2.2.2.1 y.2.2.2.2.1 y.2.2.2.2.2.1 y.2.2.2.2.2.2.1 y.2.2.2.2.2.2.2.1 y.2.2.2.2.2.2.2.2 0 else aj else aj else aj else bif decide (t≥0)then bif B7.c d p then Lib.lt (B7.v d p) λw=>bif Ii.c e f h i p then Lib.lt (Ii.v e f h i p) λy=>bif nI.c h i p then Lib.lt (nI.v h i p) λz=>bif decide (u<0)then bif cB (q.2.2.2.2.2.2.1.length+(ax (aN [Ck.s,Ck.s,Ck.i ao,Ck.i ao,Ck.i ao] 1) 0 [.s p, .s ⟨#[]⟩, .i .i64 1, .i .i64 0, .i .i64 0]).length) 56 then bif decide ((j.length:az)<((q.2.2.2.2.2.2.1++ax (aN [Ck.s,Ck.s,Ck.i ao,Ck.i ao,Ck.i ao] 1) 0 [.s p, .s ⟨#[]⟩, .i .i64 1, .i .i64 0, .i .i64 0]).length:az))then bif o_.c q.1 w y.1 y.2.1 z.1 z.2 (q.2.2.2.2.2.2.1++ax (aN [Ck.s,Ck.s,Ck.i ao,Ck.i ao,Ck.i ao] 1) 0 [.s p, .s ⟨#[]⟩, .i .i64 1, .i .i64 0, .i .i64 0]) q.2.2.2.2.2.2.2.1 q.2.2.2.2.2.2.2.2 o p (bJ ((j.length:az)+1)) 0 1 (bQ (ar (q.2.2.2.2.2.2.1++ax (aN [Ck.s,Ck.s,Ck.i ao,Ck.i ao,Ck.i ao] 1) 0 [.s p, .s ⟨#[]⟩, .i .i64 1, .i .i64 0, .i .i64 0]) (j.length:az).toNat 1)) 0 then Lib.lt (o_.v q.1 w y.1 y.2.1 z.1 z.2 (q.2.2.2.2.2.2.1++ax (aN [Ck.s,Ck.s,Ck.i ao,Ck.i ao,Ck.i ao] 1) 0 [.s p, .s ⟨#[]⟩, .i .i64 1, .i .i64 0, .i .i64 0]) q.2.2.2.2.2.2.2.1 q.2.2.2.2.2.2.2.2 o p (bJ ((j.length:az)+1)) 0 1 (bQ (ar (q.2.2.2.2.2.2.1++ax (aN [Ck.s,Ck.s,Ck.i ao,Ck.i ao,Ck.i ao] 1) 0 [.s p, .s ⟨#[]⟩, .i .i64 1, .i .i64 0, .i .i64 0]) (j.length:az).toNat 1)) 0) λα=>kr α.1 α.2.1 α.2.2.1 α.2.2.2.1 α.2.2.2.2.1 α.2.2.2.2.2.1 α.2.2.2.2.2.2.1 α.2.2.2.2.2.2.2.1 α.2.2.2.2.2.2.2.2 0 else aj else aj else aj else bif decide (0<=u)&&decide (u<(q.2.2.2.2.2.2.1.length:az))then bif o_.c q.1 w y.1 y.2.1 z.1 z.2 q.2.2.2.2.2.2.1 q.2.2.2.2.2.2.2.1 q.2.2.2.2.2.2.2.2 o p (bJ (u+1)) 0 1 (bQ (ar q.2.2.2.2.2.2.1 u.toNat 1)) 0 then Lib.lt (o_.v q.1 w y.1 y.2.1 z.1 z.2 q.2.2.2.2.2.2.1 q.2.2.2.2.2.2.2.1 q.2.2.2.2.2.2.2.2 o p (bJ (u+1)) 0 1 (bQ (ar q.2.2.2.2.2.2.1 u.toNat 1)) 0) λα=>kr α.1 α.2.1 α.2.2.1 α.2.2.2.1 α.2.2.2.2.1 α.2.2.2.2.2.1 α.2.2.2.2.2.2.1 α.2.2.2.2.2.2.2.1 α.2.2.2.2.2.2.2.2 0 else aj else aj else aj else aj else aj else bif nI.c h i p then Lib.lt (nI.v h i p) λw=>bif decide (u<0)then bif cB (q.2.2.2.2.2.2.1.length+(ax (aN [Ck.s,Ck.s,Ck.i ao,Ck.i ao,Ck.i ao] 1) 0 [.s p, .s ⟨#[]⟩, .i .i64 1, .i .i64 0, .i .i64 0]).length) 56 then bif decide ((j.length:az)<((q.2.2.2.2.2.2.1++ax (aN [Ck.s,Ck.s,Ck.i ao,Ck.i ao,Ck.i ao] 1) 0 [.s p, .s ⟨#[]⟩, .i .i64 1, .i .i64 0, .i .i64 0]).length:az))then bif o_.c q.1 q.2.1 q.2.2.1 q.2.2.2.1 w.1 w.2 (q.2.2.2.2.2.2.1++ax (aN [Ck.s,Ck.s,Ck.i ao,Ck.i ao,Ck.i ao] 1) 0 [.s p, .s ⟨#[]⟩, .i .i64 1, .i .i64 0, .i .i64 0]) q.2.2.2.2.2.2.2.1 q.2.2.2.2.2.2.2.2 o p (bJ ((j.length:az)+1)) 0 1 (bQ (ar (q.2.2.2.2.2.2.1++ax (aN [Ck.s,Ck.s,Ck.i ao,Ck.i ao,Ck.i ao] 1) 0 [.s p, .s ⟨#[]⟩, .i .i64 1, .i .i64 0, .i .i64 0]) (j.length:az).toNat 1)) 0 then Lib.lt (o_.v q.1 q.2.1 q.2.2.1 q.2.2.2.1 w.1 w.2 (q.2.2.2.2.2.2.1++ax (aN [Ck.s,Ck.s,Ck.i ao,Ck.i ao,Ck.i ao] 1) 0 [.s p, .s ⟨#[]⟩, .i .i64 1, .i .i64 0, .i .i64 0]) q.2.2.2.2.2.2.2.1 q.2.2.2.2.2.2.2.2 o p (bJ ((j.length:az)+1)) 0 1 (bQ (ar (q.2.2.2.2.2.2.1++ax (aN [Ck.s,Ck.s,Ck.i ao,Ck.i ao,Ck.i ao] 1) 0 [.s p, .s ⟨#[]⟩, .i .i64 1, .i .i64 0, .i .i64 0]) (j.length:az).toNat 1)) 0) λy=>kr y.1 y.2.1 y.2.2.1 y.2.2.2.1 y.2.2.2.2.1 y.2.2.2.2.2.1 y.2.2.2.2.2.2.1 y.2.2.2.2.2.2.2.1 y.2.2.2.2.2.2.2.2 0 else aj else aj else aj else bif decide (0<=u)&&decide (u<(q.2.2.2.2.2.2.1.length:az))then bif o_.c q.1 q.2.1 q.2.2.1 q.2.2.2.1 w.1 w.2 q.2.2.2.2.2.2.1 q.2.2.2.2.2.2.2.1 q.2.2.2.2.2.2.2.2 o p (bJ (u+1)) 0 1 (bQ (ar q.2.2.2.2.2.2.1 u.toNat 1)) 0 then Lib.lt (o_.v q.1 q.2.1 q.2.2.1 q.2.2.2.1 w.1 w.2 q.2.2.2.2.2.2.1 q.2.2.2.2.2.2.2.1 q.2.2.2.2.2.2.2.2 o p (bJ (u+1)) 0 1 (bQ (ar q.2.2.2.2.2.2.1 u.toNat 1)) 0) λy=>kr y.1 y.2.1 y.2.2.1 y.2.2.2.1 y.2.2.2.2.1 y.2.2.2.2.2.1 y.2.2.2.2.2.2.1 y.2.2.2.2.2.2.2.1 y.2.2.2.2.2.2.2.2 0 else aj else aj else aj else aj else aj else aj else aj else aj
def vo:=b λr0 r1 r2 r3 r4 r5 r6 r7 r8 r9=>ah (r0,r1,r2,r3,r4,r5,r6,r7,r8,r9)
def c:=λa d e f h i j l m o p=>(vo a d e f h i j l m o p).isSome
def v:=λa d e f h i j l m o p=>(vo a d e f h i j l m o p).getD (0,[],[],[],[],0,[],[],0,0)
theorem out{x}:∀a d e f h i j l m o p,vo a d e f h i j l m o p=ah x->c a d e f h i j l m o p=ai/\v a d e f h i j l m o p=x:=λ_ _ _ _ _ _ _ _ _ _ _=>Lib.dc
end PI

namespace rJ
def r5(N:aE)(g k0:jW R)(a d:az)(e:aU)(f h i j l m:az)(o:aU)(p q:az)(r s t u w y:aU):aC R:=bif decide (d<(w.length:az))then bif decide (0<=d)&&decide (d<(w.length:az))then bif decide (bZ (ar w d.toNat 2)=1)then bif cB (r.length+(ax (aN [Ck.i ao] 1) 0 [.i .i64 d]).length) 8 then g a (bJ (d+1)) e f h i j l m o p q (r++ax (aN [Ck.i ao] 1) 0 [.i .i64 d]) s t u w y else aj else g a (bJ (d+1)) e f h i j l m o p q r s t u w y else aj else k0 a d e f h i j l m o p q r s t u w y
def l5(N:aE)(k0:jW R):aE->jW R
 |0=>λ_ _ _ _ _ _ _ _ _ _ _ _ _ _ _ _ _ _=>aj
 |n+1=>r5 N (l5 N k0 n) k0
def b(N:aE)(kr:zk R)(a:aU)(d e:az):aC R:=bif de.c a d e 60 then Lib.lt (de.v a d e 60) λf=>bif Cv.c f.2.1 f.2.2.1 f.2.2.2 then Lib.lt (Cv.v f.2.1 f.2.2.1 f.2.2.2) λh=>l5 N (λi _ j l m _ _ _ o p q r s t u w y z=>bif decide ((s.length:az)>0)then bif decide (i>9)then bif !decide ((s.length:az)=0)then bif decide (0<=bL i (s.length:az))&&decide (bL i (s.length:az)<(s.length:az))then kr o t u w p q y z r (bZ (ar s (bL i (s.length:az)).toNat 0)) j l m else aj else aj else kr o t u w p q y z r (bJ (bL i 9-1)) j l m else kr o t u w p q y z r (bJ (bL i 9-1)) j l m) N f.1 0 h.2.2.2.2.2.2.2.2.2.1 h.2.2.2.2.2.2.2.2.2.2.1 h.2.2.2.2.2.2.2.2.2.2.2 0 0 0 h.1 h.2.2.2.2.1 h.2.2.2.2.2.1 h.2.2.2.2.2.2.2.2.1 (aN [Ck.i ao] 0) h.2.1 h.2.2.1 h.2.2.2.1 h.2.2.2.2.2.2.1 h.2.2.2.2.2.2.2.1 else aj else aj
def vo:=b Lib.cW λr0 r1 r2 r3 r4 r5 r6 r7 r8 r9 CM FA r12=>ah (r0,r1,r2,r3,r4,r5,r6,r7,r8,r9,CM,FA,r12)
def c:=λa d e=>(vo a d e).isSome
def v:=λa d e=>(vo a d e).getD (0,[],[],[],[],0,[],[],0,0,[],0,0)
theorem out{x}:∀a d e,vo a d e=ah x->c a d e=ai/\v a d e=x:=λ_ _ _=>Lib.dc
end rJ

namespace zq
def r3(N:aE)(g k0:kQ R)(a d e:az)(f:aU):aC R:=bif decide (e<a)then bif decide (0<=e)&&decide (e<(f.length:az))then g a d (bJ (e+1)) (dV f e.toNat 0 [CV.i bg d])else aj else k0 a d e f
def l3(N:aE)(k0:kQ R):aE->kQ R
 |0=>λ_ _ _ _=>aj
 |n+1=>r3 N (l3 N k0 n) k0
def b(N:aE)(kr:aq->aC R)(a d:az):aC R:=bif decide (0<=a)&&decide (a=a)&&cB a.toNat 1 then l3 N (λ_ _ _ e=>bif decide (e.length<=4611686018427387904)then kr (bytesOf e)else aj) N a d 0 (aN [Ck.i bg] a.toNat)else aj
def vo:=b Lib.cW λr0=>ah r0
def c:=λa d=>(vo a d).isSome
def v:=λa d=>(vo a d).getD (⟨#[]⟩)
theorem out{x}:∀a d,vo a d=ah x->c a d=ai/\v a d=x:=λ_ _=>Lib.dc
end zq

namespace TA
def b(kr:uc R)(a:aU):aC R:=bif Cu.c a then Lib.lt (Cu.v a) λd=>bif rS.c d.1 d.2.1 d.2.2 (ax (ax (ax (ax (ax (aN [Ck.i ao] 5) 0 [.i .i64 0]) 1 [.i .i64 1]) 2 [.i .i64 5]) 3 [.i .i64 40]) 4 [.i .i64 41])then Lib.lt (rS.v d.1 d.2.1 d.2.2 (ax (ax (ax (ax (ax (aN [Ck.i ao] 5) 0 [.i .i64 0]) 1 [.i .i64 1]) 2 [.i .i64 5]) 3 [.i .i64 40]) 4 [.i .i64 41])) λe=>bif rJ.c e.2.1 e.2.2.1 e.2.2.2.1 then Lib.lt (rJ.v e.2.1 e.2.2.1 e.2.2.2.1) λf=>bif zq.c e.1 98 then Lib.lt (zq.v e.1 98) λh=>kr f.1 f.2.1 f.2.2.1 f.2.2.2.1 f.2.2.2.2.1 f.2.2.2.2.2.1 f.2.2.2.2.2.2.1 f.2.2.2.2.2.2.2.1 f.2.2.2.2.2.2.2.2.1 f.2.2.2.2.2.2.2.2.2.1 h else aj else aj else aj else aj
def vo:=b λr0 r1 r2 r3 r4 r5 r6 r7 r8 r9 CM=>ah (r0,r1,r2,r3,r4,r5,r6,r7,r8,r9,CM)
def c:=λa=>(vo a).isSome
def v:=λa=>(vo a).getD (0,[],[],[],[],0,[],[],0,0,⟨#[]⟩)
theorem out{x}:∀a,vo a=ah x->c a=ai/\v a=x:=λ_=>Lib.dc
end TA

namespace tN
def b(kr:aW->aC R)(a:az)(d e f h:aU)(i:az)(j l:aU)(m o:az):aC R:=bif o9.c a d e f h i j l m then bif o9.v a d e f h i j l m then kr (n7.v o 0 (bJ ((j.length:az)-1)))else kr ak else aj
def vo:=b λr0=>ah r0
def c:=λa d e f h i j l m o=>(vo a d e f h i j l m o).isSome
def v:=λa d e f h i j l m o=>(vo a d e f h i j l m o).getD ak
theorem out{x}:∀a d e f h i j l m o,vo a d e f h i j l m o=ah x->c a d e f h i j l m o=ai/\v a d e f h i j l m o=x:=λ_ _ _ _ _ _ _ _ _ _=>Lib.dc
end tN

namespace IK
def b(kr:Am R)(a:az)(d:aq)(e:aU):aC R:=bif cB ((aN [Ck.i ao,Ck.i ao] 0).length+e.length) 16 then kr a d (aN [Ck.i ao,Ck.i ao] 0++e)else aj
def v(fM:az)(eI:aq)(dq:aU):az×aq×aU:=(fM,eI,dq)
def c(fM:az)(eI:aq)(dq:aU):aW:=decide (dq.length<=4294967296)
theorem fJ(kr:Am R)(fM:az)(eI:aq)(dq:aU)(hc:c fM eI dq=ai):b kr fM eI dq=kr (v fM eI dq).1 (v fM eI dq).2.1 (v fM eI dq).2.2:=by have h:dq.length<=4294967296:=cg hc;unfold b;rw[show bP (aN [Ck.i ao,Ck.i ao] 0)+dq.length=dq.length by simp[aN],Lib.cC (by omega) (by omega)];rfl
end IK

namespace Gt
def r2(N:aE)(g k0 k1:wP R)(a:aW)(d:aU)(e f h:az)(i:aq)(j:aU):aC R:=bif decide (f<e)then bif decide (0<=f)&&decide (f<(d.length:az))then bif !n7.v (bZ (ar d f.toNat 0)) 1 9 then k0 ak d e f h i j else bif !n7.v (bZ (ar d f.toNat 1)) 0 (i.size:az)then k0 ak d e f h i j else bif decide (f>0)then bif decide (0<=bJ (f-1))&&decide (bJ (f-1)<(j.length:az))then bif decide (bZ (ar j (bJ (f-1)).toNat 0)≥bZ (ar d f.toNat 0))then k0 ak d e f h i j else g a d e (bJ (f+1)) h i j else aj else g a d e (bJ (f+1)) h i j else aj else k1 a d e f h i j
def l2(N:aE)(k0 k1:wP R):aE->wP R
 |0=>λ_ _ _ _ _ _ _=>aj
 |n+1=>r2 N (l2 N k0 k1 n) k0 k1
def b(N:aE)(kr:aW->aC R)(a:az)(d:aq)(e:aU):aC R:=l2 N (λf _ _ _ _ _ _=>kr f) (λ_ _ _ _ f h i=>bif n7.v f 1 3 then bif decide ((h.size:az)<=400)then kr (decide ((i.length:az)<=6))else kr ak else kr ak) N ak e (e.length:az) 0 a d e
def v(fM:az)(eI:aq)(dq:aU):aW:=(cJ dq.length).all (kU.el eI dq)&&kU.rest fM eI dq
theorem fJ(kr:aW->aC R)(fM:az)(eI:aq)(dq:aU)(f0:Ge eI)(f1:uD dq):∃N,b N kr fM eI dq=kr (v fM eI dq):=by
 refine⟨dq.length+1, ?_⟩
 unfold b;have ew:n7.v=kg.v:=rfl;simp only[ew,kU.LP]
 have:=Lib.gn (λn (i:aE)=>l2 (dq.length+1) (λy7 y8 y9 Ml yL N9 Gi=>kr y7) (λXq Xr Tc FV FW DR vm=>kr (kU.rest FW DR vm)) n ak dq dq.length i fM eI dq) (λi=>dq.length-i) (λi=>i<=dq.length)
  (λi=>kr ((lI i (dq.length-i)).all (kU.el eI dq)&&kU.rest fM eI dq)) (λn i hi=>by
  simp only[l2,r2,ew,Lib.du,Lib.cQ,Lib.eD,bj,kU.mi]
  by_cases h:i<dq.length
  ·rw[kU.Gz _ h];simp only[h,aQ,au,Lib.di h f1.1];cases h1:decide (1<=bZ (ar dq i 0)/\bZ (ar dq i 0)<=9)with
   |false=>left;simp[kU.el,h1]
   |true=>
    simp only[aY,aA];cases h3:decide (0<=bZ (ar dq i 1)/\bZ (ar dq i 1)<=eI.size)with
    |false=>left;simp[kU.el,h3]
    |true=>
     simp only[aY,aA];by_cases hz:0<i
     ·have e0:decide ((i:az)>0)=true:=by simp;omega
      have hp:i-1<dq.length:=by omega
      have hi0:(i==0)=false:=by simp;omega
      simp only[e0,au,kU.BZ hz (by have:=f1.1;omega),Lib.cQ,Lib.du,Lib.eD,hp,aQ,aM];cases h2:decide (bZ (ar dq (i-1) 0)≥bZ (ar dq i 0))with
      |true=>
       left;have e3:decide (bZ (ar dq (i-1) 0)<bZ (ar dq i 0))=false:=by simp at h2⊢;omega
       simp[kU.el,e3,hi0]
      |false=>
       have e3:decide (bZ (ar dq (i-1) 0)<bZ (ar dq i 0))=true:=by simp at h2⊢;omega
       right;exact⟨i+1,h,by omega,by simp only[kU.el,h1,h3,e3,Iz,bj],rfl⟩
     ·have hz:i=0:=by omega
      subst hz;simp only[show decide (((0:aE):az)>0)=ak from rfl,aA];right;exact⟨1,h,by omega,by simp only[kU.el,h1,h3,bj];rfl,rfl⟩
  ·left;have h0:dq.length-i=0:=by omega
   simp only[h,bh,aA,h0,PB,List.all_nil,bj]) (dq.length+1) 0 (by omega) (by omega)
 refine this.trans ?_;unfold v;rw[Cm,<-PC]
end Gt

namespace Cn
def b(kr:DY R)(a:az)(d:aq)(e:aU)(f:aq):aC R:=bif IK.c a d e then bif !Gt.v a d e then kr a d e ak else bif a !=1 then kr a d e ak else bif !n7.v (f.size:az) 1 40 then kr a d e ak else bif decide (bJ ((d.size:az)+(f.size:az))>400)then kr a d e ak else bif decide (d.size+f.size<=4611686018427387904)then kr a (d++f) e ai else aj else aj
def v(fM:az)(eI:aq)(dq:aU)(fZ:aq):az×aq×aU×aW:=
 if kU.v fM eI dq=ai/\fM=1/\1<=fZ.size/\fZ.size<=40/\eI.size+fZ.size<=400 then(fM,eI++fZ,dq,ai)else(fM,eI,dq,ak)
def c(fM:az)(eI:aq)(dq:aU)(fZ:aq):aW:=decide (dq.length<=4294967296)
theorem fJ(kr:DY R)(fM:az)(eI:aq)(dq:aU)(fZ:aq)(hc:c fM eI dq fZ=ai)(f0:Ge eI)(f1:uD dq)(f2:Ge fZ):b kr fM eI dq fZ=kr (v fM eI dq fZ).1 (v fM eI dq fZ).2.1 (v fM eI dq fZ).2.2.1 (v fM eI dq fZ).2.2.2:=by
 have hs1:eI.size<=4611686018427387904:=f0;have Ln:fZ.size<=4611686018427387904:=f2;have e1:IK.c fM eI dq=true:=hc;have e2:∀a b c,Gt.v a b c=kU.v a b c:=λ_ _ _=>rfl;have e3:∀n a b,n7.v n a b=decide (a<=n/\n<=b):=kU.mi;unfold b v;rw[e1,e2,e3,au];cases h1:kU.v fM eI dq with
 |false=>simp
 |true=>
  by_cases h2:fM=1
  ·by_cases h3:1<=(fZ.size:az)/\(fZ.size:az)<=40
   ·have e4:bJ ((eI.size:az)+(fZ.size:az))=eI.size+fZ.size:=jN (by omega) (by omega);rw[e4,aF h3];by_cases h4:(eI.size:az)+(fZ.size:az)>400
    ·rw[Lib.AY h4,bH (by omega)];simp[h2]
    ·rw[Lib.GV h4,bw (by refine⟨rfl,h2, ?_, ?_, ?_⟩<;>omega),Lib.AY (show eI.size+fZ.size<=4611686018427387904 by omega)];simp[h2]
   ·rw[aK h3,bH (by omega)];simp
  ·have il:(fM !=1)=true:=bne_iff_ne.mpr h2;rw[bH (by simp[h2]),il];rfl
end Cn

namespace zp
def r1(N:aE)(g k0:iH R)(a d e f h i:az)(j l m o p q:aU):aC R:=bif decide (e<d)then bif decide (0<=e)&&decide (e<(j.length:az))then bif decide (bZ (ar j e.toNat (1+1))=bJ (a+1))then bif decide (bZ (ar j e.toNat (1+1+1+1))=1)then bif decide (0<=a)&&decide (a<(q.length:az))then bif decide (0<=e)&&decide (e<(j.length:az))then g a d (bJ (e+1)) f h i (dV j e.toNat 5 [.s (bQ (ar q a.toNat 1))]) l m o p q else aj else aj else g a d (bJ (e+1)) f h i j l m o p q else g a d (bJ (e+1)) f h i j l m o p q else aj else k0 a d e f h i j l m o p q
def l1(N:aE)(k0:iH R):aE->iH R
 |0=>λ_ _ _ _ _ _ _ _ _ _ _ _=>aj
 |n+1=>r1 N (l1 N k0 n) k0
def b(N:aE)(kr:eP R)(a:az)(d e f h:aU)(i:az)(j l:aU)(m o:az):aC R:=l1 N (λ_ _ _ p q r s t u w y z=>kr p t u w y q z s r) N o (l.length:az) 0 a i m l d e f h j
def vo:=b Lib.cW λr0 r1 r2 r3 r4 r5 r6 r7 r8=>ah (r0,r1,r2,r3,r4,r5,r6,r7,r8)
def c:=λa d e f h i j l m o=>(vo a d e f h i j l m o).isSome
def v:=λa d e f h i j l m o=>(vo a d e f h i j l m o).getD (0,[],[],[],[],0,[],[],0)
theorem out{x}:∀a d e f h i j l m o,vo a d e f h i j l m o=ah x->c a d e f h i j l m o=ai/\v a d e f h i j l m o=x:=λ_ _ _ _ _ _ _ _ _ _=>Lib.dc
end zp

namespace Tw
def b(kr:ki R)(a:az)(d e f h:aU)(i:az)(j l:aU)(m o:az)(p:aq):aC R:=bif EH.c a d e f h i j l m then Lib.lt (EH.v a d e f h i j l m) λq=>bif tN.c a d e f h i j l m o then Lib.lt (tN.v a d e f h i j l m o) λr=>bif !r then kr q.1 q.2.1 q.2.2.1 q.2.2.2.1 q.2.2.2.2.1 q.2.2.2.2.2.1 q.2.2.2.2.2.2.1 q.2.2.2.2.2.2.2.1 q.2.2.2.2.2.2.2.2 ak else bif decide (0<=o)&&decide (o<(j.length:az))then bif decide (0<=o)&&decide (o<(j.length:az))then bif !(Cn.v (bZ (ar j o.toNat 2)) (bQ (ar j o.toNat 1)) [] p).2.2.2 then kr q.1 q.2.1 q.2.2.1 q.2.2.2.1 q.2.2.2.2.1 q.2.2.2.2.2.1 q.2.2.2.2.2.2.1 q.2.2.2.2.2.2.2.1 q.2.2.2.2.2.2.2.2 ak else bif decide (0<=o)&&decide (o<(q.2.2.2.2.2.2.1.length:az))then bif zp.c q.1 q.2.1 q.2.2.1 q.2.2.2.1 q.2.2.2.2.1 q.2.2.2.2.2.1 (dV q.2.2.2.2.2.2.1 o.toNat 1 [.s (Cn.v (bZ (ar j o.toNat 2)) (bQ (ar j o.toNat 1)) [] p).2.1]) q.2.2.2.2.2.2.2.1 q.2.2.2.2.2.2.2.2 o then Lib.lt (zp.v q.1 q.2.1 q.2.2.1 q.2.2.2.1 q.2.2.2.2.1 q.2.2.2.2.2.1 (dV q.2.2.2.2.2.2.1 o.toNat 1 [.s (Cn.v (bZ (ar j o.toNat 2)) (bQ (ar j o.toNat 1)) [] p).2.1]) q.2.2.2.2.2.2.2.1 q.2.2.2.2.2.2.2.2 o) λs=>kr s.1 s.2.1 s.2.2.1 s.2.2.2.1 s.2.2.2.2.1 s.2.2.2.2.2.1 s.2.2.2.2.2.2.1 s.2.2.2.2.2.2.2.1 s.2.2.2.2.2.2.2.2 ai else aj else aj else aj else aj else aj else aj
def vo:=b λr0 r1 r2 r3 r4 r5 r6 r7 r8 r9=>ah (r0,r1,r2,r3,r4,r5,r6,r7,r8,r9)
def c:=λa d e f h i j l m o p=>(vo a d e f h i j l m o p).isSome
def v:=λa d e f h i j l m o p=>(vo a d e f h i j l m o p).getD (0,[],[],[],[],0,[],[],0,ak)
theorem out{x}:∀a d e f h i j l m o p,vo a d e f h i j l m o p=ah x->c a d e f h i j l m o p=ai/\v a d e f h i j l m o p=x:=λ_ _ _ _ _ _ _ _ _ _ _=>Lib.dc
end Tw

namespace TB
def b(kr:Cg R)(a:aU):aC R:=bif Cu.c a then Lib.lt (Cu.v a) λd=>bif rS.c d.1 d.2.1 d.2.2 (ax (ax (ax (ax (ax (ax (aN [Ck.i ao] 6) 0 [.i .i64 0]) 1 [.i .i64 5]) 2 [.i .i64 60]) 3 [.i .i64 999999]) 4 [.i .i64 1000000]) 5 [.i .i64 (iT 1)])then Lib.lt (rS.v d.1 d.2.1 d.2.2 (ax (ax (ax (ax (ax (ax (aN [Ck.i ao] 6) 0 [.i .i64 0]) 1 [.i .i64 5]) 2 [.i .i64 60]) 3 [.i .i64 999999]) 4 [.i .i64 1000000]) 5 [.i .i64 (iT 1)])) λe=>bif rJ.c e.2.1 e.2.2.1 e.2.2.2.1 then Lib.lt (rJ.v e.2.1 e.2.2.1 e.2.2.2.1) λf=>kr f.1 f.2.1 f.2.2.1 f.2.2.2.1 f.2.2.2.2.1 f.2.2.2.2.2.1 f.2.2.2.2.2.2.1 f.2.2.2.2.2.2.2.1 f.2.2.2.2.2.2.2.2.1 f.2.2.2.2.2.2.2.2.2.1 e.1 else aj else aj else aj
def vo:=b λr0 r1 r2 r3 r4 r5 r6 r7 r8 r9 CM=>ah (r0,r1,r2,r3,r4,r5,r6,r7,r8,r9,CM)
def c:=λa=>(vo a).isSome
def v:=λa=>(vo a).getD (0,[],[],[],[],0,[],[],0,0,0)
theorem out{x}:∀a,vo a=ah x->c a=ai/\v a=x:=λ_=>Lib.dc
end TB

namespace uL
def r1(N:aE)(g k0:jz R)(a d e f h i j:az)(l m o p q r:aU):aC R:=bif decide (f<e)then bif decide (0<=f)&&decide (f<(l.length:az))then bif decide (bZ (ar l f.toNat (1+1))=bJ (a+1))then bif decide (bZ (ar l f.toNat (1+1+1+1))=1)then bif decide (0<=a)&&decide (a<(r.length:az))then bif decide (0<=f)&&decide (f<(l.length:az))then bif decide (0<=f)&&decide (f<((dV l f.toNat 4 [.i .i64 d]).length:az))then g a d e (bJ (f+1)) h i j (dV (dV l f.toNat 4 [.i .i64 d]) f.toNat 5 [.s (bQ (ar r a.toNat 1))]) m o p q r else aj else aj else aj else g a d e (bJ (f+1)) h i j l m o p q r else g a d e (bJ (f+1)) h i j l m o p q r else aj else k0 a d e f h i j l m o p q r
def l1(N:aE)(k0:jz R):aE->jz R
 |0=>λ_ _ _ _ _ _ _ _ _ _ _ _ _=>aj
 |n+1=>r1 N (l1 N k0 n) k0
def b(N:aE)(kr:eP R)(a:az)(d e f h:aU)(i:az)(j l:aU)(m o p:az):aC R:=l1 N (λ_ _ _ _ q r s t u w y z α=>kr q u w y z r α t s) N o p (l.length:az) 0 a i m l d e f h j
def vo:=b Lib.cW λr0 r1 r2 r3 r4 r5 r6 r7 r8=>ah (r0,r1,r2,r3,r4,r5,r6,r7,r8)
def c:=λa d e f h i j l m o p=>(vo a d e f h i j l m o p).isSome
def v:=λa d e f h i j l m o p=>(vo a d e f h i j l m o p).getD (0,[],[],[],[],0,[],[],0)
theorem out{x}:∀a d e f h i j l m o p,vo a d e f h i j l m o p=ah x->c a d e f h i j l m o p=ai/\v a d e f h i j l m o p=x:=λ_ _ _ _ _ _ _ _ _ _ _=>Lib.dc
end uL


namespace tP
def r3(N:aE)(g k0:vu R)(a:az)(d:aq)(e f:az)(h:aq)(i:aU):aC R:=bif decide (a<(i.length:az))then bif decide (0<=a)&&decide (a<(i.length:az))then bif b_ (bQ (ar i a.toNat 0)).toList (aL d)then g (bJ (a+1)) d e f h i else k0 a d e f h i else aj else k0 a d e f h i
def l3(N:aE)(k0:vu R):aE->vu R
 |0=>λ_ _ _ _ _ _=>aj
 |n+1=>r3 N (l3 N k0 n) k0
def b(N:aE)(kr:aU->aC R)(a:aU)(d:aq)(e f:az)(h:aq):aC R:=bif B7.c a d then l3 N (λi j l m o p=>bif decide (0<=i)&&decide (i<=(p.length:az))&&cB (p.length+(ax (aN [Ck.s,Ck.i ao,Ck.i ao,Ck.s] 1) 0 [.s j, .i .i64 l, .i .i64 m, .s o]).length) 48 then kr (Pu.yr p i.toNat (ax (aN [Ck.s,Ck.i ao,Ck.i ao,Ck.s] 1) 0 [.s j, .i .i64 l, .i .i64 m, .s o]))else aj) N 0 d e f h (B7.v a d)else aj
def vo:=b Lib.cW λr0=>ah r0
def c:=λa d e f h=>(vo a d e f h).isSome
def v:=λa d e f h=>(vo a d e f h).getD ([])
theorem out{x}:∀a d e f h,vo a d e f h=ah x->c a d e f h=ai/\v a d e f h=x:=λ_ _ _ _ _=>Lib.dc
end tP

namespace Co
def b(kr:eP R)(a:az)(d e f h:aU)(i:az)(j l:aU)(m:az)(o:aq)(p q:az)(r:aq):aC R:=bif MD.c e f h i o then Lib.lt (MD.v e f h i o) λs=>bif B7.c d s.2.2.2.2 then Lib.lt (B7.v d s.2.2.2.2) λt=>bif uP.c s.1 s.2.1 s.2.2.1 s.2.2.2.1 o then Lib.lt (uP.v s.1 s.2.1 s.2.2.1 s.2.2.2.1 o) λu=>bif u then bif tP.c t o p q r then Lib.lt (tP.v t o p q r) λw=>kr a w s.1 s.2.1 s.2.2.1 s.2.2.2.1 j l m else aj else kr a t s.1 s.2.1 s.2.2.1 s.2.2.2.1 j l m else aj else aj else aj
def vo:=b λr0 r1 r2 r3 r4 r5 r6 r7 r8=>ah (r0,r1,r2,r3,r4,r5,r6,r7,r8)
def c:=λa d e f h i j l m o p q r=>(vo a d e f h i j l m o p q r).isSome
def v:=λa d e f h i j l m o p q r=>(vo a d e f h i j l m o p q r).getD (0,[],[],[],[],0,[],[],0)
theorem out{x}:∀a d e f h i j l m o p q r,vo a d e f h i j l m o p q r=ah x->c a d e f h i j l m o p q r=ai/\v a d e f h i j l m o p q r=x:=λ_ _ _ _ _ _ _ _ _ _ _ _ _=>Lib.dc
end Co

namespace Tx
def b(kr:ki R)(a:az)(d e f h:aU)(i:az)(j l:aU)(m o p:az):aC R:=bif EH.c a d e f h i j l m then Lib.lt (EH.v a d e f h i j l m) λq=>bif tN.c a d e f h i j l m o then Lib.lt (tN.v a d e f h i j l m o) λr=>bif !r then kr q.1 q.2.1 q.2.2.1 q.2.2.2.1 q.2.2.2.2.1 q.2.2.2.2.2.1 q.2.2.2.2.2.2.1 q.2.2.2.2.2.2.2.1 q.2.2.2.2.2.2.2.2 ak else bif decide (0<=o)&&decide (o<(j.length:az))then bif bZ (ar j o.toNat 2) !=1 then kr q.1 q.2.1 q.2.2.1 q.2.2.2.1 q.2.2.2.2.1 q.2.2.2.2.2.1 q.2.2.2.2.2.2.1 q.2.2.2.2.2.2.2.1 q.2.2.2.2.2.2.2.2 ak else bif !n7.v p 0 999999 then kr q.1 q.2.1 q.2.2.1 q.2.2.2.1 q.2.2.2.2.1 q.2.2.2.2.2.1 q.2.2.2.2.2.2.1 q.2.2.2.2.2.2.2.1 q.2.2.2.2.2.2.2.2 ak else bif decide (0<=o)&&decide (o<(q.2.2.2.2.2.2.1.length:az))then bif uL.c q.1 q.2.1 q.2.2.1 q.2.2.2.1 q.2.2.2.2.1 q.2.2.2.2.2.1 (dV (dV (dV q.2.2.2.2.2.2.1 o.toNat 2 [.i .i64 2]) o.toNat 3 [.i .i64 p]) o.toNat 4 [.i .i64 a]) q.2.2.2.2.2.2.2.1 q.2.2.2.2.2.2.2.2 o 2 then Lib.lt (uL.v q.1 q.2.1 q.2.2.1 q.2.2.2.1 q.2.2.2.2.1 q.2.2.2.2.2.1 (dV (dV (dV q.2.2.2.2.2.2.1 o.toNat 2 [.i .i64 2]) o.toNat 3 [.i .i64 p]) o.toNat 4 [.i .i64 a]) q.2.2.2.2.2.2.2.1 q.2.2.2.2.2.2.2.2 o 2) λs=>bif decide (p>0)then bif Co.c s.1 s.2.1 s.2.2.1 s.2.2.2.1 s.2.2.2.2.1 s.2.2.2.2.2.1 s.2.2.2.2.2.2.1 s.2.2.2.2.2.2.2.1 s.2.2.2.2.2.2.2.2 (bQ (ar s.2.2.2.2.2.2.1 o.toNat 0)) a p (bQ (ar s.2.2.2.2.2.2.1 o.toNat 1))then Lib.lt (Co.v s.1 s.2.1 s.2.2.1 s.2.2.2.1 s.2.2.2.2.1 s.2.2.2.2.2.1 s.2.2.2.2.2.2.1 s.2.2.2.2.2.2.2.1 s.2.2.2.2.2.2.2.2 (bQ (ar s.2.2.2.2.2.2.1 o.toNat 0)) a p (bQ (ar s.2.2.2.2.2.2.1 o.toNat 1))) λt=>kr t.1 t.2.1 t.2.2.1 t.2.2.2.1 t.2.2.2.2.1 t.2.2.2.2.2.1 t.2.2.2.2.2.2.1 t.2.2.2.2.2.2.2.1 t.2.2.2.2.2.2.2.2 ai else aj else kr s.1 s.2.1 s.2.2.1 s.2.2.2.1 s.2.2.2.2.1 s.2.2.2.2.2.1 s.2.2.2.2.2.2.1 s.2.2.2.2.2.2.2.1 s.2.2.2.2.2.2.2.2 ai else aj else aj else aj else aj else aj
def vo:=b λr0 r1 r2 r3 r4 r5 r6 r7 r8 r9=>ah (r0,r1,r2,r3,r4,r5,r6,r7,r8,r9)
def c:=λa d e f h i j l m o p=>(vo a d e f h i j l m o p).isSome
def v:=λa d e f h i j l m o p=>(vo a d e f h i j l m o p).getD (0,[],[],[],[],0,[],[],0,ak)
theorem out{x}:∀a d e f h i j l m o p,vo a d e f h i j l m o p=ah x->c a d e f h i j l m o p=ai/\v a d e f h i j l m o p=x:=λ_ _ _ _ _ _ _ _ _ _ _=>Lib.dc
end Tx

namespace TC
def b(kr:qt R)(a:aU):aC R:=bif Cu.c a then Lib.lt (Cu.v a) λd=>bif rJ.c d.1 d.2.1 d.2.2 then Lib.lt (rJ.v d.1 d.2.1 d.2.2) λe=>kr e.1 e.2.1 e.2.2.1 e.2.2.2.1 e.2.2.2.2.1 e.2.2.2.2.2.1 e.2.2.2.2.2.2.1 e.2.2.2.2.2.2.2.1 e.2.2.2.2.2.2.2.2.1 e.2.2.2.2.2.2.2.2.2.1 else aj else aj
def vo:=b λr0 r1 r2 r3 r4 r5 r6 r7 r8 r9=>ah (r0,r1,r2,r3,r4,r5,r6,r7,r8,r9)
def c:=λa=>(vo a).isSome
def v:=λa=>(vo a).getD (0,[],[],[],[],0,[],[],0,0)
theorem out{x}:∀a,vo a=ah x->c a=ai/\v a=x:=λ_=>Lib.dc
end TC

namespace Ty
def b(kr:ki R)(a:az)(d e f h:aU)(i:az)(j l:aU)(m o:az):aC R:=bif EH.c a d e f h i j l m then Lib.lt (EH.v a d e f h i j l m) λp=>bif tN.c a d e f h i j l m o then Lib.lt (tN.v a d e f h i j l m o) λq=>bif !q then kr p.1 p.2.1 p.2.2.1 p.2.2.2.1 p.2.2.2.2.1 p.2.2.2.2.2.1 p.2.2.2.2.2.2.1 p.2.2.2.2.2.2.2.1 p.2.2.2.2.2.2.2.2 ak else bif decide (0<=o)&&decide (o<(j.length:az))then bif bZ (ar j o.toNat 2) !=1 then kr p.1 p.2.1 p.2.2.1 p.2.2.2.1 p.2.2.2.2.1 p.2.2.2.2.2.1 p.2.2.2.2.2.2.1 p.2.2.2.2.2.2.2.1 p.2.2.2.2.2.2.2.2 ak else bif decide (0<=o)&&decide (o<(p.2.2.2.2.2.2.1.length:az))then bif uL.c p.1 p.2.1 p.2.2.1 p.2.2.2.1 p.2.2.2.2.1 p.2.2.2.2.2.1 (dV p.2.2.2.2.2.2.1 o.toNat 2 [.i .i64 3]) p.2.2.2.2.2.2.2.1 p.2.2.2.2.2.2.2.2 o 3 then Lib.lt (uL.v p.1 p.2.1 p.2.2.1 p.2.2.2.1 p.2.2.2.2.1 p.2.2.2.2.2.1 (dV p.2.2.2.2.2.2.1 o.toNat 2 [.i .i64 3]) p.2.2.2.2.2.2.2.1 p.2.2.2.2.2.2.2.2 o 3) λr=>kr r.1 r.2.1 r.2.2.1 r.2.2.2.1 r.2.2.2.2.1 r.2.2.2.2.2.1 r.2.2.2.2.2.2.1 r.2.2.2.2.2.2.2.1 r.2.2.2.2.2.2.2.2 ai else aj else aj else aj else aj else aj
def vo:=b λr0 r1 r2 r3 r4 r5 r6 r7 r8 r9=>ah (r0,r1,r2,r3,r4,r5,r6,r7,r8,r9)
def c:=λa d e f h i j l m o=>(vo a d e f h i j l m o).isSome
def v:=λa d e f h i j l m o=>(vo a d e f h i j l m o).getD (0,[],[],[],[],0,[],[],0,ak)
theorem out{x}:∀a d e f h i j l m o,vo a d e f h i j l m o=ah x->c a d e f h i j l m o=ai/\v a d e f h i j l m o=x:=λ_ _ _ _ _ _ _ _ _ _=>Lib.dc
end Ty

namespace NW
def r4(N:aE)(g k0 k1:qx R)(a d:aU)(e:aW)(f:az):aC R:=bif decide (f<(a.length:az))then bif decide (0<=f)&&decide (f<(a.length:az))then bif decide (0<=f)&&decide (f<(d.length:az))then bif !(db (bQ (ar a f.toNat 0)).toList (bQ (ar d f.toNat 0)).toList&&(decide (bZ (ar a f.toNat 1)=bZ (ar d f.toNat 1))&&(decide (bZ (ar a f.toNat (1+1))=bZ (ar d f.toNat (1+1)))&&(db (bQ (ar a f.toNat (1+1+1))).toList (bQ (ar d f.toNat (1+1+1))).toList&&ai))))then k0 a d ak f else g a d e (bJ (f+1))else aj else aj else k1 a d e f
def l4(N:aE)(k0 k1:qx R):aE->qx R
 |0=>λ_ _ _ _=>aj
 |n+1=>r4 N (l4 N k0 k1 n) k0 k1
def b(N:aE)(kr:aW->aC R)(a d:aU):aC R:=bif(a.length:az) !=(d.length:az)then kr ak else l4 N (λ_ _ e _=>kr e) (λ_ _ _ _=>kr ai) N a d ak 0
def vo:=b Lib.cW λr0=>ah r0
def c:=λa d=>(vo a d).isSome
def v:=λa d=>(vo a d).getD ak
theorem out{x}:∀a d,vo a d=ah x->c a d=ai/\v a d=x:=λ_ _=>Lib.dc
end NW

namespace uO
def r4(N:aE)(g k0 k1:qx R)(a d:aU)(e:aW)(f:az):aC R:=bif decide (f<(a.length:az))then bif decide (0<=f)&&decide (f<(a.length:az))then bif decide (0<=f)&&decide (f<(d.length:az))then bif !List.beq (bQ (ar a f.toNat 0)).toList (bQ (ar d f.toNat 0)).toList then k0 a d ak f else g a d e (bJ (f+1))else aj else aj else k1 a d e f
def l4(N:aE)(k0 k1:qx R):aE->qx R
 |0=>λ_ _ _ _=>aj
 |n+1=>r4 N (l4 N k0 k1 n) k0 k1
def b(N:aE)(kr:aW->aC R)(a d:aU):aC R:=bif(a.length:az) !=(d.length:az)then kr ak else l4 N (λ_ _ e _=>kr e) (λ_ _ _ _=>kr ai) N a d ak 0
def vo:=b Lib.cW λr0=>ah r0
def c:=λa d=>(vo a d).isSome
def v:=λa d=>(vo a d).getD ak
theorem out{x}:∀a d,vo a d=ah x->c a d=ai/\v a d=x:=λ_ _=>Lib.dc
end uO

namespace zy
def r4(N:aE)(g k0 k1:qx R)(a d:aU)(e:aW)(f:az):aC R:=bif decide (f<(a.length:az))then bif decide (0<=f)&&decide (f<(a.length:az))then bif decide (0<=f)&&decide (f<(d.length:az))then bif bZ (ar a f.toNat 0) !=bZ (ar d f.toNat 0)then k0 a d ak f else g a d e (bJ (f+1))else aj else aj else k1 a d e f
def l4(N:aE)(k0 k1:qx R):aE->qx R
 |0=>λ_ _ _ _=>aj
 |n+1=>r4 N (l4 N k0 k1 n) k0 k1
def b(N:aE)(kr:aW->aC R)(a d:aU):aC R:=bif(a.length:az) !=(d.length:az)then kr ak else l4 N (λ_ _ e _=>kr e) (λ_ _ _ _=>kr ai) N a d ak 0
def vo:=b Lib.cW λr0=>ah r0
def c:=λa d=>(vo a d).isSome
def v:=λa d=>(vo a d).getD ak
theorem out{x}:∀a d,vo a d=ah x->c a d=ai/\v a d=x:=λ_ _=>Lib.dc
end zy

namespace zt
def r4(N:aE)(g k0 k1:Ak R)(a:aW)(d:az)(e:aU)(f:az)(h:aU)(i:az):aC R:=bif decide (d<(e.length:az))then bif decide (0<=d)&&decide (d<(e.length:az))then bif decide (0<=d)&&decide (d<(h.length:az))then bif zy.c (iD (ar e d.toNat 0)) (iD (ar h d.toNat 0))then bif !zy.v (iD (ar e d.toNat 0)) (iD (ar h d.toNat 0))then k0 ak d e f h i else g a (bJ (d+1)) e f h i else aj else aj else aj else k1 a d e f h i
def l4(N:aE)(k0 k1:Ak R):aE->Ak R
 |0=>λ_ _ _ _ _ _=>aj
 |n+1=>r4 N (l4 N k0 k1 n) k0 k1
def b(N:aE)(kr:aW->aC R)(a:aU)(d:az)(e:aU)(f:az):aC R:=bif d !=f then kr ak else bif(a.length:az) !=(e.length:az)then kr ak else l4 N (λh _ _ _ _ _=>kr h) (λ_ _ _ _ _ _=>kr ai) N ak 0 a d e f
def vo:=b Lib.cW λr0=>ah r0
def c:=λa d e f=>(vo a d e f).isSome
def v:=λa d e f=>(vo a d e f).getD ak
theorem out{x}:∀a d e f,vo a d e f=ah x->c a d e f=ai/\v a d e f=x:=λ_ _ _ _=>Lib.dc
end zt

namespace TF
def b(kr:aW->aC R)(a d e:aU)(f:az)(h i j:aU)(l:az):aC R:=bif uO.c a h then bif uO.v a h then bif uO.c d i then bif uO.v d i then bif zt.c e f j l then kr (zt.v e f j l)else aj else kr ak else aj else kr ak else aj
def vo:=b λr0=>ah r0
def c:=λa d e f h i j l=>(vo a d e f h i j l).isSome
def v:=λa d e f h i j l=>(vo a d e f h i j l).getD ak
theorem out{x}:∀a d e f h i j l,vo a d e f h i j l=ah x->c a d e f h i j l=ai/\v a d e f h i j l=x:=λ_ _ _ _ _ _ _ _=>Lib.dc
end TF

namespace mU
def r9(N:aE)(g k0 k1:e_ R)(a:aW)(d e:az)(f h i j:aU)(l:az)(m o:aU)(p q:az)(r s t u:aU)(w:az)(y z:aU)(α:az):aC R:=bif decide (d<(o.length:az))then bif decide (0<=d)&&decide (d<(o.length:az))then bif decide (0<=d)&&decide (d<(z.length:az))then bif !(decide (bZ (ar o d.toNat 0)=bZ (ar z d.toNat 0))&&(db (bQ (ar o d.toNat 1)).toList (bQ (ar z d.toNat 1)).toList&&(decide (bZ (ar o d.toNat (1+1))=bZ (ar z d.toNat (1+1)))&&(decide (bZ (ar o d.toNat (1+1+1))=bZ (ar z d.toNat (1+1+1)))&&(decide (bZ (ar o d.toNat (1+1+1+1))=bZ (ar z d.toNat (1+1+1+1)))&&(db (bQ (ar o d.toNat (1+1+1+1+1))).toList (bQ (ar z d.toNat (1+1+1+1+1))).toList&&(decide (bZ (ar o d.toNat (1+1+1+1+1+1))=bZ (ar z d.toNat (1+1+1+1+1+1)))&&ai)))))))then k0 ak d e f h i j l m o p q r s t u w y z α else g a (bJ (d+1)) e f h i j l m o p q r s t u w y z α else aj else aj else k1 a d e f h i j l m o p q r s t u w y z α
def l9(N:aE)(k0 k1:e_ R):aE->e_ R
 |0=>λ_ _ _ _ _ _ _ _ _ _ _ _ _ _ _ _ _ _ _ _=>aj
 |n+1=>r9 N (l9 N k0 k1 n) k0 k1
def r4(N:aE)(g k0 k1:e_ R)(a:aW)(d e:az)(f h i j:aU)(l:az)(m o:aU)(p q:az)(r s t u:aU)(w:az)(y z:aU)(α:az):aC R:=bif decide (d<(m.length:az))then bif decide (0<=d)&&decide (d<(m.length:az))then bif decide (0<=d)&&decide (d<(y.length:az))then bif !(db (bQ (ar m d.toNat 0)).toList (bQ (ar y d.toNat 0)).toList&&(db (bQ (ar m d.toNat 1)).toList (bQ (ar y d.toNat 1)).toList&&(decide (bZ (ar m d.toNat (1+1))=bZ (ar y d.toNat (1+1)))&&(decide (bZ (ar m d.toNat (1+1+1))=bZ (ar y d.toNat (1+1+1)))&&(decide (bZ (ar m d.toNat (1+1+1+1))=bZ (ar y d.toNat (1+1+1+1)))&&ai)))))then k0 ak d e f h i j l m o p q r s t u w y z α else g a (bJ (d+1)) e f h i j l m o p q r s t u w y z α else aj else aj else k1 a d e f h i j l m o p q r s t u w y z α
def l4(N:aE)(k0 k1:e_ R):aE->e_ R
 |0=>λ_ _ _ _ _ _ _ _ _ _ _ _ _ _ _ _ _ _ _ _=>aj
 |n+1=>r4 N (l4 N k0 k1 n) k0 k1
def b(N:aE)(kr:aW->aC R)(a:az)(d e f h:aU)(i:az)(j l:aU)(m o:az)(p q r s:aU)(t:az)(u w:aU)(y:az):aC R:=bif a !=o then kr ak else bif m !=y then kr ak else bif NW.c d p then bif !NW.v d p then kr ak else bif TF.c e f h i q r s t then bif !TF.v e f h i q r s t then kr ak else bif(j.length:az) !=(u.length:az)then kr ak else bif(l.length:az) !=(w.length:az)then kr ak else l4 N (λz _ _ _ _ _ _ _ _ _ _ _ _ _ _ _ _ _ _ _=>kr z) (λz _ α xa xb xc xd xe xf xg xh xi xj xk xl xm xn xo xp xq=>l9 N (λxr _ _ _ _ _ _ _ _ _ _ _ _ _ _ _ _ _ _ _=>kr xr) (λ_ _ _ _ _ _ _ _ _ _ _ _ _ _ _ _ _ _ _ _=>kr ai) N z 0 α xa xb xc xd xe xf xg xh xi xj xk xl xm xn xo xp xq) N ak 0 a d e f h i j l m o p q r s t u w y else aj else aj
def vo:=b Lib.cW λr0=>ah r0
def c:=λa d e f h i j l m o p q r s t u w y=>(vo a d e f h i j l m o p q r s t u w y).isSome
def v:=λa d e f h i j l m o p q r s t u w y=>(vo a d e f h i j l m o p q r s t u w y).getD ak
theorem out{x}:∀a d e f h i j l m o p q r s t u w y,vo a d e f h i j l m o p q r s t u w y=ah x->c a d e f h i j l m o p q r s t u w y=ai/\v a d e f h i j l m o p q r s t u w y=x:=λ_ _ _ _ _ _ _ _ _ _ _ _ _ _ _ _ _ _=>Lib.dc
end mU

namespace U7
def b(kr:aW->aC R)(a:aU):aC R:=bif U15.v a then kr ai else bif Tz.c a then Lib.lt (Tz.v a) λd=>bif PI.c d.1 d.2.1 d.2.2.1 d.2.2.2.1 d.2.2.2.2.1 d.2.2.2.2.2.1 d.2.2.2.2.2.2.1 d.2.2.2.2.2.2.2.1 d.2.2.2.2.2.2.2.2.1 d.2.2.2.2.2.2.2.2.2.1 d.2.2.2.2.2.2.2.2.2.2 then Lib.lt (PI.v d.1 d.2.1 d.2.2.1 d.2.2.2.1 d.2.2.2.2.1 d.2.2.2.2.2.1 d.2.2.2.2.2.2.1 d.2.2.2.2.2.2.2.1 d.2.2.2.2.2.2.2.2.1 d.2.2.2.2.2.2.2.2.2.1 d.2.2.2.2.2.2.2.2.2.2) λe=>bif U9.c d.1 d.2.1 d.2.2.1 d.2.2.2.1 d.2.2.2.2.1 d.2.2.2.2.2.1 d.2.2.2.2.2.2.1 d.2.2.2.2.2.2.2.1 d.2.2.2.2.2.2.2.2.1 d.2.2.2.2.2.2.2.2.2.1 d.2.2.2.2.2.2.2.2.2.2 then Lib.lt (U9.v d.1 d.2.1 d.2.2.1 d.2.2.2.1 d.2.2.2.2.1 d.2.2.2.2.2.1 d.2.2.2.2.2.2.1 d.2.2.2.2.2.2.2.1 d.2.2.2.2.2.2.2.2.1 d.2.2.2.2.2.2.2.2.2.1 d.2.2.2.2.2.2.2.2.2.2) λf=>bif TA.c a then Lib.lt (TA.v a) λh=>bif Tw.c h.1 h.2.1 h.2.2.1 h.2.2.2.1 h.2.2.2.2.1 h.2.2.2.2.2.1 h.2.2.2.2.2.2.1 h.2.2.2.2.2.2.2.1 h.2.2.2.2.2.2.2.2.1 h.2.2.2.2.2.2.2.2.2.1 h.2.2.2.2.2.2.2.2.2.2 then Lib.lt (Tw.v h.1 h.2.1 h.2.2.1 h.2.2.2.1 h.2.2.2.2.1 h.2.2.2.2.2.1 h.2.2.2.2.2.2.1 h.2.2.2.2.2.2.2.1 h.2.2.2.2.2.2.2.2.1 h.2.2.2.2.2.2.2.2.2.1 h.2.2.2.2.2.2.2.2.2.2) λi=>bif Mz.c h.1 h.2.1 h.2.2.1 h.2.2.2.1 h.2.2.2.2.1 h.2.2.2.2.2.1 h.2.2.2.2.2.2.1 h.2.2.2.2.2.2.2.1 h.2.2.2.2.2.2.2.2.1 h.2.2.2.2.2.2.2.2.2.1 h.2.2.2.2.2.2.2.2.2.2 then Lib.lt (Mz.v h.1 h.2.1 h.2.2.1 h.2.2.2.1 h.2.2.2.2.1 h.2.2.2.2.2.1 h.2.2.2.2.2.2.1 h.2.2.2.2.2.2.2.1 h.2.2.2.2.2.2.2.2.1 h.2.2.2.2.2.2.2.2.2.1 h.2.2.2.2.2.2.2.2.2.2) λj=>bif TB.c a then Lib.lt (TB.v a) λl=>bif Tx.c l.1 l.2.1 l.2.2.1 l.2.2.2.1 l.2.2.2.2.1 l.2.2.2.2.2.1 l.2.2.2.2.2.2.1 l.2.2.2.2.2.2.2.1 l.2.2.2.2.2.2.2.2.1 l.2.2.2.2.2.2.2.2.2.1 l.2.2.2.2.2.2.2.2.2.2 then Lib.lt (Tx.v l.1 l.2.1 l.2.2.1 l.2.2.2.1 l.2.2.2.2.1 l.2.2.2.2.2.1 l.2.2.2.2.2.2.1 l.2.2.2.2.2.2.2.1 l.2.2.2.2.2.2.2.2.1 l.2.2.2.2.2.2.2.2.2.1 l.2.2.2.2.2.2.2.2.2.2) λm=>bif MA.c l.1 l.2.1 l.2.2.1 l.2.2.2.1 l.2.2.2.2.1 l.2.2.2.2.2.1 l.2.2.2.2.2.2.1 l.2.2.2.2.2.2.2.1 l.2.2.2.2.2.2.2.2.1 l.2.2.2.2.2.2.2.2.2.1 l.2.2.2.2.2.2.2.2.2.2 then Lib.lt (MA.v l.1 l.2.1 l.2.2.1 l.2.2.2.1 l.2.2.2.2.1 l.2.2.2.2.2.1 l.2.2.2.2.2.2.1 l.2.2.2.2.2.2.2.1 l.2.2.2.2.2.2.2.2.1 l.2.2.2.2.2.2.2.2.2.1 l.2.2.2.2.2.2.2.2.2.2) λo=>bif TC.c a then Lib.lt (TC.v a) λp=>bif Ty.c p.1 p.2.1 p.2.2.1 p.2.2.2.1 p.2.2.2.2.1 p.2.2.2.2.2.1 p.2.2.2.2.2.2.1 p.2.2.2.2.2.2.2.1 p.2.2.2.2.2.2.2.2.1 p.2.2.2.2.2.2.2.2.2 then Lib.lt (Ty.v p.1 p.2.1 p.2.2.1 p.2.2.2.1 p.2.2.2.2.1 p.2.2.2.2.2.1 p.2.2.2.2.2.2.1 p.2.2.2.2.2.2.2.1 p.2.2.2.2.2.2.2.2.1 p.2.2.2.2.2.2.2.2.2) λq=>bif MB.c p.1 p.2.1 p.2.2.1 p.2.2.2.1 p.2.2.2.2.1 p.2.2.2.2.2.1 p.2.2.2.2.2.2.1 p.2.2.2.2.2.2.2.1 p.2.2.2.2.2.2.2.2.1 p.2.2.2.2.2.2.2.2.2 then Lib.lt (MB.v p.1 p.2.1 p.2.2.1 p.2.2.2.1 p.2.2.2.2.1 p.2.2.2.2.2.1 p.2.2.2.2.2.2.1 p.2.2.2.2.2.2.2.1 p.2.2.2.2.2.2.2.2.1 p.2.2.2.2.2.2.2.2.2) λr=>bif decide (e.2.2.2.2.2.2.2.2.2=f.2.2.2.2.2.2.2.2.2)then bif mU.c e.1 e.2.1 e.2.2.1 e.2.2.2.1 e.2.2.2.2.1 e.2.2.2.2.2.1 e.2.2.2.2.2.2.1 e.2.2.2.2.2.2.2.1 e.2.2.2.2.2.2.2.2.1 f.1 f.2.1 f.2.2.1 f.2.2.2.1 f.2.2.2.2.1 f.2.2.2.2.2.1 f.2.2.2.2.2.2.1 f.2.2.2.2.2.2.2.1 f.2.2.2.2.2.2.2.2.1 then Lib.lt (mU.v e.1 e.2.1 e.2.2.1 e.2.2.2.1 e.2.2.2.2.1 e.2.2.2.2.2.1 e.2.2.2.2.2.2.1 e.2.2.2.2.2.2.2.1 e.2.2.2.2.2.2.2.2.1 f.1 f.2.1 f.2.2.1 f.2.2.2.1 f.2.2.2.2.1 f.2.2.2.2.2.1 f.2.2.2.2.2.2.1 f.2.2.2.2.2.2.2.1 f.2.2.2.2.2.2.2.2.1) λs=>bif s then bif decide (e.2.2.2.2.2.2.2.2.2=0)then bif e.2.2.2.2.2.2.2.2.2 !=0 then bif decide (i.2.2.2.2.2.2.2.2.2=j.2.2.2.2.2.2.2.2.2)then bif mU.c i.1 i.2.1 i.2.2.1 i.2.2.2.1 i.2.2.2.2.1 i.2.2.2.2.2.1 i.2.2.2.2.2.2.1 i.2.2.2.2.2.2.2.1 i.2.2.2.2.2.2.2.2.1 j.1 j.2.1 j.2.2.1 j.2.2.2.1 j.2.2.2.2.1 j.2.2.2.2.2.1 j.2.2.2.2.2.2.1 j.2.2.2.2.2.2.2.1 j.2.2.2.2.2.2.2.2.1 then Lib.lt (mU.v i.1 i.2.1 i.2.2.1 i.2.2.2.1 i.2.2.2.2.1 i.2.2.2.2.2.1 i.2.2.2.2.2.2.1 i.2.2.2.2.2.2.2.1 i.2.2.2.2.2.2.2.2.1 j.1 j.2.1 j.2.2.1 j.2.2.2.1 j.2.2.2.2.1 j.2.2.2.2.2.1 j.2.2.2.2.2.2.1 j.2.2.2.2.2.2.2.1 j.2.2.2.2.2.2.2.2.1) λt=>bif t then bif decide (m.2.2.2.2.2.2.2.2.2=o.2.2.2.2.2.2.2.2.2)then bif mU.c m.1 m.2.1 m.2.2.1 m.2.2.2.1 m.2.2.2.2.1 m.2.2.2.2.2.1 m.2.2.2.2.2.2.1 m.2.2.2.2.2.2.2.1 m.2.2.2.2.2.2.2.2.1 o.1 o.2.1 o.2.2.1 o.2.2.2.1 o.2.2.2.2.1 o.2.2.2.2.2.1 o.2.2.2.2.2.2.1 o.2.2.2.2.2.2.2.1 o.2.2.2.2.2.2.2.2.1 then Lib.lt (mU.v m.1 m.2.1 m.2.2.1 m.2.2.2.1 m.2.2.2.2.1 m.2.2.2.2.2.1 m.2.2.2.2.2.2.1 m.2.2.2.2.2.2.2.1 m.2.2.2.2.2.2.2.2.1 o.1 o.2.1 o.2.2.1 o.2.2.2.1 o.2.2.2.2.1 o.2.2.2.2.2.1 o.2.2.2.2.2.2.1 o.2.2.2.2.2.2.2.1 o.2.2.2.2.2.2.2.2.1) λu=>bif u then bif !m.2.2.2.2.2.2.2.2.2 then bif decide (q.2.2.2.2.2.2.2.2.2=r.2.2.2.2.2.2.2.2.2)then bif mU.c q.1 q.2.1 q.2.2.1 q.2.2.2.1 q.2.2.2.2.1 q.2.2.2.2.2.1 q.2.2.2.2.2.2.1 q.2.2.2.2.2.2.2.1 q.2.2.2.2.2.2.2.2.1 r.1 r.2.1 r.2.2.1 r.2.2.2.1 r.2.2.2.2.1 r.2.2.2.2.2.1 r.2.2.2.2.2.2.1 r.2.2.2.2.2.2.2.1 r.2.2.2.2.2.2.2.2.1 then Lib.lt (mU.v q.1 q.2.1 q.2.2.1 q.2.2.2.1 q.2.2.2.2.1 q.2.2.2.2.2.1 q.2.2.2.2.2.2.1 q.2.2.2.2.2.2.2.1 q.2.2.2.2.2.2.2.2.1 r.1 r.2.1 r.2.2.1 r.2.2.2.1 r.2.2.2.2.1 r.2.2.2.2.2.1 r.2.2.2.2.2.2.1 r.2.2.2.2.2.2.2.1 r.2.2.2.2.2.2.2.2.1) λw=>bif w then bif o9.c d.1 d.2.1 d.2.2.1 d.2.2.2.1 d.2.2.2.2.1 d.2.2.2.2.2.1 d.2.2.2.2.2.2.1 d.2.2.2.2.2.2.2.1 d.2.2.2.2.2.2.2.2.1 then Lib.lt (o9.v d.1 d.2.1 d.2.2.1 d.2.2.2.1 d.2.2.2.2.1 d.2.2.2.2.2.1 d.2.2.2.2.2.2.1 d.2.2.2.2.2.2.2.1 d.2.2.2.2.2.2.2.2.1) λy=>bif mo.c d.1 d.2.1 d.2.2.1 d.2.2.2.1 d.2.2.2.2.1 d.2.2.2.2.2.1 d.2.2.2.2.2.2.1 d.2.2.2.2.2.2.2.1 d.2.2.2.2.2.2.2.2.1 then Lib.lt (mo.v d.1 d.2.1 d.2.2.1 d.2.2.2.1 d.2.2.2.2.1 d.2.2.2.2.2.1 d.2.2.2.2.2.2.1 d.2.2.2.2.2.2.2.1 d.2.2.2.2.2.2.2.2.1) λz=>kr (decide (y=z))else aj else aj else kr ak else aj else kr ak else bif o9.c m.1 m.2.1 m.2.2.1 m.2.2.2.1 m.2.2.2.2.1 m.2.2.2.2.2.1 m.2.2.2.2.2.2.1 m.2.2.2.2.2.2.2.1 m.2.2.2.2.2.2.2.2.1 then Lib.lt (o9.v m.1 m.2.1 m.2.2.1 m.2.2.2.1 m.2.2.2.2.1 m.2.2.2.2.2.1 m.2.2.2.2.2.2.1 m.2.2.2.2.2.2.2.1 m.2.2.2.2.2.2.2.2.1) λw=>bif w then bif decide (q.2.2.2.2.2.2.2.2.2=r.2.2.2.2.2.2.2.2.2)then bif mU.c q.1 q.2.1 q.2.2.1 q.2.2.2.1 q.2.2.2.2.1 q.2.2.2.2.2.1 q.2.2.2.2.2.2.1 q.2.2.2.2.2.2.2.1 q.2.2.2.2.2.2.2.2.1 r.1 r.2.1 r.2.2.1 r.2.2.2.1 r.2.2.2.2.1 r.2.2.2.2.2.1 r.2.2.2.2.2.2.1 r.2.2.2.2.2.2.2.1 r.2.2.2.2.2.2.2.2.1 then Lib.lt (mU.v q.1 q.2.1 q.2.2.1 q.2.2.2.1 q.2.2.2.2.1 q.2.2.2.2.2.1 q.2.2.2.2.2.2.1 q.2.2.2.2.2.2.2.1 q.2.2.2.2.2.2.2.2.1 r.1 r.2.1 r.2.2.1 r.2.2.2.1 r.2.2.2.2.1 r.2.2.2.2.2.1 r.2.2.2.2.2.2.1 r.2.2.2.2.2.2.2.1 r.2.2.2.2.2.2.2.2.1) λy=>bif y then bif o9.c d.1 d.2.1 d.2.2.1 d.2.2.2.1 d.2.2.2.2.1 d.2.2.2.2.2.1 d.2.2.2.2.2.2.1 d.2.2.2.2.2.2.2.1 d.2.2.2.2.2.2.2.2.1 then Lib.lt (o9.v d.1 d.2.1 d.2.2.1 d.2.2.2.1 d.2.2.2.2.1 d.2.2.2.2.2.1 d.2.2.2.2.2.2.1 d.2.2.2.2.2.2.2.1 d.2.2.2.2.2.2.2.2.1) λz=>bif mo.c d.1 d.2.1 d.2.2.1 d.2.2.2.1 d.2.2.2.2.1 d.2.2.2.2.2.1 d.2.2.2.2.2.2.1 d.2.2.2.2.2.2.2.1 d.2.2.2.2.2.2.2.2.1 then Lib.lt (mo.v d.1 d.2.1 d.2.2.1 d.2.2.2.1 d.2.2.2.2.1 d.2.2.2.2.2.1 d.2.2.2.2.2.2.1 d.2.2.2.2.2.2.2.1 d.2.2.2.2.2.2.2.2.1) λα=>kr (decide (z=α))else aj else aj else kr ak else aj else kr ak else kr ak else aj else kr ak else aj else kr ak else kr ak else aj else kr ak else bif o9.c e.1 e.2.1 e.2.2.1 e.2.2.2.1 e.2.2.2.2.1 e.2.2.2.2.2.1 e.2.2.2.2.2.2.1 e.2.2.2.2.2.2.2.1 e.2.2.2.2.2.2.2.2.1 then Lib.lt (o9.v e.1 e.2.1 e.2.2.1 e.2.2.2.1 e.2.2.2.2.1 e.2.2.2.2.2.1 e.2.2.2.2.2.2.1 e.2.2.2.2.2.2.2.1 e.2.2.2.2.2.2.2.2.1) λt=>bif t then bif decide (i.2.2.2.2.2.2.2.2.2=j.2.2.2.2.2.2.2.2.2)then bif mU.c i.1 i.2.1 i.2.2.1 i.2.2.2.1 i.2.2.2.2.1 i.2.2.2.2.2.1 i.2.2.2.2.2.2.1 i.2.2.2.2.2.2.2.1 i.2.2.2.2.2.2.2.2.1 j.1 j.2.1 j.2.2.1 j.2.2.2.1 j.2.2.2.2.1 j.2.2.2.2.2.1 j.2.2.2.2.2.2.1 j.2.2.2.2.2.2.2.1 j.2.2.2.2.2.2.2.2.1 then Lib.lt (mU.v i.1 i.2.1 i.2.2.1 i.2.2.2.1 i.2.2.2.2.1 i.2.2.2.2.2.1 i.2.2.2.2.2.2.1 i.2.2.2.2.2.2.2.1 i.2.2.2.2.2.2.2.2.1 j.1 j.2.1 j.2.2.1 j.2.2.2.1 j.2.2.2.2.1 j.2.2.2.2.2.1 j.2.2.2.2.2.2.1 j.2.2.2.2.2.2.2.1 j.2.2.2.2.2.2.2.2.1) λu=>bif u then bif decide (m.2.2.2.2.2.2.2.2.2=o.2.2.2.2.2.2.2.2.2)then bif mU.c m.1 m.2.1 m.2.2.1 m.2.2.2.1 m.2.2.2.2.1 m.2.2.2.2.2.1 m.2.2.2.2.2.2.1 m.2.2.2.2.2.2.2.1 m.2.2.2.2.2.2.2.2.1 o.1 o.2.1 o.2.2.1 o.2.2.2.1 o.2.2.2.2.1 o.2.2.2.2.2.1 o.2.2.2.2.2.2.1 o.2.2.2.2.2.2.2.1 o.2.2.2.2.2.2.2.2.1 then Lib.lt (mU.v m.1 m.2.1 m.2.2.1 m.2.2.2.1 m.2.2.2.2.1 m.2.2.2.2.2.1 m.2.2.2.2.2.2.1 m.2.2.2.2.2.2.2.1 m.2.2.2.2.2.2.2.2.1 o.1 o.2.1 o.2.2.1 o.2.2.2.1 o.2.2.2.2.1 o.2.2.2.2.2.1 o.2.2.2.2.2.2.1 o.2.2.2.2.2.2.2.1 o.2.2.2.2.2.2.2.2.1) λw=>bif w then bif !m.2.2.2.2.2.2.2.2.2 then bif decide (q.2.2.2.2.2.2.2.2.2=r.2.2.2.2.2.2.2.2.2)then bif mU.c q.1 q.2.1 q.2.2.1 q.2.2.2.1 q.2.2.2.2.1 q.2.2.2.2.2.1 q.2.2.2.2.2.2.1 q.2.2.2.2.2.2.2.1 q.2.2.2.2.2.2.2.2.1 r.1 r.2.1 r.2.2.1 r.2.2.2.1 r.2.2.2.2.1 r.2.2.2.2.2.1 r.2.2.2.2.2.2.1 r.2.2.2.2.2.2.2.1 r.2.2.2.2.2.2.2.2.1 then Lib.lt (mU.v q.1 q.2.1 q.2.2.1 q.2.2.2.1 q.2.2.2.2.1 q.2.2.2.2.2.1 q.2.2.2.2.2.2.1 q.2.2.2.2.2.2.2.1 q.2.2.2.2.2.2.2.2.1 r.1 r.2.1 r.2.2.1 r.2.2.2.1 r.2.2.2.2.1 r.2.2.2.2.2.1 r.2.2.2.2.2.2.1 r.2.2.2.2.2.2.2.1 r.2.2.2.2.2.2.2.2.1) λy=>bif y then bif o9.c d.1 d.2.1 d.2.2.1 d.2.2.2.1 d.2.2.2.2.1 d.2.2.2.2.2.1 d.2.2.2.2.2.2.1 d.2.2.2.2.2.2.2.1 d.2.2.2.2.2.2.2.2.1 then Lib.lt (o9.v d.1 d.2.1 d.2.2.1 d.2.2.2.1 d.2.2.2.2.1 d.2.2.2.2.2.1 d.2.2.2.2.2.2.1 d.2.2.2.2.2.2.2.1 d.2.2.2.2.2.2.2.2.1) λz=>bif mo.c d.1 d.2.1 d.2.2.1 d.2.2.2.1 d.2.2.2.2.1 d.2.2.2.2.2.1 d.2.2.2.2.2.2.1 d.2.2.2.2.2.2.2.1 d.2.2.2.2.2.2.2.2.1 then Lib.lt (mo.v d.1 d.2.1 d.2.2.1 d.2.2.2.1 d.2.2.2.2.1 d.2.2.2.2.2.1 d.2.2.2.2.2.2.1 d.2.2.2.2.2.2.2.1 d.2.2.2.2.2.2.2.2.1) λα=>kr (decide (z=α))else aj else aj else kr ak else aj else kr ak else bif o9.c m.1 m.2.1 m.2.2.1 m.2.2.2.1 m.2.2.2.2.1 m.2.2.2.2.2.1 m.2.2.2.2.2.2.1 m.2.2.2.2.2.2.2.1 m.2.2.2.2.2.2.2.2.1 then Lib.lt (o9.v m.1 m.2.1 m.2.2.1 m.2.2.2.1 m.2.2.2.2.1 m.2.2.2.2.2.1 m.2.2.2.2.2.2.1 m.2.2.2.2.2.2.2.1 m.2.2.2.2.2.2.2.2.1) λy=>bif y then bif decide (q.2.2.2.2.2.2.2.2.2=r.2.2.2.2.2.2.2.2.2)then bif mU.c q.1 q.2.1 q.2.2.1 q.2.2.2.1 q.2.2.2.2.1 q.2.2.2.2.2.1 q.2.2.2.2.2.2.1 q.2.2.2.2.2.2.2.1 q.2.2.2.2.2.2.2.2.1 r.1 r.2.1 r.2.2.1 r.2.2.2.1 r.2.2.2.2.1 r.2.2.2.2.2.1 r.2.2.2.2.2.2.1 r.2.2.2.2.2.2.2.1 r.2.2.2.2.2.2.2.2.1 then Lib.lt (mU.v q.1 q.2.1 q.2.2.1 q.2.2.2.1 q.2.2.2.2.1 q.2.2.2.2.2.1 q.2.2.2.2.2.2.1 q.2.2.2.2.2.2.2.1 q.2.2.2.2.2.2.2.2.1 r.1 r.2.1 r.2.2.1 r.2.2.2.1 r.2.2.2.2.1 r.2.2.2.2.2.1 r.2.2.2.2.2.2.1 r.2.2.2.2.2.2.2.1 r.2.2.2.2.2.2.2.2.1) λz=>bif z then bif o9.c d.1 d.2.1 d.2.2.1 d.2.2.2.1 d.2.2.2.2.1 d.2.2.2.2.2.1 d.2.2.2.2.2.2.1 d.2.2.2.2.2.2.2.1 d.2.2.2.2.2.2.2.2.1 then Lib.lt (o9.v d.1 d.2.1 d.2.2.1 d.2.2.2.1 d.2.2.2.2.1 d.2.2.2.2.2.1 d.2.2.2.2.2.2.1 d.2.2.2.2.2.2.2.1 d.2.2.2.2.2.2.2.2.1) λα=>bif mo.c d.1 d.2.1 d.2.2.1 d.2.2.2.1 d.2.2.2.2.1 d.2.2.2.2.2.1 d.2.2.2.2.2.2.1 d.2.2.2.2.2.2.2.1 d.2.2.2.2.2.2.2.2.1 then Lib.lt (mo.v d.1 d.2.1 d.2.2.1 d.2.2.2.1 d.2.2.2.2.1 d.2.2.2.2.2.1 d.2.2.2.2.2.2.1 d.2.2.2.2.2.2.2.1 d.2.2.2.2.2.2.2.2.1) λxa=>kr (decide (α=xa))else aj else aj else kr ak else aj else kr ak else kr ak else aj else kr ak else aj else kr ak else kr ak else aj else kr ak else kr ak else aj else bif mU.c e.1 e.2.1 e.2.2.1 e.2.2.2.1 e.2.2.2.2.1 e.2.2.2.2.2.1 e.2.2.2.2.2.2.1 e.2.2.2.2.2.2.2.1 e.2.2.2.2.2.2.2.2.1 d.1 d.2.1 d.2.2.1 d.2.2.2.1 d.2.2.2.2.1 d.2.2.2.2.2.1 d.2.2.2.2.2.2.1 d.2.2.2.2.2.2.2.1 d.2.2.2.2.2.2.2.2.1 then Lib.lt (mU.v e.1 e.2.1 e.2.2.1 e.2.2.2.1 e.2.2.2.2.1 e.2.2.2.2.2.1 e.2.2.2.2.2.2.1 e.2.2.2.2.2.2.2.1 e.2.2.2.2.2.2.2.2.1 d.1 d.2.1 d.2.2.1 d.2.2.2.1 d.2.2.2.2.1 d.2.2.2.2.2.1 d.2.2.2.2.2.2.1 d.2.2.2.2.2.2.2.1 d.2.2.2.2.2.2.2.2.1) λt=>bif t then bif e.2.2.2.2.2.2.2.2.2 !=0 then bif decide (i.2.2.2.2.2.2.2.2.2=j.2.2.2.2.2.2.2.2.2)then bif mU.c i.1 i.2.1 i.2.2.1 i.2.2.2.1 i.2.2.2.2.1 i.2.2.2.2.2.1 i.2.2.2.2.2.2.1 i.2.2.2.2.2.2.2.1 i.2.2.2.2.2.2.2.2.1 j.1 j.2.1 j.2.2.1 j.2.2.2.1 j.2.2.2.2.1 j.2.2.2.2.2.1 j.2.2.2.2.2.2.1 j.2.2.2.2.2.2.2.1 j.2.2.2.2.2.2.2.2.1 then Lib.lt (mU.v i.1 i.2.1 i.2.2.1 i.2.2.2.1 i.2.2.2.2.1 i.2.2.2.2.2.1 i.2.2.2.2.2.2.1 i.2.2.2.2.2.2.2.1 i.2.2.2.2.2.2.2.2.1 j.1 j.2.1 j.2.2.1 j.2.2.2.1 j.2.2.2.2.1 j.2.2.2.2.2.1 j.2.2.2.2.2.2.1 j.2.2.2.2.2.2.2.1 j.2.2.2.2.2.2.2.2.1) λu=>bif u then bif decide (m.2.2.2.2.2.2.2.2.2=o.2.2.2.2.2.2.2.2.2)then bif mU.c m.1 m.2.1 m.2.2.1 m.2.2.2.1 m.2.2.2.2.1 m.2.2.2.2.2.1 m.2.2.2.2.2.2.1 m.2.2.2.2.2.2.2.1 m.2.2.2.2.2.2.2.2.1 o.1 o.2.1 o.2.2.1 o.2.2.2.1 o.2.2.2.2.1 o.2.2.2.2.2.1 o.2.2.2.2.2.2.1 o.2.2.2.2.2.2.2.1 o.2.2.2.2.2.2.2.2.1 then Lib.lt (mU.v m.1 m.2.1 m.2.2.1 m.2.2.2.1 m.2.2.2.2.1 m.2.2.2.2.2.1 m.2.2.2.2.2.2.1 m.2.2.2.2.2.2.2.1 m.2.2.2.2.2.2.2.2.1 o.1 o.2.1 o.2.2.1 o.2.2.2.1 o.2.2.2.2.1 o.2.2.2.2.2.1 o.2.2.2.2.2.2.1 o.2.2.2.2.2.2.2.1 o.2.2.2.2.2.2.2.2.1) λw=>bif w then bif !m.2.2.2.2.2.2.2.2.2 then bif decide (q.2.2.2.2.2.2.2.2.2=r.2.2.2.2.2.2.2.2.2)then bif mU.c q.1 q.2.1 q.2.2.1 q.2.2.2.1 q.2.2.2.2.1 q.2.2.2.2.2.1 q.2.2.2.2.2.2.1 q.2.2.2.2.2.2.2.1 q.2.2.2.2.2.2.2.2.1 r.1 r.2.1 r.2.2.1 r.2.2.2.1 r.2.2.2.2.1 r.2.2.2.2.2.1 r.2.2.2.2.2.2.1 r.2.2.2.2.2.2.2.1 r.2.2.2.2.2.2.2.2.1 then Lib.lt (mU.v q.1 q.2.1 q.2.2.1 q.2.2.2.1 q.2.2.2.2.1 q.2.2.2.2.2.1 q.2.2.2.2.2.2.1 q.2.2.2.2.2.2.2.1 q.2.2.2.2.2.2.2.2.1 r.1 r.2.1 r.2.2.1 r.2.2.2.1 r.2.2.2.2.1 r.2.2.2.2.2.1 r.2.2.2.2.2.2.1 r.2.2.2.2.2.2.2.1 r.2.2.2.2.2.2.2.2.1) λy=>bif y then bif o9.c d.1 d.2.1 d.2.2.1 d.2.2.2.1 d.2.2.2.2.1 d.2.2.2.2.2.1 d.2.2.2.2.2.2.1 d.2.2.2.2.2.2.2.1 d.2.2.2.2.2.2.2.2.1 then Lib.lt (o9.v d.1 d.2.1 d.2.2.1 d.2.2.2.1 d.2.2.2.2.1 d.2.2.2.2.2.1 d.2.2.2.2.2.2.1 d.2.2.2.2.2.2.2.1 d.2.2.2.2.2.2.2.2.1) λz=>bif mo.c d.1 d.2.1 d.2.2.1 d.2.2.2.1 d.2.2.2.2.1 d.2.2.2.2.2.1 d.2.2.2.2.2.2.1 d.2.2.2.2.2.2.2.1 d.2.2.2.2.2.2.2.2.1 then Lib.lt (mo.v d.1 d.2.1 d.2.2.1 d.2.2.2.1 d.2.2.2.2.1 d.2.2.2.2.2.1 d.2.2.2.2.2.2.1 d.2.2.2.2.2.2.2.1 d.2.2.2.2.2.2.2.2.1) λα=>kr (decide (z=α))else aj else aj else kr ak else aj else kr ak else bif o9.c m.1 m.2.1 m.2.2.1 m.2.2.2.1 m.2.2.2.2.1 m.2.2.2.2.2.1 m.2.2.2.2.2.2.1 m.2.2.2.2.2.2.2.1 m.2.2.2.2.2.2.2.2.1 then Lib.lt (o9.v m.1 m.2.1 m.2.2.1 m.2.2.2.1 m.2.2.2.2.1 m.2.2.2.2.2.1 m.2.2.2.2.2.2.1 m.2.2.2.2.2.2.2.1 m.2.2.2.2.2.2.2.2.1) λy=>bif y then bif decide (q.2.2.2.2.2.2.2.2.2=r.2.2.2.2.2.2.2.2.2)then bif mU.c q.1 q.2.1 q.2.2.1 q.2.2.2.1 q.2.2.2.2.1 q.2.2.2.2.2.1 q.2.2.2.2.2.2.1 q.2.2.2.2.2.2.2.1 q.2.2.2.2.2.2.2.2.1 r.1 r.2.1 r.2.2.1 r.2.2.2.1 r.2.2.2.2.1 r.2.2.2.2.2.1 r.2.2.2.2.2.2.1 r.2.2.2.2.2.2.2.1 r.2.2.2.2.2.2.2.2.1 then Lib.lt (mU.v q.1 q.2.1 q.2.2.1 q.2.2.2.1 q.2.2.2.2.1 q.2.2.2.2.2.1 q.2.2.2.2.2.2.1 q.2.2.2.2.2.2.2.1 q.2.2.2.2.2.2.2.2.1 r.1 r.2.1 r.2.2.1 r.2.2.2.1 r.2.2.2.2.1 r.2.2.2.2.2.1 r.2.2.2.2.2.2.1 r.2.2.2.2.2.2.2.1 r.2.2.2.2.2.2.2.2.1) λz=>bif z then bif o9.c d.1 d.2.1 d.2.2.1 d.2.2.2.1 d.2.2.2.2.1 d.2.2.2.2.2.1 d.2.2.2.2.2.2.1 d.2.2.2.2.2.2.2.1 d.2.2.2.2.2.2.2.2.1 then Lib.lt (o9.v d.1 d.2.1 d.2.2.1 d.2.2.2.1 d.2.2.2.2.1 d.2.2.2.2.2.1 d.2.2.2.2.2.2.1 d.2.2.2.2.2.2.2.1 d.2.2.2.2.2.2.2.2.1) λα=>bif mo.c d.1 d.2.1 d.2.2.1 d.2.2.2.1 d.2.2.2.2.1 d.2.2.2.2.2.1 d.2.2.2.2.2.2.1 d.2.2.2.2.2.2.2.1 d.2.2.2.2.2.2.2.2.1 then Lib.lt (mo.v d.1 d.2.1 d.2.2.1 d.2.2.2.1 d.2.2.2.2.1 d.2.2.2.2.2.1 d.2.2.2.2.2.2.1 d.2.2.2.2.2.2.2.1 d.2.2.2.2.2.2.2.2.1) λxa=>kr (decide (α=xa))else aj else aj else kr ak else aj else kr ak else kr ak else aj else kr ak else aj else kr ak else kr ak else aj else kr ak else bif o9.c e.1 e.2.1 e.2.2.1 e.2.2.2.1 e.2.2.2.2.1 e.2.2.2.2.2.1 e.2.2.2.2.2.2.1 e.2.2.2.2.2.2.2.1 e.2.2.2.2.2.2.2.2.1 then Lib.lt (o9.v e.1 e.2.1 e.2.2.1 e.2.2.2.1 e.2.2.2.2.1 e.2.2.2.2.2.1 e.2.2.2.2.2.2.1 e.2.2.2.2.2.2.2.1 e.2.2.2.2.2.2.2.2.1) λu=>bif u then bif decide (i.2.2.2.2.2.2.2.2.2=j.2.2.2.2.2.2.2.2.2)then bif mU.c i.1 i.2.1 i.2.2.1 i.2.2.2.1 i.2.2.2.2.1 i.2.2.2.2.2.1 i.2.2.2.2.2.2.1 i.2.2.2.2.2.2.2.1 i.2.2.2.2.2.2.2.2.1 j.1 j.2.1 j.2.2.1 j.2.2.2.1 j.2.2.2.2.1 j.2.2.2.2.2.1 j.2.2.2.2.2.2.1 j.2.2.2.2.2.2.2.1 j.2.2.2.2.2.2.2.2.1 then Lib.lt (mU.v i.1 i.2.1 i.2.2.1 i.2.2.2.1 i.2.2.2.2.1 i.2.2.2.2.2.1 i.2.2.2.2.2.2.1 i.2.2.2.2.2.2.2.1 i.2.2.2.2.2.2.2.2.1 j.1 j.2.1 j.2.2.1 j.2.2.2.1 j.2.2.2.2.1 j.2.2.2.2.2.1 j.2.2.2.2.2.2.1 j.2.2.2.2.2.2.2.1 j.2.2.2.2.2.2.2.2.1) λw=>bif w then bif decide (m.2.2.2.2.2.2.2.2.2=o.2.2.2.2.2.2.2.2.2)then bif mU.c m.1 m.2.1 m.2.2.1 m.2.2.2.1 m.2.2.2.2.1 m.2.2.2.2.2.1 m.2.2.2.2.2.2.1 m.2.2.2.2.2.2.2.1 m.2.2.2.2.2.2.2.2.1 o.1 o.2.1 o.2.2.1 o.2.2.2.1 o.2.2.2.2.1 o.2.2.2.2.2.1 o.2.2.2.2.2.2.1 o.2.2.2.2.2.2.2.1 o.2.2.2.2.2.2.2.2.1 then Lib.lt (mU.v m.1 m.2.1 m.2.2.1 m.2.2.2.1 m.2.2.2.2.1 m.2.2.2.2.2.1 m.2.2.2.2.2.2.1 m.2.2.2.2.2.2.2.1 m.2.2.2.2.2.2.2.2.1 o.1 o.2.1 o.2.2.1 o.2.2.2.1 o.2.2.2.2.1 o.2.2.2.2.2.1 o.2.2.2.2.2.2.1 o.2.2.2.2.2.2.2.1 o.2.2.2.2.2.2.2.2.1) λy=>bif y then bif !m.2.2.2.2.2.2.2.2.2 then bif decide (q.2.2.2.2.2.2.2.2.2=r.2.2.2.2.2.2.2.2.2)then bif mU.c q.1 q.2.1 q.2.2.1 q.2.2.2.1 q.2.2.2.2.1 q.2.2.2.2.2.1 q.2.2.2.2.2.2.1 q.2.2.2.2.2.2.2.1 q.2.2.2.2.2.2.2.2.1 r.1 r.2.1 r.2.2.1 r.2.2.2.1 r.2.2.2.2.1 r.2.2.2.2.2.1 r.2.2.2.2.2.2.1 r.2.2.2.2.2.2.2.1 r.2.2.2.2.2.2.2.2.1 then Lib.lt (mU.v q.1 q.2.1 q.2.2.1 q.2.2.2.1 q.2.2.2.2.1 q.2.2.2.2.2.1 q.2.2.2.2.2.2.1 q.2.2.2.2.2.2.2.1 q.2.2.2.2.2.2.2.2.1 r.1 r.2.1 r.2.2.1 r.2.2.2.1 r.2.2.2.2.1 r.2.2.2.2.2.1 r.2.2.2.2.2.2.1 r.2.2.2.2.2.2.2.1 r.2.2.2.2.2.2.2.2.1) λz=>bif z then bif o9.c d.1 d.2.1 d.2.2.1 d.2.2.2.1 d.2.2.2.2.1 d.2.2.2.2.2.1 d.2.2.2.2.2.2.1 d.2.2.2.2.2.2.2.1 d.2.2.2.2.2.2.2.2.1 then Lib.lt (o9.v d.1 d.2.1 d.2.2.1 d.2.2.2.1 d.2.2.2.2.1 d.2.2.2.2.2.1 d.2.2.2.2.2.2.1 d.2.2.2.2.2.2.2.1 d.2.2.2.2.2.2.2.2.1) λα=>bif mo.c d.1 d.2.1 d.2.2.1 d.2.2.2.1 d.2.2.2.2.1 d.2.2.2.2.2.1 d.2.2.2.2.2.2.1 d.2.2.2.2.2.2.2.1 d.2.2.2.2.2.2.2.2.1 then Lib.lt (mo.v d.1 d.2.1 d.2.2.1 d.2.2.2.1 d.2.2.2.2.1 d.2.2.2.2.2.1 d.2.2.2.2.2.2.1 d.2.2.2.2.2.2.2.1 d.2.2.2.2.2.2.2.2.1) λxa=>kr (decide (α=xa))else aj else aj else kr ak else aj else kr ak else bif o9.c m.1 m.2.1 m.2.2.1 m.2.2.2.1 m.2.2.2.2.1 m.2.2.2.2.2.1 m.2.2.2.2.2.2.1 m.2.2.2.2.2.2.2.1 m.2.2.2.2.2.2.2.2.1 then Lib.lt (o9.v m.1 m.2.1 m.2.2.1 m.2.2.2.1 m.2.2.2.2.1 m.2.2.2.2.2.1 m.2.2.2.2.2.2.1 m.2.2.2.2.2.2.2.1 m.2.2.2.2.2.2.2.2.1) λz=>bif z then bif decide (q.2.2.2.2.2.2.2.2.2=r.2.2.2.2.2.2.2.2.2)then bif mU.c q.1 q.2.1 q.2.2.1 q.2.2.2.1 q.2.2.2.2.1 q.2.2.2.2.2.1 q.2.2.2.2.2.2.1 q.2.2.2.2.2.2.2.1 q.2.2.2.2.2.2.2.2.1 r.1 r.2.1 r.2.2.1 r.2.2.2.1 r.2.2.2.2.1 r.2.2.2.2.2.1 r.2.2.2.2.2.2.1 r.2.2.2.2.2.2.2.1 r.2.2.2.2.2.2.2.2.1 then Lib.lt (mU.v q.1 q.2.1 q.2.2.1 q.2.2.2.1 q.2.2.2.2.1 q.2.2.2.2.2.1 q.2.2.2.2.2.2.1 q.2.2.2.2.2.2.2.1 q.2.2.2.2.2.2.2.2.1 r.1 r.2.1 r.2.2.1 r.2.2.2.1 r.2.2.2.2.1 r.2.2.2.2.2.1 r.2.2.2.2.2.2.1 r.2.2.2.2.2.2.2.1 r.2.2.2.2.2.2.2.2.1) λα=>bif α then bif o9.c d.1 d.2.1 d.2.2.1 d.2.2.2.1 d.2.2.2.2.1 d.2.2.2.2.2.1 d.2.2.2.2.2.2.1 d.2.2.2.2.2.2.2.1 d.2.2.2.2.2.2.2.2.1 then Lib.lt (o9.v d.1 d.2.1 d.2.2.1 d.2.2.2.1 d.2.2.2.2.1 d.2.2.2.2.2.1 d.2.2.2.2.2.2.1 d.2.2.2.2.2.2.2.1 d.2.2.2.2.2.2.2.2.1) λxa=>bif mo.c d.1 d.2.1 d.2.2.1 d.2.2.2.1 d.2.2.2.2.1 d.2.2.2.2.2.1 d.2.2.2.2.2.2.1 d.2.2.2.2.2.2.2.1 d.2.2.2.2.2.2.2.2.1 then Lib.lt (mo.v d.1 d.2.1 d.2.2.1 d.2.2.2.1 d.2.2.2.2.1 d.2.2.2.2.2.1 d.2.2.2.2.2.2.1 d.2.2.2.2.2.2.2.1 d.2.2.2.2.2.2.2.2.1) λxb=>kr (decide (xa=xb))else aj else aj else kr ak else aj else kr ak else kr ak else aj else kr ak else aj else kr ak else kr ak else aj else kr ak else kr ak else aj else kr ak else aj else kr ak else aj else kr ak else aj else aj else aj else aj else aj else aj else aj else aj else aj else aj else aj else aj
def vo:=b λr0=>ah r0
def c:=λa=>(vo a).isSome
def v:=λa=>(vo a).getD ak
theorem out{x}:∀a,vo a=ah x->c a=ai/\v a=x:=λ_=>Lib.dc
end U7

namespace gv
def r5(N:aE)(g k0 k1:wV R)(a:aq)(d e f:az)(h:aW)(i j:az):aC R:=bif decide (j<5)then bif decide (bJ (d+j)<(a.size:az))then bif decide (0<=bJ (d+j))&&decide (bJ (d+j)<(a.size:az))then bif decide (0<=bJ (7*j))then bif decide (bJ (↑(iL a (bJ (d+j)).toNat):az)>127)then g a d e f h (bJ (i+bJ (bL (bJ (↑(iL a (bJ (d+j)).toNat):az)) 128*g6 2 (if(bJ (7*j)).toNat<=64 then(bJ (7*j)).toNat else 64)))) (bJ (j+1))else bif decide (j>0)then bif decide (bJ (↑(iL a (bJ (d+j)).toNat):az)=0)then k0 a d 0 0 ak (bJ (i+bJ (bL (bJ (↑(iL a (bJ (d+j)).toNat):az)) 128*g6 2 (if(bJ (7*j)).toNat<=64 then(bJ (7*j)).toNat else 64)))) j else bif decide (bJ (i+bJ (bL (bJ (↑(iL a (bJ (d+j)).toNat):az)) 128*g6 2 (if(bJ (7*j)).toNat<=64 then(bJ (7*j)).toNat else 64)))>1000000000)then k0 a d 0 0 ak (bJ (i+bJ (bL (bJ (↑(iL a (bJ (d+j)).toNat):az)) 128*g6 2 (if(bJ (7*j)).toNat<=64 then(bJ (7*j)).toNat else 64)))) j else k0 a d (bJ (i+bJ (bL (bJ (↑(iL a (bJ (d+j)).toNat):az)) 128*g6 2 (if(bJ (7*j)).toNat<=64 then(bJ (7*j)).toNat else 64)))) (bJ (bJ (d+j)+1)) ai (bJ (i+bJ (bL (bJ (↑(iL a (bJ (d+j)).toNat):az)) 128*g6 2 (if(bJ (7*j)).toNat<=64 then(bJ (7*j)).toNat else 64)))) j else bif decide (bJ (i+bJ (bL (bJ (↑(iL a (bJ (d+j)).toNat):az)) 128*g6 2 (if(bJ (7*j)).toNat<=64 then(bJ (7*j)).toNat else 64)))>1000000000)then k0 a d 0 0 ak (bJ (i+bJ (bL (bJ (↑(iL a (bJ (d+j)).toNat):az)) 128*g6 2 (if(bJ (7*j)).toNat<=64 then(bJ (7*j)).toNat else 64)))) j else k0 a d (bJ (i+bJ (bL (bJ (↑(iL a (bJ (d+j)).toNat):az)) 128*g6 2 (if(bJ (7*j)).toNat<=64 then(bJ (7*j)).toNat else 64)))) (bJ (bJ (d+j)+1)) ai (bJ (i+bJ (bL (bJ (↑(iL a (bJ (d+j)).toNat):az)) 128*g6 2 (if(bJ (7*j)).toNat<=64 then(bJ (7*j)).toNat else 64)))) j else aj else aj else k1 a d e f h i j else k1 a d e f h i j
def l5(N:aE)(k0 k1:wV R):aE->wV R
 |0=>λ_ _ _ _ _ _ _=>aj
 |n+1=>r5 N (l5 N k0 k1 n) k0 k1
def b(N:aE)(kr:Od R)(a:aq)(d:az):aC R:=bif !n7.v d 0 (a.size:az)then kr 0 0 ak else l5 N (λ_ _ e f h _ _=>kr e f h) (λ_ _ _ _ _ _ _=>kr 0 0 ak) N a d 0 0 ak 0 0
def v(dX:aq)(ic:az):az×az×aW:=if 0<=ic/\ic<=dX.size then Lib.rv dX ic.toNat 5 0 0 else(0,0,ak)
end gv

namespace EF
def b(kr:aq->aC R)(a:aq):aC R:=bif tQ.c a then kr (bytesOf (ax (ax (ax (ax (aN [Ck.i bg] 4) 0 [CV.i bg (bI bg (kJ (tQ.v a) (g6 2 (if aZ 24<=32 then aZ 24 else 32))))]) 1 [CV.i bg (bI bg (kJ (tQ.v a) (g6 2 (if aZ 16<=32 then aZ 16 else 32))))]) 2 [CV.i bg (bI bg (kJ (tQ.v a) (g6 2 (if aZ 8<=32 then aZ 8 else 32))))]) 3 [CV.i bg (bI bg (tQ.v a))]))else aj
def vo:=b λr0=>ah r0
def c:=λa=>(vo a).isSome
def v:=λa=>(vo a).getD (⟨#[]⟩)
theorem out{x}:∀a,vo a=ah x->c a=ai/\v a=x:=λ_=>Lib.dc
end EF

namespace U203
def r3(N:aE)(g k0:oj R)(a:aq)(d:az)(e:aU):aC R:=bif decide ((a.size:az)<=20000)then bif !(gv.v a d).2.2 then k0 a d e else bif !n7.v (gv.v a d).1 1 9000 then k0 a d e else bif decide (bJ ((gv.v a d).1+4)>bJ ((a.size:az)-(gv.v a d).2.1))then k0 a d e else bif iS (bJ ((gv.v a d).2.1+4)) (bJ (bJ ((gv.v a d).2.1+4)+(gv.v a d).1)) (a.size:az)then bif EF.c (bR a (bJ ((gv.v a d).2.1+4)).toNat (bJ (bJ ((gv.v a d).2.1+4)+(gv.v a d).1)).toNat)then bif iS (gv.v a d).2.1 (bJ ((gv.v a d).2.1+4)) (a.size:az)then bif !List.beq (EF.v (bR a (bJ ((gv.v a d).2.1+4)).toNat (bJ (bJ ((gv.v a d).2.1+4)+(gv.v a d).1)).toNat)).toList (bR a (gv.v a d).2.1.toNat (bJ ((gv.v a d).2.1+4)).toNat).toList then k0 a d e else bif cB (e.length+(ax (aN [.s] 1) 0 [.s (bR a (bJ ((gv.v a d).2.1+4)).toNat (bJ (bJ ((gv.v a d).2.1+4)+(gv.v a d).1)).toNat)]).length) 16 then g a (bJ (bJ ((gv.v a d).2.1+4)+(gv.v a d).1)) (e++ax (aN [.s] 1) 0 [.s (bR a (bJ ((gv.v a d).2.1+4)).toNat (bJ (bJ ((gv.v a d).2.1+4)+(gv.v a d).1)).toNat)])else aj else aj else aj else aj else k0 a d e
def l3(N:aE)(k0:oj R):aE->oj R
 |0=>λ_ _ _=>aj
 |n+1=>r3 N (l3 N k0 n) k0
def b(N:aE)(kr:tH R)(a:aq):aC R:=l3 N (λ_ d e=>kr e d) N a 0 (aN [.s] 0)
def vo:=b Lib.cW λr0 r1=>ah (r0,r1)
def c:=λa=>(vo a).isSome
def v:=λa=>(vo a).getD ([],0)
theorem out{x}:∀a,vo a=ah x->c a=ai/\v a=x:=λ_=>Lib.dc
end U203

namespace zu
def r2(N:aE)(g k0 k1:DW R)(a:aW)(d:aU)(e f:az)(h:aU):aC R:=bif decide (f<e)then bif decide (0<=f)&&decide (f<(d.length:az))then bif !n7.v ((bQ (ar d f.toNat 0)).size:az) 1 8 then k0 ak d e f h else bif decide (((bQ (ar d f.toNat 1)).size:az)>20000)then k0 ak d e f h else bif !n7.v (bZ (ar d f.toNat (1+1))) 0 ((bQ (ar d f.toNat 1)).size:az)then k0 ak d e f h else bif decide (f>0)then bif decide (0<=bJ (f-1))&&decide (bJ (f-1)<(h.length:az))then bif !Op.bytesLess (bQ (ar h (bJ (f-1)).toNat 0)).toList (bQ (ar d f.toNat 0)).toList then k0 ak d e f h else g a d e (bJ (f+1)) h else aj else g a d e (bJ (f+1)) h else aj else k1 a d e f h
def l2(N:aE)(k0 k1:DW R):aE->DW R
 |0=>λ_ _ _ _ _=>aj
 |n+1=>r2 N (l2 N k0 k1 n) k0 k1
def b(N:aE)(kr:aW->aC R)(a:aU):aC R:=l2 N (λd _ _ _ _=>kr d) (λ_ _ _ _ d=>kr (decide ((d.length:az)<=30))) N ak a (a.length:az) 0 a
def vo:=b Lib.cW λr0=>ah r0
def c:=λa=>(vo a).isSome
def v:=λa=>(vo a).getD ak
theorem out{x}:∀a,vo a=ah x->c a=ai/\v a=x:=λ_=>Lib.dc
end zu

namespace PK
def b(kr:aW->aC R)(a d:aq)(e:az)(Hz:aq):aC R:=kr (db (aL a) (aL Hz))
def v(a0 a1:aq)(a2:az)(Hz:aq):aW:=(db (aL a0) (aL Hz))
end PK

namespace vH
def r2(N:aE)(g k0 k1:iK R)(a:aU)(d:aq)(e f h:az):aC R:=bif decide (h<f)then bif decide (0<=h)&&decide (h<(a.length:az))then bif PK.v (bQ (ar a h.toNat 0)) (bQ (ar a h.toNat 1)) (bZ (ar a h.toNat (1+1))) d then k0 a d h f h else g a d e f (bJ (h+1))else aj else k1 a d e f h
def l2(N:aE)(k0 k1:iK R):aE->iK R
 |0=>λ_ _ _ _ _=>aj
 |n+1=>r2 N (l2 N k0 k1 n) k0 k1
def b(N:aE)(kr:az->aC R)(a:aU)(Hz:aq):aC R:=l2 N (λ_ _ d _ _=>kr d) (λ_ _ _ _ _=>kr (-1)) N a Hz 0 (a.length:az) 0
def vo:=b Lib.cW λr0=>ah r0
def c:=λa d=>(vo a d).isSome
def v:=λa d=>(vo a d).getD (0)
theorem out{x}:∀a d,vo a d=ah x->c a d=ai/\v a d=x:=λ_ _=>Lib.dc
end vH

namespace AE
def b(kr:az->aC R)(a:aU)(d:aq):aC R:=bif vH.c a d then kr (vH.v a d)else aj
def vo:=b λr0=>ah r0
def c:=λa d=>(vo a d).isSome
def v:=λa d=>(vo a d).getD (0)
theorem out{x}:∀a d,vo a d=ah x->c a d=ai/\v a d=x:=λ_ _=>Lib.dc
end AE

namespace AD
def b(kr:Mu R)(a:aU)(d:aq):aC R:=bif AE.c a d then bif decide (AE.v a d<0)then kr ⟨#[]⟩ ak else bif decide (0<=AE.v a d)&&decide (AE.v a d<(a.length:az))then kr (bQ (ar a (AE.v a d).toNat 1)) ai else aj else aj
def vo:=b λr0 r1=>ah (r0,r1)
def c:=λa d=>(vo a d).isSome
def v:=λa d=>(vo a d).getD (⟨#[]⟩,ak)
theorem out{x}:∀a d,vo a d=ah x->c a d=ai/\v a d=x:=λ_ _=>Lib.dc
end AD

namespace vE
def b(kr:Oe R)(a:aq)(d:az):aC R:=bif !(gv.v a d).2.2 then kr ⟨#[]⟩ 0 ak else bif decide ((gv.v a d).1>20000)then kr ⟨#[]⟩ 0 ak else bif decide ((gv.v a d).1>bJ ((a.size:az)-(gv.v a d).2.1))then kr ⟨#[]⟩ 0 ak else bif iS (gv.v a d).2.1 (bJ ((gv.v a d).2.1+(gv.v a d).1)) (a.size:az)then kr (bR a (gv.v a d).2.1.toNat (bJ ((gv.v a d).2.1+(gv.v a d).1)).toNat) (bJ ((gv.v a d).2.1+(gv.v a d).1)) ai else aj
def v(dX:aq)(ic:az):aq×az×aW:=Lib.iE dX ic
end vE

namespace xX
def b(kr:zI R)(a:aq):aC R:=bif !(vE.v a 0).2.2 then kr ⟨#[]⟩ 0 0 ⟨#[]⟩ ak else bif !(gv.v a (vE.v a 0).2.1).2.2 then kr ⟨#[]⟩ 0 0 ⟨#[]⟩ ak else bif !(gv.v a (gv.v a (vE.v a 0).2.1).2.1).2.2 then kr ⟨#[]⟩ 0 0 ⟨#[]⟩ ak else bif iS (gv.v a (gv.v a (vE.v a 0).2.1).2.1).2.1 (a.size:az) (a.size:az)then bif !Az.v (vE.v a 0).1 (gv.v a (vE.v a 0).2.1).1 (gv.v a (gv.v a (vE.v a 0).2.1).2.1).1 (bR a (gv.v a (gv.v a (vE.v a 0).2.1).2.1).2.1.toNat (a.size:az).toNat)then kr ⟨#[]⟩ 0 0 ⟨#[]⟩ ak else kr (vE.v a 0).1 (gv.v a (vE.v a 0).2.1).1 (gv.v a (gv.v a (vE.v a 0).2.1).2.1).1 (bR a (gv.v a (gv.v a (vE.v a 0).2.1).2.1).2.1.toNat (a.size:az).toNat) ai else aj
def v(t0:aq):aq×az×az×aq×aW:=jC.v t0
end xX

namespace U118
def r7(N:aE)(g k0:IB R)(a d:az)(e f:aU):aC R:=bif decide (d<a)then bif decide (0<=d)&&decide (d<(f.length:az))then bif(xX.v (bQ (ar f d.toNat 0))).2.2.2.2 then bif tP.c e (xX.v (bQ (ar f d.toNat 0))).1 (xX.v (bQ (ar f d.toNat 0))).2.1 (xX.v (bQ (ar f d.toNat 0))).2.2.1 (xX.v (bQ (ar f d.toNat 0))).2.2.2.1 then g a (bJ (d+1)) (tP.v e (xX.v (bQ (ar f d.toNat 0))).1 (xX.v (bQ (ar f d.toNat 0))).2.1 (xX.v (bQ (ar f d.toNat 0))).2.2.1 (xX.v (bQ (ar f d.toNat 0))).2.2.2.1) f else aj else g a (bJ (d+1)) e f else aj else k0 a d e f
def l7(N:aE)(k0:IB R):aE->IB R
 |0=>λ_ _ _ _=>aj
 |n+1=>r7 N (l7 N k0 n) k0
def b(N:aE)(kr:aU->aC R)(a:aU):aC R:=bif zu.c a then bif !zu.v a then kr (aN [Ck.s,Ck.i ao,Ck.i ao,Ck.s] 0)else bif AD.c a {data:= #[aw 107,aw 101,aw 112,aw 116]}then bif U203.c (AD.v a {data:= #[aw 107,aw 101,aw 112,aw 116]}).1 then l7 N (λ_ _ d _=>kr d) N ((U203.v (AD.v a {data:= #[aw 107,aw 101,aw 112,aw 116]}).1).1.length:az) 0 (aN [Ck.s,Ck.i ao,Ck.i ao,Ck.s] 0) (U203.v (AD.v a {data:= #[aw 107,aw 101,aw 112,aw 116]}).1).1 else aj else aj else aj
def vo:=b Lib.cW λr0=>ah r0
def c:=λa=>(vo a).isSome
def v:=λa=>(vo a).getD ([])
theorem out{x}:∀a,vo a=ah x->c a=ai/\v a=x:=λ_=>Lib.dc
end U118

end Go.FG
