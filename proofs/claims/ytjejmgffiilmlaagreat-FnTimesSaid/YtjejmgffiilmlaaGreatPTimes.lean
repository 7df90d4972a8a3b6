/- Functions of the program, told as functions of numbers, texts and lists, and what each comes to. No condition but those that each states. -/
import Derived.Test.YtjejmgffiilmlaaGreatLib
set_option linter.unusedVariables false
set_option linter.unusedSimpArgs false
set_option maxRecDepth 100000
open BitVec renaming toNat->dG,and->iD,ofInt->bY,xor->kP
open Bool renaming cond_eq_ite->dc,true->ai,false->ak,false_eq_true->cU,true_and->bG,not_true->a9,and_self->aM,and_false->Ey,not_false->bS
open ByteArray renaming toList->aJ,size->fH,extract->bL
open Go.IntKind renaming i64->ao,wrap->bC,u32->dQ,u8->bc
open Go.Op renaming bytesLess->bZ
open Int renaming fdiv->j6,pow->gA,toNat->aX,tmod->bI,tdiv->cG,tmod_eq_emod_of_nonneg->iP,neg->gD
open List renaming set->aw,beq->c6,length->bT,range->cz,range'->mv,all_cons->rh,length_append->bX,length_singleton->bQ,take->lX,drop->vF
open Nat renaming lt_irrefl->bk
open Option renaming none->aj,some->ah
open UInt8 renaming ofNat->au
open _root_ renaming Int->az,Option->aA,ByteArray->aq,Bool->aW,Nat->aE,cond_true->ay,cond_false->aC,of_decide_eq_true->cg,decide_eq_decide->b9,decide_true->aR,decide_false->bg,decide_eq_true->aG,if_neg->bJ,if_pos->bu,decide_eq_false->aK
namespace Go.FG
variable {R:Type}
abbrev qX(R:Type):=aU->az->aA R
abbrev CR(R:Type):=az->aU->aA R
abbrev KL(R:Type):=aq->aW->aA R
abbrev KK(R:Type):=aU->aW->aA R
abbrev wW(R:Type):=aU->az->az->aA R
abbrev k_(R:Type):=az->az->az->aA R
abbrev zg(R:Type):=az->aq->az->aA R
abbrev BO(R:Type):=az->aq->aU->aA R
abbrev MB(R:Type):=aW->CR R
abbrev nJ(R:Type):=aq->CR R
abbrev uo(R:Type):=aU->CR R
abbrev MC(R:Type):=az->az->aW->aA R
abbrev IA(R:Type):=aq->az->aW->aA R
abbrev BN(R:Type):=az->aU->aU->aA R
abbrev zf(R:Type):=az->wW R
abbrev hZ(R:Type):=az->az->CR R
abbrev qY(R:Type):=aU->aU->qX R
abbrev Yx(R:Type):=aq->wW R
abbrev Yw(R:Type):=aW->wW R
abbrev GP(R:Type):=aU->aq->aW->az->aA R
abbrev GL(R:Type):=aW->az->qX R
abbrev vP(R:Type):=az->aq->az->az->aA R
abbrev vQ(R:Type):=aU->nJ R
abbrev GO(R:Type):=az->aq->KK R
abbrev mR(R:Type):=aq->az->CR R
abbrev qZ(R:Type):=aq->BN R
abbrev pO(R:Type):=aU->az->CR R
abbrev tq(R:Type):=aU->BN R
abbrev pQ(R:Type):=aU->aU->aW->az->aA R
abbrev GM(R:Type):=az->BN R
abbrev RY(R:Type):=az->pO R
abbrev RZ(R:Type):=aq->pO R
abbrev pL(R:Type):=az->aU->k_ R
abbrev CO(R:Type):=aW->az->az->qX R
abbrev yA(R:Type):=aq->az->az->KL R
abbrev m_(R:Type):=az->hZ R
abbrev CS(R:Type):=aq->hZ R
abbrev CT(R:Type):=aq->az->az->qX R
abbrev Iz(R:Type):=aU->aU->aU->az->aq->aA R
abbrev CP(R:Type):=aW->az->BO R
abbrev pN(R:Type):=az->aU->aq->aq->az->aA R
abbrev yz(R:Type):=aU->aW->nJ R
abbrev pP(R:Type):=aU->zf R
abbrev jO(R:Type):=aU->az->k_ R
abbrev ie(R:Type):=aU->aq->k_ R
abbrev CQ(R:Type):=aW->pO R
abbrev CU(R:Type):=aq->zf R
abbrev nH(R:Type):=az->aU->hZ R
abbrev kq(R:Type):=az->aU->aq->nJ R
abbrev Ez(R:Type):=aU->aW->qZ R
abbrev mB(R:Type):=aU->m_ R
abbrev zd(R:Type):=aW->az->aU->az->qX R
abbrev ze(R:Type):=aW->aU->az->az->qX R
abbrev um(R:Type):=az->aq->az->BO R
abbrev zh(R:Type):=aq->m_ R
abbrev vM(R:Type):=aW->az->aU->aU->uo R
abbrev ny(R:Type):=aU->um R
abbrev BP(R:Type):=aU->aU->pP R
abbrev vO(R:Type):=az->mB R
abbrev vR(R:Type):=aq->az->az->az->aW->az->az->aA R
abbrev vN(R:Type):=aW->aU->az->az->BO R
abbrev tt(R:Type):=aq->az->az->az->aW->k_ R
abbrev GN(R:Type):=az->aq->az->az->az->IA R
abbrev tn(R:Type):=aW->az->az->aU->aU->uo R
abbrev tp(R:Type):=aE->az->az->m_ R
abbrev dZ(R:Type):=az->aU->aU->aU->aU->az->aU->qX R
abbrev qV(R:Type):=az->aU->az->az->az->az->aU->aU->aU->aA R
abbrev jP(R:Type):=aU->az->az->aq->az->az->az->nJ R
abbrev na(R:Type):=az->aU->aU->aU->aU->az->aU->wW R
abbrev pM(R:Type):=az->aU->aU->aU->aU->az->aU->aU->az->aW->aA R
abbrev pK(R:Type):=aW->aU->aU->az->az->aU->az->az->qX R
abbrev gn(R:Type):=aW->az->dZ R
abbrev oD(R:Type):=aU->az->aq->az->az->az->aq->az->k_ R
abbrev jB(R:Type):=az->az->az->az->az->az->aU->aU->aU->aU->aU->aU->aA R
abbrev nI(R:Type):=az->aU->aU->aU->aU->az->aU->aU->az->aU->aU->aU->aA R
abbrev qW(R:Type):=az->aU->aU->aU->aU->az->aU->pP R
abbrev qx(R:Type):=az->nI R
abbrev ed(R:Type):=aW->aU->az->az->dZ R
abbrev lA(R:Type):=az->aU->az->jB R
abbrev gG(R:Type):=az->az->az->az->aU->aU->aU->aU->aU->aU->aU->aU->aU->aU->aU->aA R
abbrev kR(R:Type):=aq->aW->az->az->aU->aU->aU->aU->az->aU->aU->az->aq->az->az->aq->aA R
abbrev gM(R:Type):=az->az->aq->az->aU->aU->az->az->aU->aU->aU->aU->aU->aU->aU->aU->aU->aA R
abbrev ka(R:Type):=az->aW->az->az->aU->aU->aU->aU->az->aU->aU->az->aq->aq->k_ R
abbrev iL(R:Type):=az->az->az->az->az->aq->az->az->az->aq->az->aU->aU->aU->aU->aU->aU->aA R
abbrev jk(R:Type):=az->aU->az->az->az->az->az->az->az->az->aU->aU->aU->aU->aU->aU->aU->aU->aU->aA R
abbrev jj(R:Type):=az->aW->az->az->aU->aU->aU->aU->az->aU->aU->az->az->aq->az->az->zg R
abbrev eM(R:Type):=aW->az->az->aU->aU->aU->aU->az->aU->aU->az->dZ R
abbrev fW(R:Type):=az->az->az->aU->aU->aU->aU->az->aU->aU->az->jB R
abbrev gQ(R:Type):=az->aq->fW R
abbrev gd(R:Type):=az->az->az->az->aU->az->az->aU->aU->aU->aU->aU->aU->aU->aU->aU->az->az->az->az->az->aq->az->az->az->nJ R
abbrev fw(R:Type):=aq->aW->az->az->aU->aU->aU->aU->az->aU->aU->az->az->az->iL R

namespace YZ
def b(kr:aW->aA R)(a:aU):aA R:=kr (decide ((a.length:az)>1048576))
def v(a0:aU):aW:=(decide ((a0.length:az)>1048576))
theorem gu(kr:aW->aA R)(a0:aU):b kr a0=kr (v a0):=by first|rfl|(unfold b v;simp only[dc];(repeat' split)<;>rfl)
end YZ

namespace El
def r3(N:aE)(g k0:wW R)(a:aU)(d e:az):aA R:=bif decide (e<(a.length:az))then bif decide (e<4000)then bif decide (0<=e)&&decide (e<(a.length:az))then g a (bE (↑(dG (iD (bY 64 (bE (bE (bE (d*131)+bE (bU (ar a e.toNat 0)))+7))) (bY 64 1073741823))):az)) (bE (e+1))else aj else k0 a d e else k0 a d e
def l3(N:aE)(k0:wW R):aE->wW R
 |0=>λ_ _ _=>aj
 |n+1=>r3 N (l3 N k0 n) k0
def b(N:aE)(kr:wW R)(a:aU):aA R:=l3 N (λd e _=>kr d 0 e) N a (bE (34901+(a.length:az))) 0
def vo:=b Lib.cR λr0 r1 r2=>ah (r0,r1,r2)
def c:=λa=>(vo a).isSome
def v:=λa=>(vo a).getD ([],0,0)
theorem out{x}:∀a,vo a=ah x->c a=ai/\v a=x:=λ_=>Lib.dj
end El

namespace bK
def b(kr:zf R)(a:aU)(d e:az):aA R:=bif decide (d<(a.length:az))then bif decide (0<=d)&&decide (d<(a.length:az))then kr (bE (↑(dG (iD (bY 64 (bE (bE (↑(dG (iD (bY 64 (bE (↑(dG (kP (bY 64 (j6 (bE (bE (e*6364136223846793005)+1442695040888963407)) (gA 2 (if aX 33<=64 then aX 33 else 64)))) (bY 64 (j6 (bE (bE (e*6364136223846793005)+1442695040888963407)) (gA 2 (if aX 45<=64 then aX 45 else 64)))))):az))) (bY 64 255))):az)+bE (bU (ar a d.toNat 0))))) (bY 64 255))):az)) a (bE (d+1)) (bE (bE (e*6364136223846793005)+1442695040888963407))else aj else kr (bE (↑(dG (iD (bY 64 (bE (↑(dG (kP (bY 64 (j6 (bE (bE (e*6364136223846793005)+1442695040888963407)) (gA 2 (if aX 33<=64 then aX 33 else 64)))) (bY 64 (j6 (bE (bE (e*6364136223846793005)+1442695040888963407)) (gA 2 (if aX 45<=64 then aX 45 else 64)))))):az))) (bY 64 255))):az)) a d (bE (bE (e*6364136223846793005)+1442695040888963407))
def vo:=b λr0 r1 r2 r3=>ah (r0,r1,r2,r3)
def c:=λa d e=>(vo a d e).isSome
def v:=λa d e=>(vo a d e).getD (0,[],0,0)
theorem out{x}:∀a d e,vo a d e=ah x->c a d e=ai/\v a d e=x:=λ_ _ _=>Lib.dj
end bK

namespace c9
def b(kr:zf R)(a:aU)(d e f:az):aA R:=bif decide (f<=0)then kr 0 a d e else bif decide (f<=256)then bif bK.c a d e then bif !decide (f=0)then kr (bI (bK.v a d e).1 f) (bK.v a d e).2.1 (bK.v a d e).2.2.1 (bK.v a d e).2.2.2 else aj else aj else bif bK.c a d e then bif bK.c (bK.v a d e).2.1 (bK.v a d e).2.2.1 (bK.v a d e).2.2.2 then bif bK.c (bK.v (bK.v a d e).2.1 (bK.v a d e).2.2.1 (bK.v a d e).2.2.2).2.1 (bK.v (bK.v a d e).2.1 (bK.v a d e).2.2.1 (bK.v a d e).2.2.2).2.2.1 (bK.v (bK.v a d e).2.1 (bK.v a d e).2.2.1 (bK.v a d e).2.2.2).2.2.2 then bif bK.c (bK.v (bK.v (bK.v a d e).2.1 (bK.v a d e).2.2.1 (bK.v a d e).2.2.2).2.1 (bK.v (bK.v a d e).2.1 (bK.v a d e).2.2.1 (bK.v a d e).2.2.2).2.2.1 (bK.v (bK.v a d e).2.1 (bK.v a d e).2.2.1 (bK.v a d e).2.2.2).2.2.2).2.1 (bK.v (bK.v (bK.v a d e).2.1 (bK.v a d e).2.2.1 (bK.v a d e).2.2.2).2.1 (bK.v (bK.v a d e).2.1 (bK.v a d e).2.2.1 (bK.v a d e).2.2.2).2.2.1 (bK.v (bK.v a d e).2.1 (bK.v a d e).2.2.1 (bK.v a d e).2.2.2).2.2.2).2.2.1 (bK.v (bK.v (bK.v a d e).2.1 (bK.v a d e).2.2.1 (bK.v a d e).2.2.2).2.1 (bK.v (bK.v a d e).2.1 (bK.v a d e).2.2.1 (bK.v a d e).2.2.2).2.2.1 (bK.v (bK.v a d e).2.1 (bK.v a d e).2.2.1 (bK.v a d e).2.2.2).2.2.2).2.2.2 then bif !decide (f=0)then kr (bI (bE (bE (bE (bE ((bK.v a d e).1*16777216)+bE ((bK.v (bK.v a d e).2.1 (bK.v a d e).2.2.1 (bK.v a d e).2.2.2).1*65536))+bE ((bK.v (bK.v (bK.v a d e).2.1 (bK.v a d e).2.2.1 (bK.v a d e).2.2.2).2.1 (bK.v (bK.v a d e).2.1 (bK.v a d e).2.2.1 (bK.v a d e).2.2.2).2.2.1 (bK.v (bK.v a d e).2.1 (bK.v a d e).2.2.1 (bK.v a d e).2.2.2).2.2.2).1*256))+(bK.v (bK.v (bK.v (bK.v a d e).2.1 (bK.v a d e).2.2.1 (bK.v a d e).2.2.2).2.1 (bK.v (bK.v a d e).2.1 (bK.v a d e).2.2.1 (bK.v a d e).2.2.2).2.2.1 (bK.v (bK.v a d e).2.1 (bK.v a d e).2.2.1 (bK.v a d e).2.2.2).2.2.2).2.1 (bK.v (bK.v (bK.v a d e).2.1 (bK.v a d e).2.2.1 (bK.v a d e).2.2.2).2.1 (bK.v (bK.v a d e).2.1 (bK.v a d e).2.2.1 (bK.v a d e).2.2.2).2.2.1 (bK.v (bK.v a d e).2.1 (bK.v a d e).2.2.1 (bK.v a d e).2.2.2).2.2.2).2.2.1 (bK.v (bK.v (bK.v a d e).2.1 (bK.v a d e).2.2.1 (bK.v a d e).2.2.2).2.1 (bK.v (bK.v a d e).2.1 (bK.v a d e).2.2.1 (bK.v a d e).2.2.2).2.2.1 (bK.v (bK.v a d e).2.1 (bK.v a d e).2.2.1 (bK.v a d e).2.2.2).2.2.2).2.2.2).1)) f) (bK.v (bK.v (bK.v (bK.v a d e).2.1 (bK.v a d e).2.2.1 (bK.v a d e).2.2.2).2.1 (bK.v (bK.v a d e).2.1 (bK.v a d e).2.2.1 (bK.v a d e).2.2.2).2.2.1 (bK.v (bK.v a d e).2.1 (bK.v a d e).2.2.1 (bK.v a d e).2.2.2).2.2.2).2.1 (bK.v (bK.v (bK.v a d e).2.1 (bK.v a d e).2.2.1 (bK.v a d e).2.2.2).2.1 (bK.v (bK.v a d e).2.1 (bK.v a d e).2.2.1 (bK.v a d e).2.2.2).2.2.1 (bK.v (bK.v a d e).2.1 (bK.v a d e).2.2.1 (bK.v a d e).2.2.2).2.2.2).2.2.1 (bK.v (bK.v (bK.v a d e).2.1 (bK.v a d e).2.2.1 (bK.v a d e).2.2.2).2.1 (bK.v (bK.v a d e).2.1 (bK.v a d e).2.2.1 (bK.v a d e).2.2.2).2.2.1 (bK.v (bK.v a d e).2.1 (bK.v a d e).2.2.1 (bK.v a d e).2.2.2).2.2.2).2.2.2).2.1 (bK.v (bK.v (bK.v (bK.v a d e).2.1 (bK.v a d e).2.2.1 (bK.v a d e).2.2.2).2.1 (bK.v (bK.v a d e).2.1 (bK.v a d e).2.2.1 (bK.v a d e).2.2.2).2.2.1 (bK.v (bK.v a d e).2.1 (bK.v a d e).2.2.1 (bK.v a d e).2.2.2).2.2.2).2.1 (bK.v (bK.v (bK.v a d e).2.1 (bK.v a d e).2.2.1 (bK.v a d e).2.2.2).2.1 (bK.v (bK.v a d e).2.1 (bK.v a d e).2.2.1 (bK.v a d e).2.2.2).2.2.1 (bK.v (bK.v a d e).2.1 (bK.v a d e).2.2.1 (bK.v a d e).2.2.2).2.2.2).2.2.1 (bK.v (bK.v (bK.v a d e).2.1 (bK.v a d e).2.2.1 (bK.v a d e).2.2.2).2.1 (bK.v (bK.v a d e).2.1 (bK.v a d e).2.2.1 (bK.v a d e).2.2.2).2.2.1 (bK.v (bK.v a d e).2.1 (bK.v a d e).2.2.1 (bK.v a d e).2.2.2).2.2.2).2.2.2).2.2.1 (bK.v (bK.v (bK.v (bK.v a d e).2.1 (bK.v a d e).2.2.1 (bK.v a d e).2.2.2).2.1 (bK.v (bK.v a d e).2.1 (bK.v a d e).2.2.1 (bK.v a d e).2.2.2).2.2.1 (bK.v (bK.v a d e).2.1 (bK.v a d e).2.2.1 (bK.v a d e).2.2.2).2.2.2).2.1 (bK.v (bK.v (bK.v a d e).2.1 (bK.v a d e).2.2.1 (bK.v a d e).2.2.2).2.1 (bK.v (bK.v a d e).2.1 (bK.v a d e).2.2.1 (bK.v a d e).2.2.2).2.2.1 (bK.v (bK.v a d e).2.1 (bK.v a d e).2.2.1 (bK.v a d e).2.2.2).2.2.2).2.2.1 (bK.v (bK.v (bK.v a d e).2.1 (bK.v a d e).2.2.1 (bK.v a d e).2.2.2).2.1 (bK.v (bK.v a d e).2.1 (bK.v a d e).2.2.1 (bK.v a d e).2.2.2).2.2.1 (bK.v (bK.v a d e).2.1 (bK.v a d e).2.2.1 (bK.v a d e).2.2.2).2.2.2).2.2.2).2.2.2 else aj else aj else aj else aj else aj
def vo:=b λr0 r1 r2 r3=>ah (r0,r1,r2,r3)
def c:=λa d e f=>(vo a d e f).isSome
def v:=λa d e f=>(vo a d e f).getD (0,[],0,0)
theorem out{x}:∀a d e f,vo a d e f=ah x->c a d e f=ai/\v a d e f=x:=λ_ _ _ _=>Lib.dj
end c9

namespace sg
def b(kr:RY R)(a:aU)(d e:az)(f:aU):aA R:=bif c9.c a d e (f.length:az)then bif decide (0<=(c9.v a d e (f.length:az)).1)&&decide ((c9.v a d e (f.length:az)).1<(f.length:az))then kr (bU (ar f (c9.v a d e (f.length:az)).1.toNat 0)) (c9.v a d e (f.length:az)).2.1 (c9.v a d e (f.length:az)).2.2.1 (c9.v a d e (f.length:az)).2.2.2 f else aj else aj
def vo:=b λr0 r1 r2 r3 r4=>ah (r0,r1,r2,r3,r4)
def c:=λa d e f=>(vo a d e f).isSome
def v:=λa d e f=>(vo a d e f).getD (0,[],0,0,[])
theorem out{x}:∀a d e f,vo a d e f=ah x->c a d e f=ai/\v a d e f=x:=λ_ _ _ _=>Lib.dj
end sg

namespace Dk
def r3(N:aE)(g:k_ R)(g1:hZ R)(k0:k_ R)(k1:hZ R)(a d e:az):aA R:=bif decide (a<3)then g1 (bE (a+1)) d e ([]++aw (aN [Ck.l 3] 1) 0 [CV.l 3 (aN [Ck.i ao] (aX 16))])else k0 a d e
def wM(N:aE)(g:k_ R)(g1:hZ R)(k0:k_ R)(k1:hZ R)(a d e:az)(f:aU):aA R:=bif decide (a<3)then bif cy (f.length+(aw (aN [Ck.l 3] 1) 0 [CV.l 3 (aN [Ck.i ao] (aX 16))]).length) 24 then g1 (bE (a+1)) d e (f++aw (aN [Ck.l 3] 1) 0 [CV.l 3 (aN [Ck.i ao] (aX 16))])else aj else k1 a d e f
def qP(N:aE)(k0:k_ R)(k1:hZ R):aE->hZ R
 |0=>λ_ _ _ _=>aj
 |n+1=>wM N (λx0 x1 x2=>aj) (qP N k0 k1 n) k0 k1
def l3(N:aE)(k0:k_ R)(k1:hZ R):aE->k_ R
 |0=>λ_ _ _=>aj
 |n+1=>r3 N (l3 N k0 k1 n) (qP N k0 k1 n) k0 k1
def b(N:aE)(kr:qX R):aA R:=l3 N (λ_ _ a=>kr [] a) (λ_ _ a d=>kr d a) N 0 0 0
def vo:=b Lib.cR λr0 r1=>ah (r0,r1)
def c:=vo.isSome
def v:=vo.getD ([],0)
end Dk

namespace Sh
def b(kr:qY R):aA R:=kr [] [] ([]++aw (aN [Ck.l 3] 1) 0 [CV.l 3 (aN [Ck.i ao] (aX 16))]++aw (aN [Ck.l 3] 1) 0 [CV.l 3 (aN [Ck.i ao] (aX 16))]++aw (aN [Ck.l 3] 1) 0 [CV.l 3 (aN [Ck.i ao] (aX 16))]) 0
def v:aU×aU×aU×az:=([],[],[]++aw (aN [Ck.l 3] 1) 0 [CV.l 3 (aN [Ck.i ao] (aX 16))]++aw (aN [Ck.l 3] 1) 0 [CV.l 3 (aN [Ck.i ao] (aX 16))]++aw (aN [Ck.l 3] 1) 0 [CV.l 3 (aN [Ck.i ao] (aX 16))],0)
theorem gu(kr:qY R):b kr=kr v.1 v.2.1 v.2.2.1 v.2.2.2:=by first|rfl|(unfold b v;simp only[dc];(repeat' split)<;>rfl)
end Sh

namespace Sb
def b(kr:dZ R):aA R:=kr 1 [] [] [] ([]++aw (aN [Ck.l 3] 1) 0 [CV.l 3 (aN [Ck.i ao] (aX 16))]++aw (aN [Ck.l 3] 1) 0 [CV.l 3 (aN [Ck.i ao] (aX 16))]++aw (aN [Ck.l 3] 1) 0 [CV.l 3 (aN [Ck.i ao] (aX 16))]) 0 [] [] 0
def v:az×aU×aU×aU×aU×az×aU×aU×az:=(1,[],[],[],[]++aw (aN [Ck.l 3] 1) 0 [CV.l 3 (aN [Ck.i ao] (aX 16))]++aw (aN [Ck.l 3] 1) 0 [CV.l 3 (aN [Ck.i ao] (aX 16))]++aw (aN [Ck.l 3] 1) 0 [CV.l 3 (aN [Ck.i ao] (aX 16))],0,[],[],0)
theorem gu(kr:dZ R):b kr=kr v.1 v.2.1 v.2.2.1 v.2.2.2.1 v.2.2.2.2.1 v.2.2.2.2.2.1 v.2.2.2.2.2.2.1 v.2.2.2.2.2.2.2.1 v.2.2.2.2.2.2.2.2:=by first|rfl|(unfold b v;simp only[dc];(repeat' split)<;>rfl)
end Sb

namespace n_
def b(kr:RZ R)(a:aU)(d e:az)(f:aU):aA R:=bif c9.c a d e (f.length:az)then bif decide (0<=(c9.v a d e (f.length:az)).1)&&decide ((c9.v a d e (f.length:az)).1<(f.length:az))then kr (bM (ar f (c9.v a d e (f.length:az)).1.toNat 0)) (c9.v a d e (f.length:az)).2.1 (c9.v a d e (f.length:az)).2.2.1 (c9.v a d e (f.length:az)).2.2.2 f else aj else aj
def vo:=b λr0 r1 r2 r3 r4=>ah (r0,r1,r2,r3,r4)
def c:=λa d e f=>(vo a d e f).isSome
def v:=λa d e f=>(vo a d e f).getD (⟨#[]⟩,[],0,0,[])
theorem out{x}:∀a d e f,vo a d e f=ah x->c a d e f=ai/\v a d e f=x:=λ_ _ _ _=>Lib.dj
end n_

namespace jT
def b(kr:Yx R)(a:aU)(d e:az):aA R:=bif n_.c a d e (aw (aw (aw (aw (aw (aw (aw (aw (aN [.s] 8) 0 [.s {data:= #[au 47,au 97]}]) 1 [.s {data:= #[au 47,au 98]}]) 2 [.s {data:= #[au 47,au 99]}]) 3 [.s {data:= #[au 47,au 100]}]) 4 [.s {data:= #[au 47,au 101]}]) 5 [.s {data:= #[au 47,au 102]}]) 6 [.s {data:= #[au 47,au 103]}]) 7 [.s {data:= #[au 47,au 104]}])then kr (n_.v a d e (aw (aw (aw (aw (aw (aw (aw (aw (aN [.s] 8) 0 [.s {data:= #[au 47,au 97]}]) 1 [.s {data:= #[au 47,au 98]}]) 2 [.s {data:= #[au 47,au 99]}]) 3 [.s {data:= #[au 47,au 100]}]) 4 [.s {data:= #[au 47,au 101]}]) 5 [.s {data:= #[au 47,au 102]}]) 6 [.s {data:= #[au 47,au 103]}]) 7 [.s {data:= #[au 47,au 104]}])).1 (n_.v a d e (aw (aw (aw (aw (aw (aw (aw (aw (aN [.s] 8) 0 [.s {data:= #[au 47,au 97]}]) 1 [.s {data:= #[au 47,au 98]}]) 2 [.s {data:= #[au 47,au 99]}]) 3 [.s {data:= #[au 47,au 100]}]) 4 [.s {data:= #[au 47,au 101]}]) 5 [.s {data:= #[au 47,au 102]}]) 6 [.s {data:= #[au 47,au 103]}]) 7 [.s {data:= #[au 47,au 104]}])).2.1 (n_.v a d e (aw (aw (aw (aw (aw (aw (aw (aw (aN [.s] 8) 0 [.s {data:= #[au 47,au 97]}]) 1 [.s {data:= #[au 47,au 98]}]) 2 [.s {data:= #[au 47,au 99]}]) 3 [.s {data:= #[au 47,au 100]}]) 4 [.s {data:= #[au 47,au 101]}]) 5 [.s {data:= #[au 47,au 102]}]) 6 [.s {data:= #[au 47,au 103]}]) 7 [.s {data:= #[au 47,au 104]}])).2.2.1 (n_.v a d e (aw (aw (aw (aw (aw (aw (aw (aw (aN [.s] 8) 0 [.s {data:= #[au 47,au 97]}]) 1 [.s {data:= #[au 47,au 98]}]) 2 [.s {data:= #[au 47,au 99]}]) 3 [.s {data:= #[au 47,au 100]}]) 4 [.s {data:= #[au 47,au 101]}]) 5 [.s {data:= #[au 47,au 102]}]) 6 [.s {data:= #[au 47,au 103]}]) 7 [.s {data:= #[au 47,au 104]}])).2.2.2.1 else aj
def vo:=b λr0 r1 r2 r3=>ah (r0,r1,r2,r3)
def c:=λa d e=>(vo a d e).isSome
def v:=λa d e=>(vo a d e).getD (⟨#[]⟩,[],0,0)
theorem out{x}:∀a d e,vo a d e=ah x->c a d e=ai/\v a d e=x:=λ_ _ _=>Lib.dj
end jT

namespace gT
def b(kr:Yw R)(a:aU)(d e f:az):aA R:=bif c9.c a d e f then kr (decide ((c9.v a d e f).1=0)) (c9.v a d e f).2.1 (c9.v a d e f).2.2.1 (c9.v a d e f).2.2.2 else aj
def vo:=b λr0 r1 r2 r3=>ah (r0,r1,r2,r3)
def c:=λa d e f=>(vo a d e f).isSome
def v:=λa d e f=>(vo a d e f).getD (ak,[],0,0)
theorem out{x}:∀a d e f,vo a d e f=ah x->c a d e f=ai/\v a d e f=x:=λ_ _ _ _=>Lib.dj
end gT

namespace tD
def r4(N:aE)(g k0:gd R)(a d e f:az)(h:aU)(i j:az)(l m o p q r s t u:aU)(w y z α xa:az)(xb:aq)(xc xd xe:az)(xf:aq)(xg:az)(xh:aU):aA R:=bif decide (f<(q.length:az))then bif decide (0<=f)&&decide (f<(q.length:az))then bif decide (bU (ar q f.toNat 2)=1)then bif cy (xh.length+(aw (aN [Ck.i ao] 1) 0 [.i .i64 f]).length) 8 then g a d e (bE (f+1)) h i j l m o p q r s t u w y z α xa xb xc xd xe xf xg (xh++aw (aN [Ck.i ao] 1) 0 [.i .i64 f])else aj else g a d e (bE (f+1)) h i j l m o p q r s t u w y z α xa xb xc xd xe xf xg xh else aj else k0 a d e f h i j l m o p q r s t u w y z α xa xb xc xd xe xf xg xh
def l4(N:aE)(k0:gd R):aE->gd R
 |0=>λ_ _ _ _ _ _ _ _ _ _ _ _ _ _ _ _ _ _ _ _ _ _ _ _ _ _ _ _=>aj
 |n+1=>r4 N (l4 N k0 n) k0
abbrev h0{R:Type}(kr:gM R)(w:aU)(y z:az)(α xa xb xc xd xe xf xg xh:aU)(xi:az)(xk:aq)(xl:az)(xm:aU):aA R:=bif c9.c w y z 3 then Lib.lt (c9.v w y z 3) λxn=>bif decide ((xm.length:az)>0)then bif gT.c xn.2.1 xn.2.2.1 xn.2.2.2 6 then Lib.lt (gT.v xn.2.1 xn.2.2.1 xn.2.2.2 6) λxo=>bif !xo.1 then bif c9.c xo.2.1 xo.2.2.1 xo.2.2.2 (xm.length:az)then Lib.lt (c9.v xo.2.1 xo.2.2.1 xo.2.2.2 (xm.length:az)) λxp=>bif decide (0<=xp.1)&&decide (xp.1<(xm.length:az))then bif decide (xi=2)then bif n_.c xp.2.1 xp.2.2.1 xp.2.2.2 (aw (aw (aw (aw (aN [.s] 4) 0 [.s {data:= #[au 120]}]) 1 [.s {data:= #[au 104,au 101,au 108,au 108,au 111]}]) 2 [.s {data:= #[au 109,au 111,au 114,au 101,au 32]}]) 3 [.s {data:= #[au 48,au 49,au 50,au 51,au 52,au 53,au 54,au 55,au 56,au 57]}])then Lib.lt (n_.v xp.2.1 xp.2.2.1 xp.2.2.2 (aw (aw (aw (aw (aN [.s] 4) 0 [.s {data:= #[au 120]}]) 1 [.s {data:= #[au 104,au 101,au 108,au 108,au 111]}]) 2 [.s {data:= #[au 109,au 111,au 114,au 101,au 32]}]) 3 [.s {data:= #[au 48,au 49,au 50,au 51,au 52,au 53,au 54,au 55,au 56,au 57]}])) λxq=>bif decide (xi=3)then bif sg.c xq.2.1 xq.2.2.1 xq.2.2.2.1 (aw (aw (aw (aw (aw (aN [Ck.i ao] 5) 0 [.i .i64 0]) 1 [.i .i64 3]) 2 [.i .i64 20]) 3 [.i .i64 60]) 4 [.i .i64 60])then Lib.lt (sg.v xq.2.1 xq.2.2.1 xq.2.2.2.1 (aw (aw (aw (aw (aw (aN [Ck.i ao] 5) 0 [.i .i64 0]) 1 [.i .i64 3]) 2 [.i .i64 20]) 3 [.i .i64 60]) 4 [.i .i64 60])) λxr=>kr xi (bU (ar xm xp.1.toNat 0)) xq.1 xr.1 [] xr.2.1 xr.2.2.1 xr.2.2.2.1 α xa xb xc xd xe xf xg xh else aj else kr xi (bU (ar xm xp.1.toNat 0)) xq.1 xl [] xq.2.1 xq.2.2.1 xq.2.2.2.1 α xa xb xc xd xe xf xg xh else aj else bif decide (xi=3)then bif sg.c xp.2.1 xp.2.2.1 xp.2.2.2 (aw (aw (aw (aw (aw (aN [Ck.i ao] 5) 0 [.i .i64 0]) 1 [.i .i64 3]) 2 [.i .i64 20]) 3 [.i .i64 60]) 4 [.i .i64 60])then Lib.lt (sg.v xp.2.1 xp.2.2.1 xp.2.2.2 (aw (aw (aw (aw (aw (aN [Ck.i ao] 5) 0 [.i .i64 0]) 1 [.i .i64 3]) 2 [.i .i64 20]) 3 [.i .i64 60]) 4 [.i .i64 60])) λxq=>kr xi (bU (ar xm xp.1.toNat 0)) xk xq.1 [] xq.2.1 xq.2.2.1 xq.2.2.2.1 α xa xb xc xd xe xf xg xh else aj else kr xi (bU (ar xm xp.1.toNat 0)) xk xl [] xp.2.1 xp.2.2.1 xp.2.2.2 α xa xb xc xd xe xf xg xh else aj else aj else bif decide (xi=2)then bif n_.c xo.2.1 xo.2.2.1 xo.2.2.2 (aw (aw (aw (aw (aN [.s] 4) 0 [.s {data:= #[au 120]}]) 1 [.s {data:= #[au 104,au 101,au 108,au 108,au 111]}]) 2 [.s {data:= #[au 109,au 111,au 114,au 101,au 32]}]) 3 [.s {data:= #[au 48,au 49,au 50,au 51,au 52,au 53,au 54,au 55,au 56,au 57]}])then Lib.lt (n_.v xo.2.1 xo.2.2.1 xo.2.2.2 (aw (aw (aw (aw (aN [.s] 4) 0 [.s {data:= #[au 120]}]) 1 [.s {data:= #[au 104,au 101,au 108,au 108,au 111]}]) 2 [.s {data:= #[au 109,au 111,au 114,au 101,au 32]}]) 3 [.s {data:= #[au 48,au 49,au 50,au 51,au 52,au 53,au 54,au 55,au 56,au 57]}])) λxp=>bif decide (xi=3)then bif sg.c xp.2.1 xp.2.2.1 xp.2.2.2.1 (aw (aw (aw (aw (aw (aN [Ck.i ao] 5) 0 [.i .i64 0]) 1 [.i .i64 3]) 2 [.i .i64 20]) 3 [.i .i64 60]) 4 [.i .i64 60])then Lib.lt (sg.v xp.2.1 xp.2.2.1 xp.2.2.2.1 (aw (aw (aw (aw (aw (aN [Ck.i ao] 5) 0 [.i .i64 0]) 1 [.i .i64 3]) 2 [.i .i64 20]) 3 [.i .i64 60]) 4 [.i .i64 60])) λxq=>kr xi xn.1 xp.1 xq.1 [] xq.2.1 xq.2.2.1 xq.2.2.2.1 α xa xb xc xd xe xf xg xh else aj else kr xi xn.1 xp.1 xl [] xp.2.1 xp.2.2.1 xp.2.2.2.1 α xa xb xc xd xe xf xg xh else aj else bif decide (xi=3)then bif sg.c xo.2.1 xo.2.2.1 xo.2.2.2 (aw (aw (aw (aw (aw (aN [Ck.i ao] 5) 0 [.i .i64 0]) 1 [.i .i64 3]) 2 [.i .i64 20]) 3 [.i .i64 60]) 4 [.i .i64 60])then Lib.lt (sg.v xo.2.1 xo.2.2.1 xo.2.2.2 (aw (aw (aw (aw (aw (aN [Ck.i ao] 5) 0 [.i .i64 0]) 1 [.i .i64 3]) 2 [.i .i64 20]) 3 [.i .i64 60]) 4 [.i .i64 60])) λxp=>kr xi xn.1 xk xp.1 [] xp.2.1 xp.2.2.1 xp.2.2.2.1 α xa xb xc xd xe xf xg xh else aj else kr xi xn.1 xk xl [] xo.2.1 xo.2.2.1 xo.2.2.2 α xa xb xc xd xe xf xg xh else aj else bif decide (xi=2)then bif n_.c xn.2.1 xn.2.2.1 xn.2.2.2 (aw (aw (aw (aw (aN [.s] 4) 0 [.s {data:= #[au 120]}]) 1 [.s {data:= #[au 104,au 101,au 108,au 108,au 111]}]) 2 [.s {data:= #[au 109,au 111,au 114,au 101,au 32]}]) 3 [.s {data:= #[au 48,au 49,au 50,au 51,au 52,au 53,au 54,au 55,au 56,au 57]}])then Lib.lt (n_.v xn.2.1 xn.2.2.1 xn.2.2.2 (aw (aw (aw (aw (aN [.s] 4) 0 [.s {data:= #[au 120]}]) 1 [.s {data:= #[au 104,au 101,au 108,au 108,au 111]}]) 2 [.s {data:= #[au 109,au 111,au 114,au 101,au 32]}]) 3 [.s {data:= #[au 48,au 49,au 50,au 51,au 52,au 53,au 54,au 55,au 56,au 57]}])) λxo=>bif decide (xi=3)then bif sg.c xo.2.1 xo.2.2.1 xo.2.2.2.1 (aw (aw (aw (aw (aw (aN [Ck.i ao] 5) 0 [.i .i64 0]) 1 [.i .i64 3]) 2 [.i .i64 20]) 3 [.i .i64 60]) 4 [.i .i64 60])then Lib.lt (sg.v xo.2.1 xo.2.2.1 xo.2.2.2.1 (aw (aw (aw (aw (aw (aN [Ck.i ao] 5) 0 [.i .i64 0]) 1 [.i .i64 3]) 2 [.i .i64 20]) 3 [.i .i64 60]) 4 [.i .i64 60])) λxp=>kr xi xn.1 xo.1 xp.1 [] xp.2.1 xp.2.2.1 xp.2.2.2.1 α xa xb xc xd xe xf xg xh else aj else kr xi xn.1 xo.1 xl [] xo.2.1 xo.2.2.1 xo.2.2.2.1 α xa xb xc xd xe xf xg xh else aj else bif decide (xi=3)then bif sg.c xn.2.1 xn.2.2.1 xn.2.2.2 (aw (aw (aw (aw (aw (aN [Ck.i ao] 5) 0 [.i .i64 0]) 1 [.i .i64 3]) 2 [.i .i64 20]) 3 [.i .i64 60]) 4 [.i .i64 60])then Lib.lt (sg.v xn.2.1 xn.2.2.1 xn.2.2.2 (aw (aw (aw (aw (aw (aN [Ck.i ao] 5) 0 [.i .i64 0]) 1 [.i .i64 3]) 2 [.i .i64 20]) 3 [.i .i64 60]) 4 [.i .i64 60])) λxo=>kr xi xn.1 xk xo.1 [] xo.2.1 xo.2.2.1 xo.2.2.2.1 α xa xb xc xd xe xf xg xh else aj else kr xi xn.1 xk xl [] xn.2.1 xn.2.2.1 xn.2.2.2 α xa xb xc xd xe xf xg xh else aj
abbrev h1{R:Type}(kr:gM R)(w:aU)(y z:az)(α xa xb xc xd xe xf xg xh:aU)(xi xj:az)(xk:aq)(xl:az):aA R:=bif decide (xi=5)then bif sg.c w y z (aw (aw (aw (aw (aN [Ck.i ao] 4) 0 [.i .i64 1]) 1 [.i .i64 2]) 2 [.i .i64 5]) 3 [.i .i64 30])then Lib.lt (sg.v w y z (aw (aw (aw (aw (aN [Ck.i ao] 4) 0 [.i .i64 1]) 1 [.i .i64 2]) 2 [.i .i64 5]) 3 [.i .i64 30])) λxn=>kr xi xj xk xn.1 [] xn.2.1 xn.2.2.1 xn.2.2.2.1 α xa xb xc xd xe xf xg xh else aj else bif decide (xi=6)then bif c9.c w y z 9 then Lib.lt (c9.v w y z 9) λxn=>bif decide ((xe.length:az)>0)then bif gT.c xn.2.1 xn.2.2.1 xn.2.2.2 4 then Lib.lt (gT.v xn.2.1 xn.2.2.1 xn.2.2.2 4) λxo=>bif !xo.1 then bif c9.c xo.2.1 xo.2.2.1 xo.2.2.2 (xe.length:az)then Lib.lt (c9.v xo.2.1 xo.2.2.1 xo.2.2.2 (xe.length:az)) λxp=>bif decide (0<=xp.1)&&decide (xp.1<(xe.length:az))then kr xi (bU (ar xe xp.1.toNat 0)) xk xl [] xp.2.1 xp.2.2.1 xp.2.2.2 α xa xb xc xd xe xf xg xh else aj else aj else kr xi (bE (1+xn.1)) xk xl [] xo.2.1 xo.2.2.1 xo.2.2.2 α xa xb xc xd xe xf xg xh else aj else kr xi (bE (1+xn.1)) xk xl [] xn.2.1 xn.2.2.1 xn.2.2.2 α xa xb xc xd xe xf xg xh else aj else kr xi xj xk xl [] w y z α xa xb xc xd xe xf xg xh
abbrev h2{R:Type}(kr:gM R)(w:aU)(y z:az)(α xa xb xc xd xe xf xg xh:aU)(xk:aq)(xl:az):aA R:=bif c9.c w y z 9 then Lib.lt (c9.v w y z 9) λxn=>bif decide ((xe.length:az)>0)then bif gT.c xn.2.1 xn.2.2.1 xn.2.2.2 4 then Lib.lt (gT.v xn.2.1 xn.2.2.1 xn.2.2.2 4) λxo=>bif !xo.1 then bif c9.c xo.2.1 xo.2.2.1 xo.2.2.2 (xe.length:az)then Lib.lt (c9.v xo.2.1 xo.2.2.1 xo.2.2.2 (xe.length:az)) λxp=>bif decide (0<=xp.1)&&decide (xp.1<(xe.length:az))then kr 6 (bU (ar xe xp.1.toNat 0)) xk xl [] xp.2.1 xp.2.2.1 xp.2.2.2 α xa xb xc xd xe xf xg xh else aj else aj else kr 6 (bE (1+xn.1)) xk xl [] xo.2.1 xo.2.2.1 xo.2.2.2 α xa xb xc xd xe xf xg xh else aj else kr 6 (bE (1+xn.1)) xk xl [] xn.2.1 xn.2.2.1 xn.2.2.2 α xa xb xc xd xe xf xg xh else aj
abbrev h3{R:Type}(kr:gM R)(w:aU)(y z:az)(α xa xb xc xd xe xf xg xh:aU)(xi xl:az):aA R:=bif c9.c w y z 9 then Lib.lt (c9.v w y z 9) λxn=>bif jT.c xn.2.1 xn.2.2.1 xn.2.2.2 then Lib.lt (jT.v xn.2.1 xn.2.2.1 xn.2.2.2) λxo=>kr xi (bE (1+xn.1)) xo.1 xl [] xo.2.1 xo.2.2.1 xo.2.2.2 α xa xb xc xd xe xf xg xh else aj else aj
def b(N:aE)(kr:gM R)(a:aU)(d e f:az)(h i j l:aU)(m:az)(o p:aU)(q:az)(r s t:aU):aA R:=bif sg.c a d e (aw (aw (aw (aw (aw (aw (aw (aw (aw (aw (aw (aw (aw (aw (aN [Ck.i ao] 14) 0 [.i .i64 1]) 1 [.i .i64 1]) 2 [.i .i64 1]) 3 [.i .i64 1]) 4 [.i .i64 2]) 5 [.i .i64 2]) 6 [.i .i64 2]) 7 [.i .i64 3]) 8 [.i .i64 3]) 9 [.i .i64 3]) 10 [.i .i64 4]) 11 [.i .i64 5]) 12 [.i .i64 6]) 13 [.i .i64 6])then Lib.lt (sg.v a d e (aw (aw (aw (aw (aw (aw (aw (aw (aw (aw (aw (aw (aw (aw (aN [Ck.i ao] 14) 0 [.i .i64 1]) 1 [.i .i64 1]) 2 [.i .i64 1]) 3 [.i .i64 1]) 4 [.i .i64 2]) 5 [.i .i64 2]) 6 [.i .i64 2]) 7 [.i .i64 3]) 8 [.i .i64 3]) 9 [.i .i64 3]) 10 [.i .i64 4]) 11 [.i .i64 5]) 12 [.i .i64 6]) 13 [.i .i64 6])) λu=>l4 N (λ_ _ _ _ w y z α xa xb xc xd xe xf xg xh _ _ _ _ _ _ _ xi xj xk xl xm=>bif decide ((xm.length:az)=0)then bif decide (xi=2)then bif decide ((xe.length:az)≥6)then h2 kr w y z α xa xb xc xd xe xf xg xh xk xl else bif c9.c w y z 9 then Lib.lt (c9.v w y z 9) λxn=>bif jT.c xn.2.1 xn.2.2.1 xn.2.2.2 then Lib.lt (jT.v xn.2.1 xn.2.2.1 xn.2.2.2) λxo=>kr 1 (bE (1+xn.1)) xo.1 xl [] xo.2.1 xo.2.2.1 xo.2.2.2 α xa xb xc xd xe xf xg xh else aj else aj else bif decide (xi=3)then bif decide ((xe.length:az)≥6)then h2 kr w y z α xa xb xc xd xe xf xg xh xk xl else bif c9.c w y z 9 then Lib.lt (c9.v w y z 9) λxn=>bif jT.c xn.2.1 xn.2.2.1 xn.2.2.2 then Lib.lt (jT.v xn.2.1 xn.2.2.1 xn.2.2.2) λxo=>kr 1 (bE (1+xn.1)) xo.1 xl [] xo.2.1 xo.2.2.1 xo.2.2.2 α xa xb xc xd xe xf xg xh else aj else aj else bif decide ((xe.length:az)≥6)then bif decide (xi=1)then h2 kr w y z α xa xb xc xd xe xf xg xh xk xl else bif decide (xi=1)then h3 kr w y z α xa xb xc xd xe xf xg xh xi xl else bif decide (xi=2)then h0 kr w y z α xa xb xc xd xe xf xg xh xi xk xl xm else bif decide (xi=3)then h0 kr w y z α xa xb xc xd xe xf xg xh xi xk xl xm else bif decide (xi=4)then h0 kr w y z α xa xb xc xd xe xf xg xh xi xk xl xm else h1 kr w y z α xa xb xc xd xe xf xg xh xi xj xk xl else bif decide (xi=1)then h3 kr w y z α xa xb xc xd xe xf xg xh xi xl else bif decide (xi=2)then h0 kr w y z α xa xb xc xd xe xf xg xh xi xk xl xm else bif decide (xi=3)then h0 kr w y z α xa xb xc xd xe xf xg xh xi xk xl xm else bif decide (xi=4)then h0 kr w y z α xa xb xc xd xe xf xg xh xi xk xl xm else h1 kr w y z α xa xb xc xd xe xf xg xh xi xj xk xl else bif decide ((xe.length:az)≥6)then bif decide (xi=1)then h2 kr w y z α xa xb xc xd xe xf xg xh xk xl else bif decide (xi=1)then h3 kr w y z α xa xb xc xd xe xf xg xh xi xl else bif decide (xi=2)then h0 kr w y z α xa xb xc xd xe xf xg xh xi xk xl xm else bif decide (xi=3)then h0 kr w y z α xa xb xc xd xe xf xg xh xi xk xl xm else bif decide (xi=4)then h0 kr w y z α xa xb xc xd xe xf xg xh xi xk xl xm else h1 kr w y z α xa xb xc xd xe xf xg xh xi xj xk xl else bif decide (xi=1)then h3 kr w y z α xa xb xc xd xe xf xg xh xi xl else bif decide (xi=2)then h0 kr w y z α xa xb xc xd xe xf xg xh xi xk xl xm else bif decide (xi=3)then h0 kr w y z α xa xb xc xd xe xf xg xh xi xk xl xm else bif decide (xi=4)then h0 kr w y z α xa xb xc xd xe xf xg xh xi xk xl xm else h1 kr w y z α xa xb xc xd xe xf xg xh xi xj xk xl) N f m q 0 u.2.1 u.2.2.1 u.2.2.2.1 h i j l o p r s t f m q 0 0 ⟨#[]⟩ 0 u.1 0 ⟨#[]⟩ 0 (aN [Ck.i ao] 0)else aj
def vo:=b Lib.cR λr0 r1 r2 r3 r4 r5 r6 r7 r8 r9 LS F7 r12 r13 r14 r15 r16=>ah (r0,r1,r2,r3,r4,r5,r6,r7,r8,r9,LS,F7,r12,r13,r14,r15,r16)
def c:=λa d e f h i j l m o p q r s t=>(vo a d e f h i j l m o p q r s t).isSome
def v:=λa d e f h i j l m o p q r s t=>(vo a d e f h i j l m o p q r s t).getD (0,0,⟨#[]⟩,0,[],[],0,0,[],[],[],[],[],[],[],[],[])
theorem out{x}:∀a d e f h i j l m o p q r s t,vo a d e f h i j l m o p q r s t=ah x->c a d e f h i j l m o p q r s t=ai/\v a d e f h i j l m o p q r s t=x:=λ_ _ _ _ _ _ _ _ _ _ _ _ _ _ _=>Lib.dj
end tD

namespace lR
def r3(N:aE)(g:pL R)(g1:nH R)(k0:pL R)(k1:nH R)(a:az)(d:aU)(e f h:az):aA R:=bif decide (a<(d.length:az))then bif decide (0<=a)&&decide (a<(d.length:az))then bif cy ((aN [Ck.i ao] 0).length+(g9 (ar d a.toNat 0)).length) 8 then g1 (bE (a+1)) d e f h ([]++aw (aN [Ck.l 3] 1) 0 [CV.l 3 (aN [Ck.i ao] 0++g9 (ar d a.toNat 0))])else aj else aj else k0 a d e f h
def wM(N:aE)(g:pL R)(g1:nH R)(k0:pL R)(k1:nH R)(a:az)(d:aU)(e f h:az)(i:aU):aA R:=bif decide (a<(d.length:az))then bif decide (0<=a)&&decide (a<(d.length:az))then bif cy ((aN [Ck.i ao] 0).length+(g9 (ar d a.toNat 0)).length) 8 then bif cy (i.length+(aw (aN [Ck.l 3] 1) 0 [CV.l 3 (aN [Ck.i ao] 0++g9 (ar d a.toNat 0))]).length) 24 then g1 (bE (a+1)) d e f h (i++aw (aN [Ck.l 3] 1) 0 [CV.l 3 (aN [Ck.i ao] 0++g9 (ar d a.toNat 0))])else aj else aj else aj else k1 a d e f h i
def qP(N:aE)(k0:pL R)(k1:nH R):aE->nH R
 |0=>λ_ _ _ _ _ _=>aj
 |n+1=>wM N (λx0 x1 x2 x3 x4=>aj) (qP N k0 k1 n) k0 k1
def l3(N:aE)(k0:pL R)(k1:nH R):aE->pL R
 |0=>λ_ _ _ _ _=>aj
 |n+1=>r3 N (l3 N k0 k1 n) (qP N k0 k1 n) k0 k1
def b(N:aE)(kr:qX R)(a:aU)(d:az):aA R:=l3 N (λ_ _ _ _ e=>kr [] e) (λ_ _ _ _ e f=>kr f e) N 0 a d 0 d
def vo:=b Lib.cR λr0 r1=>ah (r0,r1)
def c:=λa d=>(vo a d).isSome
def v:=λa d=>(vo a d).getD ([],0)
theorem out{x}:∀a d,vo a d=ah x->c a d=ai/\v a d=x:=λ_ _=>Lib.dj
end lR

namespace eR
def b(kr:qY R)(a d e:aU)(f:az):aA R:=bif cy ((aN [.s] 0).length+a.length) 16 then bif cy ((aN [.s] 0).length+d.length) 16 then bif lR.c e f then kr (aN [.s] 0++a) (aN [.s] 0++d) (lR.v e f).1 (lR.v e f).2 else aj else aj else aj
def vo:=b λr0 r1 r2 r3=>ah (r0,r1,r2,r3)
def c:=λa d e f=>(vo a d e f).isSome
def v:=λa d e f=>(vo a d e f).getD ([],[],[],0)
theorem out{x}:∀a d e f,vo a d e f=ah x->c a d e f=ai/\v a d e f=x:=λ_ _ _ _=>Lib.dj
end eR

namespace jM
def b(kr:dZ R)(a:az)(d e f h:aU)(i:az)(j l:aU)(m:az):aA R:=bif cy ((aN [Ck.s,Ck.i ao,Ck.i ao,Ck.s] 0).length+d.length) 48 then bif eR.c e f h i then bif cy ((aN [Ck.s,Ck.s,Ck.i ao,Ck.i ao,Ck.i ao] 0).length+j.length) 56 then bif cy ((aN [Ck.i ao,Ck.s,Ck.i ao,Ck.i ao,Ck.i ao,Ck.s,Ck.i ao] 0).length+l.length) 72 then kr a (aN [Ck.s,Ck.i ao,Ck.i ao,Ck.s] 0++d) (eR.v e f h i).1 (eR.v e f h i).2.1 (eR.v e f h i).2.2.1 (eR.v e f h i).2.2.2 (aN [Ck.s,Ck.s,Ck.i ao,Ck.i ao,Ck.i ao] 0++j) (aN [Ck.i ao,Ck.s,Ck.i ao,Ck.i ao,Ck.i ao,Ck.s,Ck.i ao] 0++l) m else aj else aj else aj else aj
def vo:=b λr0 r1 r2 r3 r4 r5 r6 r7 r8=>ah (r0,r1,r2,r3,r4,r5,r6,r7,r8)
def c:=λa d e f h i j l m=>(vo a d e f h i j l m).isSome
def v:=λa d e f h i j l m=>(vo a d e f h i j l m).getD (0,[],[],[],[],0,[],[],0)
theorem out{x}:∀a d e f h i j l m,vo a d e f h i j l m=ah x->c a d e f h i j l m=ai/\v a d e f h i j l m=x:=λ_ _ _ _ _ _ _ _ _=>Lib.dj
end jM

namespace jV
def b(kr:aW->aA R)(a d e:az):aA R:=bif decide (a≥d)then kr (decide (a<=e))else kr ak
def v(a0 a1 a2:az):aW:=bif decide (a0≥a1)then decide (a0<=a2)else ak
theorem gu(kr:aW->aA R)(a0 a1 a2:az):b kr a0 a1 a2=kr (v a0 a1 a2):=by first|rfl|(unfold b v;simp only[dc];(repeat' split)<;>rfl)
end jV

namespace EK
def b(kr:aW->aA R)(a:aq):aA R:=kr (jV.v (a.size:az) 1 30)
def v(a0:aq):aW:=(jV.v (a0.size:az) 1 30)
theorem gu(kr:aW->aA R)(a0:aq):b kr a0=kr (v a0):=by first|rfl|(unfold b v;simp only[dc];(repeat' split)<;>rfl)
end EK

namespace h_
def b(kr:aW->aA R)(a:aq)(d e:az)(f:aq):aA R:=bif EK.v a then bif jV.v d 0 1000000000 then bif jV.v e 1 999999 then kr (decide ((f.size:az)<=400))else kr ak else kr ak else kr ak
def v(a0:aq)(a1 a2:az)(a3:aq):aW:=bif EK.v a0 then bif jV.v a1 0 1000000000 then bif jV.v a2 1 999999 then decide ((a3.size:az)<=400)else ak else ak else ak
theorem gu(kr:aW->aA R)(a0:aq)(a1 a2:az)(a3:aq):b kr a0 a1 a2 a3=kr (v a0 a1 a2 a3):=by first|rfl|(unfold b v;simp only[dc];(repeat' split)<;>rfl)
theorem Eu{k:aq}{s l:az}{b:aq}(h:v k s l b=ai):(1<=k.size/\k.size<=30)/\(0<=s/\s<=1000000000)/\(1<=l/\l<=999999)/\b.size<=400:=by unfold v at h;cases h1:EK.v k<;>rw[h1]at h<;>simp only[ay,aC,cU]at h;cases h2:jV.v s 0 1000000000<;>rw[h2]at h<;>simp only[ay,aC,cU]at h;cases h3:jV.v l 1 999999<;>rw[h3]at h<;>simp only[ay,aC,cU]at h;simp[EK.v,jV.v]at h1 h2 h3;have:=cg h;omega
end h_

namespace eQ
def r2(N:aE)(g k0 k1:GP R)(a:aU)(d:aq)(e:aW)(f:az):aA R:=bif decide (f<(a.length:az))then bif decide (0<=f)&&decide (f<(a.length:az))then bif c6 (bM (ar a f.toNat 0)).toList (aJ d)then k0 a d ai f else g a d e (bE (f+1))else aj else k1 a d e f
def l2(N:aE)(k0 k1:GP R):aE->GP R
 |0=>λ_ _ _ _=>aj
 |n+1=>r2 N (l2 N k0 k1 n) k0 k1
def b(N:aE)(kr:aW->aA R)(a:aU)(d:aq):aA R:=l2 N (λ_ _ e _=>kr e) (λ_ _ _ _=>kr ak) N a d ak 0
def vo:=b Lib.cR λr0=>ah r0
def c:=λa d=>(vo a d).isSome
def v:=λa d=>(vo a d).getD ak
theorem out{x}:∀a d,vo a d=ah x->c a d=ai/\v a d=x:=λ_ _=>Lib.dj
end eQ

namespace ry
def b(kr:aW->aA R)(a d e:aU)(f:az)(h:aq):aA R:=bif eQ.c a h then bif eQ.v a h then kr ai else bif eQ.c d h then kr (eQ.v d h)else aj else aj
def vo:=b λr0=>ah r0
def c:=λa d e f h=>(vo a d e f h).isSome
def v:=λa d e f h=>(vo a d e f h).getD ak
theorem out{x}:∀a d e f h,vo a d e f h=ah x->c a d e f h=ai/\v a d e f h=x:=λ_ _ _ _ _=>Lib.dj
end ry

namespace eW
def r9(N:aE)(g k0 k1:CO R)(a:aW)(d e:az)(f:aU)(h:az):aA R:=bif decide (0<=d)&&decide (d<(f.length:az))then bif decide (e<((g9 (ar f d.toNat 0)).length:az))then bif decide (0<=d)&&decide (d<(f.length:az))then bif decide (0<=e)&&decide (e<((g9 (ar f d.toNat 0)).length:az))then bif !jV.v (bU (ar (g9 (ar f d.toNat 0)) e.toNat 0)) 0 15 then k0 ak d e f h else g a d (bE (e+1)) f h else aj else aj else k1 a d e f h else aj
def l9(N:aE)(k0 k1:CO R):aE->CO R
 |0=>λ_ _ _ _ _=>aj
 |n+1=>r9 N (l9 N k0 k1 n) k0 k1
def r4(N:aE)(g k0 k1:GL R)(a:aW)(d:az)(e:aU)(f:az):aA R:=bif decide (d<(e.length:az))then bif decide (0<=d)&&decide (d<(e.length:az))then bif((g9 (ar e d.toNat 0)).length:az) !=16 then k0 ak d e f else l9 N (λh i _ j l=>k0 h i j l) (λh i _ j l=>g h (bE (i+1)) j l) N a d 0 e f else aj else k1 a d e f
def l4(N:aE)(k0 k1:GL R):aE->GL R
 |0=>λ_ _ _ _=>aj
 |n+1=>r4 N (l4 N k0 k1 n) k0 k1
def b(N:aE)(kr:aW->aA R)(a:aU)(d:az):aA R:=bif(a.length:az) !=3 then kr ak else bif !jV.v d 0 63 then kr ak else l4 N (λe _ _ _=>kr e) (λ_ _ _ _=>kr ai) N ak 0 a d
def vo:=b Lib.cR λr0=>ah r0
def c:=λa d=>(vo a d).isSome
def v:=λa d=>(vo a d).getD ak
theorem out{x}:∀a d,vo a d=ah x->c a d=ai/\v a d=x:=λ_ _=>Lib.dj
end eW

namespace iV
def r3(N:aE)(g k0 k1:vM R)(a:aW)(d:az)(e f h:aU)(i:az)(j:aU):aA R:=bif decide (d<(j.length:az))then bif decide (0<=d)&&decide (d<(j.length:az))then bif !EK.v (bM (ar j d.toNat 0))then k0 ak d e f h i j else bif iy 0 d (j.length:az)then bif decide (0<=d)&&decide (d<(j.length:az))then bif eQ.c (dW j (aX 0) d.toNat) (bM (ar j d.toNat 0))then bif eQ.v (dW j (aX 0) d.toNat) (bM (ar j d.toNat 0))then k0 ak d e f h i j else g a (bE (d+1)) e f h i j else aj else aj else aj else aj else k1 a d e f h i j
def l3(N:aE)(k0 k1:vM R):aE->vM R
 |0=>λ_ _ _ _ _ _ _=>aj
 |n+1=>r3 N (l3 N k0 k1 n) k0 k1
def b(N:aE)(kr:aW->aA R)(a d e:aU)(f:az):aA R:=bif cy ((aN [.s] 0).length+a.length) 16 then bif cy ((aN [.s] 0++a).length+d.length) 16 then l3 N (λh _ _ _ _ _ _=>kr h) (λ_ _ h i j l _=>bif decide ((h.length:az)<=2)then bif decide ((i.length:az)<=4)then bif eW.c j l then kr (eW.v j l)else aj else kr ak else kr ak) N ak 0 a d e f (aN [.s] 0++a++d)else aj else aj
def vo:=b Lib.cR λr0=>ah r0
def c:=λa d e f=>(vo a d e f).isSome
def v:=λa d e f=>(vo a d e f).getD ak
theorem out{x}:∀a d e f,vo a d e f=ah x->c a d e f=ai/\v a d e f=x:=λ_ _ _ _=>Lib.dj
end iV

namespace mC
def r2(N:aE)(g k0 k1:gn R)(a:aW)(d e:az)(f h i j:aU)(l:az)(m o:aU)(p:az):aA R:=bif decide (d<(f.length:az))then bif decide (0<=d)&&decide (d<(f.length:az))then bif !h_.v (bM (ar f d.toNat 0)) (bU (ar f d.toNat 1)) (bU (ar f d.toNat (1+1))) (bM (ar f d.toNat (1+1+1)))then k0 ak d e f h i j l m o p else bif decide (d>0)then bif decide (0<=bE (d-1))&&decide (bE (d-1)<(f.length:az))then bif decide (0<=d)&&decide (d<(f.length:az))then bif !Op.bytesLess (bM (ar f (bE (d-1)).toNat 0)).toList (bM (ar f d.toNat 0)).toList then k0 ak d e f h i j l m o p else bif decide (0<=d)&&decide (d<(f.length:az))then bif ry.c h i j l (bM (ar f d.toNat 0))then bif !ry.v h i j l (bM (ar f d.toNat 0))then k0 ak d e f h i j l m o p else g a (bE (d+1)) e f h i j l m o p else aj else aj else aj else aj else bif decide (0<=d)&&decide (d<(f.length:az))then bif ry.c h i j l (bM (ar f d.toNat 0))then bif !ry.v h i j l (bM (ar f d.toNat 0))then k0 ak d e f h i j l m o p else g a (bE (d+1)) e f h i j l m o p else aj else aj else aj else k1 a d e f h i j l m o p
def l2(N:aE)(k0 k1:gn R):aE->gn R
 |0=>λ_ _ _ _ _ _ _ _ _ _ _=>aj
 |n+1=>r2 N (l2 N k0 k1 n) k0 k1
def b(N:aE)(kr:aW->aA R)(a:az)(d e f h:aU)(i:az)(j l:aU)(m:az):aA R:=l2 N (λo _ _ _ _ _ _ _ _ _ _=>kr o) (λ_ _ _ o p q r s _ _ _=>bif iV.c p q r s then bif iV.v p q r s then kr (decide ((o.length:az)=bE ((p.length:az)+(q.length:az))))else kr ak else aj) N ak 0 a d e f h i j l m
def vo:=b Lib.cR λr0=>ah r0
def c:=λa d e f h i j l m=>(vo a d e f h i j l m).isSome
def v:=λa d e f h i j l m=>(vo a d e f h i j l m).getD ak
theorem out{x}:∀a d e f h i j l m,vo a d e f h i j l m=ah x->c a d e f h i j l m=ai/\v a d e f h i j l m=x:=λ_ _ _ _ _ _ _ _ _=>Lib.dj
end mC

namespace nr
def r5(N:aE)(g k0 k1:ka R)(a:az)(d:aW)(e f:az)(h i j l:aU)(m:az)(o p:aU)(q:az)(r s:aq)(t u w:az):aA R:=bif decide (e<a)then bif decide (0<=e)&&decide (e<(o.length:az))then bif c6 (bM (ar o e.toNat 0)).toList (aJ r)then bif decide (0<=e)&&decide (e<(o.length:az))then bif decide (bU (ar o e.toNat 2)=1)then bif decide (t=1)then k0 a ak e f h i j l m o p q r s t u w else g a d (bE (e+1)) f h i j l m o p q r s t u w else g a d (bE (e+1)) f h i j l m o p q r s t u w else aj else g a d (bE (e+1)) f h i j l m o p q r s t u w else aj else k1 a d e f h i j l m o p q r s t u w
def l5(N:aE)(k0 k1:ka R):aE->ka R
 |0=>λ_ _ _ _ _ _ _ _ _ _ _ _ _ _ _ _ _=>aj
 |n+1=>r5 N (l5 N k0 k1 n) k0 k1
def b(N:aE)(kr:aW->aA R)(a:az)(d e f h:aU)(i:az)(j l:aU)(m o:az):aA R:=bif decide (0<=o)&&decide (o<(j.length:az))then bif !EK.v (bM (ar j o.toNat 0))then kr ak else bif decide (((bM (ar j o.toNat 1)).size:az)>400)then kr ak else bif !jV.v (bU (ar j o.toNat (1+1))) 1 3 then kr ak else bif !jV.v (bU (ar j o.toNat (1+1+1))) 0 999999 then kr ak else bif !jV.v (bU (ar j o.toNat (1+1+1+1))) 0 a then kr ak else l5 N (λ_ p _ _ _ _ _ _ _ _ _ _ _ _ _ _ _=>kr p) (λ_ _ _ _ _ _ _ _ _ _ _ _ _ _ _ _ _=>kr ai) N o ak 0 a d e f h i j l m (bM (ar j o.toNat 0)) (bM (ar j o.toNat 1)) (bU (ar j o.toNat (1+1))) (bU (ar j o.toNat (1+1+1))) (bU (ar j o.toNat (1+1+1+1)))else aj
def vo:=b Lib.cR λr0=>ah r0
def c:=λa d e f h i j l m o=>(vo a d e f h i j l m o).isSome
def v:=λa d e f h i j l m o=>(vo a d e f h i j l m o).getD ak
theorem out{x}:∀a d e f h i j l m o,vo a d e f h i j l m o=ah x->c a d e f h i j l m o=ai/\v a d e f h i j l m o=x:=λ_ _ _ _ _ _ _ _ _ _=>Lib.dj
end nr

namespace s8
def r9(N:aE)(g k0 k1:gn R)(a:aW)(d e:az)(f h i j:aU)(l:az)(m o:aU)(p:az):aA R:=bif decide (d<(o.length:az))then bif decide (0<=d)&&decide (d<(o.length:az))then bif !jV.v (bU (ar o d.toNat 0)) 1 9 then k0 ak d e f h i j l m o p else bif decide (d>0)then bif decide (0<=bE (d-1))&&decide (bE (d-1)<(o.length:az))then bif decide (bU (ar o (bE (d-1)).toNat 0)≥bU (ar o d.toNat 0))then k0 ak d e f h i j l m o p else bif !EK.v (bM (ar o d.toNat 1))then k0 ak d e f h i j l m o p else bif !jV.v (bU (ar o d.toNat (1+1+1+1))) 1 3 then k0 ak d e f h i j l m o p else bif !jV.v (bU (ar o d.toNat (1+1))) 0 (m.length:az)then k0 ak d e f h i j l m o p else bif decide (((bM (ar o d.toNat (1+1+1+1+1))).size:az)>400)then k0 ak d e f h i j l m o p else bif !jV.v (bU (ar o d.toNat (1+1+1))) 0 e then k0 ak d e f h i j l m o p else bif decide (bU (ar o d.toNat (1+1+1+1+1+1))<0)then k0 ak d e f h i j l m o p else g a (bE (d+1)) e f h i j l m o p else aj else bif !EK.v (bM (ar o d.toNat 1))then k0 ak d e f h i j l m o p else bif !jV.v (bU (ar o d.toNat (1+1+1+1))) 1 3 then k0 ak d e f h i j l m o p else bif !jV.v (bU (ar o d.toNat (1+1))) 0 (m.length:az)then k0 ak d e f h i j l m o p else bif decide (((bM (ar o d.toNat (1+1+1+1+1))).size:az)>400)then k0 ak d e f h i j l m o p else bif !jV.v (bU (ar o d.toNat (1+1+1))) 0 e then k0 ak d e f h i j l m o p else bif decide (bU (ar o d.toNat (1+1+1+1+1+1))<0)then k0 ak d e f h i j l m o p else g a (bE (d+1)) e f h i j l m o p else aj else k1 a d e f h i j l m o p
def l9(N:aE)(k0 k1:gn R):aE->gn R
 |0=>λ_ _ _ _ _ _ _ _ _ _ _=>aj
 |n+1=>r9 N (l9 N k0 k1 n) k0 k1
def r4(N:aE)(g k0 k1:gn R)(a:aW)(d e:az)(f h i j:aU)(l:az)(m o:aU)(p:az):aA R:=bif decide (d<(m.length:az))then bif nr.c e f h i j l m o p d then bif !nr.v e f h i j l m o p d then k0 ak d e f h i j l m o p else g a (bE (d+1)) e f h i j l m o p else aj else k1 a d e f h i j l m o p
def l4(N:aE)(k0 k1:gn R):aE->gn R
 |0=>λ_ _ _ _ _ _ _ _ _ _ _=>aj
 |n+1=>r4 N (l4 N k0 k1 n) k0 k1
def b(N:aE)(kr:aW->aA R)(a:az)(d e f h:aU)(i:az)(j l:aU)(m:az):aA R:=bif !jV.v a 1 1000000000 then kr ak else bif mC.c a d e f h i j l m then bif !mC.v a d e f h i j l m then kr ak else bif decide ((j.length:az)>20)then kr ak else bif decide ((l.length:az)>6)then kr ak else bif !jV.v m 0 1000000000 then kr ak else l4 N (λo _ _ _ _ _ _ _ _ _ _=>kr o) (λo _ p q r s t u w y z=>l9 N (λα _ _ _ _ _ _ _ _ _ _=>kr α) (λ_ _ _ _ _ _ _ _ _ _ _=>kr ai) N o 0 p q r s t u w y z) N ak 0 a d e f h i j l m else aj
def vo:=b Lib.cR λr0=>ah r0
def c:=λa d e f h i j l m=>(vo a d e f h i j l m).isSome
def v:=λa d e f h i j l m=>(vo a d e f h i j l m).getD ak
theorem out{x}:∀a d e f h i j l m,vo a d e f h i j l m=ah x->c a d e f h i j l m=ai/\v a d e f h i j l m=x:=λ_ _ _ _ _ _ _ _ _=>Lib.dj
end s8

namespace I_
def r2(N:aE)(g k0 k1:kR R)(a:aq)(d:aW)(e f:az)(h i j l:aU)(m:az)(o p:aU)(q:az)(r:aq)(s t:az)(u:aq):aA R:=bif decide (e<(h.length:az))then bif decide (0<=e)&&decide (e<(h.length:az))then bif c6 (bM (ar h e.toNat 0)).toList (aJ a)then bif decide (0<=e)&&decide (e<(h.length:az))then k0 a ai e f h i j l m o p q (bM (ar h e.toNat 0)) (bU (ar h e.toNat 1)) (bU (ar h e.toNat (1+1))) (bM (ar h e.toNat (1+1+1)))else aj else g a d (bE (e+1)) f h i j l m o p q r s t u else aj else k1 a d e f h i j l m o p q r s t u
def l2(N:aE)(k0 k1:kR R):aE->kR R
 |0=>λ_ _ _ _ _ _ _ _ _ _ _ _ _ _ _ _=>aj
 |n+1=>r2 N (l2 N k0 k1 n) k0 k1
def b(N:aE)(kr:yA R)(a:az)(d e f h:aU)(i:az)(j l:aU)(m:az)(o:aq):aA R:=l2 N (λ_ p _ _ _ _ _ _ _ _ _ _ q r s t=>kr q r s t p) (λ_ _ _ _ _ _ _ _ _ _ _ _ _ _ _ _=>kr ⟨#[]⟩ 0 0 ⟨#[]⟩ ak) N o ak 0 a d e f h i j l m ⟨#[]⟩ 0 0 ⟨#[]⟩
def vo:=b Lib.cR λr0 r1 r2 r3 r4=>ah (r0,r1,r2,r3,r4)
def c:=λa d e f h i j l m o=>(vo a d e f h i j l m o).isSome
def v:=λa d e f h i j l m o=>(vo a d e f h i j l m o).getD (⟨#[]⟩,0,0,⟨#[]⟩,ak)
theorem out{x}:∀a d e f h i j l m o,vo a d e f h i j l m o=ah x->c a d e f h i j l m o=ai/\v a d e f h i j l m o=x:=λ_ _ _ _ _ _ _ _ _ _=>Lib.dj
end I_

namespace Gx
def b(kr:aW->aA R)(a:aq)(d e:az)(f:aq)(h:az):aA R:=bif h_.v a d e f then bif jV.v h d 1000000000 then kr (decide (bE (h-d)<e))else kr ak else kr ak
def v(a0:aq)(a1 a2:az)(a3:aq)(a4:az):aW:=bif h_.v a0 a1 a2 a3 then bif jV.v a4 a1 1000000000 then decide (bE (a4-a1)<a2)else ak else ak
theorem gu(kr:aW->aA R)(a0:aq)(a1 a2:az)(a3:aq)(a4:az):b kr a0 a1 a2 a3 a4=kr (v a0 a1 a2 a3 a4):=by first|rfl|(unfold b v;simp only[dc];(repeat' split)<;>rfl)
end Gx

namespace iW
def r6(N:aE)(g k0:vP R)(a:az)(d:aq)(e f:az):aA R:=bif decide (f<8)then bif decide (bI a 2=1)then g (bC dQ (↑(dG (kP (bY 32 (bC dQ (cG a 2))) (bY 32 3558460437))):az)) d e (bE (f+1))else g (bC dQ (cG a 2)) d e (bE (f+1))else k0 a d e f
def l6(N:aE)(k0:vP R):aE->vP R
 |0=>λ_ _ _ _=>aj
 |n+1=>r6 N (l6 N k0 n) k0
def r2(N:aE)(g k0:zg R)(a:az)(d:aq)(e:az):aA R:=bif decide (e<(d.size:az))then bif decide (0<=e)&&decide (e<(d.size:az))then l6 N (λf h i _=>g f h (bE (i+1))) N (bC dQ (↑(dG (kP (bY 32 a) (bY 32 (bC dQ (↑(ig d e.toNat):az))))):az)) d e 0 else aj else k0 a d e
def l2(N:aE)(k0:zg R):aE->zg R
 |0=>λ_ _ _=>aj
 |n+1=>r2 N (l2 N k0 n) k0
def b(N:aE)(kr:az->aA R)(a:az)(d:aq):aA R:=l2 N (λe _ _=>kr e) N a d 0
def vo:=b Lib.cR λr0=>ah r0
def c:=λa d=>(vo a d).isSome
def v:=λa d=>(vo a d).getD (0)
theorem out{x}:∀a d,vo a d=ah x->c a d=ai/\v a d=x:=λ_ _=>Lib.dj
end iW

namespace tF
def b(kr:az->aA R)(a:aq):aA R:=bif iW.c 4294967295 a then kr (iW.v 4294967295 a)else aj
def vo:=b λr0=>ah r0
def c:=λa=>(vo a).isSome
def v:=λa=>(vo a).getD (0)
theorem out{x}:∀a,vo a=ah x->c a=ai/\v a=x:=λ_=>Lib.dj
end tF

namespace fU
def b(kr:az->aA R)(a:az)(d:aq):aA R:=bif decide (d.size+(bytesOf (aw (aN [Ck.i bc] 1) 0 [CV.i bc (bC bc a)])).size<=4611686018427387904)then bif tF.c (d++bytesOf (aw (aN [Ck.i bc] 1) 0 [CV.i bc (bC bc a)]))then kr (bE (bI (tF.v (d++bytesOf (aw (aN [Ck.i bc] 1) 0 [CV.i bc (bC bc a)]))) 16))else aj else aj
def vo:=b λr0=>ah r0
def c:=λa d=>(vo a d).isSome
def v:=λa d=>(vo a d).getD (0)
theorem out{x}:∀a d,vo a d=ah x->c a d=ai/\v a d=x:=λ_ _=>Lib.dj
end fU

namespace fG
def r17(N:aE)(g k0:m_ R)(a d e f:az)(h:aU):aA R:=bif decide (0<=a)&&decide (a<(h.length:az))then bif decide (d<((g9 (ar h a.toNat 0)).length:az))then bif decide (0<=a)&&decide (a<(h.length:az))then bif decide (0<=a)&&decide (a<(h.length:az))then bif decide (0<=d)&&decide (d<((g9 (ar h a.toNat 0)).length:az))then bif decide (0<=d)&&decide (d<((g9 (ar h a.toNat 0)).length:az))then g a (bE (d+1)) e f (eA h a.toNat 0 [CV.l 3 (eA (g9 (ar h a.toNat 0)) d.toNat 0 [.i .i64 (bE (cG (bU (ar (g9 (ar h a.toNat 0)) d.toNat 0)) 2))])])else aj else aj else aj else aj else k0 a d e f h else aj
def l17(N:aE)(k0:m_ R):aE->m_ R
 |0=>λ_ _ _ _ _=>aj
 |n+1=>r17 N (l17 N k0 n) k0
def r14(N:aE)(g k0:hZ R)(a d e:az)(f:aU):aA R:=bif decide (a<(f.length:az))then l17 N (λh _ i j l=>g (bE (h+1)) i j l) N a 0 d e f else k0 a d e f
def l14(N:aE)(k0:hZ R):aE->hZ R
 |0=>λ_ _ _ _=>aj
 |n+1=>r14 N (l14 N k0 n) k0
def r5(N:aE)(g k0:CS R)(a:aq)(d e f:az)(h:aU):aA R:=bif decide (d<(h.length:az))then bif fU.c d a then bif decide (0<=d)&&decide (d<(h.length:az))then bif decide (0<=fU.v d a)&&decide (fU.v d a<((g9 (ar h d.toNat 0)).length:az))then bif decide (bU (ar (g9 (ar h d.toNat 0)) (fU.v d a).toNat 0)<15)then bif decide (0<=d)&&decide (d<(h.length:az))then bif decide (0<=fU.v d a)&&decide (fU.v d a<((g9 (ar h d.toNat 0)).length:az))then bif decide (0<=fU.v d a)&&decide (fU.v d a<((g9 (ar h d.toNat 0)).length:az))then g a (bE (d+1)) e f (eA h d.toNat 0 [CV.l 3 (eA (g9 (ar h d.toNat 0)) (fU.v d a).toNat 0 [.i .i64 (bE (bU (ar (g9 (ar h d.toNat 0)) (fU.v d a).toNat 0)+1))])])else aj else aj else aj else g a (bE (d+1)) e f h else aj else aj else aj else k0 a d e f h
def l5(N:aE)(k0:CS R):aE->CS R
 |0=>λ_ _ _ _ _=>aj
 |n+1=>r5 N (l5 N k0 n) k0
def b(N:aE)(kr:qX R)(a:aU)(d:az)(e:aq):aA R:=bif lR.c a d then bif eW.c a d then bif !eW.v a d then kr (lR.v a d).1 (lR.v a d).2 else l5 N (λ_ _ f h i=>bif decide (bE (h+1)=64)then l14 N (λ_ _ j l=>kr l j) N 0 f 0 i else kr i (bE (h+1))) N e 0 0 (lR.v a d).2 (lR.v a d).1 else aj else aj
def vo:=b Lib.cR λr0 r1=>ah (r0,r1)
def c:=λa d e=>(vo a d e).isSome
def v:=λa d e=>(vo a d e).getD ([],0)
theorem out{x}:∀a d e,vo a d e=ah x->c a d e=ai/\v a d e=x:=λ_ _ _=>Lib.dj
end fG

namespace nL
def r3(N:aE)(g k0:vQ R)(a:aU)(d:aq)(e:az)(f:aU):aA R:=bif decide (e<(a.length:az))then bif decide (0<=e)&&decide (e<(a.length:az))then bif !List.beq (bM (ar a e.toNat 0)).toList (aJ d)then bif decide (0<=e)&&decide (e<(a.length:az))then bif cy (f.length+(aw (aN [.s] 1) 0 [.s (bM (ar a e.toNat 0))]).length) 16 then g a d (bE (e+1)) (f++aw (aN [.s] 1) 0 [.s (bM (ar a e.toNat 0))])else aj else aj else g a d (bE (e+1)) f else aj else k0 a d e f
def l3(N:aE)(k0:vQ R):aE->vQ R
 |0=>λ_ _ _ _=>aj
 |n+1=>r3 N (l3 N k0 n) k0
def b(N:aE)(kr:aU->aA R)(a:aU)(d:aq):aA R:=l3 N (λ_ _ _ e=>kr e) N a d 0 (aN [.s] 0)
def vo:=b Lib.cR λr0=>ah r0
def c:=λa d=>(vo a d).isSome
def v:=λa d=>(vo a d).getD ([])
theorem out{x}:∀a d,vo a d=ah x->c a d=ai/\v a d=x:=λ_ _=>Lib.dj
end nL

namespace mD
def r5(N:aE)(g k0:CT R)(a:aq)(d e:az)(f:aU)(h:az):aA R:=bif decide (e<(f.length:az))then bif decide (0<=e)&&decide (e<(f.length:az))then bif fU.c e a then bif decide (0<=fU.v e a)&&decide (fU.v e a<((g9 (ar f e.toNat 0)).length:az))then bif decide (bU (ar (g9 (ar f e.toNat 0)) (fU.v e a).toNat 0)<d)then g a (bU (ar (g9 (ar f e.toNat 0)) (fU.v e a).toNat 0)) (bE (e+1)) f h else g a d (bE (e+1)) f h else aj else aj else aj else k0 a d e f h
def l5(N:aE)(k0:CT R):aE->CT R
 |0=>λ_ _ _ _ _=>aj
 |n+1=>r5 N (l5 N k0 n) k0
def b(N:aE)(kr:az->aA R)(a:aU)(d:az)(e:aq):aA R:=bif eW.c a d then bif !eW.v a d then kr 0 else l5 N (λ_ f _ _ _=>kr f) N e 15 0 a d else aj
def vo:=b Lib.cR λr0=>ah r0
def c:=λa d e=>(vo a d e).isSome
def v:=λa d e=>(vo a d e).getD (0)
theorem out{x}:∀a d e,vo a d e=ah x->c a d e=ai/\v a d e=x:=λ_ _ _=>Lib.dj
end mD

namespace j7
def b(kr:Iz R)(a d e:aU)(f:az)(h:aq):aA R:=bif eR.c a d e f then bif iV.c a d e f then bif !iV.v a d e f then kr (eR.v a d e f).1 (eR.v a d e f).2.1 (eR.v a d e f).2.2.1 (eR.v a d e f).2.2.2 ⟨#[]⟩else bif !EK.v h then kr (eR.v a d e f).1 (eR.v a d e f).2.1 (eR.v a d e f).2.2.1 (eR.v a d e f).2.2.2 ⟨#[]⟩else bif fG.c e f h then bif eQ.c a h then bif eQ.v a h then bif nL.c a h then bif cy ((nL.v a h).length+(aw (aN [.s] 1) 0 [.s h]).length) 16 then kr (nL.v a h++aw (aN [.s] 1) 0 [.s h]) (eR.v a d e f).2.1 (fG.v e f h).1 (fG.v e f h).2 ⟨#[]⟩else aj else aj else bif eQ.c d h then bif eQ.v d h then bif nL.c d h then bif cy ((nL.v d h).length+(aw (aN [.s] 1) 0 [.s h]).length) 16 then kr (eR.v a d e f).1 (nL.v d h++aw (aN [.s] 1) 0 [.s h]) (fG.v e f h).1 (fG.v e f h).2 ⟨#[]⟩else aj else aj else bif cy ((eR.v a d e f).1.length+(aw (aN [.s] 1) 0 [.s h]).length) 16 then bif decide ((((eR.v a d e f).1++aw (aN [.s] 1) 0 [.s h]).length:az)<=2)then kr ((eR.v a d e f).1++aw (aN [.s] 1) 0 [.s h]) (eR.v a d e f).2.1 (fG.v e f h).1 (fG.v e f h).2 ⟨#[]⟩else bif decide (0<(((eR.v a d e f).1++aw (aN [.s] 1) 0 [.s h]).length:az))then bif iy 1 (((eR.v a d e f).1++aw (aN [.s] 1) 0 [.s h]).length:az) (((eR.v a d e f).1++aw (aN [.s] 1) 0 [.s h]).length:az)then bif cy ((aN [.s] 0).length+(dW ((eR.v a d e f).1++aw (aN [.s] 1) 0 [.s h]) (aX 1) (((eR.v a d e f).1++aw (aN [.s] 1) 0 [.s h]).length:az).toNat).length) 16 then bif decide (((eR.v a d e f).2.1.length:az)<4)then bif cy ((eR.v a d e f).2.1.length+(aw (aN [.s] 1) 0 [.s (bM (ar ((eR.v a d e f).1++aw (aN [.s] 1) 0 [.s h]) (aX 0) 0))]).length) 16 then kr (aN [.s] 0++dW ((eR.v a d e f).1++aw (aN [.s] 1) 0 [.s h]) (aX 1) (((eR.v a d e f).1++aw (aN [.s] 1) 0 [.s h]).length:az).toNat) ((eR.v a d e f).2.1++aw (aN [.s] 1) 0 [.s (bM (ar ((eR.v a d e f).1++aw (aN [.s] 1) 0 [.s h]) (aX 0) 0))]) (fG.v e f h).1 (fG.v e f h).2 ⟨#[]⟩else aj else bif mD.c (fG.v e f h).1 (fG.v e f h).2 (bM (ar ((eR.v a d e f).1++aw (aN [.s] 1) 0 [.s h]) (aX 0) 0))then bif decide (0<((eR.v a d e f).2.1.length:az))then bif mD.c (fG.v e f h).1 (fG.v e f h).2 (bM (ar (eR.v a d e f).2.1 (aX 0) 0))then bif decide (mD.v (fG.v e f h).1 (fG.v e f h).2 (bM (ar ((eR.v a d e f).1++aw (aN [.s] 1) 0 [.s h]) (aX 0) 0))>mD.v (fG.v e f h).1 (fG.v e f h).2 (bM (ar (eR.v a d e f).2.1 (aX 0) 0)))then bif decide (0<((eR.v a d e f).2.1.length:az))then bif iy 1 ((eR.v a d e f).2.1.length:az) ((eR.v a d e f).2.1.length:az)then bif cy ((aN [.s] 0).length+(dW (eR.v a d e f).2.1 (aX 1) ((eR.v a d e f).2.1.length:az).toNat).length) 16 then bif cy ((aN [.s] 0++dW (eR.v a d e f).2.1 (aX 1) ((eR.v a d e f).2.1.length:az).toNat).length+(aw (aN [.s] 1) 0 [.s (bM (ar ((eR.v a d e f).1++aw (aN [.s] 1) 0 [.s h]) (aX 0) 0))]).length) 16 then kr (aN [.s] 0++dW ((eR.v a d e f).1++aw (aN [.s] 1) 0 [.s h]) (aX 1) (((eR.v a d e f).1++aw (aN [.s] 1) 0 [.s h]).length:az).toNat) (aN [.s] 0++dW (eR.v a d e f).2.1 (aX 1) ((eR.v a d e f).2.1.length:az).toNat++aw (aN [.s] 1) 0 [.s (bM (ar ((eR.v a d e f).1++aw (aN [.s] 1) 0 [.s h]) (aX 0) 0))]) (fG.v e f h).1 (fG.v e f h).2 (bM (ar (eR.v a d e f).2.1 (aX 0) 0))else aj else aj else aj else aj else kr (aN [.s] 0++dW ((eR.v a d e f).1++aw (aN [.s] 1) 0 [.s h]) (aX 1) (((eR.v a d e f).1++aw (aN [.s] 1) 0 [.s h]).length:az).toNat) (eR.v a d e f).2.1 (fG.v e f h).1 (fG.v e f h).2 (bM (ar ((eR.v a d e f).1++aw (aN [.s] 1) 0 [.s h]) (aX 0) 0))else aj else aj else aj else aj else aj else aj else aj else aj else aj else aj else aj else aj
def vo:=b λr0 r1 r2 r3 r4=>ah (r0,r1,r2,r3,r4)
def c:=λa d e f h=>(vo a d e f h).isSome
def v:=λa d e f h=>(vo a d e f h).getD ([],[],[],0,⟨#[]⟩)
theorem out{x}:∀a d e f h,vo a d e f h=ah x->c a d e f h=ai/\v a d e f h=x:=λ_ _ _ _ _=>Lib.dj
end j7

namespace s9
def r9(N:aE)(g k0:jP R)(a:aU)(d e:az)(f:aq)(h i j:az)(l:aq)(m:az)(o:aU):aA R:=bif decide (d<(a.length:az))then bif decide (0<=d)&&decide (d<(a.length:az))then bif decide (bU (ar a d.toNat 0)>e)then bif decide (0<=d)&&decide (d<(a.length:az))then bif cy (o.length+(aw (aN [Ck.i ao,Ck.s,Ck.i ao,Ck.i ao,Ck.i ao,Ck.s,Ck.i ao] 1) 0 [.i .i64 (bU (ar a d.toNat 0)), .s (bM (ar a d.toNat 1)), .i .i64 (bU (ar a d.toNat (1+1))), .i .i64 (bU (ar a d.toNat (1+1+1))), .i .i64 (bU (ar a d.toNat (1+1+1+1))), .s (bM (ar a d.toNat (1+1+1+1+1))), .i .i64 (bU (ar a d.toNat (1+1+1+1+1+1)))]).length) 72 then g a (bE (d+1)) e f h i j l m (o++aw (aN [Ck.i ao,Ck.s,Ck.i ao,Ck.i ao,Ck.i ao,Ck.s,Ck.i ao] 1) 0 [.i .i64 (bU (ar a d.toNat 0)), .s (bM (ar a d.toNat 1)), .i .i64 (bU (ar a d.toNat (1+1))), .i .i64 (bU (ar a d.toNat (1+1+1))), .i .i64 (bU (ar a d.toNat (1+1+1+1))), .s (bM (ar a d.toNat (1+1+1+1+1))), .i .i64 (bU (ar a d.toNat (1+1+1+1+1+1)))])else aj else aj else g a (bE (d+1)) e f h i j l m o else aj else k0 a d e f h i j l m o
def l9(N:aE)(k0:jP R):aE->jP R
 |0=>λ_ _ _ _ _ _ _ _ _ _=>aj
 |n+1=>r9 N (l9 N k0 n) k0
def r3(N:aE)(g k0:jP R)(a:aU)(d e:az)(f:aq)(h i j:az)(l:aq)(m:az)(o:aU):aA R:=bif decide (d<(a.length:az))then bif decide (0<=d)&&decide (d<(a.length:az))then bif decide (bU (ar a d.toNat 0)<e)then bif decide (0<=d)&&decide (d<(a.length:az))then bif cy (o.length+(aw (aN [Ck.i ao,Ck.s,Ck.i ao,Ck.i ao,Ck.i ao,Ck.s,Ck.i ao] 1) 0 [.i .i64 (bU (ar a d.toNat 0)), .s (bM (ar a d.toNat 1)), .i .i64 (bU (ar a d.toNat (1+1))), .i .i64 (bU (ar a d.toNat (1+1+1))), .i .i64 (bU (ar a d.toNat (1+1+1+1))), .s (bM (ar a d.toNat (1+1+1+1+1))), .i .i64 (bU (ar a d.toNat (1+1+1+1+1+1)))]).length) 72 then g a (bE (d+1)) e f h i j l m (o++aw (aN [Ck.i ao,Ck.s,Ck.i ao,Ck.i ao,Ck.i ao,Ck.s,Ck.i ao] 1) 0 [.i .i64 (bU (ar a d.toNat 0)), .s (bM (ar a d.toNat 1)), .i .i64 (bU (ar a d.toNat (1+1))), .i .i64 (bU (ar a d.toNat (1+1+1))), .i .i64 (bU (ar a d.toNat (1+1+1+1))), .s (bM (ar a d.toNat (1+1+1+1+1))), .i .i64 (bU (ar a d.toNat (1+1+1+1+1+1)))])else aj else aj else g a (bE (d+1)) e f h i j l m o else aj else k0 a d e f h i j l m o
def l3(N:aE)(k0:jP R):aE->jP R
 |0=>λ_ _ _ _ _ _ _ _ _ _=>aj
 |n+1=>r3 N (l3 N k0 n) k0
def b(N:aE)(kr:aU->aA R)(a:aU)(d:az)(e:aq)(f h i:az)(j:aq)(l:az):aA R:=l3 N (λm _ o p q r s t u w=>bif cy (w.length+(aw (aN [Ck.i ao,Ck.s,Ck.i ao,Ck.i ao,Ck.i ao,Ck.s,Ck.i ao] 1) 0 [.i .i64 o, .s p, .i .i64 q, .i .i64 r, .i .i64 s, .s t, .i .i64 u]).length) 72 then l9 N (λ_ _ _ _ _ _ _ _ _ y=>kr y) N m 0 o p q r s t u (w++aw (aN [Ck.i ao,Ck.s,Ck.i ao,Ck.i ao,Ck.i ao,Ck.s,Ck.i ao] 1) 0 [.i .i64 o, .s p, .i .i64 q, .i .i64 r, .i .i64 s, .s t, .i .i64 u])else aj) N a 0 d e f h i j l (aN [Ck.i ao,Ck.s,Ck.i ao,Ck.i ao,Ck.i ao,Ck.s,Ck.i ao] 0)
def vo:=b Lib.cR λr0=>ah r0
def c:=λa d e f h i j l=>(vo a d e f h i j l).isSome
def v:=λa d e f h i j l=>(vo a d e f h i j l).getD ([])
theorem out{x}:∀a d e f h i j l,vo a d e f h i j l=ah x->c a d e f h i j l=ai/\v a d e f h i j l=x:=λ_ _ _ _ _ _ _ _=>Lib.dj
end s9

namespace Bm
def r3(N:aE)(g k0:vQ R)(a:aU)(d:aq)(e:az)(f:aU):aA R:=bif decide (e<(a.length:az))then bif decide (0<=e)&&decide (e<(a.length:az))then bif !List.beq (bM (ar a e.toNat 0)).toList (aJ d)then bif decide (0<=e)&&decide (e<(a.length:az))then bif cy (f.length+(aw (aN [Ck.s,Ck.i ao,Ck.i ao,Ck.s] 1) 0 [.s (bM (ar a e.toNat 0)), .i .i64 (bU (ar a e.toNat 1)), .i .i64 (bU (ar a e.toNat (1+1))), .s (bM (ar a e.toNat (1+1+1)))]).length) 48 then g a d (bE (e+1)) (f++aw (aN [Ck.s,Ck.i ao,Ck.i ao,Ck.s] 1) 0 [.s (bM (ar a e.toNat 0)), .i .i64 (bU (ar a e.toNat 1)), .i .i64 (bU (ar a e.toNat (1+1))), .s (bM (ar a e.toNat (1+1+1)))])else aj else aj else g a d (bE (e+1)) f else aj else k0 a d e f
def l3(N:aE)(k0:vQ R):aE->vQ R
 |0=>λ_ _ _ _=>aj
 |n+1=>r3 N (l3 N k0 n) k0
def b(N:aE)(kr:aU->aA R)(a:aU)(d:aq):aA R:=l3 N (λ_ _ _ e=>kr e) N a d 0 (aN [Ck.s,Ck.i ao,Ck.i ao,Ck.s] 0)
def vo:=b Lib.cR λr0=>ah r0
def c:=λa d=>(vo a d).isSome
def v:=λa d=>(vo a d).getD ([])
theorem out{x}:∀a d,vo a d=ah x->c a d=ai/\v a d=x:=λ_ _=>Lib.dj
end Bm

namespace Gy
def b(kr:qY R)(a d e:aU)(f:az)(h:aq):aA R:=bif nL.c a h then bif nL.c d h then bif lR.c e f then kr (nL.v a h) (nL.v d h) (lR.v e f).1 (lR.v e f).2 else aj else aj else aj
def vo:=b λr0 r1 r2 r3=>ah (r0,r1,r2,r3)
def c:=λa d e f h=>(vo a d e f h).isSome
def v:=λa d e f h=>(vo a d e f h).getD ([],[],[],0)
theorem out{x}:∀a d e f h,vo a d e f h=ah x->c a d e f h=ai/\v a d e f h=x:=λ_ _ _ _ _=>Lib.dj
end Gy

namespace U9
def r22(N:aE)(g k0:fw R)(a:aq)(d:aW)(e f:az)(h i j l:aU)(m:az)(o p:aU)(q r s t u w y z:az)(α:aq)(xa xb xc:az)(xd:aq)(xe:az)(xf xg xh xi xj xk:aU):aA R:=bif decide (e<(o.length:az))then bif decide (0<=e)&&decide (e<(o.length:az))then bif c6 (bM (ar o e.toNat 0)).toList (aJ a)then bif decide (0<=e)&&decide (e<(o.length:az))then bif decide (bU (ar o e.toNat 2)=1)then bif decide (0<=e)&&decide (e<(o.length:az))then g a d (bE (e+1)) f h i j l m o p q r s t u w y z α (bE (e+1)) xb xc (bM (ar o e.toNat 1)) xe xf xg xh xi xj xk else aj else g a d (bE (e+1)) f h i j l m o p q r s t u w y z α xa xb xc xd xe xf xg xh xi xj xk else aj else g a d (bE (e+1)) f h i j l m o p q r s t u w y z α xa xb xc xd xe xf xg xh xi xj xk else aj else k0 a d e f h i j l m o p q r s t u w y z α xa xb xc xd xe xf xg xh xi xj xk
def TE(N:aE)(k0:fw R):aE->fw R
 |0=>λ_ _ _ _ _ _ _ _ _ _ _ _ _ _ _ _ _ _ _ _ _ _ _ _ _ _ _ _ _ _ _=>aj
 |n+1=>r22 N (TE N k0 n) k0
def r5(N:aE)(g k0 k1:gQ R)(a:az)(d:aq)(e f h:az)(i j l m:aU)(o:az)(p q:aU)(r s t u w y z:az)(α xa xb xc xd xe:aU):aA R:=bif decide (f<(q.length:az))then bif decide (0<=f)&&decide (f<(q.length:az))then bif decide (bU (ar q f.toNat 0)=a)then k0 a d 1 f h i j l m o p q r w y z w y z α xa xb xc xd xe else g a d e (bE (f+1)) h i j l m o p q r s t u w y z α xa xb xc xd xe else aj else k1 a d e f h i j l m o p q r s t u w y z α xa xb xc xd xe
def l5(N:aE)(k0 k1:gQ R):aE->gQ R
 |0=>λ_ _ _ _ _ _ _ _ _ _ _ _ _ _ _ _ _ _ _ _ _ _ _ _ _=>aj
 |n+1=>r5 N (l5 N k0 k1 n) k0 k1
def b(N:aE)(kr:na R)(a:az)(d e f h:aU)(i:az)(j l:aU)(m o:az)(p:aq):aA R:=bif jM.c a d e f h i j l m then Lib.lt (jM.v a d e f h i j l m) λq=>bif s8.c a d e f h i j l m then Lib.lt (s8.v a d e f h i j l m) λr=>bif !r then kr q.1 q.2.1 q.2.2.1 q.2.2.2.1 q.2.2.2.2.1 q.2.2.2.2.2.1 q.2.2.2.2.2.2.1 q.2.2.2.2.2.2.2.1 q.2.2.2.2.2.2.2.2 1 else bif !jV.v o 1 9 then kr q.1 q.2.1 q.2.2.1 q.2.2.2.1 q.2.2.2.2.1 q.2.2.2.2.2.1 q.2.2.2.2.2.2.1 q.2.2.2.2.2.2.2.1 q.2.2.2.2.2.2.2.2 1 else bif !EK.v p then kr q.1 q.2.1 q.2.2.1 q.2.2.2.1 q.2.2.2.2.1 q.2.2.2.2.2.1 q.2.2.2.2.2.2.1 q.2.2.2.2.2.2.2.1 q.2.2.2.2.2.2.2.2 1 else bif decide ((l.length:az)≥6)then kr q.1 q.2.1 q.2.2.1 q.2.2.2.1 q.2.2.2.2.1 q.2.2.2.2.2.1 q.2.2.2.2.2.2.1 q.2.2.2.2.2.2.2.1 q.2.2.2.2.2.2.2.2 1 else l5 N (λ_ _ s _ _ _ _ _ _ _ _ _ _ t u w _ _ _ y z α xa xb xc=>kr t y z α xa u xb xc w s) (λs t _ _ u w y z α xa xb xc xd xe xf xg xh xi xj xk xl xm xn xo xp=>bif I_.c u w y z α xa xb xc xd t then Lib.lt (I_.v u w y z α xa xb xc xd t) λxq=>bif xq.2.2.2.2 then bif Gx.v xq.1 xq.2.1 xq.2.2.1 xq.2.2.2.1 u then bif j7.c y z α xa t then Lib.lt (j7.v y z α xa t) λxr=>bif decide (xj<1000000000)then bif s9.c xp s t 0 xq.2.1 2 xq.2.2.2.1 (bE (u-xq.2.1))then Lib.lt (s9.v xp s t 0 xq.2.1 2 xq.2.2.2.1 (bE (u-xq.2.1))) λxs=>kr xh xk xr.1 xr.2.1 xr.2.2.1 xr.2.2.2.1 xo xs (bE (xj+1)) 0 else aj else bif s9.c xp s t 0 xq.2.1 2 xq.2.2.2.1 (bE (u-xq.2.1))then Lib.lt (s9.v xp s t 0 xq.2.1 2 xq.2.2.2.1 (bE (u-xq.2.1))) λxs=>kr xh xk xr.1 xr.2.1 xr.2.2.1 xr.2.2.2.1 xo xs xj 0 else aj else aj else TE N (λxr xs _ _ _ _ _ _ _ xt _ _ _ _ _ xu xv xw xx xy xz ya yb yc yd ye yf yg yh yi yj=>bif decide (xz=0)then bif decide ((xt.length:az)≥20)then kr xu ye yf yg yh xv yi yj xw 2 else bif cy (yi.length+(aw (aN [Ck.s,Ck.s,Ck.i ao,Ck.i ao,Ck.i ao] 1) 0 [.s xr, .s ⟨#[]⟩, .i .i64 1, .i .i64 0, .i .i64 0]).length) 56 then bif xs then bif Bm.c ye xr then Lib.lt (Bm.v ye xr) λyk=>bif Gy.c yf yg yh xv xr then Lib.lt (Gy.v yf yg yh xv xr) λyl=>bif fG.c yl.2.2.1 yl.2.2.2 xr then Lib.lt (fG.v yl.2.2.1 yl.2.2.2 xr) λym=>bif s9.c yj xx xy ((yi++aw (aN [Ck.s,Ck.s,Ck.i ao,Ck.i ao,Ck.i ao] 1) 0 [.s xr, .s ⟨#[]⟩, .i .i64 1, .i .i64 0, .i .i64 0]).length:az) ya yb yc yd then Lib.lt (s9.v yj xx xy ((yi++aw (aN [Ck.s,Ck.s,Ck.i ao,Ck.i ao,Ck.i ao] 1) 0 [.s xr, .s ⟨#[]⟩, .i .i64 1, .i .i64 0, .i .i64 0]).length:az) ya yb yc yd) λyn=>kr xu yk yl.1 yl.2.1 ym.1 ym.2 (yi++aw (aN [Ck.s,Ck.s,Ck.i ao,Ck.i ao,Ck.i ao] 1) 0 [.s xr, .s ⟨#[]⟩, .i .i64 1, .i .i64 0, .i .i64 0]) yn xw 0 else aj else aj else aj else aj else bif fG.c yh xv xr then Lib.lt (fG.v yh xv xr) λyk=>bif s9.c yj xx xy ((yi++aw (aN [Ck.s,Ck.s,Ck.i ao,Ck.i ao,Ck.i ao] 1) 0 [.s xr, .s ⟨#[]⟩, .i .i64 1, .i .i64 0, .i .i64 0]).length:az) ya yb yc yd then Lib.lt (s9.v yj xx xy ((yi++aw (aN [Ck.s,Ck.s,Ck.i ao,Ck.i ao,Ck.i ao] 1) 0 [.s xr, .s ⟨#[]⟩, .i .i64 1, .i .i64 0, .i .i64 0]).length:az) ya yb yc yd) λyl=>kr xu ye yf yg yk.1 yk.2 (yi++aw (aN [Ck.s,Ck.s,Ck.i ao,Ck.i ao,Ck.i ao] 1) 0 [.s xr, .s ⟨#[]⟩, .i .i64 1, .i .i64 0, .i .i64 0]) yl xw 0 else aj else aj else aj else bif xs then bif Bm.c ye xr then Lib.lt (Bm.v ye xr) λyk=>bif Gy.c yf yg yh xv xr then Lib.lt (Gy.v yf yg yh xv xr) λyl=>bif fG.c yl.2.2.1 yl.2.2.2 xr then Lib.lt (fG.v yl.2.2.1 yl.2.2.2 xr) λym=>bif s9.c yj xx xy xz ya yb yc yd then Lib.lt (s9.v yj xx xy xz ya yb yc yd) λyn=>kr xu yk yl.1 yl.2.1 ym.1 ym.2 yi yn xw 0 else aj else aj else aj else aj else bif fG.c yh xv xr then Lib.lt (fG.v yh xv xr) λyk=>bif s9.c yj xx xy xz ya yb yc yd then Lib.lt (s9.v yj xx xy xz ya yb yc yd) λyl=>kr xu ye yf yg yk.1 yk.2 yi yl xw 0 else aj else aj) N t xq.2.2.2.2 0 u w y z α xa xb xc xd xe xf xg xh xi xj s t 0 0 1 ⟨#[]⟩ 0 xk xl xm xn xo xp else TE N (λxr xs _ _ _ _ _ _ _ xt _ _ _ _ _ xu xv xw xx xy xz ya yb yc yd ye yf yg yh yi yj=>bif decide (xz=0)then bif decide ((xt.length:az)≥20)then kr xu ye yf yg yh xv yi yj xw 2 else bif cy (yi.length+(aw (aN [Ck.s,Ck.s,Ck.i ao,Ck.i ao,Ck.i ao] 1) 0 [.s xr, .s ⟨#[]⟩, .i .i64 1, .i .i64 0, .i .i64 0]).length) 56 then bif xs then bif Bm.c ye xr then Lib.lt (Bm.v ye xr) λyk=>bif Gy.c yf yg yh xv xr then Lib.lt (Gy.v yf yg yh xv xr) λyl=>bif fG.c yl.2.2.1 yl.2.2.2 xr then Lib.lt (fG.v yl.2.2.1 yl.2.2.2 xr) λym=>bif s9.c yj xx xy ((yi++aw (aN [Ck.s,Ck.s,Ck.i ao,Ck.i ao,Ck.i ao] 1) 0 [.s xr, .s ⟨#[]⟩, .i .i64 1, .i .i64 0, .i .i64 0]).length:az) ya yb yc yd then Lib.lt (s9.v yj xx xy ((yi++aw (aN [Ck.s,Ck.s,Ck.i ao,Ck.i ao,Ck.i ao] 1) 0 [.s xr, .s ⟨#[]⟩, .i .i64 1, .i .i64 0, .i .i64 0]).length:az) ya yb yc yd) λyn=>kr xu yk yl.1 yl.2.1 ym.1 ym.2 (yi++aw (aN [Ck.s,Ck.s,Ck.i ao,Ck.i ao,Ck.i ao] 1) 0 [.s xr, .s ⟨#[]⟩, .i .i64 1, .i .i64 0, .i .i64 0]) yn xw 0 else aj else aj else aj else aj else bif fG.c yh xv xr then Lib.lt (fG.v yh xv xr) λyk=>bif s9.c yj xx xy ((yi++aw (aN [Ck.s,Ck.s,Ck.i ao,Ck.i ao,Ck.i ao] 1) 0 [.s xr, .s ⟨#[]⟩, .i .i64 1, .i .i64 0, .i .i64 0]).length:az) ya yb yc yd then Lib.lt (s9.v yj xx xy ((yi++aw (aN [Ck.s,Ck.s,Ck.i ao,Ck.i ao,Ck.i ao] 1) 0 [.s xr, .s ⟨#[]⟩, .i .i64 1, .i .i64 0, .i .i64 0]).length:az) ya yb yc yd) λyl=>kr xu ye yf yg yk.1 yk.2 (yi++aw (aN [Ck.s,Ck.s,Ck.i ao,Ck.i ao,Ck.i ao] 1) 0 [.s xr, .s ⟨#[]⟩, .i .i64 1, .i .i64 0, .i .i64 0]) yl xw 0 else aj else aj else aj else bif xs then bif Bm.c ye xr then Lib.lt (Bm.v ye xr) λyk=>bif Gy.c yf yg yh xv xr then Lib.lt (Gy.v yf yg yh xv xr) λyl=>bif fG.c yl.2.2.1 yl.2.2.2 xr then Lib.lt (fG.v yl.2.2.1 yl.2.2.2 xr) λym=>bif s9.c yj xx xy xz ya yb yc yd then Lib.lt (s9.v yj xx xy xz ya yb yc yd) λyn=>kr xu yk yl.1 yl.2.1 ym.1 ym.2 yi yn xw 0 else aj else aj else aj else aj else bif fG.c yh xv xr then Lib.lt (fG.v yh xv xr) λyk=>bif s9.c yj xx xy xz ya yb yc yd then Lib.lt (s9.v yj xx xy xz ya yb yc yd) λyl=>kr xu ye yf yg yk.1 yk.2 yi yl xw 0 else aj else aj) N t xq.2.2.2.2 0 u w y z α xa xb xc xd xe xf xg xh xi xj s t 0 0 1 ⟨#[]⟩ 0 xk xl xm xn xo xp else aj) N o p 0 0 a d e f h i j l m 0 0 0 q.1 q.2.2.2.2.2.1 q.2.2.2.2.2.2.2.2 q.2.1 q.2.2.1 q.2.2.2.1 q.2.2.2.2.1 q.2.2.2.2.2.2.1 q.2.2.2.2.2.2.2.1 else aj else aj
def vo:=b Lib.cR λr0 r1 r2 r3 r4 r5 r6 r7 r8 r9=>ah (r0,r1,r2,r3,r4,r5,r6,r7,r8,r9)
def c:=λa d e f h i j l m o p=>(vo a d e f h i j l m o p).isSome
def v:=λa d e f h i j l m o p=>(vo a d e f h i j l m o p).getD (0,[],[],[],[],0,[],[],0,0)
theorem out{x}:∀a d e f h i j l m o p,vo a d e f h i j l m o p=ah x->c a d e f h i j l m o p=ai/\v a d e f h i j l m o p=x:=λ_ _ _ _ _ _ _ _ _ _ _=>Lib.dj
end U9

namespace sR
def b(kr:aW->aA R)(a:az)(d e f h:aU)(i:az)(j l:aU)(m o:az):aA R:=bif s8.c a d e f h i j l m then bif s8.v a d e f h i j l m then bif jV.v o 0 (bE ((j.length:az)-1))then bif decide (0<=o)&&decide (o<(j.length:az))then kr (decide (bU (ar j o.toNat 2)=1))else aj else kr ak else kr ak else aj
def vo:=b λr0=>ah r0
def c:=λa d e f h i j l m o=>(vo a d e f h i j l m o).isSome
def v:=λa d e f h i j l m o=>(vo a d e f h i j l m o).getD ak
theorem out{x}:∀a d e f h i j l m o,vo a d e f h i j l m o=ah x->c a d e f h i j l m o=ai/\v a d e f h i j l m o=x:=λ_ _ _ _ _ _ _ _ _ _=>Lib.dj
end sR

namespace G1
def b(kr:BO R)(a:az)(d:aq)(e:aU):aA R:=bif cy ((aN [Ck.i ao,Ck.i ao] 0).length+e.length) 16 then kr a d (aN [Ck.i ao,Ck.i ao] 0++e)else aj
def v(iG:az)(gz:aq)(eE:aU):az×aq×aU:=(iG,gz,eE)
def c(iG:az)(gz:aq)(eE:aU):aW:=decide (eE.length<=4294967296)
theorem gu(kr:BO R)(iG:az)(gz:aq)(eE:aU)(hc:c iG gz eE=ai):b kr iG gz eE=kr (v iG gz eE).1 (v iG gz eE).2.1 (v iG gz eE).2.2:=by have h:eE.length<=4294967296:=cg hc;unfold b;rw[show bT (aN [Ck.i ao,Ck.i ao] 0)+eE.length=eE.length by simp[aN],Lib.cF (by omega) (by omega)];rfl
end G1

namespace qO
def r2(N:aE)(g k0 k1:CP R)(a:aW)(d e:az)(f:aq)(h:aU):aA R:=bif decide (d<(h.length:az))then bif decide (0<=d)&&decide (d<(h.length:az))then bif !jV.v (bU (ar h d.toNat 0)) 1 9 then k0 ak d e f h else bif decide (d>0)then bif decide (0<=bE (d-1))&&decide (bE (d-1)<(h.length:az))then bif decide (bU (ar h (bE (d-1)).toNat 0)≥bU (ar h d.toNat 0))then k0 ak d e f h else bif !jV.v (bU (ar h d.toNat 1)) 0 (f.size:az)then k0 ak d e f h else g a (bE (d+1)) e f h else aj else bif !jV.v (bU (ar h d.toNat 1)) 0 (f.size:az)then k0 ak d e f h else g a (bE (d+1)) e f h else aj else k1 a d e f h
def l2(N:aE)(k0 k1:CP R):aE->CP R
 |0=>λ_ _ _ _ _=>aj
 |n+1=>r2 N (l2 N k0 k1 n) k0 k1
def b(N:aE)(kr:aW->aA R)(a:az)(d:aq)(e:aU):aA R:=l2 N (λf _ _ _ _=>kr f) (λ_ _ f h i=>bif jV.v f 1 3 then bif decide ((h.size:az)<=400)then kr (decide ((i.length:az)<=6))else kr ak else kr ak) N ak 0 a d e
def el(t:aq)(rs:aU)(i:aE):aW:=decide (1<=bU (ar rs i 0)/\bU (ar rs i 0)<=9)&&(decide (0<=bU (ar rs i 1)/\bU (ar rs i 1)<=t.size)&&(i==0||decide (bU (ar rs (i-1) 0)<bU (ar rs i 0))))
def rest(st:az)(t:aq)(rs:aU):aW:=decide (1<=st/\st<=3)&&(decide (t.size<=400)&&decide (rs.length<=6))
def v(iG:az)(gz:aq)(eE:aU):aW:=(cz eE.length).all (el gz eE)&&rest iG gz eE
theorem mM(n a b:az):jV.v n a b=decide (a<=n/\n<=b):=by unfold jV.v;by_cases h:a<=n<;>by_cases h2:n<=b<;>simp[h,h2]
theorem UM(st:az)(t:aq)(rs:aU){R:Type}(kr:aW->aA R):(bif jV.v st 1 3 then bif decide ((t.size:az)<=400)then kr (decide ((rs.length:az)<=6))else kr ak else kr ak)=kr (rest st t rs):=by
 unfold rest;rw[mM];have e1:decide ((t.size:az)<=400)=decide (t.size<=400):=by rw[b9];omega
 have e2:decide ((rs.length:az)<=6)=decide (rs.length<=6):=by rw[b9];omega
 rw[e1,e2];cases decide (1<=st/\st<=3)<;>cases decide (t.size<=400)<;>rfl
theorem CJ{i:aE}(h:0<i)(hn:i<=9223372036854775807):bE ((i:az)-1)=((i-1:aE):az):=by rw[jL (by omega) (by omega)];omega
theorem NI(p:aE->aW){i n:aE}(h:i<n):(mv i (n-i)).all p=(p i&&(mv (i+1) (n-(i+1))).all p):=by rw[show n-i=(n-(i+1))+1 by omega,List.range'_succ,rh]
theorem gu(kr:aW->aA R)(iG:az)(gz:aq)(eE:aU)(f0:HU gz)(f1:vS eE):∃N,b N kr iG gz eE=kr (v iG gz eE):=by
 refine⟨eE.length+1, ?_⟩
 unfold b;simp only[UM]
 have:=Lib.gv (λn (i:aE)=>l2 (eE.length+1) (λy5 y6 y7 y8 y9=>kr y5) (λMc xN Q1 Gs Yk=>kr (rest Q1 Gs Yk)) n ak i iG gz eE) (λi=>eE.length-i) (λi=>i<=eE.length)
  (λi=>kr ((mv i (eE.length-i)).all (el gz eE)&&rest iG gz eE)) (λn i hi=>by
  simp only[l2,r2,Lib.dE,Lib.cT,Lib.eD,bG,mM]
  by_cases h:i<eE.length
  ·rw[NI _ h];simp only[h,aR,ay,Lib.dm h f1.1];cases h1:decide (1<=bU (ar eE i 0)/\bU (ar eE i 0)<=9)with
   |false=>left;simp[el,h1]
   |true=>
    simp only[a9,aC];by_cases hz:0<i
    ·have e0:decide ((i:az)>0)=true:=by simp;omega
     have hp:i-1<eE.length:=by omega
     have hi0:(i==0)=false:=by simp;omega
     simp only[e0,ay,CJ hz (by have:=f1.1;omega),Lib.cT,Lib.dE,Lib.eD,hp,aR,aM];cases h2:decide (bU (ar eE (i-1) 0)≥bU (ar eE i 0))with
     |true=>
      left;have e3:decide (bU (ar eE (i-1) 0)<bU (ar eE i 0))=false:=by simp at h2⊢;omega
      simp[el,e3,hi0]
     |false=>
      have e3:decide (bU (ar eE (i-1) 0)<bU (ar eE i 0))=true:=by simp at h2⊢;omega
      cases h3:decide (0<=bU (ar eE i 1)/\bU (ar eE i 1)<=gz.size)with
      |false=>left;simp[el,h3]
      |true=>right;exact⟨i+1,h,by omega,by simp only[el,h1,h3,e3,Bool.or_true,bG],rfl⟩
    ·have hz:i=0:=by omega
     subst hz;simp only[show decide (((0:aE):az)>0)=ak from rfl,aC];cases h3:decide (0<=bU (ar eE 0 1)/\bU (ar eE 0 1)<=gz.size)with
     |false=>left;simp[el,h3]
     |true=>right;exact⟨1,h,by omega,by simp only[el,h1,h3,bG];rfl,rfl⟩
  ·left;have h0:eE.length-i=0:=by omega
   simp only[h,bg,aC,h0,List.range'_zero,List.all_nil,bG]) (eE.length+1) 0 (by omega) (by omega)
 refine this.trans ?_;unfold v;rw[Nat.sub_zero,<-List.range_eq_range']
end qO

namespace Dh
def b(kr:GO R)(a:az)(d:aq)(e:aU)(f:aq):aA R:=bif G1.c a d e then bif !qO.v a d e then kr a d e ak else bif a !=1 then kr a d e ak else bif !jV.v (f.size:az) 1 40 then kr a d e ak else bif decide (bE ((d.size:az)+(f.size:az))>400)then kr a d e ak else bif decide (d.size+f.size<=4611686018427387904)then kr a (d++f) e ai else aj else aj
def v(iG:az)(gz:aq)(eE:aU)(iZ:aq):az×aq×aU×aW:=
 if qO.v iG gz eE=ai/\iG=1/\1<=iZ.size/\iZ.size<=40/\gz.size+iZ.size<=400 then(iG,gz++iZ,eE,ai)else(iG,gz,eE,ak)
def c(iG:az)(gz:aq)(eE:aU)(iZ:aq):aW:=decide (eE.length<=4294967296)
theorem gu(kr:GO R)(iG:az)(gz:aq)(eE:aU)(iZ:aq)(hc:c iG gz eE iZ=ai)(f0:HU gz)(f1:vS eE)(f2:HU iZ):b kr iG gz eE iZ=kr (v iG gz eE iZ).1 (v iG gz eE iZ).2.1 (v iG gz eE iZ).2.2.1 (v iG gz eE iZ).2.2.2:=by
 have hs1:gz.size<=4611686018427387904:=f0;have Ln:iZ.size<=4611686018427387904:=f2;have e1:G1.c iG gz eE=true:=hc;have e2:∀a b c,qO.v a b c=qO.v a b c:=λ_ _ _=>rfl;have e3:∀n a b,jV.v n a b=decide (a<=n/\n<=b):=qO.mM;unfold b v;rw[e1,e2,e3,ay];cases h1:qO.v iG gz eE with
 |false=>simp
 |true=>
  by_cases h2:iG=1
  ·by_cases h3:1<=(iZ.size:az)/\(iZ.size:az)<=40
   ·have e4:bE ((gz.size:az)+(iZ.size:az))=gz.size+iZ.size:=jL (by omega) (by omega);rw[e4,aG h3];by_cases h4:(gz.size:az)+(iZ.size:az)>400
    ·rw[Lib.E5 h4,bJ (by omega)];simp[h2]
    ·rw[Lib.Jk h4,bu (by refine⟨rfl,h2, ?_, ?_, ?_⟩<;>omega),Lib.E5 (show gz.size+iZ.size<=4611686018427387904 by omega)];simp[h2]
   ·rw[aK h3,bJ (by omega)];simp
  ·have iq:(iG !=1)=true:=bne_iff_ne.mpr h2;rw[bJ (by simp[h2]),iq];rfl
end Dh

namespace qL
def r1(N:aE)(g k0:jB R)(a d e f h i:az)(j l m o p q:aU):aA R:=bif decide (e<(q.length:az))then bif decide (0<=e)&&decide (e<(q.length:az))then bif decide (bU (ar q e.toNat 2)=bE (a+1))then bif decide (0<=e)&&decide (e<(q.length:az))then bif decide (bU (ar q e.toNat 4)=1)then bif decide (0<=a)&&decide (a<(p.length:az))then bif decide (0<=e)&&decide (e<(q.length:az))then bif decide (0<=e)&&decide (e<((eA q e.toNat 5 [.s (bM (ar p a.toNat 1))]).length:az))then g a d (bE (e+1)) f h i j l m o p (eA (eA q e.toNat 5 [.s (bM (ar p a.toNat 1))]) e.toNat 4 [.i .i64 d])else aj else aj else aj else g a d (bE (e+1)) f h i j l m o p q else aj else g a d (bE (e+1)) f h i j l m o p q else aj else k0 a d e f h i j l m o p q
def l1(N:aE)(k0:jB R):aE->jB R
 |0=>λ_ _ _ _ _ _ _ _ _ _ _ _=>aj
 |n+1=>r1 N (l1 N k0 n) k0
def b(N:aE)(kr:dZ R)(a:az)(d e f h:aU)(i:az)(j l:aU)(m o p:az):aA R:=l1 N (λ_ _ _ q r s t u w y z α=>kr q t u w y r z α s) N o p 0 a i m d e f h j l
def vo:=b Lib.cR λr0 r1 r2 r3 r4 r5 r6 r7 r8=>ah (r0,r1,r2,r3,r4,r5,r6,r7,r8)
def c:=λa d e f h i j l m o p=>(vo a d e f h i j l m o p).isSome
def v:=λa d e f h i j l m o p=>(vo a d e f h i j l m o p).getD (0,[],[],[],[],0,[],[],0)
theorem out{x}:∀a d e f h i j l m o p,vo a d e f h i j l m o p=ah x->c a d e f h i j l m o p=ai/\v a d e f h i j l m o p=x:=λ_ _ _ _ _ _ _ _ _ _ _=>Lib.dj
end qL

namespace Ro
def b(kr:pM R)(a:az)(d e f h:aU)(i:az)(j l:aU)(m o:az)(p:aq):aA R:=bif jM.c a d e f h i j l m then Lib.lt (jM.v a d e f h i j l m) λq=>bif sR.c a d e f h i j l m o then Lib.lt (sR.v a d e f h i j l m o) λr=>bif !r then kr q.1 q.2.1 q.2.2.1 q.2.2.2.1 q.2.2.2.2.1 q.2.2.2.2.2.1 q.2.2.2.2.2.2.1 q.2.2.2.2.2.2.2.1 q.2.2.2.2.2.2.2.2 ak else bif decide (0<=o)&&decide (o<(j.length:az))then bif !(Dh.v 1 (bM (ar j o.toNat 1)) [] p).2.2.2 then kr q.1 q.2.1 q.2.2.1 q.2.2.2.1 q.2.2.2.2.1 q.2.2.2.2.2.1 q.2.2.2.2.2.2.1 q.2.2.2.2.2.2.2.1 q.2.2.2.2.2.2.2.2 ak else bif decide (0<=o)&&decide (o<(q.2.2.2.2.2.2.1.length:az))then bif qL.c q.1 q.2.1 q.2.2.1 q.2.2.2.1 q.2.2.2.2.1 q.2.2.2.2.2.1 (eA q.2.2.2.2.2.2.1 o.toNat 1 [.s (Dh.v 1 (bM (ar j o.toNat 1)) [] p).2.1]) q.2.2.2.2.2.2.2.1 q.2.2.2.2.2.2.2.2 o 1 then Lib.lt (qL.v q.1 q.2.1 q.2.2.1 q.2.2.2.1 q.2.2.2.2.1 q.2.2.2.2.2.1 (eA q.2.2.2.2.2.2.1 o.toNat 1 [.s (Dh.v 1 (bM (ar j o.toNat 1)) [] p).2.1]) q.2.2.2.2.2.2.2.1 q.2.2.2.2.2.2.2.2 o 1) λs=>kr s.1 s.2.1 s.2.2.1 s.2.2.2.1 s.2.2.2.2.1 s.2.2.2.2.2.1 s.2.2.2.2.2.2.1 s.2.2.2.2.2.2.2.1 s.2.2.2.2.2.2.2.2 ai else aj else aj else aj else aj else aj
def vo:=b λr0 r1 r2 r3 r4 r5 r6 r7 r8 r9=>ah (r0,r1,r2,r3,r4,r5,r6,r7,r8,r9)
def c:=λa d e f h i j l m o p=>(vo a d e f h i j l m o p).isSome
def v:=λa d e f h i j l m o p=>(vo a d e f h i j l m o p).getD (0,[],[],[],[],0,[],[],0,ak)
theorem out{x}:∀a d e f h i j l m o p,vo a d e f h i j l m o p=ah x->c a d e f h i j l m o p=ai/\v a d e f h i j l m o p=x:=λ_ _ _ _ _ _ _ _ _ _ _=>Lib.dj
end Ro

namespace e8
def r9(N:aE)(g k0:ny R)(a:aU)(d:az)(e:aq)(f h:az)(i:aq)(j:aU):aA R:=bif decide (d<(a.length:az))then bif decide (0<=d)&&decide (d<(a.length:az))then bif !(bZ (bM (ar a d.toNat 0)).toList (aJ e)||List.beq (bM (ar a d.toNat 0)).toList (aJ e))then bif decide (0<=d)&&decide (d<(a.length:az))then bif cy (j.length+(aw (aN [Ck.s,Ck.i ao,Ck.i ao,Ck.s] 1) 0 [.s (bM (ar a d.toNat 0)), .i .i64 (bU (ar a d.toNat 1)), .i .i64 (bU (ar a d.toNat (1+1))), .s (bM (ar a d.toNat (1+1+1)))]).length) 48 then g a (bE (d+1)) e f h i (j++aw (aN [Ck.s,Ck.i ao,Ck.i ao,Ck.s] 1) 0 [.s (bM (ar a d.toNat 0)), .i .i64 (bU (ar a d.toNat 1)), .i .i64 (bU (ar a d.toNat (1+1))), .s (bM (ar a d.toNat (1+1+1)))])else aj else aj else g a (bE (d+1)) e f h i j else aj else k0 a d e f h i j
def l9(N:aE)(k0:ny R):aE->ny R
 |0=>λ_ _ _ _ _ _ _=>aj
 |n+1=>r9 N (l9 N k0 n) k0
def r3(N:aE)(g k0:ny R)(a:aU)(d:az)(e:aq)(f h:az)(i:aq)(j:aU):aA R:=bif decide (d<(a.length:az))then bif decide (0<=d)&&decide (d<(a.length:az))then bif bZ (bM (ar a d.toNat 0)).toList (aJ e)then bif decide (0<=d)&&decide (d<(a.length:az))then bif cy (j.length+(aw (aN [Ck.s,Ck.i ao,Ck.i ao,Ck.s] 1) 0 [.s (bM (ar a d.toNat 0)), .i .i64 (bU (ar a d.toNat 1)), .i .i64 (bU (ar a d.toNat (1+1))), .s (bM (ar a d.toNat (1+1+1)))]).length) 48 then g a (bE (d+1)) e f h i (j++aw (aN [Ck.s,Ck.i ao,Ck.i ao,Ck.s] 1) 0 [.s (bM (ar a d.toNat 0)), .i .i64 (bU (ar a d.toNat 1)), .i .i64 (bU (ar a d.toNat (1+1))), .s (bM (ar a d.toNat (1+1+1)))])else aj else aj else g a (bE (d+1)) e f h i j else aj else k0 a d e f h i j
def l3(N:aE)(k0:ny R):aE->ny R
 |0=>λ_ _ _ _ _ _ _=>aj
 |n+1=>r3 N (l3 N k0 n) k0
def b(N:aE)(kr:aU->aA R)(a:aU)(d:aq)(e f:az)(h:aq):aA R:=l3 N (λi _ j l m o p=>bif cy (p.length+(aw (aN [Ck.s,Ck.i ao,Ck.i ao,Ck.s] 1) 0 [.s j, .i .i64 l, .i .i64 m, .s o]).length) 48 then l9 N (λ_ _ _ _ _ _ q=>kr q) N i 0 j l m o (p++aw (aN [Ck.s,Ck.i ao,Ck.i ao,Ck.s] 1) 0 [.s j, .i .i64 l, .i .i64 m, .s o])else aj) N a 0 d e f h (aN [Ck.s,Ck.i ao,Ck.i ao,Ck.s] 0)
def vo:=b Lib.cR λr0=>ah r0
def c:=λa d e f h=>(vo a d e f h).isSome
def v:=λa d e f h=>(vo a d e f h).getD ([])
theorem out{x}:∀a d e f h,vo a d e f h=ah x->c a d e f h=ai/\v a d e f h=x:=λ_ _ _ _ _=>Lib.dj
end e8

namespace wx
def b(kr:dZ R)(a:az)(d e f h:aU)(i:az)(j l:aU)(m:az)(o:aq)(p q:az)(r:aq):aA R:=bif j7.c e f h i o then Lib.lt (j7.v e f h i o) λs=>bif !List.beq (aJ s.2.2.2.2) (aJ ⟨#[]⟩)then bif Bm.c d s.2.2.2.2 then Lib.lt (Bm.v d s.2.2.2.2) λt=>bif ry.c s.1 s.2.1 s.2.2.1 s.2.2.2.1 o then Lib.lt (ry.v s.1 s.2.1 s.2.2.1 s.2.2.2.1 o) λu=>bif u then bif e8.c t o p q r then Lib.lt (e8.v t o p q r) λw=>kr a w s.1 s.2.1 s.2.2.1 s.2.2.2.1 j l m else aj else kr a t s.1 s.2.1 s.2.2.1 s.2.2.2.1 j l m else aj else aj else bif ry.c s.1 s.2.1 s.2.2.1 s.2.2.2.1 o then Lib.lt (ry.v s.1 s.2.1 s.2.2.1 s.2.2.2.1 o) λt=>bif t then bif e8.c d o p q r then Lib.lt (e8.v d o p q r) λu=>kr a u s.1 s.2.1 s.2.2.1 s.2.2.2.1 j l m else aj else kr a d s.1 s.2.1 s.2.2.1 s.2.2.2.1 j l m else aj else aj
def vo:=b λr0 r1 r2 r3 r4 r5 r6 r7 r8=>ah (r0,r1,r2,r3,r4,r5,r6,r7,r8)
def c:=λa d e f h i j l m o p q r=>(vo a d e f h i j l m o p q r).isSome
def v:=λa d e f h i j l m o p q r=>(vo a d e f h i j l m o p q r).getD (0,[],[],[],[],0,[],[],0)
theorem out{x}:∀a d e f h i j l m o p q r,vo a d e f h i j l m o p q r=ah x->c a d e f h i j l m o p q r=ai/\v a d e f h i j l m o p q r=x:=λ_ _ _ _ _ _ _ _ _ _ _ _ _=>Lib.dj
end wx

namespace Rp
def b(kr:pM R)(a:az)(d e f h:aU)(i:az)(j l:aU)(m o p:az):aA R:=bif jM.c a d e f h i j l m then Lib.lt (jM.v a d e f h i j l m) λq=>bif sR.c a d e f h i j l m o then Lib.lt (sR.v a d e f h i j l m o) λr=>bif !r then kr q.1 q.2.1 q.2.2.1 q.2.2.2.1 q.2.2.2.2.1 q.2.2.2.2.2.1 q.2.2.2.2.2.2.1 q.2.2.2.2.2.2.2.1 q.2.2.2.2.2.2.2.2 ak else bif !jV.v p 0 999999 then kr q.1 q.2.1 q.2.2.1 q.2.2.2.1 q.2.2.2.2.1 q.2.2.2.2.2.1 q.2.2.2.2.2.2.1 q.2.2.2.2.2.2.2.1 q.2.2.2.2.2.2.2.2 ak else bif decide (0<=o)&&decide (o<(j.length:az))then bif decide (0<=o)&&decide (o<(q.2.2.2.2.2.2.1.length:az))then bif qL.c q.1 q.2.1 q.2.2.1 q.2.2.2.1 q.2.2.2.2.1 q.2.2.2.2.2.1 (eA q.2.2.2.2.2.2.1 o.toNat 0 [.s (bM (ar j o.toNat 0)), .s (bM (ar j o.toNat 1)), .i .i64 2, .i .i64 p, .i .i64 a]) q.2.2.2.2.2.2.2.1 q.2.2.2.2.2.2.2.2 o 2 then Lib.lt (qL.v q.1 q.2.1 q.2.2.1 q.2.2.2.1 q.2.2.2.2.1 q.2.2.2.2.2.1 (eA q.2.2.2.2.2.2.1 o.toNat 0 [.s (bM (ar j o.toNat 0)), .s (bM (ar j o.toNat 1)), .i .i64 2, .i .i64 p, .i .i64 a]) q.2.2.2.2.2.2.2.1 q.2.2.2.2.2.2.2.2 o 2) λs=>bif decide (p>0)then bif wx.c s.1 s.2.1 s.2.2.1 s.2.2.2.1 s.2.2.2.2.1 s.2.2.2.2.2.1 s.2.2.2.2.2.2.1 s.2.2.2.2.2.2.2.1 s.2.2.2.2.2.2.2.2 (bM (ar j o.toNat 0)) a p (bM (ar j o.toNat 1))then Lib.lt (wx.v s.1 s.2.1 s.2.2.1 s.2.2.2.1 s.2.2.2.2.1 s.2.2.2.2.2.1 s.2.2.2.2.2.2.1 s.2.2.2.2.2.2.2.1 s.2.2.2.2.2.2.2.2 (bM (ar j o.toNat 0)) a p (bM (ar j o.toNat 1))) λt=>kr t.1 t.2.1 t.2.2.1 t.2.2.2.1 t.2.2.2.2.1 t.2.2.2.2.2.1 t.2.2.2.2.2.2.1 t.2.2.2.2.2.2.2.1 t.2.2.2.2.2.2.2.2 ai else aj else kr s.1 s.2.1 s.2.2.1 s.2.2.2.1 s.2.2.2.2.1 s.2.2.2.2.2.1 s.2.2.2.2.2.2.1 s.2.2.2.2.2.2.2.1 s.2.2.2.2.2.2.2.2 ai else aj else aj else aj else aj else aj
def vo:=b λr0 r1 r2 r3 r4 r5 r6 r7 r8 r9=>ah (r0,r1,r2,r3,r4,r5,r6,r7,r8,r9)
def c:=λa d e f h i j l m o p=>(vo a d e f h i j l m o p).isSome
def v:=λa d e f h i j l m o p=>(vo a d e f h i j l m o p).getD (0,[],[],[],[],0,[],[],0,ak)
theorem out{x}:∀a d e f h i j l m o p,vo a d e f h i j l m o p=ah x->c a d e f h i j l m o p=ai/\v a d e f h i j l m o p=x:=λ_ _ _ _ _ _ _ _ _ _ _=>Lib.dj
end Rp

namespace jy
def r2(N:aE)(g k0:CR R)(a:az)(d:aU):aA R:=bif decide (a>127)then bif cy (d.length+(aw (aN [Ck.i bc] 1) 0 [CV.i bc (bC bc (bE (bI a 128+128)))]).length) 1 then g (bE (cG a 128)) (d++aw (aN [Ck.i bc] 1) 0 [CV.i bc (bC bc (bE (bI a 128+128)))])else aj else k0 a d
def l2(N:aE)(k0:CR R):aE->CR R
 |0=>λ_ _=>aj
 |n+1=>r2 N (l2 N k0 n) k0
def b(N:aE)(kr:aq->aA R)(a:az):aA R:=l2 N (λd e=>bif cy (e.length+(aw (aN [Ck.i bc] 1) 0 [CV.i bc (bC bc d)]).length) 1 then bif decide ((e++aw (aN [Ck.i bc] 1) 0 [CV.i bc (bC bc d)]).length<=4611686018427387904)then kr (bytesOf (e++aw (aN [Ck.i bc] 1) 0 [CV.i bc (bC bc d)]))else aj else aj) N a (aN [Ck.i bc] 0)
def v(n0:az):aq:=bytesOf (Lib.vb n0)
def c(n0:az):aW:=decide (n0<=9223372036854775807)
theorem gu(kr:aq->aA R)(n0:az)(hc:c n0=ai):∃N,b N kr n0=kr (v n0):=by
 refine⟨n0.toNat+1, ?_⟩
 refine Lib.U8 (λn x acc=>l2 (n0.toNat+1) _ n x acc) kr (λn x acc h hl=> ?_) (λn x acc h hl=> ?_) n0 (cg hc)
 ·simp only[l2,r2,h,aR,ay,Lib.lL,show acc.length+bT [[CV.i bc (bC bc (bE (bI x 128+128)))]]=acc.length+1 from rfl,Lib.Qb (show acc.length+1<=140737488355328 by omega),show decide ((128:az)=0)=ak from rfl,Ey,bS]
 ·simp only[l2,r2,h,bg,aC,Lib.lL,show acc.length+bT [[CV.i bc (bC bc x)]]=acc.length+1 from rfl,Lib.Qb (show acc.length+1<=140737488355328 by omega),ay];exact Lib.zE (Lib.E5 (by rw[bX,bQ];omega))
end jy

namespace jo
def b(kr:KL R)(a:aq)(d e:az)(f:aq):aA R:=bif !h_.v a d e f then kr ⟨#[]⟩ ak else bif jy.c (a.size:az)then bif decide ((jy.v (a.size:az)).size+a.size<=4611686018427387904)then bif jy.c d then bif decide ((jy.v (a.size:az)++a).size+(jy.v d).size<=4611686018427387904)then bif jy.c e then bif decide ((jy.v (a.size:az)++a++jy.v d).size+(jy.v e).size<=4611686018427387904)then bif decide ((jy.v (a.size:az)++a++jy.v d++jy.v e).size+f.size<=4611686018427387904)then kr (jy.v (a.size:az)++a++jy.v d++jy.v e++f) ai else aj else aj else aj else aj else aj else aj else aj
def qS(k:aq)(s l:az)(b:aq):aq:=bytesOf (Lib.vb k.size)++k++bytesOf (Lib.vb s)++bytesOf (Lib.vb l)++b
def v(Bo:aq)(Bp:az)(Bq:az)(Hc:aq):aq×aW:=if h_.v Bo Bp Bq Hc=ai then(qS Bo Bp Bq Hc,ai)else(⟨#[]⟩,ak)
theorem gu(kr:KL R)(Bo:aq)(Bp:az)(Bq:az)(Hc:aq):b kr Bo Bp Bq Hc=kr (v Bo Bp Bq Hc).1 (v Bo Bp Bq Hc).2:=by
 unfold b v;cases h:h_.v Bo Bp Bq Hc with
 |false=>rfl
 |true=>have hr:=h_.Eu h;have cc:∀x:az,x<=9223372036854775807->jy.c x=true:=λx hx=>aG hx;have z1:(jy.v (Bo.size:az)).size<=64:=Lib.mO (x:=(Bo.size:az)) (by omega);have z2:(jy.v Bp).size<=64:=Lib.mO (x:=Bp) (by omega);have z3:(jy.v Bq).size<=64:=Lib.mO (x:=Bq) (by omega);simp(disch:=omega) only[a9,aC,cc _ (show(Bo.size:az)<=9223372036854775807 by omega),cc Bp (by omega),cc Bq (by omega),ay,if_true,Lib.kH,Lib.ac9];rfl
end jo

namespace oa
def b(kr:aq->aA R)(a:az):aA R:=kr (bytesOf (aw (aw (aw (aw (aN [Ck.i bc] 4) 0 [CV.i bc (bC bc (j6 a (gA 2 (if aX 24<=32 then aX 24 else 32))))]) 1 [CV.i bc (bC bc (j6 a (gA 2 (if aX 16<=32 then aX 16 else 32))))]) 2 [CV.i bc (bC bc (j6 a (gA 2 (if aX 8<=32 then aX 8 else 32))))]) 3 [CV.i bc (bC bc a)]))
def v(a0:az):aq:=(bytesOf (aw (aw (aw (aw (aN [Ck.i bc] 4) 0 [CV.i bc (bC bc (j6 a0 (gA 2 (if aX 24<=32 then aX 24 else 32))))]) 1 [CV.i bc (bC bc (j6 a0 (gA 2 (if aX 16<=32 then aX 16 else 32))))]) 2 [CV.i bc (bC bc (j6 a0 (gA 2 (if aX 8<=32 then aX 8 else 32))))]) 3 [CV.i bc (bC bc a0)]))
theorem gu(kr:aq->aA R)(a0:az):b kr a0=kr (v a0):=by first|rfl|(unfold b v;simp only[dc];(repeat' split)<;>rfl)
end oa

namespace fg
def b(kr:KL R)(a:aq):aA R:=bif !jV.v (a.size:az) 1 9000 then kr ⟨#[]⟩ ak else bif jy.c (a.size:az)then bif tF.c a then bif decide ((jy.v (a.size:az)).size+(oa.v (tF.v a)).size<=4611686018427387904)then bif decide ((jy.v (a.size:az)++oa.v (tF.v a)).size+a.size<=4611686018427387904)then kr (jy.v (a.size:az)++oa.v (tF.v a)++a) ai else aj else aj else aj else aj
def vo:=b λr0 r1=>ah (r0,r1)
def c:=λa=>(vo a).isSome
def v:=λa=>(vo a).getD (⟨#[]⟩,ak)
theorem out{x}:∀a,vo a=ah x->c a=ai/\v a=x:=λ_=>Lib.dj
end fg

namespace Bl
def b(kr:KK R)(a:aq)(d e:az)(f:aq):aA R:=bif fg.c (jo.v a d e f).1 then bif !(jo.v a d e f).2 then kr (aN [Ck.i ao,Ck.s,Ck.s,Ck.s] 0) ak else bif !(fg.v (jo.v a d e f).1).2 then kr (aN [Ck.i ao,Ck.s,Ck.s,Ck.s] 0) ak else kr (aw (aw (aN [Ck.i ao,Ck.s,Ck.s,Ck.s] 2) 0 [.i .i64 1, .s {data:= #[au 107,au 101,au 112,au 116]}, .s (fg.v (jo.v a d e f).1).1, .s ⟨#[]⟩]) 1 [.i .i64 2, .s {data:= #[au 107,au 101,au 112,au 116]}, .s ⟨#[]⟩, .s ⟨#[]⟩]) ai else aj
def vo:=b λr0 r1=>ah (r0,r1)
def c:=λa d e f=>(vo a d e f).isSome
def v:=λa d e f=>(vo a d e f).getD ([],ak)
theorem out{x}:∀a d e f,vo a d e f=ah x->c a d e f=ai/\v a d e f=x:=λ_ _ _ _=>Lib.dj
end Bl

namespace tH
def b(kr:aW->aA R)(a:aq):aA R:=kr (jV.v (a.size:az) 1 8)
def v(a0:aq):aW:=(jV.v (a0.size:az) 1 8)
theorem gu(kr:aW->aA R)(a0:aq):b kr a0=kr (v a0):=by first|rfl|(unfold b v;simp only[dc];(repeat' split)<;>rfl)
end tH

namespace eS
def r4(N:aE)(g k0 k1:MB R)(a:aW)(d:az)(e:aU):aA R:=bif decide (d<(e.length:az))then bif decide (0<=d)&&decide (d<(e.length:az))then bif !tH.v (bM (ar e d.toNat 0))then k0 ak d e else bif decide (((bM (ar e d.toNat 1)).size:az)>20000)then k0 ak d e else bif !jV.v (bU (ar e d.toNat (1+1))) 0 ((bM (ar e d.toNat 1)).size:az)then k0 ak d e else bif decide (d>0)then bif decide (0<=bE (d-1))&&decide (bE (d-1)<(e.length:az))then bif !Op.bytesLess (bM (ar e (bE (d-1)).toNat 0)).toList (bM (ar e d.toNat 0)).toList then k0 ak d e else g a (bE (d+1)) e else aj else g a (bE (d+1)) e else aj else k1 a d e
def l4(N:aE)(k0 k1:MB R):aE->MB R
 |0=>λ_ _ _=>aj
 |n+1=>r4 N (l4 N k0 k1 n) k0 k1
def b(N:aE)(kr:aW->aA R)(a:aU):aA R:=bif decide ((a.length:az)>30)then kr ak else l4 N (λd _ _=>kr d) (λ_ _ _=>kr ai) N ak 0 a
def vo:=b Lib.cR λr0=>ah r0
def c:=λa=>(vo a).isSome
def v:=λa=>(vo a).getD ak
theorem out{x}:∀a,vo a=ah x->c a=ai/\v a=x:=λ_=>Lib.dj
end eS

namespace jx
def r2(N:aE)(g k0 k1:mR R)(a:aq)(d e:az)(f:aU):aA R:=bif decide (e<(f.length:az))then bif decide (0<=e)&&decide (e<(f.length:az))then bif c6 (bM (ar f e.toNat 0)).toList (aJ a)then k0 a e e f else g a d (bE (e+1)) f else aj else k1 a d e f
def l2(N:aE)(k0 k1:mR R):aE->mR R
 |0=>λ_ _ _ _=>aj
 |n+1=>r2 N (l2 N k0 k1 n) k0 k1
def b(N:aE)(kr:az->aA R)(a:aU)(d:aq):aA R:=l2 N (λ_ e _ _=>kr e) (λ_ _ _ _=>kr (-1)) N d 0 0 a
def vo:=b Lib.cR λr0=>ah r0
def c:=λa d=>(vo a d).isSome
def v:=λa d=>(vo a d).getD (0)
theorem out{x}:∀a d,vo a d=ah x->c a d=ai/\v a d=x:=λ_ _=>Lib.dj
end jx

namespace jU
def r9(N:aE)(g k0:kq R)(a:az)(d:aU)(e f:aq)(h:az)(i:aU):aA R:=bif decide (a<(d.length:az))then bif decide (0<=a)&&decide (a<(d.length:az))then bif !(bZ (bM (ar d a.toNat 0)).toList (aJ e)||List.beq (bM (ar d a.toNat 0)).toList (aJ e))then bif decide (0<=a)&&decide (a<(d.length:az))then bif cy (i.length+(aw (aN [Ck.s,Ck.s,Ck.i ao] 1) 0 [.s (bM (ar d a.toNat 0)), .s (bM (ar d a.toNat 1)), .i .i64 (bU (ar d a.toNat (1+1)))]).length) 40 then g (bE (a+1)) d e f h (i++aw (aN [Ck.s,Ck.s,Ck.i ao] 1) 0 [.s (bM (ar d a.toNat 0)), .s (bM (ar d a.toNat 1)), .i .i64 (bU (ar d a.toNat (1+1)))])else aj else aj else g (bE (a+1)) d e f h i else aj else k0 a d e f h i
def l9(N:aE)(k0:kq R):aE->kq R
 |0=>λ_ _ _ _ _ _=>aj
 |n+1=>r9 N (l9 N k0 n) k0
def r3(N:aE)(g:pN R)(g1:kq R)(k0:pN R)(k1:kq R)(a:az)(d:aU)(e f:aq)(h:az):aA R:=bif decide (a<(d.length:az))then bif decide (0<=a)&&decide (a<(d.length:az))then bif bZ (bM (ar d a.toNat 0)).toList (aJ e)then bif decide (0<=a)&&decide (a<(d.length:az))then g1 (bE (a+1)) d e f h ([]++aw (aN [Ck.s,Ck.s,Ck.i ao] 1) 0 [.s (bM (ar d a.toNat 0)), .s (bM (ar d a.toNat 1)), .i .i64 (bU (ar d a.toNat (1+1)))])else aj else g (bE (a+1)) d e f h else aj else k0 a d e f h
def wM(N:aE)(g:pN R)(g1:kq R)(k0:pN R)(k1:kq R)(a:az)(d:aU)(e f:aq)(h:az)(i:aU):aA R:=bif decide (a<(d.length:az))then bif decide (0<=a)&&decide (a<(d.length:az))then bif bZ (bM (ar d a.toNat 0)).toList (aJ e)then bif decide (0<=a)&&decide (a<(d.length:az))then bif cy (i.length+(aw (aN [Ck.s,Ck.s,Ck.i ao] 1) 0 [.s (bM (ar d a.toNat 0)), .s (bM (ar d a.toNat 1)), .i .i64 (bU (ar d a.toNat (1+1)))]).length) 40 then g1 (bE (a+1)) d e f h (i++aw (aN [Ck.s,Ck.s,Ck.i ao] 1) 0 [.s (bM (ar d a.toNat 0)), .s (bM (ar d a.toNat 1)), .i .i64 (bU (ar d a.toNat (1+1)))])else aj else aj else g1 (bE (a+1)) d e f h i else aj else k1 a d e f h i
def qP(N:aE)(k0:pN R)(k1:kq R):aE->kq R
 |0=>λ_ _ _ _ _ _=>aj
 |n+1=>wM N (λx0 x1 x2 x3 x4=>aj) (qP N k0 k1 n) k0 k1
def l3(N:aE)(k0:pN R)(k1:kq R):aE->pN R
 |0=>λ_ _ _ _ _=>aj
 |n+1=>r3 N (l3 N k0 k1 n) (qP N k0 k1 n) k0 k1
def b(N:aE)(kr:aU->aA R)(a:aU)(d e:aq)(f:az):aA R:=l3 N (λ_ h i j l=>l9 N (λ_ _ _ _ _ m=>kr m) N 0 h i j l ([]++aw (aN [Ck.s,Ck.s,Ck.i ao] 1) 0 [.s i, .s j, .i .i64 l])) (λ_ h i j l m=>bif cy (m.length+(aw (aN [Ck.s,Ck.s,Ck.i ao] 1) 0 [.s i, .s j, .i .i64 l]).length) 40 then l9 N (λ_ _ _ _ _ o=>kr o) N 0 h i j l (m++aw (aN [Ck.s,Ck.s,Ck.i ao] 1) 0 [.s i, .s j, .i .i64 l])else aj) N 0 a d e f
def vo:=b Lib.cR λr0=>ah r0
def c:=λa d e f=>(vo a d e f).isSome
def v:=λa d e f=>(vo a d e f).getD ([])
theorem out{x}:∀a d e f,vo a d e f=ah x->c a d e f=ai/\v a d e f=x:=λ_ _ _ _=>Lib.dj
end jU

namespace lu
def r3(N:aE)(g:nJ R)(g1:qZ R)(k0:nJ R)(k1:qZ R)(a:aq)(d:az)(e:aU):aA R:=bif decide (d<(e.length:az))then bif decide (0<=d)&&decide (d<(e.length:az))then bif !List.beq (bM (ar e d.toNat 0)).toList (aJ a)then bif decide (0<=d)&&decide (d<(e.length:az))then g1 a (bE (d+1)) e ([]++aw (aN [Ck.s,Ck.s,Ck.i ao] 1) 0 [.s (bM (ar e d.toNat 0)), .s (bM (ar e d.toNat 1)), .i .i64 (bU (ar e d.toNat (1+1)))])else aj else g a (bE (d+1)) e else aj else k0 a d e
def wM(N:aE)(g:nJ R)(g1:qZ R)(k0:nJ R)(k1:qZ R)(a:aq)(d:az)(e f:aU):aA R:=bif decide (d<(e.length:az))then bif decide (0<=d)&&decide (d<(e.length:az))then bif !List.beq (bM (ar e d.toNat 0)).toList (aJ a)then bif decide (0<=d)&&decide (d<(e.length:az))then bif cy (f.length+(aw (aN [Ck.s,Ck.s,Ck.i ao] 1) 0 [.s (bM (ar e d.toNat 0)), .s (bM (ar e d.toNat 1)), .i .i64 (bU (ar e d.toNat (1+1)))]).length) 40 then g1 a (bE (d+1)) e (f++aw (aN [Ck.s,Ck.s,Ck.i ao] 1) 0 [.s (bM (ar e d.toNat 0)), .s (bM (ar e d.toNat 1)), .i .i64 (bU (ar e d.toNat (1+1)))])else aj else aj else g1 a (bE (d+1)) e f else aj else k1 a d e f
def qP(N:aE)(k0:nJ R)(k1:qZ R):aE->qZ R
 |0=>λ_ _ _ _=>aj
 |n+1=>wM N (λx0 x1 x2=>aj) (qP N k0 k1 n) k0 k1
def l3(N:aE)(k0:nJ R)(k1:qZ R):aE->nJ R
 |0=>λ_ _ _=>aj
 |n+1=>r3 N (l3 N k0 k1 n) (qP N k0 k1 n) k0 k1
def b(N:aE)(kr:aU->aA R)(a:aU)(d:aq):aA R:=l3 N (λ_ _ _=>kr []) (λ_ _ _ e=>kr e) N d 0 a
def vo:=b Lib.cR λr0=>ah r0
def c:=λa d=>(vo a d).isSome
def v:=λa d=>(vo a d).getD ([])
theorem out{x}:∀a d,vo a d=ah x->c a d=ai/\v a d=x:=λ_ _=>Lib.dj
end lu

namespace zu
abbrev h0{R:Type}(kr:KK R)(a:aU)(d:az)(e f h:aq):aA R:=bif jx.c a e then Lib.lt (jx.v a e) λi=>bif decide (i≥0)then bif decide (0<=i)&&decide (i<(a.length:az))then bif decide (d=1)then bif decide ((bM (ar a i.toNat 1)).size+f.size<=4611686018427387904)then bif jU.c a (bM (ar a i.toNat 0)) (bM (ar a i.toNat 1)++f) (bU (ar a i.toNat (1+1)))then Lib.lt (jU.v a (bM (ar a i.toNat 0)) (bM (ar a i.toNat 1)++f) (bU (ar a i.toNat (1+1)))) λj=>bif eS.c j then bif !eS.v j then kr [] ak else kr j ai else aj else aj else aj else bif decide (i<0)then kr [] ak else bif decide (d=2)then bif jU.c a (bM (ar a i.toNat 0)) (bM (ar a i.toNat 1)) ((bM (ar a i.toNat 1)).size:az)then Lib.lt (jU.v a (bM (ar a i.toNat 0)) (bM (ar a i.toNat 1)) ((bM (ar a i.toNat 1)).size:az)) λj=>bif eS.c j then bif !eS.v j then kr [] ak else kr j ai else aj else aj else bif decide (d=3)then bif decide (bU (ar a i.toNat (1+1))<((bM (ar a i.toNat 1)).size:az))then kr [] ak else bif c6 (aJ h) (aJ e)then kr [] ak else bif !tH.v h then kr [] ak else bif lu.c a e then bif jU.c (lu.v a e) h (bM (ar a i.toNat 1)) (bU (ar a i.toNat (1+1)))then bif eS.c (jU.v (lu.v a e) h (bM (ar a i.toNat 1)) (bU (ar a i.toNat (1+1))))then bif !eS.v (jU.v (lu.v a e) h (bM (ar a i.toNat 1)) (bU (ar a i.toNat (1+1))))then kr [] ak else kr (jU.v (lu.v a e) h (bM (ar a i.toNat 1)) (bU (ar a i.toNat (1+1)))) ai else aj else aj else aj else bif decide (d=4)then bif lu.c a e then bif eS.c (lu.v a e)then bif !eS.v (lu.v a e)then kr [] ak else kr (lu.v a e) ai else aj else aj else kr [] ak else aj else bif decide (d=1)then bif decide (fH ⟨#[]⟩+f.size<=4611686018427387904)then bif jU.c a e ({data:= #[]}++f) 0 then bif eS.c (jU.v a e ({data:= #[]}++f) 0)then bif !eS.v (jU.v a e ({data:= #[]}++f) 0)then kr [] ak else kr (jU.v a e ({data:= #[]}++f) 0) ai else aj else aj else aj else bif decide (i<0)then kr [] ak else bif decide (d=2)then bif jU.c a e ⟨#[]⟩ (fH ⟨#[]⟩:az)then bif eS.c (jU.v a e ⟨#[]⟩ (fH ⟨#[]⟩:az))then bif !eS.v (jU.v a e ⟨#[]⟩ (fH ⟨#[]⟩:az))then kr [] ak else kr (jU.v a e ⟨#[]⟩ (fH ⟨#[]⟩:az)) ai else aj else aj else bif decide (d=3)then bif c6 (aJ h) (aJ e)then kr [] ak else bif !tH.v h then kr [] ak else bif lu.c a e then bif jU.c (lu.v a e) h ⟨#[]⟩ 0 then bif eS.c (jU.v (lu.v a e) h ⟨#[]⟩ 0)then bif !eS.v (jU.v (lu.v a e) h ⟨#[]⟩ 0)then kr [] ak else kr (jU.v (lu.v a e) h ⟨#[]⟩ 0) ai else aj else aj else aj else bif decide (d=4)then bif lu.c a e then bif eS.c (lu.v a e)then bif !eS.v (lu.v a e)then kr [] ak else kr (lu.v a e) ai else aj else aj else kr [] ak else aj
def b(kr:KK R)(a:aU)(d:az)(e f h:aq):aA R:=bif eS.c a then bif !eS.v a then kr [] ak else bif !tH.v e then kr [] ak else bif d !=3 then bif !List.beq (aJ h) (aJ ⟨#[]⟩)then kr [] ak else bif d !=1 then bif !List.beq (aJ f) (aJ ⟨#[]⟩)then kr [] ak else h0 kr a d e f h else h0 kr a d e f h else bif d !=1 then bif !List.beq (aJ f) (aJ ⟨#[]⟩)then kr [] ak else h0 kr a d e f h else h0 kr a d e f h else aj
def vo:=b λr0 r1=>ah (r0,r1)
def c:=λa d e f h=>(vo a d e f h).isSome
def v:=λa d e f h=>(vo a d e f h).getD ([],ak)
theorem out{x}:∀a d e f h,vo a d e f h=ah x->c a d e f h=ai/\v a d e f h=x:=λ_ _ _ _ _=>Lib.dj
end zu

namespace oK
def r3(N:aE)(g k0 k1:pO R)(a:aU)(d e:az)(f:aU):aA R:=bif decide (e<(a.length:az))then bif decide (0<=e)&&decide (e<(a.length:az))then bif zu.c f (bU (ar a e.toNat 0)) (bM (ar a e.toNat 1)) (bM (ar a e.toNat (1+1))) (bM (ar a e.toNat (1+1+1)))then bif !(zu.v f (bU (ar a e.toNat 0)) (bM (ar a e.toNat 1)) (bM (ar a e.toNat (1+1))) (bM (ar a e.toNat (1+1+1)))).2 then k0 a e e f else g a d (bE (e+1)) (zu.v f (bU (ar a e.toNat 0)) (bM (ar a e.toNat 1)) (bM (ar a e.toNat (1+1))) (bM (ar a e.toNat (1+1+1)))).1 else aj else aj else k1 a d e f
def l3(N:aE)(k0 k1:pO R):aE->pO R
 |0=>λ_ _ _ _=>aj
 |n+1=>r3 N (l3 N k0 k1 n) k0 k1
def b(N:aE)(kr:qX R)(a d:aU):aA R:=bif cy ((aN [Ck.s,Ck.s,Ck.i ao] 0).length+a.length) 40 then l3 N (λ_ e _ f=>kr f e) (λe _ _ f=>kr f (e.length:az)) N d 0 0 (aN [Ck.s,Ck.s,Ck.i ao] 0++a)else aj
def vo:=b Lib.cR λr0 r1=>ah (r0,r1)
def c:=λa d=>(vo a d).isSome
def v:=λa d=>(vo a d).getD ([],0)
theorem out{x}:∀a d,vo a d=ah x->c a d=ai/\v a d=x:=λ_ _=>Lib.dj
end oK

namespace yr
def b(kr:az->aA R)(a:aW):aA R:=bif a then kr 0 else kr 1
def v(a0:aW):az:=bif a0 then 0 else 1
theorem gu(kr:az->aA R)(a0:aW):b kr a0=kr (v a0):=by first|rfl|(unfold b v;simp only[dc];(repeat' split)<;>rfl)
end yr

namespace Bj
def b(kr:qx R)(a:az)(d e f h:aU)(i:az)(j l:aU)(m:az)(o p q:aU)(r s:az)(t:aq)(u:az)(w:aU):aA R:=bif Rp.c a d e f h i j l m s (bI u 1000000)then Lib.lt (Rp.v a d e f h i j l m s (bI u 1000000)) λy=>bif y.2.2.2.2.2.2.2.2.2 then bif decide (bI u 1000000>0)then bif decide (0<=s)&&decide (s<(y.2.2.2.2.2.2.1.length:az))then bif cy ((aN [Ck.s,Ck.i ao,Ck.i ao,Ck.s] 0).length+q.length) 48 then bif cy ((aN [Ck.s,Ck.i ao,Ck.i ao,Ck.s] 0++q).length+(aw (aN [Ck.s,Ck.i ao,Ck.i ao,Ck.s] 1) 0 [.s (bM (ar y.2.2.2.2.2.2.1 s.toNat 0)), .i .i64 (bU (ar y.2.2.2.2.2.2.1 s.toNat (1+1+1+1))), .i .i64 (bU (ar y.2.2.2.2.2.2.1 s.toNat (1+1+1))), .s (bM (ar y.2.2.2.2.2.2.1 s.toNat 1))]).length) 48 then bif Bl.c (bM (ar y.2.2.2.2.2.2.1 s.toNat 0)) (bU (ar y.2.2.2.2.2.2.1 s.toNat (1+1+1+1))) (bU (ar y.2.2.2.2.2.2.1 s.toNat (1+1+1))) (bM (ar y.2.2.2.2.2.2.1 s.toNat 1))then Lib.lt (Bl.v (bM (ar y.2.2.2.2.2.2.1 s.toNat 0)) (bU (ar y.2.2.2.2.2.2.1 s.toNat (1+1+1+1))) (bU (ar y.2.2.2.2.2.2.1 s.toNat (1+1+1))) (bM (ar y.2.2.2.2.2.2.1 s.toNat 1))) λz=>bif z.2 then bif oK.c o z.1 then Lib.lt (oK.v o z.1) λα=>kr (yr.v y.2.2.2.2.2.2.2.2.2) y.1 y.2.1 y.2.2.1 y.2.2.2.1 y.2.2.2.2.1 y.2.2.2.2.2.1 y.2.2.2.2.2.2.1 y.2.2.2.2.2.2.2.1 y.2.2.2.2.2.2.2.2.1 α.1 p (aN [Ck.s,Ck.i ao,Ck.i ao,Ck.s] 0++q++aw (aN [Ck.s,Ck.i ao,Ck.i ao,Ck.s] 1) 0 [.s (bM (ar y.2.2.2.2.2.2.1 s.toNat 0)), .i .i64 (bU (ar y.2.2.2.2.2.2.1 s.toNat (1+1+1+1))), .i .i64 (bU (ar y.2.2.2.2.2.2.1 s.toNat (1+1+1))), .s (bM (ar y.2.2.2.2.2.2.1 s.toNat 1))])else aj else kr (yr.v y.2.2.2.2.2.2.2.2.2) y.1 y.2.1 y.2.2.1 y.2.2.2.1 y.2.2.2.2.1 y.2.2.2.2.2.1 y.2.2.2.2.2.2.1 y.2.2.2.2.2.2.2.1 y.2.2.2.2.2.2.2.2.1 o p (aN [Ck.s,Ck.i ao,Ck.i ao,Ck.s] 0++q++aw (aN [Ck.s,Ck.i ao,Ck.i ao,Ck.s] 1) 0 [.s (bM (ar y.2.2.2.2.2.2.1 s.toNat 0)), .i .i64 (bU (ar y.2.2.2.2.2.2.1 s.toNat (1+1+1+1))), .i .i64 (bU (ar y.2.2.2.2.2.2.1 s.toNat (1+1+1))), .s (bM (ar y.2.2.2.2.2.2.1 s.toNat 1))])else aj else aj else aj else aj else kr (yr.v y.2.2.2.2.2.2.2.2.2) y.1 y.2.1 y.2.2.1 y.2.2.2.1 y.2.2.2.2.1 y.2.2.2.2.2.1 y.2.2.2.2.2.2.1 y.2.2.2.2.2.2.2.1 y.2.2.2.2.2.2.2.2.1 o p q else kr (yr.v y.2.2.2.2.2.2.2.2.2) y.1 y.2.1 y.2.2.1 y.2.2.2.1 y.2.2.2.2.1 y.2.2.2.2.2.1 y.2.2.2.2.2.2.1 y.2.2.2.2.2.2.2.1 y.2.2.2.2.2.2.2.2.1 o p q else aj
def vo:=b λr0 r1 r2 r3 r4 r5 r6 r7 r8 r9 LS F7 r12=>ah (r0,r1,r2,r3,r4,r5,r6,r7,r8,r9,LS,F7,r12)
def c:=λa d e f h i j l m o p q r s t u w=>(vo a d e f h i j l m o p q r s t u w).isSome
def v:=λa d e f h i j l m o p q r s t u w=>(vo a d e f h i j l m o p q r s t u w).getD (0,0,[],[],[],[],0,[],[],0,[],[],[])
theorem out{x}:∀a d e f h i j l m o p q r s t u w,vo a d e f h i j l m o p q r s t u w=ah x->c a d e f h i j l m o p q r s t u w=ai/\v a d e f h i j l m o p q r s t u w=x:=λ_ _ _ _ _ _ _ _ _ _ _ _ _ _ _ _ _=>Lib.dj
end Bj

namespace Rq
def b(kr:pM R)(a:az)(d e f h:aU)(i:az)(j l:aU)(m o:az):aA R:=bif jM.c a d e f h i j l m then Lib.lt (jM.v a d e f h i j l m) λp=>bif sR.c a d e f h i j l m o then Lib.lt (sR.v a d e f h i j l m o) λq=>bif !q then kr p.1 p.2.1 p.2.2.1 p.2.2.2.1 p.2.2.2.2.1 p.2.2.2.2.2.1 p.2.2.2.2.2.2.1 p.2.2.2.2.2.2.2.1 p.2.2.2.2.2.2.2.2 ak else bif decide (0<=o)&&decide (o<(p.2.2.2.2.2.2.1.length:az))then bif qL.c p.1 p.2.1 p.2.2.1 p.2.2.2.1 p.2.2.2.2.1 p.2.2.2.2.2.1 (eA p.2.2.2.2.2.2.1 o.toNat 2 [.i .i64 3]) p.2.2.2.2.2.2.2.1 p.2.2.2.2.2.2.2.2 o 3 then Lib.lt (qL.v p.1 p.2.1 p.2.2.1 p.2.2.2.1 p.2.2.2.2.1 p.2.2.2.2.2.1 (eA p.2.2.2.2.2.2.1 o.toNat 2 [.i .i64 3]) p.2.2.2.2.2.2.2.1 p.2.2.2.2.2.2.2.2 o 3) λr=>kr r.1 r.2.1 r.2.2.1 r.2.2.2.1 r.2.2.2.2.1 r.2.2.2.2.2.1 r.2.2.2.2.2.2.1 r.2.2.2.2.2.2.2.1 r.2.2.2.2.2.2.2.2 ai else aj else aj else aj else aj
def vo:=b λr0 r1 r2 r3 r4 r5 r6 r7 r8 r9=>ah (r0,r1,r2,r3,r4,r5,r6,r7,r8,r9)
def c:=λa d e f h i j l m o=>(vo a d e f h i j l m o).isSome
def v:=λa d e f h i j l m o=>(vo a d e f h i j l m o).getD (0,[],[],[],[],0,[],[],0,ak)
theorem out{x}:∀a d e f h i j l m o,vo a d e f h i j l m o=ah x->c a d e f h i j l m o=ai/\v a d e f h i j l m o=x:=λ_ _ _ _ _ _ _ _ _ _=>Lib.dj
end Rq

namespace wA
def b(kr:dZ R)(a:az)(d e f h:aU)(i:az)(j l:aU)(m o:az):aA R:=bif jM.c a d e f h i j l m then bif decide (bI o 1000<0)then bif decide ((jM.v a d e f h i j l m).1>bE (1000000000-bE (bI o 1000+1000)))then kr 1000000000 (jM.v a d e f h i j l m).2.1 (jM.v a d e f h i j l m).2.2.1 (jM.v a d e f h i j l m).2.2.2.1 (jM.v a d e f h i j l m).2.2.2.2.1 (jM.v a d e f h i j l m).2.2.2.2.2.1 (jM.v a d e f h i j l m).2.2.2.2.2.2.1 (jM.v a d e f h i j l m).2.2.2.2.2.2.2.1 (jM.v a d e f h i j l m).2.2.2.2.2.2.2.2 else kr (bE ((jM.v a d e f h i j l m).1+bE (bI o 1000+1000))) (jM.v a d e f h i j l m).2.1 (jM.v a d e f h i j l m).2.2.1 (jM.v a d e f h i j l m).2.2.2.1 (jM.v a d e f h i j l m).2.2.2.2.1 (jM.v a d e f h i j l m).2.2.2.2.2.1 (jM.v a d e f h i j l m).2.2.2.2.2.2.1 (jM.v a d e f h i j l m).2.2.2.2.2.2.2.1 (jM.v a d e f h i j l m).2.2.2.2.2.2.2.2 else bif decide ((jM.v a d e f h i j l m).1>bE (1000000000-bI o 1000))then kr 1000000000 (jM.v a d e f h i j l m).2.1 (jM.v a d e f h i j l m).2.2.1 (jM.v a d e f h i j l m).2.2.2.1 (jM.v a d e f h i j l m).2.2.2.2.1 (jM.v a d e f h i j l m).2.2.2.2.2.1 (jM.v a d e f h i j l m).2.2.2.2.2.2.1 (jM.v a d e f h i j l m).2.2.2.2.2.2.2.1 (jM.v a d e f h i j l m).2.2.2.2.2.2.2.2 else kr (bE ((jM.v a d e f h i j l m).1+bI o 1000)) (jM.v a d e f h i j l m).2.1 (jM.v a d e f h i j l m).2.2.1 (jM.v a d e f h i j l m).2.2.2.1 (jM.v a d e f h i j l m).2.2.2.2.1 (jM.v a d e f h i j l m).2.2.2.2.2.1 (jM.v a d e f h i j l m).2.2.2.2.2.2.1 (jM.v a d e f h i j l m).2.2.2.2.2.2.2.1 (jM.v a d e f h i j l m).2.2.2.2.2.2.2.2 else aj
def vo:=b λr0 r1 r2 r3 r4 r5 r6 r7 r8=>ah (r0,r1,r2,r3,r4,r5,r6,r7,r8)
def c:=λa d e f h i j l m o=>(vo a d e f h i j l m o).isSome
def v:=λa d e f h i j l m o=>(vo a d e f h i j l m o).getD (0,[],[],[],[],0,[],[],0)
theorem out{x}:∀a d e f h i j l m o,vo a d e f h i j l m o=ah x->c a d e f h i j l m o=ai/\v a d e f h i j l m o=x:=λ_ _ _ _ _ _ _ _ _ _=>Lib.dj
end wA

namespace B5
def r4(N:aE)(g k0:fW R)(a d e:az)(f h i j:aU)(l:az)(m o:aU)(p q r s t u w:az)(y z α xa xb xc:aU):aA R:=bif decide (d<(o.length:az))then bif decide (0<=d)&&decide (d<(o.length:az))then bif bU (ar o d.toNat 0) !=a then bif decide (0<=d)&&decide (d<(o.length:az))then bif cy (xc.length+(aw (aN [Ck.i ao,Ck.s,Ck.i ao,Ck.i ao,Ck.i ao,Ck.s,Ck.i ao] 1) 0 [.i .i64 (bU (ar o d.toNat 0)), .s (bM (ar o d.toNat 1)), .i .i64 (bU (ar o d.toNat (1+1))), .i .i64 (bU (ar o d.toNat (1+1+1))), .i .i64 (bU (ar o d.toNat (1+1+1+1))), .s (bM (ar o d.toNat (1+1+1+1+1))), .i .i64 (bU (ar o d.toNat (1+1+1+1+1+1)))]).length) 72 then g a (bE (d+1)) e f h i j l m o p q r s t u w y z α xa xb (xc++aw (aN [Ck.i ao,Ck.s,Ck.i ao,Ck.i ao,Ck.i ao,Ck.s,Ck.i ao] 1) 0 [.i .i64 (bU (ar o d.toNat 0)), .s (bM (ar o d.toNat 1)), .i .i64 (bU (ar o d.toNat (1+1))), .i .i64 (bU (ar o d.toNat (1+1+1))), .i .i64 (bU (ar o d.toNat (1+1+1+1))), .s (bM (ar o d.toNat (1+1+1+1+1))), .i .i64 (bU (ar o d.toNat (1+1+1+1+1+1)))])else aj else aj else g a (bE (d+1)) e f h i j l m o p q r s t u w y z α xa xb xc else aj else k0 a d e f h i j l m o p q r s t u w y z α xa xb xc
def l4(N:aE)(k0:fW R):aE->fW R
 |0=>λ_ _ _ _ _ _ _ _ _ _ _ _ _ _ _ _ _ _ _ _ _ _ _=>aj
 |n+1=>r4 N (l4 N k0 n) k0
def b(N:aE)(kr:dZ R)(a:az)(d e f h:aU)(i:az)(j l:aU)(m o:az):aA R:=bif jM.c a d e f h i j l m then l4 N (λ_ _ _ _ _ _ _ _ _ _ _ _ _ _ p q r s t u w y z=>kr p s t u w q y z r) N o 0 a d e f h i j l m 0 0 0 (jM.v a d e f h i j l m).1 (jM.v a d e f h i j l m).2.2.2.2.2.1 (jM.v a d e f h i j l m).2.2.2.2.2.2.2.2 (jM.v a d e f h i j l m).2.1 (jM.v a d e f h i j l m).2.2.1 (jM.v a d e f h i j l m).2.2.2.1 (jM.v a d e f h i j l m).2.2.2.2.1 (jM.v a d e f h i j l m).2.2.2.2.2.2.1 (aN [Ck.i ao,Ck.s,Ck.i ao,Ck.i ao,Ck.i ao,Ck.s,Ck.i ao] 0)else aj
def vo:=b Lib.cR λr0 r1 r2 r3 r4 r5 r6 r7 r8=>ah (r0,r1,r2,r3,r4,r5,r6,r7,r8)
def c:=λa d e f h i j l m o=>(vo a d e f h i j l m o).isSome
def v:=λa d e f h i j l m o=>(vo a d e f h i j l m o).getD (0,[],[],[],[],0,[],[],0)
theorem out{x}:∀a d e f h i j l m o,vo a d e f h i j l m o=ah x->c a d e f h i j l m o=ai/\v a d e f h i j l m o=x:=λ_ _ _ _ _ _ _ _ _ _=>Lib.dj
end B5

namespace uD
def r5(N:aE)(g:uo R)(g1:tq R)(k0:uo R)(k1:tq R)(a:aU)(d:az)(e:aU):aA R:=bif decide (d<(e.length:az))then bif decide (0<=d)&&decide (d<(e.length:az))then bif decide (d<(a.length:az))then bif decide (0<=d)&&decide (d<(a.length:az))then bif decide (bU (ar a d.toNat 0)>((bM (ar e d.toNat 1)).size:az))then bif decide (((bM (ar e d.toNat 1)).size:az)<bU (ar e d.toNat (1+1)))then bif iy 0 (bU (ar e d.toNat (1+1))) ((bM (ar e d.toNat 1)).size:az)then g1 a (bE (d+1)) e ([]++aw (aN [Ck.s,Ck.s,Ck.i ao] 1) 0 [.s (bM (ar e d.toNat 0)), .s (bL (bM (ar e d.toNat 1)) (aX 0) (bU (ar e d.toNat (1+1))).toNat), .i .i64 (bU (ar e d.toNat (1+1)))])else aj else bif iy 0 ((bM (ar e d.toNat 1)).size:az) ((bM (ar e d.toNat 1)).size:az)then g1 a (bE (d+1)) e ([]++aw (aN [Ck.s,Ck.s,Ck.i ao] 1) 0 [.s (bM (ar e d.toNat 0)), .s (bL (bM (ar e d.toNat 1)) (aX 0) ((bM (ar e d.toNat 1)).size:az).toNat), .i .i64 ((bM (ar e d.toNat 1)).size:az)])else aj else bif decide (bU (ar a d.toNat 0)<bU (ar e d.toNat (1+1)))then bif iy 0 (bU (ar e d.toNat (1+1))) ((bM (ar e d.toNat 1)).size:az)then g1 a (bE (d+1)) e ([]++aw (aN [Ck.s,Ck.s,Ck.i ao] 1) 0 [.s (bM (ar e d.toNat 0)), .s (bL (bM (ar e d.toNat 1)) (aX 0) (bU (ar e d.toNat (1+1))).toNat), .i .i64 (bU (ar e d.toNat (1+1)))])else aj else bif iy 0 (bU (ar a d.toNat 0)) ((bM (ar e d.toNat 1)).size:az)then g1 a (bE (d+1)) e ([]++aw (aN [Ck.s,Ck.s,Ck.i ao] 1) 0 [.s (bM (ar e d.toNat 0)), .s (bL (bM (ar e d.toNat 1)) (aX 0) (bU (ar a d.toNat 0)).toNat), .i .i64 (bU (ar a d.toNat 0))])else aj else aj else bif decide (0<bU (ar e d.toNat (1+1)))then bif iy 0 (bU (ar e d.toNat (1+1))) ((bM (ar e d.toNat 1)).size:az)then g1 a (bE (d+1)) e ([]++aw (aN [Ck.s,Ck.s,Ck.i ao] 1) 0 [.s (bM (ar e d.toNat 0)), .s (bL (bM (ar e d.toNat 1)) (aX 0) (bU (ar e d.toNat (1+1))).toNat), .i .i64 (bU (ar e d.toNat (1+1)))])else aj else g1 a (bE (d+1)) e ([]++aw (aN [Ck.s,Ck.s,Ck.i ao] 1) 0 [.s (bM (ar e d.toNat 0)), .s (bL (bM (ar e d.toNat 1)) (aX 0) (aX 0)), .i .i64 0])else aj else k0 a d e
def r5a(N:aE)(g:uo R)(g1:tq R)(k0:uo R)(k1:tq R)(a:aU)(d:az)(e f:aU):aA R:=bif decide (d<(e.length:az))then bif decide (0<=d)&&decide (d<(e.length:az))then bif decide (d<(a.length:az))then bif decide (0<=d)&&decide (d<(a.length:az))then bif decide (bU (ar a d.toNat 0)>((bM (ar e d.toNat 1)).size:az))then bif decide (((bM (ar e d.toNat 1)).size:az)<bU (ar e d.toNat (1+1)))then bif iy 0 (bU (ar e d.toNat (1+1))) ((bM (ar e d.toNat 1)).size:az)then bif cy (f.length+(aw (aN [Ck.s,Ck.s,Ck.i ao] 1) 0 [.s (bM (ar e d.toNat 0)), .s (bL (bM (ar e d.toNat 1)) (aX 0) (bU (ar e d.toNat (1+1))).toNat), .i .i64 (bU (ar e d.toNat (1+1)))]).length) 40 then g1 a (bE (d+1)) e (f++aw (aN [Ck.s,Ck.s,Ck.i ao] 1) 0 [.s (bM (ar e d.toNat 0)), .s (bL (bM (ar e d.toNat 1)) (aX 0) (bU (ar e d.toNat (1+1))).toNat), .i .i64 (bU (ar e d.toNat (1+1)))])else aj else aj else bif iy 0 ((bM (ar e d.toNat 1)).size:az) ((bM (ar e d.toNat 1)).size:az)then bif cy (f.length+(aw (aN [Ck.s,Ck.s,Ck.i ao] 1) 0 [.s (bM (ar e d.toNat 0)), .s (bL (bM (ar e d.toNat 1)) (aX 0) ((bM (ar e d.toNat 1)).size:az).toNat), .i .i64 ((bM (ar e d.toNat 1)).size:az)]).length) 40 then g1 a (bE (d+1)) e (f++aw (aN [Ck.s,Ck.s,Ck.i ao] 1) 0 [.s (bM (ar e d.toNat 0)), .s (bL (bM (ar e d.toNat 1)) (aX 0) ((bM (ar e d.toNat 1)).size:az).toNat), .i .i64 ((bM (ar e d.toNat 1)).size:az)])else aj else aj else bif decide (bU (ar a d.toNat 0)<bU (ar e d.toNat (1+1)))then bif iy 0 (bU (ar e d.toNat (1+1))) ((bM (ar e d.toNat 1)).size:az)then bif cy (f.length+(aw (aN [Ck.s,Ck.s,Ck.i ao] 1) 0 [.s (bM (ar e d.toNat 0)), .s (bL (bM (ar e d.toNat 1)) (aX 0) (bU (ar e d.toNat (1+1))).toNat), .i .i64 (bU (ar e d.toNat (1+1)))]).length) 40 then g1 a (bE (d+1)) e (f++aw (aN [Ck.s,Ck.s,Ck.i ao] 1) 0 [.s (bM (ar e d.toNat 0)), .s (bL (bM (ar e d.toNat 1)) (aX 0) (bU (ar e d.toNat (1+1))).toNat), .i .i64 (bU (ar e d.toNat (1+1)))])else aj else aj else bif iy 0 (bU (ar a d.toNat 0)) ((bM (ar e d.toNat 1)).size:az)then bif cy (f.length+(aw (aN [Ck.s,Ck.s,Ck.i ao] 1) 0 [.s (bM (ar e d.toNat 0)), .s (bL (bM (ar e d.toNat 1)) (aX 0) (bU (ar a d.toNat 0)).toNat), .i .i64 (bU (ar a d.toNat 0))]).length) 40 then g1 a (bE (d+1)) e (f++aw (aN [Ck.s,Ck.s,Ck.i ao] 1) 0 [.s (bM (ar e d.toNat 0)), .s (bL (bM (ar e d.toNat 1)) (aX 0) (bU (ar a d.toNat 0)).toNat), .i .i64 (bU (ar a d.toNat 0))])else aj else aj else aj else bif decide (0<bU (ar e d.toNat (1+1)))then bif iy 0 (bU (ar e d.toNat (1+1))) ((bM (ar e d.toNat 1)).size:az)then bif cy (f.length+(aw (aN [Ck.s,Ck.s,Ck.i ao] 1) 0 [.s (bM (ar e d.toNat 0)), .s (bL (bM (ar e d.toNat 1)) (aX 0) (bU (ar e d.toNat (1+1))).toNat), .i .i64 (bU (ar e d.toNat (1+1)))]).length) 40 then g1 a (bE (d+1)) e (f++aw (aN [Ck.s,Ck.s,Ck.i ao] 1) 0 [.s (bM (ar e d.toNat 0)), .s (bL (bM (ar e d.toNat 1)) (aX 0) (bU (ar e d.toNat (1+1))).toNat), .i .i64 (bU (ar e d.toNat (1+1)))])else aj else aj else bif cy (f.length+(aw (aN [Ck.s,Ck.s,Ck.i ao] 1) 0 [.s (bM (ar e d.toNat 0)), .s (bL (bM (ar e d.toNat 1)) (aX 0) (aX 0)), .i .i64 0]).length) 40 then g1 a (bE (d+1)) e (f++aw (aN [Ck.s,Ck.s,Ck.i ao] 1) 0 [.s (bM (ar e d.toNat 0)), .s (bL (bM (ar e d.toNat 1)) (aX 0) (aX 0)), .i .i64 0])else aj else aj else k1 a d e f
def l5a(N:aE)(k0:uo R)(k1:tq R):aE->tq R
 |0=>λ_ _ _ _=>aj
 |n+1=>r5a N (λx0 x1 x2=>aj) (l5a N k0 k1 n) k0 k1
def l5(N:aE)(k0:uo R)(k1:tq R):aE->uo R
 |0=>λ_ _ _=>aj
 |n+1=>r5 N (l5 N k0 k1 n) (l5a N k0 k1 n) k0 k1
def b(N:aE)(kr:KK R)(a d:aU):aA R:=bif eS.c a then bif !eS.v a then kr [] ak else l5 N (λ_ _ _=>kr [] ai) (λ_ _ _ e=>kr e ai) N d 0 a else aj
def vo:=b Lib.cR λr0 r1=>ah (r0,r1)
def c:=λa d=>(vo a d).isSome
def v:=λa d=>(vo a d).getD ([],ak)
theorem out{x}:∀a d,vo a d=ah x->c a d=ai/\v a d=x:=λ_ _=>Lib.dj
end uD

namespace mb
def b(kr:KL R)(a:aU)(d:aq):aA R:=bif jx.c a d then bif decide (jx.v a d<0)then kr ⟨#[]⟩ ak else bif decide (0<=jx.v a d)&&decide (jx.v a d<(a.length:az))then kr (bM (ar a (jx.v a d).toNat 1)) ai else aj else aj
def vo:=b λr0 r1=>ah (r0,r1)
def c:=λa d=>(vo a d).isSome
def v:=λa d=>(vo a d).getD (⟨#[]⟩,ak)
theorem out{x}:∀a d,vo a d=ah x->c a d=ai/\v a d=x:=λ_ _=>Lib.dj
end mb

namespace eT
def r6(N:aE)(g k0 k1:tt R)(a:aq)(d e f:az)(h:aW)(i j l:az):aA R:=bif decide (l<(a.size:az))then bif decide (l<bE (d+5))then bif decide (0<=l)&&decide (l<(a.size:az))then bif decide (0<=l)&&decide (l<(a.size:az))then bif decide ((↑(ig a l.toNat):az)<128)then bif decide (bE (i+bE (bI (bE (↑(ig a l.toNat):az)) 128*j))>1000000000)then k0 a d 0 0 ak (bE (i+bE (bI (bE (↑(ig a l.toNat):az)) 128*j))) (bE (j*128)) l else bif jy.c (bE (i+bE (bI (bE (↑(ig a l.toNat):az)) 128*j)))then bif iy d (bE (l+1)) (a.size:az)then bif !List.beq (jy.v (bE (i+bE (bI (bE (↑(ig a l.toNat):az)) 128*j)))).toList (bL a d.toNat (bE (l+1)).toNat).toList then k0 a d 0 0 ak (bE (i+bE (bI (bE (↑(ig a l.toNat):az)) 128*j))) (bE (j*128)) l else k0 a d (bE (i+bE (bI (bE (↑(ig a l.toNat):az)) 128*j))) (bE (l+1)) ai (bE (i+bE (bI (bE (↑(ig a l.toNat):az)) 128*j))) (bE (j*128)) l else aj else aj else g a d e f h (bE (i+bE (bI (bE (↑(ig a l.toNat):az)) 128*j))) (bE (j*128)) (bE (l+1))else aj else aj else k1 a d e f h i j l else k1 a d e f h i j l
def l6(N:aE)(k0 k1:tt R):aE->tt R
 |0=>λ_ _ _ _ _ _ _ _=>aj
 |n+1=>r6 N (l6 N k0 k1 n) k0 k1
def b(N:aE)(kr:MC R)(a:aq)(d:az):aA R:=bif !jV.v d 0 (a.size:az)then kr 0 0 ak else l6 N (λ_ _ e f h _ _ _=>kr e f h) (λ_ _ _ _ _ _ _ _=>kr 0 0 ak) N a d 0 0 ak 0 1 d
def v(dM:aq)(gJ:az):az×az×aW:=if 0<=gJ/\gJ<=dM.size then Lib.rv dM gJ.toNat 5 0 0 else(0,0,ak)
theorem gu(kr:MC R)(dM:aq)(gJ:az)(f0:HU dM):∃N,b N kr dM gJ=kr (v dM gJ).1 (v dM gJ).2.1 (v dM gJ).2.2:=by
 refine⟨6, ?_⟩
 unfold b v;by_cases hn:0<=gJ/\gJ<=dM.size
 ·have e:jV.v gJ 0 (dM.size:az)=true:=by simp[jV.v,hn]
  obtain⟨a,rfl⟩:∃a:aE,gJ=(a:az):=⟨gJ.toNat,by omega⟩
  have ha:a<=dM.size:=by omega
  rw[e,bu hn,Lib.eD];have hs:dM.size<=4611686018427387904:=f0;simp only[a9,aC]
  have:=Lib.gv (λm (s:aE×az)=>l6 6 (λy8 y9 Mc xN Q1 Gs Yk y15=>kr Mc xN Q1) (λYl RI Q2 KE xO Q3 Q4 y23=>kr 0 0 ak) m dM a 0 0 ak s.2 (128^s.1) ((a+s.1:aE):az)) (λs=>5-s.1) (λs=>s.1<=5/\s.2=Lib.num dM a s.1/\∀i,i<s.1->128<=ig dM (a+i))
   (λs=>kr (Lib.rv dM a (5-s.1) s.1 s.2).1 (Lib.rv dM a (5-s.1) s.1 s.2).2.1 (Lib.rv dM a (5-s.1) s.1 s.2).2.2) (λm s hs5=>by
   obtain⟨j,n⟩:=s
   obtain⟨hj,ZZ,Wa⟩:=hs5
   dsimp only at hj ZZ Wa⊢
   have hb:=Lib.G6 dM (a+j)
   have e5:bE ((a:az)+5)=((a+5:aE):az):=by rw[jL (by omega) (by omega)];omega
   by_cases gO:a+j<dM.size
   ·by_cases hj5:j<5
    ·have eb:bE (ig dM (a+j):az)=(ig dM (a+j):az):=jL (by omega) (by omega);have em:bI (ig dM (a+j):az) 128=(ig dM (a+j):az)%128:=iP (by omega);have hp:(128:az)^j<=268435456/\(1:az)<=128^j/\(128:az)^(j+1)=128^j*128:=by
      obtain rfl|rfl|rfl|rfl|rfl:j=0\/j=1\/j=2\/j=3\/j=4:=by omega
      all_goals decide
     have hrg:=Lib.yR dM j a;rw[<-ZZ]at hrg;have hm0:0<=(ig dM (a+j):az)%128/\(ig dM (a+j):az)%128<=127:=by omega
     have hq:0<=(ig dM (a+j):az)%128*128^j/\(ig dM (a+j):az)%128*128^j<=127*128^j:=
      ⟨Int.mul_nonneg hm0.1 (by omega),Int.mul_le_mul_of_nonneg_right hm0.2 (by omega)⟩
     have eq1:bE ((ig dM (a+j):az)%128*128^j)=(ig dM (a+j):az)%128*128^j:=jL (by omega) (by omega);have eq2:bE (n+(ig dM (a+j):az)%128*128^j)=n+(ig dM (a+j):az)%128*128^j:=jL (by omega) (by omega);have eq3:bE ((128:az)^j*128)=128^(j+1):=by rw[hp.2.2];exact jL (by omega) (by omega)
     have ef:5-j=(5-(j+1))+1:=by omega
     have Tf:n+(ig dM (a+j):az)%128*128^j=Lib.num dM a (j+1):=by rw[Lib.u0,<-ZZ]
     have en:bE (((a+j:aE):az)+1)=((a+(j+1):aE):az):=Lib.dm gO (by omega);have c2:decide (((a+j:aE):az)<((a+5:aE):az))=true:=Lib.N5 (by omega)
     have hrv:Lib.rv dM a (5-j) j n=(if(ig dM (a+j):az)>127 then Lib.rv dM a (5-(j+1)) (j+1) (n+(ig dM (a+j):az)%128*128^j)
       else if(j>0/\ig dM (a+j)=0)\/n+(ig dM (a+j):az)%128*128^j>1000000000 then(0,0,ak)
       else(n+(ig dM (a+j):az)%128*128^j,((a+j+1:aE):az),ai)):=by
      rw[ef];simp only[Lib.rv];rw[bu gO]
     simp only[l6,r6,Lib.N5 gO,e5,c2,Lib.cT,Lib.eD,eb,em,eq1,eq2,eq3,en,ay,aM];by_cases hc:(ig dM (a+j):az)<128
     ·left;rw[aG hc,ay,hrv,bJ (by omega)];by_cases DI:n+(ig dM (a+j):az)%128*128^j>1000000000
      ·rw[aG DI,bu (.inr DI)];rfl
      ·have ec:jy.c (n+(ig dM (a+j):az)%128*128^j)=true:=aG (by omega);have ein:iy (a:az) ((a+(j+1):aE):az) (dM.size:az)=true:=by simp[iy];omega
       rw[aK DI,aC,ec,ay,ein,ay,Tf];have akT:=Lib.canon dM j a (by omega) Wa (by omega) (by rw[<-Tf];omega);unfold jy.v;rw[akT];by_cases hz:j>0/\ig dM (a+j)=0
       ·rw[aG hz,bu (.inl hz)];rfl
       ·rw[aK hz,bJ (by rw[Tf]at DI;omega)];rfl
     ·right;rw[aK hc];refine⟨(j+1,n+(ig dM (a+j):az)%128*128^j),⟨by dsimp only;omega,Tf,λi hi=> ?_⟩,by dsimp only;omega,by dsimp only;rw[hrv,bu (by omega)],rfl⟩
      by_cases Lf:i<j
      ·exact Wa i Lf
      ·have:i=j:=by dsimp only at hi;omega
       subst this;omega
    ·left;have DJ:j=5:=by omega
     subst DJ;simp only[l6,r6,Lib.N5 gO,e5,Lib.V0 (bk (a+5)),ay,aC];rfl
   ·left;have hrv:Lib.rv dM a (5-j) j n=(0,0,ak):=by
     by_cases hj5:j<5
     ·have ef:5-j=(5-(j+1))+1:=by omega
      rw[ef];simp only[Lib.rv];rw[bJ gO]
     ·rw[show 5-j=0 by omega];rfl
    simp only[l6,r6,Lib.V0 gO,aC,hrv]) 6 (0,0) ⟨by dsimp only;omega,rfl,λi hi=>by dsimp only at hi;omega⟩ (by dsimp only;omega)
  exact this
 ·have e:jV.v gJ 0 (dM.size:az)=false:=by simp[jV.v];omega
  rw[e,bJ hn];rfl
end eT

namespace qN
def r5(N:aE)(g k0 k1:mR R)(a:aq)(d e:az)(f:aU):aA R:=bif decide (e<(a.size:az))then bif !(eT.v a e).2.2 then k0 a e e f else bif decide ((eT.v a e).1>bE (bE ((a.size:az)-(eT.v a e).2.1)-4))then k0 a e e f else bif iy (bE ((eT.v a e).2.1+4)) (bE (bE ((eT.v a e).2.1+4)+(eT.v a e).1)) (a.size:az)then bif fg.c (bL a (bE ((eT.v a e).2.1+4)).toNat (bE (bE ((eT.v a e).2.1+4)+(eT.v a e).1)).toNat)then bif !(fg.v (bL a (bE ((eT.v a e).2.1+4)).toNat (bE (bE ((eT.v a e).2.1+4)+(eT.v a e).1)).toNat)).2 then k0 a e e f else bif iy e (bE (bE ((eT.v a e).2.1+4)+(eT.v a e).1)) (a.size:az)then bif !List.beq (fg.v (bL a (bE ((eT.v a e).2.1+4)).toNat (bE (bE ((eT.v a e).2.1+4)+(eT.v a e).1)).toNat)).1.toList (bL a e.toNat (bE (bE ((eT.v a e).2.1+4)+(eT.v a e).1)).toNat).toList then k0 a e e f else bif cy (f.length+(aw (aN [.s] 1) 0 [.s (bL a (bE ((eT.v a e).2.1+4)).toNat (bE (bE ((eT.v a e).2.1+4)+(eT.v a e).1)).toNat)]).length) 16 then g a d (bE (bE ((eT.v a e).2.1+4)+(eT.v a e).1)) (f++aw (aN [.s] 1) 0 [.s (bL a (bE ((eT.v a e).2.1+4)).toNat (bE (bE ((eT.v a e).2.1+4)+(eT.v a e).1)).toNat)])else aj else aj else aj else aj else k1 a d e f
def l5(N:aE)(k0 k1:mR R):aE->mR R
 |0=>λ_ _ _ _=>aj
 |n+1=>r5 N (l5 N k0 k1 n) k0 k1
def b(N:aE)(kr:qX R)(a:aq):aA R:=bif decide ((a.size:az)>20000)then kr (aN [.s] 0) 0 else l5 N (λ_ d _ e=>kr e d) (λ_ _ d e=>kr e d) N a 0 0 (aN [.s] 0)
def vo:=b Lib.cR λr0 r1=>ah (r0,r1)
def c:=λa=>(vo a).isSome
def v:=λa=>(vo a).getD ([],0)
theorem out{x}:∀a,vo a=ah x->c a=ai/\v a=x:=λ_=>Lib.dj
end qN

namespace oJ
def b(kr:IA R)(a:aq)(d:az):aA R:=bif !(eT.v a d).2.2 then kr ⟨#[]⟩ 0 ak else bif decide ((eT.v a d).1>20000)then kr ⟨#[]⟩ 0 ak else bif decide ((eT.v a d).1>bE ((a.size:az)-(eT.v a d).2.1))then kr ⟨#[]⟩ 0 ak else bif iy (eT.v a d).2.1 (bE ((eT.v a d).2.1+(eT.v a d).1)) (a.size:az)then kr (bL a (eT.v a d).2.1.toNat (bE ((eT.v a d).2.1+(eT.v a d).1)).toNat) (bE ((eT.v a d).2.1+(eT.v a d).1)) ai else aj
def v(dM:aq)(gJ:az):aq×az×aW:=Lib.g8 dM gJ
theorem gu(kr:IA R)(dM:aq)(gJ:az)(f0:HU dM):b kr dM gJ=kr (v dM gJ).1 (v dM gJ).2.1 (v dM gJ).2.2:=Lib.BD f0 gJ kr
end oJ

namespace jg
def b(kr:yA R)(a:aq):aA R:=bif !(oJ.v a 0).2.2 then kr ⟨#[]⟩ 0 0 ⟨#[]⟩ ak else bif !(eT.v a (oJ.v a 0).2.1).2.2 then kr ⟨#[]⟩ 0 0 ⟨#[]⟩ ak else bif !(eT.v a (eT.v a (oJ.v a 0).2.1).2.1).2.2 then kr ⟨#[]⟩ 0 0 ⟨#[]⟩ ak else bif iy (eT.v a (eT.v a (oJ.v a 0).2.1).2.1).2.1 (a.size:az) (a.size:az)then bif !(jo.v (oJ.v a 0).1 (eT.v a (oJ.v a 0).2.1).1 (eT.v a (eT.v a (oJ.v a 0).2.1).2.1).1 (bL a (eT.v a (eT.v a (oJ.v a 0).2.1).2.1).2.1.toNat (a.size:az).toNat)).2 then kr ⟨#[]⟩ 0 0 ⟨#[]⟩ ak else bif !List.beq (jo.v (oJ.v a 0).1 (eT.v a (oJ.v a 0).2.1).1 (eT.v a (eT.v a (oJ.v a 0).2.1).2.1).1 (bL a (eT.v a (eT.v a (oJ.v a 0).2.1).2.1).2.1.toNat (a.size:az).toNat)).1.toList (aJ a)then kr ⟨#[]⟩ 0 0 ⟨#[]⟩ ak else kr (oJ.v a 0).1 (eT.v a (oJ.v a 0).2.1).1 (eT.v a (eT.v a (oJ.v a 0).2.1).2.1).1 (bL a (eT.v a (eT.v a (oJ.v a 0).2.1).2.1).2.1.toNat (a.size:az).toNat) ai else aj
def no:aq×az×az×aq×aW:=(⟨#[]⟩,0,0,⟨#[]⟩,ak)
def v(t0:aq):aq×az×az×aq×aW:=
 match Lib.g8 t0 0 with
 |(k,a,ai)=>(match Lib.ea t0 a with
  |(s,x,ai)=>(match Lib.ea t0 x with
   |(l,y,ai)=>if h_.v k s l (t0.extract y.toNat t0.size)=ai then(k,s,l,t0.extract y.toNat t0.size,ai)else no
   |_=>no)
  |_=>no)
 |_=>no
theorem gu(kr:yA R)(t0:aq)(f0:HU t0):b kr t0=kr (v t0).1 (v t0).2.1 (v t0).2.2.1 (v t0).2.2.2.1 (v t0).2.2.2.2:=by
 have e1:oJ.v=Lib.g8:=rfl;have e2:eT.v=Lib.ea:=rfl;unfold b v;simp only[e1,e2,Lib.eD];cases h1:Lib.g8 t0 0 with
 |mk k r1=>
  obtain⟨a,ok1⟩:=r1;cases ok1 with
  |false=>rfl
  |true=>
   dsimp only;cases h2:Lib.ea t0 a with
   |mk s r2=>
    obtain⟨x,ok2⟩:=r2;cases ok2 with
    |false=>rfl
    |true=>
     dsimp only;cases h3:Lib.ea t0 x with
     |mk l r3=>
      obtain⟨y,ok3⟩:=r3;cases ok3 with
      |false=>rfl
      |true=>
       obtain⟨p1,p2,p3,p4,p5⟩:=Lib.D4 h1;obtain⟨q1,q2,q3,q4,q5,q6⟩:=Lib.jJ h2;obtain⟨r1,r2,r3,r4,r5,r6⟩:=Lib.jJ h3;dsimp only;simp only[a9,aC];rw[Lib.zE (show iy y (t0.size:az) (t0.size:az)=ai by simp[iy];omega)];unfold jo.v;cases hE:h_.v k s l (t0.extract y.toNat t0.size)with
       |false=>rfl
       |true=>
        have ht:jo.qS k s l (t0.extract y.toNat t0.size)=t0:=by unfold jo.qS;rw[p5,q6,Lib.uJ t0 (by omega) (by omega),r6,Lib.uJ t0 (by omega) (by omega),Lib.uJ t0 (by omega) (by omega)];exact Lib.Jq t0
        simp only[if_true,a9,aC,ht,Lib.pc]
end jg

namespace qK
def r7(N:aE)(g k0:BN R)(a:az)(d e:aU):aA R:=bif decide (a<(e.length:az))then bif decide (0<=a)&&decide (a<(e.length:az))then bif(jg.v (bM (ar e a.toNat 0))).2.2.2.2 then bif e8.c d (jg.v (bM (ar e a.toNat 0))).1 (jg.v (bM (ar e a.toNat 0))).2.1 (jg.v (bM (ar e a.toNat 0))).2.2.1 (jg.v (bM (ar e a.toNat 0))).2.2.2.1 then g (bE (a+1)) (e8.v d (jg.v (bM (ar e a.toNat 0))).1 (jg.v (bM (ar e a.toNat 0))).2.1 (jg.v (bM (ar e a.toNat 0))).2.2.1 (jg.v (bM (ar e a.toNat 0))).2.2.2.1) e else aj else g (bE (a+1)) d e else aj else k0 a d e
def l7(N:aE)(k0:BN R):aE->BN R
 |0=>λ_ _ _=>aj
 |n+1=>r7 N (l7 N k0 n) k0
def b(N:aE)(kr:aU->aA R)(a:aU):aA R:=bif eS.c a then bif !eS.v a then kr (aN [Ck.s,Ck.i ao,Ck.i ao,Ck.s] 0)else bif mb.c a {data:= #[au 107,au 101,au 112,au 116]}then bif qN.c (mb.v a {data:= #[au 107,au 101,au 112,au 116]}).1 then l7 N (λ_ d _=>kr d) N 0 (aN [Ck.s,Ck.i ao,Ck.i ao,Ck.s] 0) (qN.v (mb.v a {data:= #[au 107,au 101,au 112,au 116]}).1).1 else aj else aj else aj
def vo:=b Lib.cR λr0=>ah r0
def c:=λa=>(vo a).isSome
def v:=λa=>(vo a).getD ([])
theorem out{x}:∀a,vo a=ah x->c a=ai/\v a=x:=λ_=>Lib.dj
end qK

namespace lS
def r9(N:aE)(g:yz R)(k0:Ez R)(k1:yz R)(a:aU)(d:aW)(e:aq)(f:az)(h:aU):aA R:=bif decide (f<(a.length:az))then bif decide (0<=f)&&decide (f<(a.length:az))then bif fg.c (jo.v (bM (ar a f.toNat 0)) (bU (ar a f.toNat 1)) (bU (ar a f.toNat (1+1))) (bM (ar a f.toNat (1+1+1)))).1 then bif !(jo.v (bM (ar a f.toNat 0)) (bU (ar a f.toNat 1)) (bU (ar a f.toNat (1+1))) (bM (ar a f.toNat (1+1+1)))).2 then k0 a ak e f (aN [Ck.i ao,Ck.s,Ck.s,Ck.s] 0) h else bif !(fg.v (jo.v (bM (ar a f.toNat 0)) (bU (ar a f.toNat 1)) (bU (ar a f.toNat (1+1))) (bM (ar a f.toNat (1+1+1)))).1).2 then k0 a ak e f (aN [Ck.i ao,Ck.s,Ck.s,Ck.s] 0) h else bif decide (e.size+(fg.v (jo.v (bM (ar a f.toNat 0)) (bU (ar a f.toNat 1)) (bU (ar a f.toNat (1+1))) (bM (ar a f.toNat (1+1+1)))).1).1.size<=4611686018427387904)then g a d (e++(fg.v (jo.v (bM (ar a f.toNat 0)) (bU (ar a f.toNat 1)) (bU (ar a f.toNat (1+1))) (bM (ar a f.toNat (1+1+1)))).1).1) (bE (f+1)) h else aj else aj else aj else k1 a d e f h
def l9(N:aE)(k0:Ez R)(k1:yz R):aE->yz R
 |0=>λ_ _ _ _ _=>aj
 |n+1=>r9 N (l9 N k0 k1 n) k0 k1
def b(N:aE)(kr:KK R)(a d:aU):aA R:=bif eS.c a then bif !eS.v a then kr (aN [Ck.i ao,Ck.s,Ck.s,Ck.s] 0) ak else bif mb.c a {data:= #[au 110,au 101,au 119]}then bif(mb.v a {data:= #[au 110,au 101,au 119]}).2 then l9 N (λ_ e _ _ f _=>kr f e) (λ_ _ e _ f=>bif cy (f.length+(aw (aw (aw (aN [Ck.i ao,Ck.s,Ck.s,Ck.s] 3) 0 [.i .i64 1, .s {data:= #[au 110,au 101,au 119]}, .s e, .s ⟨#[]⟩]) 1 [.i .i64 2, .s {data:= #[au 110,au 101,au 119]}, .s ⟨#[]⟩, .s ⟨#[]⟩]) 2 [.i .i64 3, .s {data:= #[au 110,au 101,au 119]}, .s ⟨#[]⟩, .s {data:= #[au 107,au 101,au 112,au 116]}]).length) 56 then kr (f++aw (aw (aw (aN [Ck.i ao,Ck.s,Ck.s,Ck.s] 3) 0 [.i .i64 1, .s {data:= #[au 110,au 101,au 119]}, .s e, .s ⟨#[]⟩]) 1 [.i .i64 2, .s {data:= #[au 110,au 101,au 119]}, .s ⟨#[]⟩, .s ⟨#[]⟩]) 2 [.i .i64 3, .s {data:= #[au 110,au 101,au 119]}, .s ⟨#[]⟩, .s {data:= #[au 107,au 101,au 112,au 116]}]) ai else aj) N d ak ⟨#[]⟩ 0 (aN [Ck.i ao,Ck.s,Ck.s,Ck.s] 0++aw (aN [Ck.i ao,Ck.s,Ck.s,Ck.s] 1) 0 [.i .i64 4, .s {data:= #[au 110,au 101,au 119]}, .s ⟨#[]⟩, .s ⟨#[]⟩])else l9 N (λ_ e _ _ f _=>kr f e) (λ_ _ e _ f=>bif cy (f.length+(aw (aw (aw (aN [Ck.i ao,Ck.s,Ck.s,Ck.s] 3) 0 [.i .i64 1, .s {data:= #[au 110,au 101,au 119]}, .s e, .s ⟨#[]⟩]) 1 [.i .i64 2, .s {data:= #[au 110,au 101,au 119]}, .s ⟨#[]⟩, .s ⟨#[]⟩]) 2 [.i .i64 3, .s {data:= #[au 110,au 101,au 119]}, .s ⟨#[]⟩, .s {data:= #[au 107,au 101,au 112,au 116]}]).length) 56 then kr (f++aw (aw (aw (aN [Ck.i ao,Ck.s,Ck.s,Ck.s] 3) 0 [.i .i64 1, .s {data:= #[au 110,au 101,au 119]}, .s e, .s ⟨#[]⟩]) 1 [.i .i64 2, .s {data:= #[au 110,au 101,au 119]}, .s ⟨#[]⟩, .s ⟨#[]⟩]) 2 [.i .i64 3, .s {data:= #[au 110,au 101,au 119]}, .s ⟨#[]⟩, .s {data:= #[au 107,au 101,au 112,au 116]}]) ai else aj) N d ak ⟨#[]⟩ 0 (aN [Ck.i ao,Ck.s,Ck.s,Ck.s] 0)else aj else aj
def vo:=b Lib.cR λr0 r1=>ah (r0,r1)
def c:=λa d=>(vo a d).isSome
def v:=λa d=>(vo a d).getD ([],ak)
theorem out{x}:∀a d,vo a d=ah x->c a d=ai/\v a d=x:=λ_ _=>Lib.dj
end lS

namespace mE
def r4(N:aE)(g k0:lA R)(a:az)(d:aU)(e f h i j l m:az)(o p q r s t:aU):aA R:=bif decide (e<(d.length:az))then bif decide (0<=e)&&decide (e<(d.length:az))then bif h_.v (bM (ar d e.toNat 0)) (bU (ar d e.toNat 1)) (bU (ar d e.toNat (1+1))) (bM (ar d e.toNat (1+1+1)))then bif decide (0<=e)&&decide (e<(d.length:az))then bif Gx.v (bM (ar d e.toNat 0)) (bU (ar d e.toNat 1)) (bU (ar d e.toNat (1+1))) (bM (ar d e.toNat (1+1+1))) a then bif decide (0<=e)&&decide (e<(d.length:az))then bif wx.c j o p q r l s t m (bM (ar d e.toNat 0)) (bU (ar d e.toNat 1)) (bU (ar d e.toNat (1+1))) (bM (ar d e.toNat (1+1+1)))then Lib.lt (wx.v j o p q r l s t m (bM (ar d e.toNat 0)) (bU (ar d e.toNat 1)) (bU (ar d e.toNat (1+1))) (bM (ar d e.toNat (1+1+1)))) λu=>g a d (bE (e+1)) f h i u.1 u.2.2.2.2.2.1 u.2.2.2.2.2.2.2.2 u.2.1 u.2.2.1 u.2.2.2.1 u.2.2.2.2.1 u.2.2.2.2.2.2.1 u.2.2.2.2.2.2.2.1 else aj else aj else g a d (bE (e+1)) f h i j l m o p q r s t else aj else g a d (bE (e+1)) f h i j l m o p q r s t else aj else k0 a d e f h i j l m o p q r s t
def l4(N:aE)(k0:lA R):aE->lA R
 |0=>λ_ _ _ _ _ _ _ _ _ _ _ _ _ _ _=>aj
 |n+1=>r4 N (l4 N k0 n) k0
def b(N:aE)(kr:dZ R)(a:az)(d:aU):aA R:=l4 N (λ_ _ _ _ _ _ e f h i j l m o p=>kr e i j l m f o p h) N a d 0 0 0 0 a 0 0 [] [] [] ([]++aw (aN [Ck.l 3] 1) 0 [CV.l 3 (aN [Ck.i ao] (aX 16))]++aw (aN [Ck.l 3] 1) 0 [CV.l 3 (aN [Ck.i ao] (aX 16))]++aw (aN [Ck.l 3] 1) 0 [CV.l 3 (aN [Ck.i ao] (aX 16))]) [] []
def vo:=b Lib.cR λr0 r1 r2 r3 r4 r5 r6 r7 r8=>ah (r0,r1,r2,r3,r4,r5,r6,r7,r8)
def c:=λa d=>(vo a d).isSome
def v:=λa d=>(vo a d).getD (0,[],[],[],[],0,[],[],0)
theorem out{x}:∀a d,vo a d=ah x->c a d=ai/\v a d=x:=λ_ _=>Lib.dj
end mE

namespace uB
def r7(N:aE)(g g1 k0 k1:gG R)(a d e f:az)(h i j l m o p q r s t:aU):aA R:=bif decide (a<(h.length:az))then bif decide (0<=a)&&decide (a<(h.length:az))then bif Gx.v (bM (ar h a.toNat 0)) (bU (ar h a.toNat 1)) (bU (ar h a.toNat (1+1))) (bM (ar h a.toNat (1+1+1))) d then bif decide (0<=a)&&decide (a<(h.length:az))then bif cy (i.length+(aw (aN [Ck.s,Ck.i ao,Ck.i ao,Ck.s] 1) 0 [.s (bM (ar h a.toNat 0)), .i .i64 (bU (ar h a.toNat 1)), .i .i64 (bU (ar h a.toNat (1+1))), .s (bM (ar h a.toNat (1+1+1)))]).length) 48 then g (bE (a+1)) d e f h (i++aw (aN [Ck.s,Ck.i ao,Ck.i ao,Ck.s] 1) 0 [.s (bM (ar h a.toNat 0)), .i .i64 (bU (ar h a.toNat 1)), .i .i64 (bU (ar h a.toNat (1+1))), .s (bM (ar h a.toNat (1+1+1)))]) j l m o p q r s t else aj else aj else g (bE (a+1)) d e f h i j l m o p q r s t else aj else k0 a d e f h i j l m o p q r s t
def r7a(N:aE)(g g1 k0 k1:gG R)(a d e f:az)(h i j l m o p q r s t:aU):aA R:=bif decide (a<(h.length:az))then bif decide (0<=a)&&decide (a<(h.length:az))then bif Gx.v (bM (ar h a.toNat 0)) (bU (ar h a.toNat 1)) (bU (ar h a.toNat (1+1))) (bM (ar h a.toNat (1+1+1))) d then bif decide (0<=a)&&decide (a<(h.length:az))then bif cy (i.length+(aw (aN [Ck.s,Ck.i ao,Ck.i ao,Ck.s] 1) 0 [.s (bM (ar h a.toNat 0)), .i .i64 (bU (ar h a.toNat 1)), .i .i64 (bU (ar h a.toNat (1+1))), .s (bM (ar h a.toNat (1+1+1)))]).length) 48 then g1 (bE (a+1)) d e f h (i++aw (aN [Ck.s,Ck.i ao,Ck.i ao,Ck.s] 1) 0 [.s (bM (ar h a.toNat 0)), .i .i64 (bU (ar h a.toNat 1)), .i .i64 (bU (ar h a.toNat (1+1))), .s (bM (ar h a.toNat (1+1+1)))]) j l m o p q r s t else aj else aj else g1 (bE (a+1)) d e f h i j l m o p q r s t else aj else k1 a d e f h i j l m o p q r s t
def l7a(N:aE)(k0 k1:gG R):aE->gG R
 |0=>λ_ _ _ _ _ _ _ _ _ _ _ _ _ _ _=>aj
 |n+1=>r7a N (λx2 x3 x4 x5 x6 x7 x8 x9 x10 x11 Ir x13 x14 x15 x16=>aj) (l7a N k0 k1 n) k0 k1
def l7(N:aE)(k0 k1:gG R):aE->gG R
 |0=>λ_ _ _ _ _ _ _ _ _ _ _ _ _ _ _=>aj
 |n+1=>r7 N (l7 N k0 k1 n) (l7a N k0 k1 n) k0 k1
def b(N:aE)(kr:nI R)(a:az)(d e f h:aU)(i:az)(j l:aU)(m:az)(o p q:aU)(r s:az)(t:aq)(u:az)(w:aU):aA R:=bif uD.c o w then Lib.lt (uD.v o w) λy=>bif y.2 then bif qK.c y.1 then Lib.lt (qK.v y.1) λz=>l7 N (λ_ α _ _ _ xa _ _ _ _ _ _ xb xc xd=>bif lS.c xb xa then Lib.lt (lS.v xb xa) λxe=>bif xe.2 then bif oK.c xb xe.1 then Lib.lt (oK.v xb xe.1) λxf=>bif mE.c α xa then Lib.lt (mE.v α xa) λxg=>kr xg.1 xg.2.1 xg.2.2.1 xg.2.2.2.1 xg.2.2.2.2.1 xg.2.2.2.2.2.1 xg.2.2.2.2.2.2.1 xg.2.2.2.2.2.2.2.1 xg.2.2.2.2.2.2.2.2 xf.1 xc xd else aj else aj else bif mE.c α xa then Lib.lt (mE.v α xa) λxf=>kr xf.1 xf.2.1 xf.2.2.1 xf.2.2.2.1 xf.2.2.2.2.1 xf.2.2.2.2.2.1 xf.2.2.2.2.2.2.1 xf.2.2.2.2.2.2.2.1 xf.2.2.2.2.2.2.2.2 xb xc xd else aj else aj) (λ_ α _ _ _ xa _ _ _ _ _ _ xb xc xd=>bif lS.c xb xa then Lib.lt (lS.v xb xa) λxe=>bif xe.2 then bif oK.c xb xe.1 then Lib.lt (oK.v xb xe.1) λxf=>bif mE.c α xa then Lib.lt (mE.v α xa) λxg=>kr xg.1 xg.2.1 xg.2.2.1 xg.2.2.2.1 xg.2.2.2.2.1 xg.2.2.2.2.2.1 xg.2.2.2.2.2.2.1 xg.2.2.2.2.2.2.2.1 xg.2.2.2.2.2.2.2.2 xf.1 xc xd else aj else aj else bif mE.c α xa then Lib.lt (mE.v α xa) λxf=>kr xf.1 xf.2.1 xf.2.2.1 xf.2.2.2.1 xf.2.2.2.2.1 xf.2.2.2.2.2.1 xf.2.2.2.2.2.2.1 xf.2.2.2.2.2.2.2.1 xf.2.2.2.2.2.2.2.2 xb xc xd else aj else aj) N 0 a i m z (aN [Ck.s,Ck.i ao,Ck.i ao,Ck.s] 0) d e f h j l y.1 p q else aj else bif qK.c o then Lib.lt (qK.v o) λz=>l7a N (λ_ α _ _ _ xa _ _ _ _ _ _ xb xc xd=>bif lS.c xb xa then Lib.lt (lS.v xb xa) λxe=>bif xe.2 then bif oK.c xb xe.1 then Lib.lt (oK.v xb xe.1) λxf=>bif mE.c α xa then Lib.lt (mE.v α xa) λxg=>kr xg.1 xg.2.1 xg.2.2.1 xg.2.2.2.1 xg.2.2.2.2.1 xg.2.2.2.2.2.1 xg.2.2.2.2.2.2.1 xg.2.2.2.2.2.2.2.1 xg.2.2.2.2.2.2.2.2 xf.1 xc xd else aj else aj else bif mE.c α xa then Lib.lt (mE.v α xa) λxf=>kr xf.1 xf.2.1 xf.2.2.1 xf.2.2.2.1 xf.2.2.2.2.1 xf.2.2.2.2.2.1 xf.2.2.2.2.2.2.1 xf.2.2.2.2.2.2.2.1 xf.2.2.2.2.2.2.2.2 xb xc xd else aj else aj) (λ_ α _ _ _ xa _ _ _ _ _ _ xb xc xd=>bif lS.c xb xa then Lib.lt (lS.v xb xa) λxe=>bif xe.2 then bif oK.c xb xe.1 then Lib.lt (oK.v xb xe.1) λxf=>bif mE.c α xa then Lib.lt (mE.v α xa) λxg=>kr xg.1 xg.2.1 xg.2.2.1 xg.2.2.2.1 xg.2.2.2.2.1 xg.2.2.2.2.2.1 xg.2.2.2.2.2.2.1 xg.2.2.2.2.2.2.2.1 xg.2.2.2.2.2.2.2.2 xf.1 xc xd else aj else aj else bif mE.c α xa then Lib.lt (mE.v α xa) λxf=>kr xf.1 xf.2.1 xf.2.2.1 xf.2.2.2.1 xf.2.2.2.2.1 xf.2.2.2.2.2.1 xf.2.2.2.2.2.2.1 xf.2.2.2.2.2.2.2.1 xf.2.2.2.2.2.2.2.2 xb xc xd else aj else aj) N 0 a i m z (aN [Ck.s,Ck.i ao,Ck.i ao,Ck.s] 0) d e f h j l o p q else aj else aj
def vo:=b Lib.cR λr0 r1 r2 r3 r4 r5 r6 r7 r8 r9 LS F7=>ah (r0,r1,r2,r3,r4,r5,r6,r7,r8,r9,LS,F7)
def c:=λa d e f h i j l m o p q r s t u w=>(vo a d e f h i j l m o p q r s t u w).isSome
def v:=λa d e f h i j l m o p q r s t u w=>(vo a d e f h i j l m o p q r s t u w).getD (0,[],[],[],[],0,[],[],0,[],[],[])
theorem out{x}:∀a d e f h i j l m o p q r s t u w,vo a d e f h i j l m o p q r s t u w=ah x->c a d e f h i j l m o p q r s t u w=ai/\v a d e f h i j l m o p q r s t u w=x:=λ_ _ _ _ _ _ _ _ _ _ _ _ _ _ _ _ _=>Lib.dj
end uB

namespace Bg
def b(kr:qx R)(a:az)(d e f h:aU)(i:az)(j l:aU)(m:az)(o p q:aU)(r s:az)(t:aq)(u:az)(w:aU):aA R:=bif decide (r=1)then bif U9.c a d e f h i j l m s t then Lib.lt (U9.v a d e f h i j l m s t) λy=>kr y.2.2.2.2.2.2.2.2.2 y.1 y.2.1 y.2.2.1 y.2.2.2.1 y.2.2.2.2.1 y.2.2.2.2.2.1 y.2.2.2.2.2.2.1 y.2.2.2.2.2.2.2.1 y.2.2.2.2.2.2.2.2.1 o p q else aj else bif decide (r=2)then bif Ro.c a d e f h i j l m s t then Lib.lt (Ro.v a d e f h i j l m s t) λy=>kr (yr.v y.2.2.2.2.2.2.2.2.2) y.1 y.2.1 y.2.2.1 y.2.2.2.1 y.2.2.2.2.1 y.2.2.2.2.2.1 y.2.2.2.2.2.2.1 y.2.2.2.2.2.2.2.1 y.2.2.2.2.2.2.2.2.1 o p q else aj else bif decide (r=3)then bif Bj.c a d e f h i j l m o p q r s t u w then Lib.lt (Bj.v a d e f h i j l m o p q r s t u w) λy=>kr y.1 y.2.1 y.2.2.1 y.2.2.2.1 y.2.2.2.2.1 y.2.2.2.2.2.1 y.2.2.2.2.2.2.1 y.2.2.2.2.2.2.2.1 y.2.2.2.2.2.2.2.2.1 y.2.2.2.2.2.2.2.2.2.1 y.2.2.2.2.2.2.2.2.2.2.1 y.2.2.2.2.2.2.2.2.2.2.2.1 y.2.2.2.2.2.2.2.2.2.2.2.2 else aj else bif decide (r=4)then bif Rq.c a d e f h i j l m s then Lib.lt (Rq.v a d e f h i j l m s) λy=>kr (yr.v y.2.2.2.2.2.2.2.2.2) y.1 y.2.1 y.2.2.1 y.2.2.2.1 y.2.2.2.2.1 y.2.2.2.2.2.1 y.2.2.2.2.2.2.1 y.2.2.2.2.2.2.2.1 y.2.2.2.2.2.2.2.2.1 o p q else aj else bif decide (r=5)then bif wA.c a d e f h i j l m u then Lib.lt (wA.v a d e f h i j l m u) λy=>kr 0 y.1 y.2.1 y.2.2.1 y.2.2.2.1 y.2.2.2.2.1 y.2.2.2.2.2.1 y.2.2.2.2.2.2.1 y.2.2.2.2.2.2.2.1 y.2.2.2.2.2.2.2.2 o p q else aj else bif decide (r=6)then bif B5.c a d e f h i j l m s then Lib.lt (B5.v a d e f h i j l m s) λy=>kr (yr.v (decide ((y.2.2.2.2.2.2.2.1.length:az)<(l.length:az)))) y.1 y.2.1 y.2.2.1 y.2.2.2.1 y.2.2.2.2.1 y.2.2.2.2.2.1 y.2.2.2.2.2.2.1 y.2.2.2.2.2.2.2.1 y.2.2.2.2.2.2.2.2 o p q else aj else bif decide (r=7)then bif uB.c a d e f h i j l m o p q r s t u w then Lib.lt (uB.v a d e f h i j l m o p q r s t u w) λy=>kr 0 y.1 y.2.1 y.2.2.1 y.2.2.2.1 y.2.2.2.2.1 y.2.2.2.2.2.1 y.2.2.2.2.2.2.1 y.2.2.2.2.2.2.2.1 y.2.2.2.2.2.2.2.2.1 y.2.2.2.2.2.2.2.2.2.1 y.2.2.2.2.2.2.2.2.2.2.1 y.2.2.2.2.2.2.2.2.2.2.2 else aj else kr 0 a d e f h i j l m o p q
def vo:=b λr0 r1 r2 r3 r4 r5 r6 r7 r8 r9 LS F7 r12=>ah (r0,r1,r2,r3,r4,r5,r6,r7,r8,r9,LS,F7,r12)
def c:=λa d e f h i j l m o p q r s t u w=>(vo a d e f h i j l m o p q r s t u w).isSome
def v:=λa d e f h i j l m o p q r s t u w=>(vo a d e f h i j l m o p q r s t u w).getD (0,0,[],[],[],[],0,[],[],0,[],[],[])
theorem out{x}:∀a d e f h i j l m o p q r s t u w,vo a d e f h i j l m o p q r s t u w=ah x->c a d e f h i j l m o p q r s t u w=ai/\v a d e f h i j l m o p q r s t u w=x:=λ_ _ _ _ _ _ _ _ _ _ _ _ _ _ _ _ _=>Lib.dj
end Bg

namespace wy
def b(kr:nI R)(a:az)(d e f h:aU)(i:az)(j l:aU)(m:az)(o p q:aU)(r s:az)(t:aq)(u:az)(w:aU):aA R:=bif Bg.c a d e f h i j l m o p q r s t u w then Lib.lt (Bg.v a d e f h i j l m o p q r s t u w) λy=>bif cy ((aN [Ck.i ao] 0).length+y.2.2.2.2.2.2.2.2.2.2.2.1.length) 8 then bif cy ((aN [Ck.i ao] 0++y.2.2.2.2.2.2.2.2.2.2.2.1).length+(aw (aN [Ck.i ao] 1) 0 [.i .i64 y.1]).length) 8 then kr y.2.1 y.2.2.1 y.2.2.2.1 y.2.2.2.2.1 y.2.2.2.2.2.1 y.2.2.2.2.2.2.1 y.2.2.2.2.2.2.2.1 y.2.2.2.2.2.2.2.2.1 y.2.2.2.2.2.2.2.2.2.1 y.2.2.2.2.2.2.2.2.2.2.1 (aN [Ck.i ao] 0++y.2.2.2.2.2.2.2.2.2.2.2.1++aw (aN [Ck.i ao] 1) 0 [.i .i64 y.1]) y.2.2.2.2.2.2.2.2.2.2.2.2 else aj else aj else aj
def vo:=b λr0 r1 r2 r3 r4 r5 r6 r7 r8 r9 LS F7=>ah (r0,r1,r2,r3,r4,r5,r6,r7,r8,r9,LS,F7)
def c:=λa d e f h i j l m o p q r s t u w=>(vo a d e f h i j l m o p q r s t u w).isSome
def v:=λa d e f h i j l m o p q r s t u w=>(vo a d e f h i j l m o p q r s t u w).getD (0,[],[],[],[],0,[],[],0,[],[],[])
theorem out{x}:∀a d e f h i j l m o p q r s t u w,vo a d e f h i j l m o p q r s t u w=ah x->c a d e f h i j l m o p q r s t u w=ai/\v a d e f h i j l m o p q r s t u w=x:=λ_ _ _ _ _ _ _ _ _ _ _ _ _ _ _ _ _=>Lib.dj
end wy

namespace G3
def r3(N:aE)(g k0:jk R)(a:az)(d:aU)(e f h i j l m o:az)(p q r s t u w y z:aU):aA R:=bif c9.c d e f 30 then Lib.lt (c9.v d e f 30) λα=>bif decide (a<α.1)then bif tD.c α.2.1 α.2.2.1 α.2.2.2 l p q r s m t u o w y z then Lib.lt (tD.v α.2.1 α.2.2.1 α.2.2.2 l p q r s m t u o w y z) λxa=>bif wy.c l xa.2.2.2.2.2.2.2.2.1 xa.2.2.2.2.2.2.2.2.2.1 xa.2.2.2.2.2.2.2.2.2.2.1 xa.2.2.2.2.2.2.2.2.2.2.2.1 m xa.2.2.2.2.2.2.2.2.2.2.2.2.1 xa.2.2.2.2.2.2.2.2.2.2.2.2.2.1 o xa.2.2.2.2.2.2.2.2.2.2.2.2.2.2.1 xa.2.2.2.2.2.2.2.2.2.2.2.2.2.2.2.1 xa.2.2.2.2.2.2.2.2.2.2.2.2.2.2.2.2 xa.1 xa.2.1 xa.2.2.1 xa.2.2.2.1 xa.2.2.2.2.1 then Lib.lt (wy.v l xa.2.2.2.2.2.2.2.2.1 xa.2.2.2.2.2.2.2.2.2.1 xa.2.2.2.2.2.2.2.2.2.2.1 xa.2.2.2.2.2.2.2.2.2.2.2.1 m xa.2.2.2.2.2.2.2.2.2.2.2.2.1 xa.2.2.2.2.2.2.2.2.2.2.2.2.2.1 o xa.2.2.2.2.2.2.2.2.2.2.2.2.2.2.1 xa.2.2.2.2.2.2.2.2.2.2.2.2.2.2.2.1 xa.2.2.2.2.2.2.2.2.2.2.2.2.2.2.2.2 xa.1 xa.2.1 xa.2.2.1 xa.2.2.2.1 xa.2.2.2.2.1) λxb=>g (bE (a+1)) xa.2.2.2.2.2.1 xa.2.2.2.2.2.2.1 xa.2.2.2.2.2.2.2.1 h i j xb.1 xb.2.2.2.2.2.1 xb.2.2.2.2.2.2.2.2.1 xb.2.1 xb.2.2.1 xb.2.2.2.1 xb.2.2.2.2.1 xb.2.2.2.2.2.2.1 xb.2.2.2.2.2.2.2.1 xb.2.2.2.2.2.2.2.2.2.1 xb.2.2.2.2.2.2.2.2.2.2.1 xb.2.2.2.2.2.2.2.2.2.2.2 else aj else aj else k0 a α.2.1 α.2.2.1 α.2.2.2 h i j l m o p q r s t u w y z else aj
def l3(N:aE)(k0:jk R):aE->jk R
 |0=>λ_ _ _ _ _ _ _ _ _ _ _ _ _ _ _ _ _ _ _=>aj
 |n+1=>r3 N (l3 N k0 n) k0
def b(N:aE)(kr:qW R)(a:aU)(d e:az):aA R:=l3 N (λ_ f h i _ _ _ j l m o p q r s t _ _ _=>kr j o p q r l s t m f h i) N 0 a d e 0 0 0 1 0 0 [] [] [] ([]++aw (aN [Ck.l 3] 1) 0 [CV.l 3 (aN [Ck.i ao] (aX 16))]++aw (aN [Ck.l 3] 1) 0 [CV.l 3 (aN [Ck.i ao] (aX 16))]++aw (aN [Ck.l 3] 1) 0 [CV.l 3 (aN [Ck.i ao] (aX 16))]) [] [] [] [] []
def vo:=b Lib.cR λr0 r1 r2 r3 r4 r5 r6 r7 r8 r9 LS F7=>ah (r0,r1,r2,r3,r4,r5,r6,r7,r8,r9,LS,F7)
def c:=λa d e=>(vo a d e).isSome
def v:=λa d e=>(vo a d e).getD (0,[],[],[],[],0,[],[],0,[],0,0)
theorem out{x}:∀a d e,vo a d e=ah x->c a d e=ai/\v a d e=x:=λ_ _ _=>Lib.dj
end G3

namespace yo
def r3(N:aE)(g k0:qV R)(a:az)(d:aU)(e f h i:az)(j l m:aU):aA R:=bif c9.c d e f 40 then bif decide (a<(c9.v d e f 40).1)then bif jT.c (c9.v d e f 40).2.1 (c9.v d e f 40).2.2.1 (c9.v d e f 40).2.2.2 then bif j7.c j l m i (jT.v (c9.v d e f 40).2.1 (c9.v d e f 40).2.2.1 (c9.v d e f 40).2.2.2).1 then g (bE (a+1)) (jT.v (c9.v d e f 40).2.1 (c9.v d e f 40).2.2.1 (c9.v d e f 40).2.2.2).2.1 (jT.v (c9.v d e f 40).2.1 (c9.v d e f 40).2.2.1 (c9.v d e f 40).2.2.2).2.2.1 (jT.v (c9.v d e f 40).2.1 (c9.v d e f 40).2.2.1 (c9.v d e f 40).2.2.2).2.2.2 h (j7.v j l m i (jT.v (c9.v d e f 40).2.1 (c9.v d e f 40).2.2.1 (c9.v d e f 40).2.2.2).1).2.2.2.1 (j7.v j l m i (jT.v (c9.v d e f 40).2.1 (c9.v d e f 40).2.2.1 (c9.v d e f 40).2.2.2).1).1 (j7.v j l m i (jT.v (c9.v d e f 40).2.1 (c9.v d e f 40).2.2.1 (c9.v d e f 40).2.2.2).1).2.1 (j7.v j l m i (jT.v (c9.v d e f 40).2.1 (c9.v d e f 40).2.2.1 (c9.v d e f 40).2.2.2).1).2.2.1 else aj else aj else k0 a (c9.v d e f 40).2.1 (c9.v d e f 40).2.2.1 (c9.v d e f 40).2.2.2 h i j l m else aj
def l3(N:aE)(k0:qV R):aE->qV R
 |0=>λ_ _ _ _ _ _ _ _ _=>aj
 |n+1=>r3 N (l3 N k0 n) k0
def b(N:aE)(kr:BP R)(a:aU)(d e:az):aA R:=l3 N (λ_ f h i _ j l m o=>kr l m o j f h i) N 0 a d e 0 0 [] [] ([]++aw (aN [Ck.l 3] 1) 0 [CV.l 3 (aN [Ck.i ao] (aX 16))]++aw (aN [Ck.l 3] 1) 0 [CV.l 3 (aN [Ck.i ao] (aX 16))]++aw (aN [Ck.l 3] 1) 0 [CV.l 3 (aN [Ck.i ao] (aX 16))])
def vo:=b Lib.cR λr0 r1 r2 r3 r4 r5 r6=>ah (r0,r1,r2,r3,r4,r5,r6)
def c:=λa d e=>(vo a d e).isSome
def v:=λa d e=>(vo a d e).getD ([],[],[],0,[],0,0)
theorem out{x}:∀a d e,vo a d e=ah x->c a d e=ai/\v a d e=x:=λ_ _ _=>Lib.dj
end yo

namespace rA
def r3(N:aE)(g k0:vO R)(a:az)(d:aU)(e f h i:az)(j:aU):aA R:=bif c9.c d e f 90 then bif decide (a<(c9.v d e f 90).1)then bif jT.c (c9.v d e f 90).2.1 (c9.v d e f 90).2.2.1 (c9.v d e f 90).2.2.2 then bif fG.c j i (jT.v (c9.v d e f 90).2.1 (c9.v d e f 90).2.2.1 (c9.v d e f 90).2.2.2).1 then g (bE (a+1)) (jT.v (c9.v d e f 90).2.1 (c9.v d e f 90).2.2.1 (c9.v d e f 90).2.2.2).2.1 (jT.v (c9.v d e f 90).2.1 (c9.v d e f 90).2.2.1 (c9.v d e f 90).2.2.2).2.2.1 (jT.v (c9.v d e f 90).2.1 (c9.v d e f 90).2.2.1 (c9.v d e f 90).2.2.2).2.2.2 h (fG.v j i (jT.v (c9.v d e f 90).2.1 (c9.v d e f 90).2.2.1 (c9.v d e f 90).2.2.2).1).2 (fG.v j i (jT.v (c9.v d e f 90).2.1 (c9.v d e f 90).2.2.1 (c9.v d e f 90).2.2.2).1).1 else aj else aj else k0 a (c9.v d e f 90).2.1 (c9.v d e f 90).2.2.1 (c9.v d e f 90).2.2.2 h i j else aj
def l3(N:aE)(k0:vO R):aE->vO R
 |0=>λ_ _ _ _ _ _ _=>aj
 |n+1=>r3 N (l3 N k0 n) k0
def b(N:aE)(kr:pP R)(a:aU)(d e:az):aA R:=l3 N (λ_ f h i _ j l=>kr l j f h i) N 0 a d e 0 0 ([]++aw (aN [Ck.l 3] 1) 0 [CV.l 3 (aN [Ck.i ao] (aX 16))]++aw (aN [Ck.l 3] 1) 0 [CV.l 3 (aN [Ck.i ao] (aX 16))]++aw (aN [Ck.l 3] 1) 0 [CV.l 3 (aN [Ck.i ao] (aX 16))])
def vo:=b Lib.cR λr0 r1 r2 r3 r4=>ah (r0,r1,r2,r3,r4)
def c:=λa d e=>(vo a d e).isSome
def v:=λa d e=>(vo a d e).getD ([],0,[],0,0)
theorem out{x}:∀a d e,vo a d e=ah x->c a d e=ai/\v a d e=x:=λ_ _ _=>Lib.dj
end rA

namespace yp
def b(kr:pP R)(a:aU)(d e:az):aA R:=bif c9.c a d e 12 then Lib.lt (c9.v a d e 12) λf=>bif c9.c f.2.1 f.2.2.1 f.2.2.2 60 then Lib.lt (c9.v f.2.1 f.2.2.1 f.2.2.2 60) λh=>bif rA.c h.2.1 h.2.2.1 h.2.2.2 then Lib.lt (rA.v h.2.1 h.2.2.1 h.2.2.2) λi=>bif lR.c i.1 i.2.1 then Lib.lt (lR.v i.1 i.2.1) λj=>bif decide (f.1=0)then bif decide (0<=bI h.1 3)&&decide (bI h.1 3<(j.1.length:az))then bif decide (0<=bI h.1 3)&&decide (bI h.1 3<((aw (aw (aw (aN [Ck.i ao] 3) 0 [.i .i64 (gD 1)]) 1 [.i .i64 15]) 2 [.i .i64 16]).length:az))then bif decide (0<=bI h.1 16)&&decide (bI h.1 16<((g9 (ar j.1 (bI h.1 3).toNat 0)).length:az))then kr (eA j.1 (bI h.1 3).toNat 0 [CV.l 3 (eA (g9 (ar j.1 (bI h.1 3).toNat 0)) (bI h.1 16).toNat 0 [.i .i64 (bU (ar (aw (aw (aw (aN [Ck.i ao] 3) 0 [.i .i64 (gD 1)]) 1 [.i .i64 15]) 2 [.i .i64 16]) (bI h.1 3).toNat 0))])]) j.2 i.2.2.1 i.2.2.2.1 i.2.2.2.2 else aj else aj else aj else bif decide (f.1=1)then bif decide (0<=bI h.1 3)&&decide (bI h.1 3<((aw (aw (aw (aN [Ck.i ao] 3) 0 [.i .i64 (gD 1)]) 1 [.i .i64 63]) 2 [.i .i64 64]).length:az))then kr j.1 (bU (ar (aw (aw (aw (aN [Ck.i ao] 3) 0 [.i .i64 (gD 1)]) 1 [.i .i64 63]) 2 [.i .i64 64]) (bI h.1 3).toNat 0)) i.2.2.1 i.2.2.2.1 i.2.2.2.2 else aj else bif decide (f.1=2)then bif iy 1 (j.1.length:az) (j.1.length:az)then kr (dW j.1 (aX 1) (j.1.length:az).toNat) j.2 i.2.2.1 i.2.2.2.1 i.2.2.2.2 else aj else bif decide (f.1=3)then bif decide (0<(j.1.length:az))then bif iy 1 ((g9 (ar j.1 (aX 0) 0)).length:az) ((g9 (ar j.1 (aX 0) 0)).length:az)then bif decide (0<(j.1.length:az))then kr (eA j.1 (aX 0) 0 [CV.l 3 (dW (g9 (ar j.1 (aX 0) 0)) (aX 1) ((g9 (ar j.1 (aX 0) 0)).length:az).toNat)]) j.2 i.2.2.1 i.2.2.2.1 i.2.2.2.2 else aj else aj else aj else kr j.1 j.2 i.2.2.1 i.2.2.2.1 i.2.2.2.2 else aj else aj else aj else aj
def vo:=b λr0 r1 r2 r3 r4=>ah (r0,r1,r2,r3,r4)
def c:=λa d e=>(vo a d e).isSome
def v:=λa d e=>(vo a d e).getD ([],0,[],0,0)
theorem out{x}:∀a d e,vo a d e=ah x->c a d e=ai/\v a d e=x:=λ_ _ _=>Lib.dj
end yp

namespace zq
def b(kr:BP R)(a:aU)(d e:az):aA R:=bif c9.c a d e 12 then Lib.lt (c9.v a d e 12) λf=>bif c9.c f.2.1 f.2.2.1 f.2.2.2 60 then Lib.lt (c9.v f.2.1 f.2.2.1 f.2.2.2 60) λh=>bif yo.c h.2.1 h.2.2.1 h.2.2.2 then Lib.lt (yo.v h.2.1 h.2.2.1 h.2.2.2) λi=>bif eR.c i.1 i.2.1 i.2.2.1 i.2.2.2.1 then Lib.lt (eR.v i.1 i.2.1 i.2.2.1 i.2.2.2.1) λj=>bif decide (f.1=0)then bif decide (0<=bI h.1 4)&&decide (bI h.1 4<((aw (aw (aw (aw (aN [.s] 4) 0 [.s ⟨#[]⟩]) 1 [.s {data:= #[au 47,au 97]}]) 2 [.s {data:= #[au 47,au 110,au 101,au 119]}]) 3 [.s {data:= #[au 47,au 120]}]).length:az))then bif cy (j.1.length+(aw (aN [.s] 1) 0 [.s (bM (ar (aw (aw (aw (aw (aN [.s] 4) 0 [.s ⟨#[]⟩]) 1 [.s {data:= #[au 47,au 97]}]) 2 [.s {data:= #[au 47,au 110,au 101,au 119]}]) 3 [.s {data:= #[au 47,au 120]}]) (bI h.1 4).toNat 0))]).length) 16 then kr (j.1++aw (aN [.s] 1) 0 [.s (bM (ar (aw (aw (aw (aw (aN [.s] 4) 0 [.s ⟨#[]⟩]) 1 [.s {data:= #[au 47,au 97]}]) 2 [.s {data:= #[au 47,au 110,au 101,au 119]}]) 3 [.s {data:= #[au 47,au 120]}]) (bI h.1 4).toNat 0))]) j.2.1 j.2.2.1 j.2.2.2 i.2.2.2.2.1 i.2.2.2.2.2.1 i.2.2.2.2.2.2 else aj else aj else bif decide (f.1=1)then bif decide (0<=bI h.1 2)&&decide (bI h.1 2<((aw (aw (aN [.s] 2) 0 [.s {data:= #[au 47,au 98]}]) 1 [.s {data:= #[au 47,au 110,au 101,au 119]}]).length:az))then bif cy (j.2.1.length+(aw (aN [.s] 1) 0 [.s (bM (ar (aw (aw (aN [.s] 2) 0 [.s {data:= #[au 47,au 98]}]) 1 [.s {data:= #[au 47,au 110,au 101,au 119]}]) (bI h.1 2).toNat 0))]).length) 16 then kr j.1 (j.2.1++aw (aN [.s] 1) 0 [.s (bM (ar (aw (aw (aN [.s] 2) 0 [.s {data:= #[au 47,au 98]}]) 1 [.s {data:= #[au 47,au 110,au 101,au 119]}]) (bI h.1 2).toNat 0))]) j.2.2.1 j.2.2.2 i.2.2.2.2.1 i.2.2.2.2.2.1 i.2.2.2.2.2.2 else aj else aj else bif decide (f.1=2)then bif yp.c i.2.2.2.2.1 i.2.2.2.2.2.1 i.2.2.2.2.2.2 then Lib.lt (yp.v i.2.2.2.2.1 i.2.2.2.2.2.1 i.2.2.2.2.2.2) λl=>kr j.1 j.2.1 l.1 l.2.1 l.2.2.1 l.2.2.2.1 l.2.2.2.2 else aj else kr j.1 j.2.1 j.2.2.1 j.2.2.2 i.2.2.2.2.1 i.2.2.2.2.2.1 i.2.2.2.2.2.2 else aj else aj else aj else aj
def vo:=b λr0 r1 r2 r3 r4 r5 r6=>ah (r0,r1,r2,r3,r4,r5,r6)
def c:=λa d e=>(vo a d e).isSome
def v:=λa d e=>(vo a d e).getD ([],[],[],0,[],0,0)
theorem out{x}:∀a d e,vo a d e=ah x->c a d e=ai/\v a d e=x:=λ_ _ _=>Lib.dj
end zq

namespace G2
def b(kr:qW R)(a:aU)(d e:az):aA R:=bif c9.c a d e 16 then Lib.lt (c9.v a d e 16) λf=>bif c9.c f.2.1 f.2.2.1 f.2.2.2 60 then Lib.lt (c9.v f.2.1 f.2.2.1 f.2.2.2 60) λh=>bif G3.c h.2.1 h.2.2.1 h.2.2.2 then Lib.lt (G3.v h.2.1 h.2.2.1 h.2.2.2) λi=>bif jM.c i.1 i.2.1 i.2.2.1 i.2.2.2.1 i.2.2.2.2.1 i.2.2.2.2.2.1 i.2.2.2.2.2.2.1 i.2.2.2.2.2.2.2.1 i.2.2.2.2.2.2.2.2.1 then Lib.lt (jM.v i.1 i.2.1 i.2.2.1 i.2.2.2.1 i.2.2.2.2.1 i.2.2.2.2.2.1 i.2.2.2.2.2.2.1 i.2.2.2.2.2.2.2.1 i.2.2.2.2.2.2.2.2.1) λj=>bif decide (f.1=0)then bif decide (0<=bI h.1 4)&&decide (bI h.1 4<((aw (aw (aw (aw (aN [Ck.i ao] 4) 0 [.i .i64 0]) 1 [.i .i64 1]) 2 [.i .i64 1000000000]) 3 [.i .i64 1000000001]).length:az))then kr (bU (ar (aw (aw (aw (aw (aN [Ck.i ao] 4) 0 [.i .i64 0]) 1 [.i .i64 1]) 2 [.i .i64 1000000000]) 3 [.i .i64 1000000001]) (bI h.1 4).toNat 0)) j.2.1 j.2.2.1 j.2.2.2.1 j.2.2.2.2.1 j.2.2.2.2.2.1 j.2.2.2.2.2.2.1 j.2.2.2.2.2.2.2.1 j.2.2.2.2.2.2.2.2 i.2.2.2.2.2.2.2.2.2.1 i.2.2.2.2.2.2.2.2.2.2.1 i.2.2.2.2.2.2.2.2.2.2.2 else aj else bif decide (f.1=1)then bif zq.c i.2.2.2.2.2.2.2.2.2.1 i.2.2.2.2.2.2.2.2.2.2.1 i.2.2.2.2.2.2.2.2.2.2.2 then Lib.lt (zq.v i.2.2.2.2.2.2.2.2.2.1 i.2.2.2.2.2.2.2.2.2.2.1 i.2.2.2.2.2.2.2.2.2.2.2) λl=>kr j.1 j.2.1 l.1 l.2.1 l.2.2.1 l.2.2.2.1 j.2.2.2.2.2.2.1 j.2.2.2.2.2.2.2.1 j.2.2.2.2.2.2.2.2 l.2.2.2.2.1 l.2.2.2.2.2.1 l.2.2.2.2.2.2 else aj else bif decide (f.1=2)then bif decide ((j.2.2.2.2.2.2.1.length:az)>0)then bif !decide ((j.2.2.2.2.2.2.1.length:az)=0)then bif decide (0<=bI h.1 (j.2.2.2.2.2.2.1.length:az))&&decide (bI h.1 (j.2.2.2.2.2.2.1.length:az)<(j.2.2.2.2.2.2.1.length:az))then kr j.1 j.2.1 j.2.2.1 j.2.2.2.1 j.2.2.2.2.1 j.2.2.2.2.2.1 (eA j.2.2.2.2.2.2.1 (bI h.1 (j.2.2.2.2.2.2.1.length:az)).toNat 2 [.i .i64 (bI h.1 5)]) j.2.2.2.2.2.2.2.1 j.2.2.2.2.2.2.2.2 i.2.2.2.2.2.2.2.2.2.1 i.2.2.2.2.2.2.2.2.2.2.1 i.2.2.2.2.2.2.2.2.2.2.2 else aj else aj else kr j.1 j.2.1 j.2.2.1 j.2.2.2.1 j.2.2.2.2.1 j.2.2.2.2.2.1 j.2.2.2.2.2.2.1 j.2.2.2.2.2.2.2.1 j.2.2.2.2.2.2.2.2 i.2.2.2.2.2.2.2.2.2.1 i.2.2.2.2.2.2.2.2.2.2.1 i.2.2.2.2.2.2.2.2.2.2.2 else bif decide (f.1=3)then bif decide ((j.2.2.2.2.2.2.2.1.length:az)>0)then bif !decide ((j.2.2.2.2.2.2.2.1.length:az)=0)then bif decide (0<=bI h.1 (j.2.2.2.2.2.2.2.1.length:az))&&decide (bI h.1 (j.2.2.2.2.2.2.2.1.length:az)<(j.2.2.2.2.2.2.2.1.length:az))then kr j.1 j.2.1 j.2.2.1 j.2.2.2.1 j.2.2.2.2.1 j.2.2.2.2.2.1 j.2.2.2.2.2.2.1 (eA j.2.2.2.2.2.2.2.1 (bI h.1 (j.2.2.2.2.2.2.2.1.length:az)).toNat 2 [.i .i64 (bE (bI h.1 30-1))]) j.2.2.2.2.2.2.2.2 i.2.2.2.2.2.2.2.2.2.1 i.2.2.2.2.2.2.2.2.2.2.1 i.2.2.2.2.2.2.2.2.2.2.2 else aj else aj else kr j.1 j.2.1 j.2.2.1 j.2.2.2.1 j.2.2.2.2.1 j.2.2.2.2.2.1 j.2.2.2.2.2.2.1 j.2.2.2.2.2.2.2.1 j.2.2.2.2.2.2.2.2 i.2.2.2.2.2.2.2.2.2.1 i.2.2.2.2.2.2.2.2.2.2.1 i.2.2.2.2.2.2.2.2.2.2.2 else bif decide (f.1=4)then kr j.1 j.2.1 j.2.2.1 j.2.2.2.1 j.2.2.2.2.1 j.2.2.2.2.2.1 j.2.2.2.2.2.2.1 j.2.2.2.2.2.2.2.1 (-1) i.2.2.2.2.2.2.2.2.2.1 i.2.2.2.2.2.2.2.2.2.2.1 i.2.2.2.2.2.2.2.2.2.2.2 else kr j.1 j.2.1 j.2.2.1 j.2.2.2.1 j.2.2.2.2.1 j.2.2.2.2.2.1 j.2.2.2.2.2.2.1 j.2.2.2.2.2.2.2.1 j.2.2.2.2.2.2.2.2 i.2.2.2.2.2.2.2.2.2.1 i.2.2.2.2.2.2.2.2.2.2.1 i.2.2.2.2.2.2.2.2.2.2.2 else aj else aj else aj else aj
def vo:=b λr0 r1 r2 r3 r4 r5 r6 r7 r8 r9 LS F7=>ah (r0,r1,r2,r3,r4,r5,r6,r7,r8,r9,LS,F7)
def c:=λa d e=>(vo a d e).isSome
def v:=λa d e=>(vo a d e).getD (0,[],[],[],[],0,[],[],0,[],0,0)
theorem out{x}:∀a d e,vo a d e=ah x->c a d e=ai/\v a d e=x:=λ_ _ _=>Lib.dj
end G2

namespace Rk
def b(kr:na R)(a:aU):aA R:=bif El.c a then Lib.lt (El.v a) λd=>bif sg.c d.1 d.2.1 d.2.2 (aw (aw (aw (aw (aw (aw (aw (aN [Ck.i ao] 7) 0 [.i .i64 0]) 1 [.i .i64 5]) 2 [.i .i64 999]) 3 [.i .i64 1000]) 4 [.i .i64 (gD 1)]) 5 [.i .i64 9223372036854775807]) 6 [.i .i64 (gD 9223372036854775808)])then Lib.lt (sg.v d.1 d.2.1 d.2.2 (aw (aw (aw (aw (aw (aw (aw (aN [Ck.i ao] 7) 0 [.i .i64 0]) 1 [.i .i64 5]) 2 [.i .i64 999]) 3 [.i .i64 1000]) 4 [.i .i64 (gD 1)]) 5 [.i .i64 9223372036854775807]) 6 [.i .i64 (gD 9223372036854775808)])) λe=>bif G2.c e.2.1 e.2.2.1 e.2.2.2.1 then Lib.lt (G2.v e.2.1 e.2.2.1 e.2.2.2.1) λf=>kr f.1 f.2.1 f.2.2.1 f.2.2.2.1 f.2.2.2.2.1 f.2.2.2.2.2.1 f.2.2.2.2.2.2.1 f.2.2.2.2.2.2.2.1 f.2.2.2.2.2.2.2.2.1 e.1 else aj else aj else aj
def vo:=b λr0 r1 r2 r3 r4 r5 r6 r7 r8 r9=>ah (r0,r1,r2,r3,r4,r5,r6,r7,r8,r9)
def c:=λa=>(vo a).isSome
def v:=λa=>(vo a).getD (0,[],[],[],[],0,[],[],0,0)
theorem out{x}:∀a,vo a=ah x->c a=ai/\v a=x:=λ_=>Lib.dj
end Rk

namespace uv
def b(kr:aU->aA R)(a:aU):aA R:=bif cy ((aN [Ck.s,Ck.i ao,Ck.i ao,Ck.s] 0).length+a.length) 48 then kr (aN [Ck.s,Ck.i ao,Ck.i ao,Ck.s] 0++a)else aj
def vo:=b λr0=>ah r0
def c:=λa=>(vo a).isSome
def v:=λa=>(vo a).getD ([])
theorem out{x}:∀a,vo a=ah x->c a=ai/\v a=x:=λ_=>Lib.dj
end uv

namespace sS
def b(kr:aU->aA R)(a:aU):aA R:=bif cy ((aN [.s] 0).length+a.length) 16 then kr (aN [.s] 0++a)else aj
def vo:=b λr0=>ah r0
def c:=λa=>(vo a).isSome
def v:=λa=>(vo a).getD ([])
theorem out{x}:∀a,vo a=ah x->c a=ai/\v a=x:=λ_=>Lib.dj
end sS

namespace tG
def b(kr:aU->aA R)(a:aU):aA R:=bif cy ((aN [Ck.i ao] 0).length+a.length) 8 then kr (aN [Ck.i ao] 0++a)else aj
def vo:=b λr0=>ah r0
def c:=λa=>(vo a).isSome
def v:=λa=>(vo a).getD ([])
theorem out{x}:∀a,vo a=ah x->c a=ai/\v a=x:=λ_=>Lib.dj
end tG

namespace iK
def r3(N:aE)(g:jO R)(g1:mB R)(k0:jO R)(k1:mB R)(a:aU)(d e f h:az):aA R:=bif decide (e<d)then bif decide (0<=e)&&decide (e<(a.length:az))then bif tG.c (g9 (ar a e.toNat 0))then g1 a d (bE (e+1)) f h ([]++aw (aN [Ck.l 3] 1) 0 [CV.l 3 (tG.v (g9 (ar a e.toNat 0)))])else aj else aj else k0 a d e f h
def wM(N:aE)(g:jO R)(g1:mB R)(k0:jO R)(k1:mB R)(a:aU)(d e f h:az)(i:aU):aA R:=bif decide (e<d)then bif decide (0<=e)&&decide (e<(a.length:az))then bif tG.c (g9 (ar a e.toNat 0))then bif cy (i.length+(aw (aN [Ck.l 3] 1) 0 [CV.l 3 (tG.v (g9 (ar a e.toNat 0)))]).length) 24 then g1 a d (bE (e+1)) f h (i++aw (aN [Ck.l 3] 1) 0 [CV.l 3 (tG.v (g9 (ar a e.toNat 0)))])else aj else aj else aj else k1 a d e f h i
def qP(N:aE)(k0:jO R)(k1:mB R):aE->mB R
 |0=>λ_ _ _ _ _ _=>aj
 |n+1=>wM N (λx0 x1 x2 x3 x4=>aj) (qP N k0 k1 n) k0 k1
def l3(N:aE)(k0:jO R)(k1:mB R):aE->jO R
 |0=>λ_ _ _ _ _=>aj
 |n+1=>r3 N (l3 N k0 k1 n) (qP N k0 k1 n) k0 k1
def b(N:aE)(kr:qX R)(a:aU)(d:az):aA R:=l3 N (λ_ _ _ _ e=>kr [] e) (λ_ _ _ _ e f=>kr f e) N a (a.length:az) 0 0 d
def vo:=b Lib.cR λr0 r1=>ah (r0,r1)
def c:=λa d=>(vo a d).isSome
def v:=λa d=>(vo a d).getD ([],0)
theorem out{x}:∀a d,vo a d=ah x->c a d=ai/\v a d=x:=λ_ _=>Lib.dj
end iK

namespace iQ
def b(kr:qY R)(a d e:aU)(f:az):aA R:=bif sS.c a then bif sS.c d then bif iK.c e f then kr (sS.v a) (sS.v d) (iK.v e f).1 (iK.v e f).2 else aj else aj else aj
def vo:=b λr0 r1 r2 r3=>ah (r0,r1,r2,r3)
def c:=λa d e f=>(vo a d e f).isSome
def v:=λa d e f=>(vo a d e f).getD ([],[],[],0)
theorem out{x}:∀a d e f,vo a d e f=ah x->c a d e f=ai/\v a d e f=x:=λ_ _ _ _=>Lib.dj
end iQ

namespace p9
def b(kr:dZ R)(a:az)(d e f h:aU)(i:az)(j l:aU)(m:az):aA R:=bif uv.c d then bif iQ.c e f h i then bif cy ((aN [Ck.s,Ck.s,Ck.i ao,Ck.i ao,Ck.i ao] 0).length+j.length) 56 then bif cy ((aN [Ck.i ao,Ck.s,Ck.i ao,Ck.i ao,Ck.i ao,Ck.s,Ck.i ao] 0).length+l.length) 72 then kr a (uv.v d) (iQ.v e f h i).1 (iQ.v e f h i).2.1 (iQ.v e f h i).2.2.1 (iQ.v e f h i).2.2.2 (aN [Ck.s,Ck.s,Ck.i ao,Ck.i ao,Ck.i ao] 0++j) (aN [Ck.i ao,Ck.s,Ck.i ao,Ck.i ao,Ck.i ao,Ck.s,Ck.i ao] 0++l) m else aj else aj else aj else aj
def vo:=b λr0 r1 r2 r3 r4 r5 r6 r7 r8=>ah (r0,r1,r2,r3,r4,r5,r6,r7,r8)
def c:=λa d e f h i j l m=>(vo a d e f h i j l m).isSome
def v:=λa d e f h i j l m=>(vo a d e f h i j l m).getD (0,[],[],[],[],0,[],[],0)
theorem out{x}:∀a d e f h i j l m,vo a d e f h i j l m=ah x->c a d e f h i j l m=ai/\v a d e f h i j l m=x:=λ_ _ _ _ _ _ _ _ _=>Lib.dj
end p9

namespace Mo
def b(kr:az->aA R)(a d:az):aA R:=bif !decide (d=0)then bif !decide (d=0)then kr (bI (bE (bI a d+d)) d)else aj else aj
def vo:=b λr0=>ah r0
def c:=λa d=>(vo a d).isSome
def v:=λa d=>(vo a d).getD (0)
theorem out{x}:∀a d,vo a d=ah x->c a d=ai/\v a d=x:=λ_ _=>Lib.dj
end Mo

namespace KR
def b(kr:dZ R)(a:az)(d e f h:aU)(i:az)(j l:aU)(m o:az):aA R:=bif p9.c a d e f h i j l m then bif decide (a>bE (1000000000-Mo.v o 1000))then kr 1000000000 (p9.v a d e f h i j l m).2.1 (p9.v a d e f h i j l m).2.2.1 (p9.v a d e f h i j l m).2.2.2.1 (p9.v a d e f h i j l m).2.2.2.2.1 (p9.v a d e f h i j l m).2.2.2.2.2.1 (p9.v a d e f h i j l m).2.2.2.2.2.2.1 (p9.v a d e f h i j l m).2.2.2.2.2.2.2.1 (p9.v a d e f h i j l m).2.2.2.2.2.2.2.2 else kr (bE (a+Mo.v o 1000)) (p9.v a d e f h i j l m).2.1 (p9.v a d e f h i j l m).2.2.1 (p9.v a d e f h i j l m).2.2.2.1 (p9.v a d e f h i j l m).2.2.2.2.1 (p9.v a d e f h i j l m).2.2.2.2.2.1 (p9.v a d e f h i j l m).2.2.2.2.2.2.1 (p9.v a d e f h i j l m).2.2.2.2.2.2.2.1 (p9.v a d e f h i j l m).2.2.2.2.2.2.2.2 else aj
def vo:=b λr0 r1 r2 r3 r4 r5 r6 r7 r8=>ah (r0,r1,r2,r3,r4,r5,r6,r7,r8)
def c:=λa d e f h i j l m o=>(vo a d e f h i j l m o).isSome
def v:=λa d e f h i j l m o=>(vo a d e f h i j l m o).getD (0,[],[],[],[],0,[],[],0)
theorem out{x}:∀a d e f h i j l m o,vo a d e f h i j l m o=ah x->c a d e f h i j l m o=ai/\v a d e f h i j l m o=x:=λ_ _ _ _ _ _ _ _ _ _=>Lib.dj
end KR

namespace Rs
def b(kr:zf R)(a:aU)(d e f:az):aA R:=bif gT.c a d e 15 then bif(gT.v a d e 15).1 then bif sg.c (gT.v a d e 15).2.1 (gT.v a d e 15).2.2.1 (gT.v a d e 15).2.2.2 (aw (aw (aw (aw (aw (aN [Ck.i ao] 5) 0 [.i .i64 (gD 1)]) 1 [.i .i64 f]) 2 [.i .i64 (bE (f+1))]) 3 [.i .i64 9223372036854775807]) 4 [.i .i64 (gD 9223372036854775808)])then kr (sg.v (gT.v a d e 15).2.1 (gT.v a d e 15).2.2.1 (gT.v a d e 15).2.2.2 (aw (aw (aw (aw (aw (aN [Ck.i ao] 5) 0 [.i .i64 (gD 1)]) 1 [.i .i64 f]) 2 [.i .i64 (bE (f+1))]) 3 [.i .i64 9223372036854775807]) 4 [.i .i64 (gD 9223372036854775808)])).1 (sg.v (gT.v a d e 15).2.1 (gT.v a d e 15).2.2.1 (gT.v a d e 15).2.2.2 (aw (aw (aw (aw (aw (aN [Ck.i ao] 5) 0 [.i .i64 (gD 1)]) 1 [.i .i64 f]) 2 [.i .i64 (bE (f+1))]) 3 [.i .i64 9223372036854775807]) 4 [.i .i64 (gD 9223372036854775808)])).2.1 (sg.v (gT.v a d e 15).2.1 (gT.v a d e 15).2.2.1 (gT.v a d e 15).2.2.2 (aw (aw (aw (aw (aw (aN [Ck.i ao] 5) 0 [.i .i64 (gD 1)]) 1 [.i .i64 f]) 2 [.i .i64 (bE (f+1))]) 3 [.i .i64 9223372036854775807]) 4 [.i .i64 (gD 9223372036854775808)])).2.2.1 (sg.v (gT.v a d e 15).2.1 (gT.v a d e 15).2.2.1 (gT.v a d e 15).2.2.2 (aw (aw (aw (aw (aw (aN [Ck.i ao] 5) 0 [.i .i64 (gD 1)]) 1 [.i .i64 f]) 2 [.i .i64 (bE (f+1))]) 3 [.i .i64 9223372036854775807]) 4 [.i .i64 (gD 9223372036854775808)])).2.2.2.1 else aj else bif c9.c (gT.v a d e 15).2.1 (gT.v a d e 15).2.2.1 (gT.v a d e 15).2.2.2 f then kr (c9.v (gT.v a d e 15).2.1 (gT.v a d e 15).2.2.1 (gT.v a d e 15).2.2.2 f).1 (c9.v (gT.v a d e 15).2.1 (gT.v a d e 15).2.2.1 (gT.v a d e 15).2.2.2 f).2.1 (c9.v (gT.v a d e 15).2.1 (gT.v a d e 15).2.2.1 (gT.v a d e 15).2.2.2 f).2.2.1 (c9.v (gT.v a d e 15).2.1 (gT.v a d e 15).2.2.1 (gT.v a d e 15).2.2.2 f).2.2.2 else aj else aj
def vo:=b λr0 r1 r2 r3=>ah (r0,r1,r2,r3)
def c:=λa d e f=>(vo a d e f).isSome
def v:=λa d e f=>(vo a d e f).getD (0,[],0,0)
theorem out{x}:∀a d e f,vo a d e f=ah x->c a d e f=ai/\v a d e f=x:=λ_ _ _ _=>Lib.dj
end Rs

namespace Rl
def b(kr:na R)(a:aU):aA R:=bif El.c a then Lib.lt (El.v a) λd=>bif Rs.c d.1 d.2.1 d.2.2 6 then Lib.lt (Rs.v d.1 d.2.1 d.2.2 6) λe=>bif G2.c e.2.1 e.2.2.1 e.2.2.2 then Lib.lt (G2.v e.2.1 e.2.2.1 e.2.2.2) λf=>kr f.1 f.2.1 f.2.2.1 f.2.2.2.1 f.2.2.2.2.1 f.2.2.2.2.2.1 f.2.2.2.2.2.2.1 f.2.2.2.2.2.2.2.1 f.2.2.2.2.2.2.2.2.1 e.1 else aj else aj else aj
def vo:=b λr0 r1 r2 r3 r4 r5 r6 r7 r8 r9=>ah (r0,r1,r2,r3,r4,r5,r6,r7,r8,r9)
def c:=λa=>(vo a).isSome
def v:=λa=>(vo a).getD (0,[],[],[],[],0,[],[],0,0)
theorem out{x}:∀a,vo a=ah x->c a=ai/\v a=x:=λ_=>Lib.dj
end Rl

namespace GZ
def b(kr:aW->aA R)(a:az)(d:aq)(e f h:az)(i:aq)(j z8:az):aA R:=kr (decide (a=z8))
def v(a0:az)(a1:aq)(a2 a3 a4:az)(a5:aq)(a6 z8:az):aW:=(decide (a0=z8))
theorem gu(kr:aW->aA R)(a0:az)(a1:aq)(a2 a3 a4:az)(a5:aq)(a6 z8:az):b kr a0 a1 a2 a3 a4 a5 a6 z8=kr (v a0 a1 a2 a3 a4 a5 a6 z8):=by first|rfl|(unfold b v;simp only[dc];(repeat' split)<;>rfl)
end GZ

namespace rk
def r2(N:aE)(g k0 k1:jO R)(a:aU)(d e f h:az):aA R:=bif decide (h<f)then bif decide (0<=h)&&decide (h<(a.length:az))then bif GZ.v (bU (ar a h.toNat 0)) (bM (ar a h.toNat 1)) (bU (ar a h.toNat (1+1))) (bU (ar a h.toNat (1+1+1))) (bU (ar a h.toNat (1+1+1+1))) (bM (ar a h.toNat (1+1+1+1+1))) (bU (ar a h.toNat (1+1+1+1+1+1))) d then k0 a d h f h else g a d e f (bE (h+1))else aj else k1 a d e f h
def l2(N:aE)(k0 k1:jO R):aE->jO R
 |0=>λ_ _ _ _ _=>aj
 |n+1=>r2 N (l2 N k0 k1 n) k0 k1
def b(N:aE)(kr:az->aA R)(a:aU)(z8:az):aA R:=l2 N (λ_ _ d _ _=>kr d) (λ_ _ _ _ _=>kr (-1)) N a z8 0 (a.length:az) 0
def vo:=b Lib.cR λr0=>ah r0
def c:=λa d=>(vo a d).isSome
def v:=λa d=>(vo a d).getD (0)
theorem out{x}:∀a d,vo a d=ah x->c a d=ai/\v a d=x:=λ_ _=>Lib.dj
end rk

namespace Mp
def b(kr:aW->aA R)(a:az)(d:aq)(e f h:az)(i:aq)(j z8:az):aA R:=kr (decide (a=z8))
def v(a0:az)(a1:aq)(a2 a3 a4:az)(a5:aq)(a6 z8:az):aW:=(decide (a0=z8))
theorem gu(kr:aW->aA R)(a0:az)(a1:aq)(a2 a3 a4:az)(a5:aq)(a6 z8:az):b kr a0 a1 a2 a3 a4 a5 a6 z8=kr (v a0 a1 a2 a3 a4 a5 a6 z8):=by first|rfl|(unfold b v;simp only[dc];(repeat' split)<;>rfl)
end Mp

namespace lZ
def r2(N:aE)(g k0 k1:jO R)(a:aU)(d e f h:az):aA R:=bif decide (h<f)then bif decide (0<=h)&&decide (h<(a.length:az))then bif Mp.v (bU (ar a h.toNat 0)) (bM (ar a h.toNat 1)) (bU (ar a h.toNat (1+1))) (bU (ar a h.toNat (1+1+1))) (bU (ar a h.toNat (1+1+1+1))) (bM (ar a h.toNat (1+1+1+1+1))) (bU (ar a h.toNat (1+1+1+1+1+1))) d then k0 a d h f h else g a d e f (bE (h+1))else aj else k1 a d e f h
def l2(N:aE)(k0 k1:jO R):aE->jO R
 |0=>λ_ _ _ _ _=>aj
 |n+1=>r2 N (l2 N k0 k1 n) k0 k1
def b(N:aE)(kr:az->aA R)(a:aU)(z8:az):aA R:=l2 N (λ_ _ d _ _=>kr d) (λ_ _ _ _ _=>kr (-1)) N a z8 0 (a.length:az) 0
def vo:=b Lib.cR λr0=>ah r0
def c:=λa d=>(vo a d).isSome
def v:=λa d=>(vo a d).getD (0)
theorem out{x}:∀a d,vo a d=ah x->c a d=ai/\v a d=x:=λ_ _=>Lib.dj
end lZ

namespace Jb
def r5(N:aE)(g k0:hZ R)(a d e:az)(f:aU):aA R:=bif decide (e<(f.length:az))then bif decide (0<=e)&&decide (e<(f.length:az))then bif !Mp.v (bU (ar f e.toNat 0)) (bM (ar f e.toNat 1)) (bU (ar f e.toNat (1+1))) (bU (ar f e.toNat (1+1+1))) (bU (ar f e.toNat (1+1+1+1))) (bM (ar f e.toNat (1+1+1+1+1))) (bU (ar f e.toNat (1+1+1+1+1+1))) a then bif decide (0<=d)&&decide (d<(f.length:az))then g a (bE (d+1)) (bE (e+1)) (eA f d.toNat 0 [.i .i64 (bU (ar f e.toNat 0)), .s (bM (ar f e.toNat 1)), .i .i64 (bU (ar f e.toNat (1+1))), .i .i64 (bU (ar f e.toNat (1+1+1))), .i .i64 (bU (ar f e.toNat (1+1+1+1))), .s (bM (ar f e.toNat (1+1+1+1+1))), .i .i64 (bU (ar f e.toNat (1+1+1+1+1+1)))])else aj else g a d (bE (e+1)) f else aj else k0 a d e f
def l5(N:aE)(k0:hZ R):aE->hZ R
 |0=>λ_ _ _ _=>aj
 |n+1=>r5 N (l5 N k0 n) k0
def b(N:aE)(kr:aU->aA R)(a:aU)(z8:az):aA R:=bif lZ.c a z8 then bif decide (lZ.v a z8=gD 1)then kr a else l5 N (λ_ d _ e=>bif iy d (e.length:az) (e.length:az)then bif iy 0 d ((lX d.toNat e++aN [Ck.i ao,Ck.s,Ck.i ao,Ck.i ao,Ck.i ao,Ck.s,Ck.i ao] ((e.length:az).toNat-d.toNat)++vF (e.length:az).toNat e).length:az)then kr (dW (lX d.toNat e++aN [Ck.i ao,Ck.s,Ck.i ao,Ck.i ao,Ck.i ao,Ck.s,Ck.i ao] ((e.length:az).toNat-d.toNat)++vF (e.length:az).toNat e) (aX 0) d.toNat)else aj else aj) N z8 (lZ.v a z8) (bE (lZ.v a z8+1)) a else aj
def vo:=b Lib.cR λr0=>ah r0
def c:=λa d=>(vo a d).isSome
def v:=λa d=>(vo a d).getD ([])
theorem out{x}:∀a d,vo a d=ah x->c a d=ai/\v a d=x:=λ_ _=>Lib.dj
end Jb

namespace Rm
def b(kr:dZ R)(a:az)(d e f h:aU)(i:az)(j l:aU)(m o:az):aA R:=bif p9.c a d e f h i j l m then bif Jb.c (p9.v a d e f h i j l m).2.2.2.2.2.2.2.1 o then kr (p9.v a d e f h i j l m).1 (p9.v a d e f h i j l m).2.1 (p9.v a d e f h i j l m).2.2.1 (p9.v a d e f h i j l m).2.2.2.1 (p9.v a d e f h i j l m).2.2.2.2.1 (p9.v a d e f h i j l m).2.2.2.2.2.1 (p9.v a d e f h i j l m).2.2.2.2.2.2.1 (Jb.v (p9.v a d e f h i j l m).2.2.2.2.2.2.2.1 o) (p9.v a d e f h i j l m).2.2.2.2.2.2.2.2 else aj else aj
def vo:=b λr0 r1 r2 r3 r4 r5 r6 r7 r8=>ah (r0,r1,r2,r3,r4,r5,r6,r7,r8)
def c:=λa d e f h i j l m o=>(vo a d e f h i j l m o).isSome
def v:=λa d e f h i j l m o=>(vo a d e f h i j l m o).getD (0,[],[],[],[],0,[],[],0)
theorem out{x}:∀a d e f h i j l m o,vo a d e f h i j l m o=ah x->c a d e f h i j l m o=ai/\v a d e f h i j l m o=x:=λ_ _ _ _ _ _ _ _ _ _=>Lib.dj
end Rm

namespace Mn
def r2(N:aE)(g k0 k1:jj R)(a:az)(d:aW)(e f:az)(h i j l:aU)(m:az)(o p:aU)(q r:az)(s:aq)(t u w:az)(y:aq)(z:az):aA R:=bif decide (e<(p.length:az))then bif decide (0<=e)&&decide (e<(p.length:az))then bif decide (bU (ar p e.toNat 0)=a)then bif decide (0<=e)&&decide (e<(p.length:az))then k0 a ai e f h i j l m o p q (bU (ar p e.toNat 0)) (bM (ar p e.toNat 1)) (bU (ar p e.toNat (1+1))) (bU (ar p e.toNat (1+1+1))) (bU (ar p e.toNat (1+1+1+1))) (bM (ar p e.toNat (1+1+1+1+1))) (bU (ar p e.toNat (1+1+1+1+1+1)))else aj else g a d (bE (e+1)) f h i j l m o p q r s t u w y z else aj else k1 a d e f h i j l m o p q r s t u w y z
def l2(N:aE)(k0 k1:jj R):aE->jj R
 |0=>λ_ _ _ _ _ _ _ _ _ _ _ _ _ _ _ _ _ _ _=>aj
 |n+1=>r2 N (l2 N k0 k1 n) k0 k1
def b(N:aE)(kr:GN R)(a:az)(d e f h:aU)(i:az)(j l:aU)(m o:az):aA R:=l2 N (λ_ p _ _ _ _ _ _ _ _ _ _ q r s t u w y=>kr q r s t u w y p) (λ_ _ _ _ _ _ _ _ _ _ _ _ _ _ _ _ _ _ _=>kr 0 ⟨#[]⟩ 0 0 0 ⟨#[]⟩ 0 ak) N o ak 0 a d e f h i j l m 0 ⟨#[]⟩ 0 0 0 ⟨#[]⟩ 0
def vo:=b Lib.cR λr0 r1 r2 r3 r4 r5 r6 r7=>ah (r0,r1,r2,r3,r4,r5,r6,r7)
def c:=λa d e f h i j l m o=>(vo a d e f h i j l m o).isSome
def v:=λa d e f h i j l m o=>(vo a d e f h i j l m o).getD (0,⟨#[]⟩,0,0,0,⟨#[]⟩,0,ak)
theorem out{x}:∀a d e f h i j l m o,vo a d e f h i j l m o=ah x->c a d e f h i j l m o=ai/\v a d e f h i j l m o=x:=λ_ _ _ _ _ _ _ _ _ _=>Lib.dj
end Mn

namespace Rn
def b(kr:dZ R)(a:aU):aA R:=bif El.c a then Lib.lt (El.v a) λd=>bif G3.c d.1 d.2.1 d.2.2 then Lib.lt (G3.v d.1 d.2.1 d.2.2) λe=>kr e.1 e.2.1 e.2.2.1 e.2.2.2.1 e.2.2.2.2.1 e.2.2.2.2.2.1 e.2.2.2.2.2.2.1 e.2.2.2.2.2.2.2.1 e.2.2.2.2.2.2.2.2.1 else aj else aj
def vo:=b λr0 r1 r2 r3 r4 r5 r6 r7 r8=>ah (r0,r1,r2,r3,r4,r5,r6,r7,r8)
def c:=λa=>(vo a).isSome
def v:=λa=>(vo a).getD (0,[],[],[],[],0,[],[],0)
theorem out{x}:∀a,vo a=ah x->c a=ai/\v a=x:=λ_=>Lib.dj
end Rn

namespace Mq
def r4(N:aE)(g k0 k1:pQ R)(a d:aU)(e:aW)(f:az):aA R:=bif decide (f<(a.length:az))then bif decide (0<=f)&&decide (f<(a.length:az))then bif decide (0<=f)&&decide (f<(d.length:az))then bif !(c6 (bM (ar a f.toNat 0)).toList (bM (ar d f.toNat 0)).toList&&(decide (bU (ar a f.toNat 1)=bU (ar d f.toNat 1))&&(decide (bU (ar a f.toNat (1+1))=bU (ar d f.toNat (1+1)))&&(c6 (bM (ar a f.toNat (1+1+1))).toList (bM (ar d f.toNat (1+1+1))).toList&&ai))))then k0 a d ak f else g a d e (bE (f+1))else aj else aj else k1 a d e f
def l4(N:aE)(k0 k1:pQ R):aE->pQ R
 |0=>λ_ _ _ _=>aj
 |n+1=>r4 N (l4 N k0 k1 n) k0 k1
def b(N:aE)(kr:aW->aA R)(a d:aU):aA R:=bif(a.length:az) !=(d.length:az)then kr ak else l4 N (λ_ _ e _=>kr e) (λ_ _ _ _=>kr ai) N a d ak 0
def vo:=b Lib.cR λr0=>ah r0
def c:=λa d=>(vo a d).isSome
def v:=λa d=>(vo a d).getD ak
theorem out{x}:∀a d,vo a d=ah x->c a d=ai/\v a d=x:=λ_ _=>Lib.dj
end Mq

namespace tE
def r4(N:aE)(g k0 k1:pQ R)(a d:aU)(e:aW)(f:az):aA R:=bif decide (f<(a.length:az))then bif decide (0<=f)&&decide (f<(a.length:az))then bif decide (0<=f)&&decide (f<(d.length:az))then bif !List.beq (bM (ar a f.toNat 0)).toList (bM (ar d f.toNat 0)).toList then k0 a d ak f else g a d e (bE (f+1))else aj else aj else k1 a d e f
def l4(N:aE)(k0 k1:pQ R):aE->pQ R
 |0=>λ_ _ _ _=>aj
 |n+1=>r4 N (l4 N k0 k1 n) k0 k1
def b(N:aE)(kr:aW->aA R)(a d:aU):aA R:=bif(a.length:az) !=(d.length:az)then kr ak else l4 N (λ_ _ e _=>kr e) (λ_ _ _ _=>kr ai) N a d ak 0
def vo:=b Lib.cR λr0=>ah r0
def c:=λa d=>(vo a d).isSome
def v:=λa d=>(vo a d).getD ak
theorem out{x}:∀a d,vo a d=ah x->c a d=ai/\v a d=x:=λ_ _=>Lib.dj
end tE

namespace yq
def r4(N:aE)(g k0 k1:pQ R)(a d:aU)(e:aW)(f:az):aA R:=bif decide (f<(a.length:az))then bif decide (0<=f)&&decide (f<(a.length:az))then bif decide (0<=f)&&decide (f<(d.length:az))then bif bU (ar a f.toNat 0) !=bU (ar d f.toNat 0)then k0 a d ak f else g a d e (bE (f+1))else aj else aj else k1 a d e f
def l4(N:aE)(k0 k1:pQ R):aE->pQ R
 |0=>λ_ _ _ _=>aj
 |n+1=>r4 N (l4 N k0 k1 n) k0 k1
def b(N:aE)(kr:aW->aA R)(a d:aU):aA R:=bif(a.length:az) !=(d.length:az)then kr ak else l4 N (λ_ _ e _=>kr e) (λ_ _ _ _=>kr ai) N a d ak 0
def vo:=b Lib.cR λr0=>ah r0
def c:=λa d=>(vo a d).isSome
def v:=λa d=>(vo a d).getD ak
theorem out{x}:∀a d,vo a d=ah x->c a d=ai/\v a d=x:=λ_ _=>Lib.dj
end yq

namespace xX
def r4(N:aE)(g k0 k1:zd R)(a:aW)(d:az)(e:aU)(f:az)(h:aU)(i:az):aA R:=bif decide (d<(e.length:az))then bif decide (0<=d)&&decide (d<(e.length:az))then bif decide (0<=d)&&decide (d<(h.length:az))then bif yq.c (g9 (ar e d.toNat 0)) (g9 (ar h d.toNat 0))then bif !yq.v (g9 (ar e d.toNat 0)) (g9 (ar h d.toNat 0))then k0 ak d e f h i else g a (bE (d+1)) e f h i else aj else aj else aj else k1 a d e f h i
def l4(N:aE)(k0 k1:zd R):aE->zd R
 |0=>λ_ _ _ _ _ _=>aj
 |n+1=>r4 N (l4 N k0 k1 n) k0 k1
def b(N:aE)(kr:aW->aA R)(a:aU)(d:az)(e:aU)(f:az):aA R:=bif d !=f then kr ak else bif(a.length:az) !=(e.length:az)then kr ak else l4 N (λh _ _ _ _ _=>kr h) (λ_ _ _ _ _ _=>kr ai) N ak 0 a d e f
def vo:=b Lib.cR λr0=>ah r0
def c:=λa d e f=>(vo a d e f).isSome
def v:=λa d e f=>(vo a d e f).getD ak
theorem out{x}:∀a d e f,vo a d e f=ah x->c a d e f=ai/\v a d e f=x:=λ_ _ _ _=>Lib.dj
end xX

namespace Rt
def b(kr:aW->aA R)(a d e:aU)(f:az)(h i j:aU)(l:az):aA R:=bif tE.c a h then bif tE.v a h then bif tE.c d i then bif tE.v d i then bif xX.c e f j l then kr (xX.v e f j l)else aj else kr ak else aj else kr ak else aj
def vo:=b λr0=>ah r0
def c:=λa d e f h i j l=>(vo a d e f h i j l).isSome
def v:=λa d e f h i j l=>(vo a d e f h i j l).getD ak
theorem out{x}:∀a d e f h i j l,vo a d e f h i j l=ah x->c a d e f h i j l=ai/\v a d e f h i j l=x:=λ_ _ _ _ _ _ _ _=>Lib.dj
end Rt

namespace EJ
def r9(N:aE)(g k0 k1:eM R)(a:aW)(d e:az)(f h i j:aU)(l:az)(m o:aU)(p q:az)(r s t u:aU)(w:az)(y z:aU)(α:az):aA R:=bif decide (d<(o.length:az))then bif decide (0<=d)&&decide (d<(o.length:az))then bif decide (0<=d)&&decide (d<(z.length:az))then bif !(decide (bU (ar o d.toNat 0)=bU (ar z d.toNat 0))&&(c6 (bM (ar o d.toNat 1)).toList (bM (ar z d.toNat 1)).toList&&(decide (bU (ar o d.toNat (1+1))=bU (ar z d.toNat (1+1)))&&(decide (bU (ar o d.toNat (1+1+1))=bU (ar z d.toNat (1+1+1)))&&(decide (bU (ar o d.toNat (1+1+1+1))=bU (ar z d.toNat (1+1+1+1)))&&(c6 (bM (ar o d.toNat (1+1+1+1+1))).toList (bM (ar z d.toNat (1+1+1+1+1))).toList&&(decide (bU (ar o d.toNat (1+1+1+1+1+1))=bU (ar z d.toNat (1+1+1+1+1+1)))&&ai)))))))then k0 ak d e f h i j l m o p q r s t u w y z α else g a (bE (d+1)) e f h i j l m o p q r s t u w y z α else aj else aj else k1 a d e f h i j l m o p q r s t u w y z α
def l9(N:aE)(k0 k1:eM R):aE->eM R
 |0=>λ_ _ _ _ _ _ _ _ _ _ _ _ _ _ _ _ _ _ _ _=>aj
 |n+1=>r9 N (l9 N k0 k1 n) k0 k1
def r4(N:aE)(g k0 k1:eM R)(a:aW)(d e:az)(f h i j:aU)(l:az)(m o:aU)(p q:az)(r s t u:aU)(w:az)(y z:aU)(α:az):aA R:=bif decide (d<(m.length:az))then bif decide (0<=d)&&decide (d<(m.length:az))then bif decide (0<=d)&&decide (d<(y.length:az))then bif !(c6 (bM (ar m d.toNat 0)).toList (bM (ar y d.toNat 0)).toList&&(c6 (bM (ar m d.toNat 1)).toList (bM (ar y d.toNat 1)).toList&&(decide (bU (ar m d.toNat (1+1))=bU (ar y d.toNat (1+1)))&&(decide (bU (ar m d.toNat (1+1+1))=bU (ar y d.toNat (1+1+1)))&&(decide (bU (ar m d.toNat (1+1+1+1))=bU (ar y d.toNat (1+1+1+1)))&&ai)))))then k0 ak d e f h i j l m o p q r s t u w y z α else g a (bE (d+1)) e f h i j l m o p q r s t u w y z α else aj else aj else k1 a d e f h i j l m o p q r s t u w y z α
def l4(N:aE)(k0 k1:eM R):aE->eM R
 |0=>λ_ _ _ _ _ _ _ _ _ _ _ _ _ _ _ _ _ _ _ _=>aj
 |n+1=>r4 N (l4 N k0 k1 n) k0 k1
def b(N:aE)(kr:aW->aA R)(a:az)(d e f h:aU)(i:az)(j l:aU)(m o:az)(p q r s:aU)(t:az)(u w:aU)(y:az):aA R:=bif a !=o then kr ak else bif m !=y then kr ak else bif Mq.c d p then bif !Mq.v d p then kr ak else bif Rt.c e f h i q r s t then bif !Rt.v e f h i q r s t then kr ak else bif(j.length:az) !=(u.length:az)then kr ak else bif(l.length:az) !=(w.length:az)then kr ak else l4 N (λz _ _ _ _ _ _ _ _ _ _ _ _ _ _ _ _ _ _ _=>kr z) (λz _ α xa xb xc xd xe xf xg xh xi xj xk xl xm xn xo xp xq=>l9 N (λxr _ _ _ _ _ _ _ _ _ _ _ _ _ _ _ _ _ _ _=>kr xr) (λ_ _ _ _ _ _ _ _ _ _ _ _ _ _ _ _ _ _ _ _=>kr ai) N z 0 α xa xb xc xd xe xf xg xh xi xj xk xl xm xn xo xp xq) N ak 0 a d e f h i j l m o p q r s t u w y else aj else aj
def vo:=b Lib.cR λr0=>ah r0
def c:=λa d e f h i j l m o p q r s t u w y=>(vo a d e f h i j l m o p q r s t u w y).isSome
def v:=λa d e f h i j l m o p q r s t u w y=>(vo a d e f h i j l m o p q r s t u w y).getD ak
theorem out{x}:∀a d e f h i j l m o p q r s t u w y,vo a d e f h i j l m o p q r s t u w y=ah x->c a d e f h i j l m o p q r s t u w y=ai/\v a d e f h i j l m o p q r s t u w y=x:=λ_ _ _ _ _ _ _ _ _ _ _ _ _ _ _ _ _ _=>Lib.dj
end EJ

namespace pb
def b(kr:aW->aA R)(a d e:az):aA R:=bif decide (a≥d)then kr (decide (a<=e))else kr ak
def v(a0 a1 a2:az):aW:=bif decide (a0≥a1)then decide (a0<=a2)else ak
theorem gu(kr:aW->aA R)(a0 a1 a2:az):b kr a0 a1 a2=kr (v a0 a1 a2):=by first|rfl|(unfold b v;simp only[dc];(repeat' split)<;>rfl)
end pb

namespace KS
def b(kr:aW->aA R)(a:aq):aA R:=kr (pb.v (a.size:az) 1 30)
def v(a0:aq):aW:=(pb.v (a0.size:az) 1 30)
theorem gu(kr:aW->aA R)(a0:aq):b kr a0=kr (v a0):=by first|rfl|(unfold b v;simp only[dc];(repeat' split)<;>rfl)
end KS

namespace zo
def b(kr:aW->aA R)(a:az):aA R:=kr (pb.v a 0 1000000000)
def v(a0:az):aW:=(pb.v a0 0 1000000000)
theorem gu(kr:aW->aA R)(a0:az):b kr a0=kr (v a0):=by first|rfl|(unfold b v;simp only[dc];(repeat' split)<;>rfl)
end zo

namespace zp
def b(kr:aW->aA R)(a:aq)(d e:az)(f:aq):aA R:=bif KS.v a then bif zo.v d then bif pb.v e 1 999999 then kr (decide ((f.size:az)<=400))else kr ak else kr ak else kr ak
def v(a0:aq)(a1 a2:az)(a3:aq):aW:=bif KS.v a0 then bif zo.v a1 then bif pb.v a2 1 999999 then decide ((a3.size:az)<=400)else ak else ak else ak
theorem gu(kr:aW->aA R)(a0:aq)(a1 a2:az)(a3:aq):b kr a0 a1 a2 a3=kr (v a0 a1 a2 a3):=by first|rfl|(unfold b v;simp only[dc];(repeat' split)<;>rfl)
end zp

namespace Bk
def b(kr:aU->aA R)(a:az):aA R:=bif decide (a<0)then aj else bif decide (bE (a-bE (0-0))>0)then bif decide (0<=bE (a-bE (0-0)))&&cy (([]:aU).length+(bE (a-bE (0-0))).toNat) 16&&decide (bE (a-bE (0-0))<=9223372036854775807)then kr (dW ([]++aN [.s] (bE (a-bE (0-0))).toNat) (aX 0) (aX 0))else aj else kr []
def vo:=b λr0=>ah r0
def c:=λa=>(vo a).isSome
def v:=λa=>(vo a).getD ([])
theorem out{x}:∀a,vo a=ah x->c a=ai/\v a=x:=λ_=>Lib.dj
end Bk

namespace uz
def F7(N:aE)(g k0:pO R)(a:aU)(d e:az)(f:aU):aA R:=bif decide (e<d)then bif decide (0<=e)&&decide (e<(a.length:az))then bif cy (f.length+(g9 (ar a e.toNat 0)).length) 16 then g a d (bE (e+1)) (f++g9 (ar a e.toNat 0))else aj else aj else k0 a d e f
def l11(N:aE)(k0:pO R):aE->pO R
 |0=>λ_ _ _ _=>aj
 |n+1=>F7 N (l11 N k0 n) k0
def r3(N:aE)(g k0:pP R)(a:aU)(d:az)(e:aU)(f h:az):aA R:=bif decide (h<f)then bif decide (0<=h)&&decide (h<(e.length:az))then bif decide (bE (d+((g9 (ar e h.toNat 0)).length:az))<0)then aj else g a (bE (d+((g9 (ar e h.toNat 0)).length:az))) e f (bE (h+1))else aj else k0 a d e f h
def l3(N:aE)(k0:pP R):aE->pP R
 |0=>λ_ _ _ _ _=>aj
 |n+1=>r3 N (l3 N k0 n) k0
def b(N:aE)(kr:aU->aA R)(a:aU):aA R:=l3 N (λd e _ _ _=>bif Bk.c e then l11 N (λ_ _ _ f=>kr f) N d (d.length:az) 0 (Bk.v e)else aj) N a 0 a (a.length:az) 0
def vo:=b Lib.cR λr0=>ah r0
def c:=λa=>(vo a).isSome
def v:=λa=>(vo a).getD ([])
theorem out{x}:∀a,vo a=ah x->c a=ai/\v a=x:=λ_=>Lib.dj
end uz

namespace o_
def b(kr:aU->aA R)(a d e:aU)(f:az):aA R:=bif uz.c (aw (aw (aN [Ck.l 9] 2) 0 [CV.l 9 a]) 1 [CV.l 9 d])then kr (uz.v (aw (aw (aN [Ck.l 9] 2) 0 [CV.l 9 a]) 1 [CV.l 9 d]))else aj
def vo:=b λr0=>ah r0
def c:=λa d e f=>(vo a d e f).isSome
def v:=λa d e f=>(vo a d e f).getD ([])
theorem out{x}:∀a d e f,vo a d e f=ah x->c a d e f=ai/\v a d e f=x:=λ_ _ _ _=>Lib.dj
end o_

namespace x_
def r2(N:aE)(g k0 k1:ie R)(a:aU)(d:aq)(e f h:az):aA R:=bif decide (h<f)then bif decide (0<=h)&&decide (h<(a.length:az))then bif c6 (aJ d) (bM (ar a h.toNat 0)).toList then k0 a d h f h else g a d e f (bE (h+1))else aj else k1 a d e f h
def l2(N:aE)(k0 k1:ie R):aE->ie R
 |0=>λ_ _ _ _ _=>aj
 |n+1=>r2 N (l2 N k0 k1 n) k0 k1
def b(N:aE)(kr:az->aA R)(a:aU)(d:aq):aA R:=l2 N (λ_ _ e _ _=>kr e) (λ_ _ _ _ _=>kr (-1)) N a d 0 (a.length:az) 0
def vo:=b Lib.cR λr0=>ah r0
def c:=λa d=>(vo a d).isSome
def v:=λa d=>(vo a d).getD (0)
theorem out{x}:∀a d,vo a d=ah x->c a d=ai/\v a d=x:=λ_ _=>Lib.dj
end x_

namespace rq
def b(kr:aW->aA R)(a:aU)(d:aq):aA R:=bif x_.c a d then kr (decide (x_.v a d≥0))else aj
def vo:=b λr0=>ah r0
def c:=λa d=>(vo a d).isSome
def v:=λa d=>(vo a d).getD ak
theorem out{x}:∀a d,vo a d=ah x->c a d=ai/\v a d=x:=λ_ _=>Lib.dj
end rq

namespace xY
def b(kr:aW->aA R)(a d e:aU)(f:az)(h:aq):aA R:=bif o_.c a d e f then bif rq.c (o_.v a d e f) h then kr (rq.v (o_.v a d e f) h)else aj else aj
def vo:=b λr0=>ah r0
def c:=λa d e f h=>(vo a d e f h).isSome
def v:=λa d e f h=>(vo a d e f h).getD ak
theorem out{x}:∀a d e f h,vo a d e f h=ah x->c a d e f h=ai/\v a d e f h=x:=λ_ _ _ _ _=>Lib.dj
end xY

namespace oI
def r5(N:aE)(g k0 k1:pK R)(a:aW)(d e:aU)(f h:az)(i:aU)(j l:az)(m:aU)(o:az):aA R:=bif decide (l<j)then bif decide (0<=l)&&decide (l<(i.length:az))then bif !pb.v (bU (ar i l.toNat 0)) 0 15 then k0 ak d e f h i j l m o else g a d e f h i j (bE (l+1)) m o else aj else k1 a d e f h i j l m o
def l5(N:aE)(k0 k1:pK R):aE->pK R
 |0=>λ_ _ _ _ _ _ _ _ _ _=>aj
 |n+1=>r5 N (l5 N k0 k1 n) k0 k1
def r2(N:aE)(g k0 k1:ze R)(a:aW)(d:aU)(e f:az)(h:aU)(i:az):aA R:=bif decide (f<e)then bif decide (0<=f)&&decide (f<(d.length:az))then l5 N (λj _ l m o _ _ _ p q=>k0 j l m o p q) (λj l m o p _ _ _ q r=>bif(l.length:az) !=16 then k0 ak m o p q r else g j m o (bE (p+1)) q r) N a (g9 (ar d f.toNat 0)) d e f (g9 (ar d f.toNat 0)) ((g9 (ar d f.toNat 0)).length:az) 0 h i else aj else k1 a d e f h i
def l2(N:aE)(k0 k1:ze R):aE->ze R
 |0=>λ_ _ _ _ _ _=>aj
 |n+1=>r2 N (l2 N k0 k1 n) k0 k1
def b(N:aE)(kr:aW->aA R)(a:aU)(d:az):aA R:=l2 N (λe _ _ _ _ _=>kr e) (λ_ _ _ _ e f=>bif decide ((e.length:az)=3)then kr (pb.v f 0 63)else kr ak) N ak a (a.length:az) 0 a d
def vo:=b Lib.cR λr0=>ah r0
def c:=λa d=>(vo a d).isSome
def v:=λa d=>(vo a d).getD ak
theorem out{x}:∀a d,vo a d=ah x->c a d=ai/\v a d=x:=λ_ _=>Lib.dj
end oI

namespace o8
def r3(N:aE)(g k0 k1:tn R)(a:aW)(d e:az)(f h i:aU)(j:az)(l:aU):aA R:=bif decide (e<d)then bif decide (0<=e)&&decide (e<(l.length:az))then bif !KS.v (bM (ar l e.toNat 0))then k0 ak d e f h i j l else bif iy 0 e (l.length:az)then bif rq.c (dW l (aX 0) e.toNat) (bM (ar l e.toNat 0))then bif rq.v (dW l (aX 0) e.toNat) (bM (ar l e.toNat 0))then k0 ak d e f h i j l else g a d (bE (e+1)) f h i j l else aj else aj else aj else k1 a d e f h i j l
def l3(N:aE)(k0 k1:tn R):aE->tn R
 |0=>λ_ _ _ _ _ _ _ _=>aj
 |n+1=>r3 N (l3 N k0 k1 n) k0 k1
def b(N:aE)(kr:aW->aA R)(a d e:aU)(f:az):aA R:=bif o_.c a d e f then l3 N (λh _ _ _ _ _ _ _=>kr h) (λ_ _ _ h i j l _=>bif decide ((h.length:az)<=2)then bif decide ((i.length:az)<=4)then bif oI.c j l then kr (oI.v j l)else aj else kr ak else kr ak) N ak ((o_.v a d e f).length:az) 0 a d e f (o_.v a d e f)else aj
def vo:=b Lib.cR λr0=>ah r0
def c:=λa d e f=>(vo a d e f).isSome
def v:=λa d e f=>(vo a d e f).getD ak
theorem out{x}:∀a d e f,vo a d e f=ah x->c a d e f=ai/\v a d e f=x:=λ_ _ _ _=>Lib.dj
end o8

namespace Mr
def r2(N:aE)(g k0 k1:ed R)(a:aW)(d:aU)(e f h:az)(i j l m:aU)(o:az)(p q:aU)(r:az):aA R:=bif decide (f<e)then bif decide (0<=f)&&decide (f<(d.length:az))then bif !zp.v (bM (ar d f.toNat 0)) (bU (ar d f.toNat 1)) (bU (ar d f.toNat (1+1))) (bM (ar d f.toNat (1+1+1)))then k0 ak d e f h i j l m o p q r else bif decide (f>0)then bif decide (0<=bE (f-1))&&decide (bE (f-1)<(i.length:az))then bif !Op.bytesLess (bM (ar i (bE (f-1)).toNat 0)).toList (bM (ar d f.toNat 0)).toList then k0 ak d e f h i j l m o p q r else bif xY.c j l m o (bM (ar d f.toNat 0))then bif !xY.v j l m o (bM (ar d f.toNat 0))then k0 ak d e f h i j l m o p q r else g a d e (bE (f+1)) h i j l m o p q r else aj else aj else bif xY.c j l m o (bM (ar d f.toNat 0))then bif !xY.v j l m o (bM (ar d f.toNat 0))then k0 ak d e f h i j l m o p q r else g a d e (bE (f+1)) h i j l m o p q r else aj else aj else k1 a d e f h i j l m o p q r
def l2(N:aE)(k0 k1:ed R):aE->ed R
 |0=>λ_ _ _ _ _ _ _ _ _ _ _ _ _=>aj
 |n+1=>r2 N (l2 N k0 k1 n) k0 k1
def b(N:aE)(kr:aW->aA R)(a:az)(d e f h:aU)(i:az)(j l:aU)(m:az):aA R:=l2 N (λo _ _ _ _ _ _ _ _ _ _ _ _=>kr o) (λ_ _ _ _ _ o p q r s _ _ _=>bif o8.c p q r s then bif o8.v p q r s then bif o_.c p q r s then kr (decide (((o_.v p q r s).length:az)=(o.length:az)))else aj else kr ak else aj) N ak d (d.length:az) 0 a d e f h i j l m
def vo:=b Lib.cR λr0=>ah r0
def c:=λa d e f h i j l m=>(vo a d e f h i j l m).isSome
def v:=λa d e f h i j l m=>(vo a d e f h i j l m).getD ak
theorem out{x}:∀a d e f h i j l m,vo a d e f h i j l m=ah x->c a d e f h i j l m=ai/\v a d e f h i j l m=x:=λ_ _ _ _ _ _ _ _ _=>Lib.dj
end Mr

namespace G0
def b(kr:aW->aA R)(a d:aq)(e f h:az)(gW:aq):aA R:=bif c6 (aJ a) (aJ gW)then kr (decide (e=1))else kr ak
def v(a0 a1:aq)(a2 a3 a4:az)(gW:aq):aW:=bif c6 (aJ a0) (aJ gW)then decide (a2=1)else ak
theorem gu(kr:aW->aA R)(a0 a1:aq)(a2 a3 a4:az)(gW:aq):b kr a0 a1 a2 a3 a4 gW=kr (v a0 a1 a2 a3 a4 gW):=by first|rfl|(unfold b v;simp only[dc];(repeat' split)<;>rfl)
end G0

namespace qM
def r2(N:aE)(g k0 k1:ie R)(a:aU)(d:aq)(e f h:az):aA R:=bif decide (h<f)then bif decide (0<=h)&&decide (h<(a.length:az))then bif G0.v (bM (ar a h.toNat 0)) (bM (ar a h.toNat 1)) (bU (ar a h.toNat (1+1))) (bU (ar a h.toNat (1+1+1))) (bU (ar a h.toNat (1+1+1+1))) d then k0 a d h f h else g a d e f (bE (h+1))else aj else k1 a d e f h
def l2(N:aE)(k0 k1:ie R):aE->ie R
 |0=>λ_ _ _ _ _=>aj
 |n+1=>r2 N (l2 N k0 k1 n) k0 k1
def b(N:aE)(kr:az->aA R)(a:aU)(gW:aq):aA R:=l2 N (λ_ _ d _ _=>kr d) (λ_ _ _ _ _=>kr (-1)) N a gW 0 (a.length:az) 0
def vo:=b Lib.cR λr0=>ah r0
def c:=λa d=>(vo a d).isSome
def v:=λa d=>(vo a d).getD (0)
theorem out{x}:∀a d,vo a d=ah x->c a d=ai/\v a d=x:=λ_ _=>Lib.dj
end qM

namespace Ja
def b(kr:az->aA R)(a:az)(d e f h:aU)(i:az)(j l:aU)(m:az)(o:aq):aA R:=bif qM.c j o then kr (qM.v j o)else aj
def vo:=b λr0=>ah r0
def c:=λa d e f h i j l m o=>(vo a d e f h i j l m o).isSome
def v:=λa d e f h i j l m o=>(vo a d e f h i j l m o).getD (0)
theorem out{x}:∀a d e f h i j l m o,vo a d e f h i j l m o=ah x->c a d e f h i j l m o=ai/\v a d e f h i j l m o=x:=λ_ _ _ _ _ _ _ _ _ _=>Lib.dj
end Ja

namespace ur
def r2(N:aE)(g k0 k1:ed R)(a:aW)(d:aU)(e f h:az)(i j l m:aU)(o:az)(p q:aU)(r:az):aA R:=bif decide (f<e)then bif decide (0<=f)&&decide (f<(d.length:az))then bif decide (bU (ar d f.toNat (1+1))=1)then bif Ja.c h i j l m o p q r (bM (ar d f.toNat 0))then bif Ja.v h i j l m o p q r (bM (ar d f.toNat 0)) !=f then k0 ak d e f h i j l m o p q r else g a d e (bE (f+1)) h i j l m o p q r else aj else g a d e (bE (f+1)) h i j l m o p q r else aj else k1 a d e f h i j l m o p q r
def l2(N:aE)(k0 k1:ed R):aE->ed R
 |0=>λ_ _ _ _ _ _ _ _ _ _ _ _ _=>aj
 |n+1=>r2 N (l2 N k0 k1 n) k0 k1
def b(N:aE)(kr:aW->aA R)(a:az)(d e f h:aU)(i:az)(j l:aU)(m:az):aA R:=l2 N (λo _ _ _ _ _ _ _ _ _ _ _ _=>kr o) (λ_ _ _ _ _ _ _ _ _ _ _ _ _=>kr ai) N ak j (j.length:az) 0 a d e f h i j l m
def vo:=b Lib.cR λr0=>ah r0
def c:=λa d e f h i j l m=>(vo a d e f h i j l m).isSome
def v:=λa d e f h i j l m=>(vo a d e f h i j l m).getD ak
theorem out{x}:∀a d e f h i j l m,vo a d e f h i j l m=ah x->c a d e f h i j l m=ai/\v a d e f h i j l m=x:=λ_ _ _ _ _ _ _ _ _=>Lib.dj
end ur

namespace KU
def r2(N:aE)(g k0 k1:ed R)(a:aW)(d:aU)(e f h:az)(i j l m:aU)(o:az)(p q:aU)(r:az):aA R:=bif decide (f<e)then bif decide (0<=f)&&decide (f<(d.length:az))then bif !KS.v (bM (ar d f.toNat 0))then k0 ak d e f h i j l m o p q r else bif decide (((bM (ar d f.toNat 1)).size:az)>400)then k0 ak d e f h i j l m o p q r else bif !pb.v (bU (ar d f.toNat (1+1))) 1 3 then k0 ak d e f h i j l m o p q r else bif !pb.v (bU (ar d f.toNat (1+1+1))) 0 999999 then k0 ak d e f h i j l m o p q r else bif !pb.v (bU (ar d f.toNat (1+1+1+1))) 0 h then k0 ak d e f h i j l m o p q r else g a d e (bE (f+1)) h i j l m o p q r else aj else k1 a d e f h i j l m o p q r
def l2(N:aE)(k0 k1:ed R):aE->ed R
 |0=>λ_ _ _ _ _ _ _ _ _ _ _ _ _=>aj
 |n+1=>r2 N (l2 N k0 k1 n) k0 k1
def b(N:aE)(kr:aW->aA R)(a:az)(d e f h:aU)(i:az)(j l:aU)(m:az):aA R:=l2 N (λo _ _ _ _ _ _ _ _ _ _ _ _=>kr o) (λ_ _ _ _ o p q r s t u w y=>bif decide ((u.length:az)<=20)then bif ur.c o p q r s t u w y then kr (ur.v o p q r s t u w y)else aj else kr ak) N ak j (j.length:az) 0 a d e f h i j l m
def vo:=b Lib.cR λr0=>ah r0
def c:=λa d e f h i j l m=>(vo a d e f h i j l m).isSome
def v:=λa d e f h i j l m=>(vo a d e f h i j l m).getD ak
theorem out{x}:∀a d e f h i j l m,vo a d e f h i j l m=ah x->c a d e f h i j l m=ai/\v a d e f h i j l m=x:=λ_ _ _ _ _ _ _ _ _=>Lib.dj
end KU

namespace Ms
def r2(N:aE)(g k0 k1:ed R)(a:aW)(d:aU)(e f h:az)(i j l m:aU)(o:az)(p q:aU)(r:az):aA R:=bif decide (f<e)then bif decide (0<=f)&&decide (f<(d.length:az))then bif !pb.v (bU (ar d f.toNat 0)) 1 9 then k0 ak d e f h i j l m o p q r else bif decide (f>0)then bif decide (0<=bE (f-1))&&decide (bE (f-1)<(q.length:az))then bif decide (bU (ar q (bE (f-1)).toNat 0)≥bU (ar d f.toNat 0))then k0 ak d e f h i j l m o p q r else bif !KS.v (bM (ar d f.toNat 1))then k0 ak d e f h i j l m o p q r else bif !pb.v (bU (ar d f.toNat (1+1+1+1))) 1 3 then k0 ak d e f h i j l m o p q r else bif !pb.v (bU (ar d f.toNat (1+1))) 0 (p.length:az)then k0 ak d e f h i j l m o p q r else bif decide (((bM (ar d f.toNat (1+1+1+1+1))).size:az)>400)then k0 ak d e f h i j l m o p q r else bif !pb.v (bU (ar d f.toNat (1+1+1))) 0 h then k0 ak d e f h i j l m o p q r else bif decide (bU (ar d f.toNat (1+1+1+1+1+1))<0)then k0 ak d e f h i j l m o p q r else g a d e (bE (f+1)) h i j l m o p q r else aj else bif !KS.v (bM (ar d f.toNat 1))then k0 ak d e f h i j l m o p q r else bif !pb.v (bU (ar d f.toNat (1+1+1+1))) 1 3 then k0 ak d e f h i j l m o p q r else bif !pb.v (bU (ar d f.toNat (1+1))) 0 (p.length:az)then k0 ak d e f h i j l m o p q r else bif decide (((bM (ar d f.toNat (1+1+1+1+1))).size:az)>400)then k0 ak d e f h i j l m o p q r else bif !pb.v (bU (ar d f.toNat (1+1+1))) 0 h then k0 ak d e f h i j l m o p q r else bif decide (bU (ar d f.toNat (1+1+1+1+1+1))<0)then k0 ak d e f h i j l m o p q r else g a d e (bE (f+1)) h i j l m o p q r else aj else k1 a d e f h i j l m o p q r
def l2(N:aE)(k0 k1:ed R):aE->ed R
 |0=>λ_ _ _ _ _ _ _ _ _ _ _ _ _=>aj
 |n+1=>r2 N (l2 N k0 k1 n) k0 k1
def b(N:aE)(kr:aW->aA R)(a:az)(d e f h:aU)(i:az)(j l:aU)(m:az):aA R:=l2 N (λo _ _ _ _ _ _ _ _ _ _ _ _=>kr o) (λ_ _ _ _ _ _ _ _ _ _ _ o _=>kr (decide ((o.length:az)<=6))) N ak l (l.length:az) 0 a d e f h i j l m
def vo:=b Lib.cR λr0=>ah r0
def c:=λa d e f h i j l m=>(vo a d e f h i j l m).isSome
def v:=λa d e f h i j l m=>(vo a d e f h i j l m).getD ak
theorem out{x}:∀a d e f h i j l m,vo a d e f h i j l m=ah x->c a d e f h i j l m=ai/\v a d e f h i j l m=x:=λ_ _ _ _ _ _ _ _ _=>Lib.dj
end Ms

namespace I9
def b(kr:aW->aA R)(a:az)(d e f h:aU)(i:az)(j l:aU)(m:az):aA R:=bif pb.v a 1 1000000000 then bif Mr.c a d e f h i j l m then bif Mr.v a d e f h i j l m then bif KU.c a d e f h i j l m then bif KU.v a d e f h i j l m then bif Ms.c a d e f h i j l m then bif Ms.v a d e f h i j l m then kr (zo.v m)else kr ak else aj else kr ak else aj else kr ak else aj else kr ak
def vo:=b λr0=>ah r0
def c:=λa d e f h i j l m=>(vo a d e f h i j l m).isSome
def v:=λa d e f h i j l m=>(vo a d e f h i j l m).getD ak
theorem out{x}:∀a d e f h i j l m,vo a d e f h i j l m=ah x->c a d e f h i j l m=ai/\v a d e f h i j l m=x:=λ_ _ _ _ _ _ _ _ _=>Lib.dj
end I9

namespace Di
def r3(N:aE)(g:k_ R)(g1:hZ R)(k0:k_ R)(k1:hZ R)(a d e:az):aA R:=bif decide (a<3)then g1 (bE (a+1)) d e ([]++aw (aN [Ck.l 3] 1) 0 [CV.l 3 (aN [Ck.i ao] (aX 16))])else k0 a d e
def wM(N:aE)(g:k_ R)(g1:hZ R)(k0:k_ R)(k1:hZ R)(a d e:az)(f:aU):aA R:=bif decide (a<3)then bif cy (f.length+(aw (aN [Ck.l 3] 1) 0 [CV.l 3 (aN [Ck.i ao] (aX 16))]).length) 24 then g1 (bE (a+1)) d e (f++aw (aN [Ck.l 3] 1) 0 [CV.l 3 (aN [Ck.i ao] (aX 16))])else aj else k1 a d e f
def qP(N:aE)(k0:k_ R)(k1:hZ R):aE->hZ R
 |0=>λ_ _ _ _=>aj
 |n+1=>wM N (λx0 x1 x2=>aj) (qP N k0 k1 n) k0 k1
def l3(N:aE)(k0:k_ R)(k1:hZ R):aE->k_ R
 |0=>λ_ _ _=>aj
 |n+1=>r3 N (l3 N k0 k1 n) (qP N k0 k1 n) k0 k1
def b(N:aE)(kr:qX R):aA R:=l3 N (λ_ _ a=>kr [] a) (λ_ _ a d=>kr d a) N 0 0 0
def vo:=b Lib.cR λr0 r1=>ah (r0,r1)
def c:=vo.isSome
def v:=vo.getD ([],0)
end Di

namespace Sa
def b(kr:qY R):aA R:=kr [] [] ([]++aw (aN [Ck.l 3] 1) 0 [CV.l 3 (aN [Ck.i ao] (aX 16))]++aw (aN [Ck.l 3] 1) 0 [CV.l 3 (aN [Ck.i ao] (aX 16))]++aw (aN [Ck.l 3] 1) 0 [CV.l 3 (aN [Ck.i ao] (aX 16))]) 0
def v:aU×aU×aU×az:=([],[],[]++aw (aN [Ck.l 3] 1) 0 [CV.l 3 (aN [Ck.i ao] (aX 16))]++aw (aN [Ck.l 3] 1) 0 [CV.l 3 (aN [Ck.i ao] (aX 16))]++aw (aN [Ck.l 3] 1) 0 [CV.l 3 (aN [Ck.i ao] (aX 16))],0)
theorem gu(kr:qY R):b kr=kr v.1 v.2.1 v.2.2.1 v.2.2.2:=by first|rfl|(unfold b v;simp only[dc];(repeat' split)<;>rfl)
end Sa

namespace U26
def b(kr:dZ R):aA R:=kr 1 [] [] [] ([]++aw (aN [Ck.l 3] 1) 0 [CV.l 3 (aN [Ck.i ao] (aX 16))]++aw (aN [Ck.l 3] 1) 0 [CV.l 3 (aN [Ck.i ao] (aX 16))]++aw (aN [Ck.l 3] 1) 0 [CV.l 3 (aN [Ck.i ao] (aX 16))]) 0 [] [] 0
def v:az×aU×aU×aU×aU×az×aU×aU×az:=(1,[],[],[],[]++aw (aN [Ck.l 3] 1) 0 [CV.l 3 (aN [Ck.i ao] (aX 16))]++aw (aN [Ck.l 3] 1) 0 [CV.l 3 (aN [Ck.i ao] (aX 16))]++aw (aN [Ck.l 3] 1) 0 [CV.l 3 (aN [Ck.i ao] (aX 16))],0,[],[],0)
theorem gu(kr:dZ R):b kr=kr v.1 v.2.1 v.2.2.1 v.2.2.2.1 v.2.2.2.2.1 v.2.2.2.2.2.1 v.2.2.2.2.2.2.1 v.2.2.2.2.2.2.2.1 v.2.2.2.2.2.2.2.2:=by first|rfl|(unfold b v;simp only[dc];(repeat' split)<;>rfl)
end U26

namespace U4
def b(kr:aW->aA R)(a:aU):aA R:=bif YZ.v a then kr ai else bif Rk.c a then Lib.lt (Rk.v a) λd=>bif KR.c d.1 d.2.1 d.2.2.1 d.2.2.2.1 d.2.2.2.2.1 d.2.2.2.2.2.1 d.2.2.2.2.2.2.1 d.2.2.2.2.2.2.2.1 d.2.2.2.2.2.2.2.2.1 d.2.2.2.2.2.2.2.2.2 then Lib.lt (KR.v d.1 d.2.1 d.2.2.1 d.2.2.2.1 d.2.2.2.2.1 d.2.2.2.2.2.1 d.2.2.2.2.2.2.1 d.2.2.2.2.2.2.2.1 d.2.2.2.2.2.2.2.2.1 d.2.2.2.2.2.2.2.2.2) λe=>bif Rl.c a then Lib.lt (Rl.v a) λf=>bif Rm.c f.1 f.2.1 f.2.2.1 f.2.2.2.1 f.2.2.2.2.1 f.2.2.2.2.2.1 f.2.2.2.2.2.2.1 f.2.2.2.2.2.2.2.1 f.2.2.2.2.2.2.2.2.1 f.2.2.2.2.2.2.2.2.2 then Lib.lt (Rm.v f.1 f.2.1 f.2.2.1 f.2.2.2.1 f.2.2.2.2.1 f.2.2.2.2.2.1 f.2.2.2.2.2.2.1 f.2.2.2.2.2.2.2.1 f.2.2.2.2.2.2.2.2.1 f.2.2.2.2.2.2.2.2.2) λh=>bif Mn.c h.1 h.2.1 h.2.2.1 h.2.2.2.1 h.2.2.2.2.1 h.2.2.2.2.2.1 h.2.2.2.2.2.2.1 h.2.2.2.2.2.2.2.1 h.2.2.2.2.2.2.2.2 f.2.2.2.2.2.2.2.2.2 then Lib.lt (Mn.v h.1 h.2.1 h.2.2.1 h.2.2.2.1 h.2.2.2.2.1 h.2.2.2.2.2.1 h.2.2.2.2.2.2.1 h.2.2.2.2.2.2.2.1 h.2.2.2.2.2.2.2.2 f.2.2.2.2.2.2.2.2.2) λi=>bif Rn.c a then Lib.lt (Rn.v a) λj=>bif KR.c j.1 j.2.1 j.2.2.1 j.2.2.2.1 j.2.2.2.2.1 j.2.2.2.2.2.1 j.2.2.2.2.2.2.1 j.2.2.2.2.2.2.2.1 j.2.2.2.2.2.2.2.2 7 then Lib.lt (KR.v j.1 j.2.1 j.2.2.1 j.2.2.2.1 j.2.2.2.2.1 j.2.2.2.2.2.1 j.2.2.2.2.2.2.1 j.2.2.2.2.2.2.2.1 j.2.2.2.2.2.2.2.2 7) λl=>bif wA.c d.1 d.2.1 d.2.2.1 d.2.2.2.1 d.2.2.2.2.1 d.2.2.2.2.2.1 d.2.2.2.2.2.2.1 d.2.2.2.2.2.2.2.1 d.2.2.2.2.2.2.2.2.1 d.2.2.2.2.2.2.2.2.2 then Lib.lt (wA.v d.1 d.2.1 d.2.2.1 d.2.2.2.1 d.2.2.2.2.1 d.2.2.2.2.2.1 d.2.2.2.2.2.2.1 d.2.2.2.2.2.2.2.1 d.2.2.2.2.2.2.2.2.1 d.2.2.2.2.2.2.2.2.2) λm=>bif EJ.c e.1 e.2.1 e.2.2.1 e.2.2.2.1 e.2.2.2.2.1 e.2.2.2.2.2.1 e.2.2.2.2.2.2.1 e.2.2.2.2.2.2.2.1 e.2.2.2.2.2.2.2.2 m.1 m.2.1 m.2.2.1 m.2.2.2.1 m.2.2.2.2.1 m.2.2.2.2.2.1 m.2.2.2.2.2.2.1 m.2.2.2.2.2.2.2.1 m.2.2.2.2.2.2.2.2 then Lib.lt (EJ.v e.1 e.2.1 e.2.2.1 e.2.2.2.1 e.2.2.2.2.1 e.2.2.2.2.2.1 e.2.2.2.2.2.2.1 e.2.2.2.2.2.2.2.1 e.2.2.2.2.2.2.2.2 m.1 m.2.1 m.2.2.1 m.2.2.2.1 m.2.2.2.2.1 m.2.2.2.2.2.1 m.2.2.2.2.2.2.1 m.2.2.2.2.2.2.2.1 m.2.2.2.2.2.2.2.2) λo=>bif o then bif B5.c f.1 f.2.1 f.2.2.1 f.2.2.2.1 f.2.2.2.2.1 f.2.2.2.2.2.1 f.2.2.2.2.2.2.1 f.2.2.2.2.2.2.2.1 f.2.2.2.2.2.2.2.2.1 f.2.2.2.2.2.2.2.2.2 then Lib.lt (B5.v f.1 f.2.1 f.2.2.1 f.2.2.2.1 f.2.2.2.2.1 f.2.2.2.2.2.1 f.2.2.2.2.2.2.1 f.2.2.2.2.2.2.2.1 f.2.2.2.2.2.2.2.2.1 f.2.2.2.2.2.2.2.2.2) λp=>bif EJ.c h.1 h.2.1 h.2.2.1 h.2.2.2.1 h.2.2.2.2.1 h.2.2.2.2.2.1 h.2.2.2.2.2.2.1 h.2.2.2.2.2.2.2.1 h.2.2.2.2.2.2.2.2 p.1 p.2.1 p.2.2.1 p.2.2.2.1 p.2.2.2.2.1 p.2.2.2.2.2.1 p.2.2.2.2.2.2.1 p.2.2.2.2.2.2.2.1 p.2.2.2.2.2.2.2.2 then Lib.lt (EJ.v h.1 h.2.1 h.2.2.1 h.2.2.2.1 h.2.2.2.2.1 h.2.2.2.2.2.1 h.2.2.2.2.2.2.1 h.2.2.2.2.2.2.2.1 h.2.2.2.2.2.2.2.2 p.1 p.2.1 p.2.2.1 p.2.2.2.1 p.2.2.2.2.1 p.2.2.2.2.2.1 p.2.2.2.2.2.2.1 p.2.2.2.2.2.2.2.1 p.2.2.2.2.2.2.2.2) λq=>bif q then bif !i.2.2.2.2.2.2.2 then bif decide (l.1=bE (j.1+7))then bif decide ((l.2.2.2.2.2.2.2.1.length:az)=(j.2.2.2.2.2.2.2.1.length:az))then bif I9.c l.1 l.2.1 l.2.2.1 l.2.2.2.1 l.2.2.2.2.1 l.2.2.2.2.2.1 l.2.2.2.2.2.2.1 l.2.2.2.2.2.2.2.1 l.2.2.2.2.2.2.2.2 then Lib.lt (I9.v l.1 l.2.1 l.2.2.1 l.2.2.2.1 l.2.2.2.2.1 l.2.2.2.2.2.1 l.2.2.2.2.2.2.1 l.2.2.2.2.2.2.2.1 l.2.2.2.2.2.2.2.2) λr=>bif r then kr ai else kr ak else aj else kr ak else bif decide (l.1=1000000000)then bif decide ((l.2.2.2.2.2.2.2.1.length:az)=(j.2.2.2.2.2.2.2.1.length:az))then bif I9.c l.1 l.2.1 l.2.2.1 l.2.2.2.1 l.2.2.2.2.1 l.2.2.2.2.2.1 l.2.2.2.2.2.2.1 l.2.2.2.2.2.2.2.1 l.2.2.2.2.2.2.2.2 then Lib.lt (I9.v l.1 l.2.1 l.2.2.1 l.2.2.2.1 l.2.2.2.2.1 l.2.2.2.2.2.1 l.2.2.2.2.2.2.1 l.2.2.2.2.2.2.2.1 l.2.2.2.2.2.2.2.2) λr=>bif r then kr ai else kr ak else aj else kr ak else kr ak else kr ak else kr ak else aj else aj else kr ak else aj else aj else aj else aj else aj else aj else aj else aj else aj
def vo:=b λr0=>ah r0
def c:=λa=>(vo a).isSome
def v:=λa=>(vo a).getD ak
theorem out{x}:∀a,vo a=ah x->c a=ai/\v a=x:=λ_=>Lib.dj
end U4

namespace U67
def b(kr:aW->aA R)(a:aq)(d e:az)(f gW:aq):aA R:=kr (c6 (aJ a) (aJ gW))
def v(a0:aq)(a1 a2:az)(a3 gW:aq):aW:=(c6 (aJ a0) (aJ gW))
end U67

namespace EL
def r2(N:aE)(g k0 k1:ie R)(a:aU)(d:aq)(e f h:az):aA R:=bif decide (h<f)then bif decide (0<=h)&&decide (h<(a.length:az))then bif U67.v (bM (ar a h.toNat 0)) (bU (ar a h.toNat 1)) (bU (ar a h.toNat (1+1))) (bM (ar a h.toNat (1+1+1))) d then k0 a d h f h else g a d e f (bE (h+1))else aj else k1 a d e f h
def l2(N:aE)(k0 k1:ie R):aE->ie R
 |0=>λ_ _ _ _ _=>aj
 |n+1=>r2 N (l2 N k0 k1 n) k0 k1
def b(N:aE)(kr:az->aA R)(a:aU)(gW:aq):aA R:=l2 N (λ_ _ d _ _=>kr d) (λ_ _ _ _ _=>kr (-1)) N a gW 0 (a.length:az) 0
def vo:=b Lib.cR λr0=>ah r0
def c:=λa d=>(vo a d).isSome
def v:=λa d=>(vo a d).getD (0)
theorem out{x}:∀a d,vo a d=ah x->c a d=ai/\v a d=x:=λ_ _=>Lib.dj
end EL

namespace Be
def b(kr:aW->aA R)(a:aq)(d e:az)(f gW:aq):aA R:=kr (c6 (aJ a) (aJ gW))
def v(a0:aq)(a1 a2:az)(a3 gW:aq):aW:=(c6 (aJ a0) (aJ gW))
end Be

namespace tI
def r2(N:aE)(g k0 k1:ie R)(a:aU)(d:aq)(e f h:az):aA R:=bif decide (h<f)then bif decide (0<=h)&&decide (h<(a.length:az))then bif Be.v (bM (ar a h.toNat 0)) (bU (ar a h.toNat 1)) (bU (ar a h.toNat (1+1))) (bM (ar a h.toNat (1+1+1))) d then k0 a d h f h else g a d e f (bE (h+1))else aj else k1 a d e f h
def l2(N:aE)(k0 k1:ie R):aE->ie R
 |0=>λ_ _ _ _ _=>aj
 |n+1=>r2 N (l2 N k0 k1 n) k0 k1
def b(N:aE)(kr:az->aA R)(a:aU)(gW:aq):aA R:=l2 N (λ_ _ d _ _=>kr d) (λ_ _ _ _ _=>kr (-1)) N a gW 0 (a.length:az) 0
def vo:=b Lib.cR λr0=>ah r0
def c:=λa d=>(vo a d).isSome
def v:=λa d=>(vo a d).getD (0)
theorem out{x}:∀a d,vo a d=ah x->c a d=ai/\v a d=x:=λ_ _=>Lib.dj
end tI

namespace Y0
def b(kr:aW->aA R)(a:aq)(d e:az)(f:aq)(Zi:az)(NS:aq)(Zj NT Zk:az)(NU:aq)(NV:az):aA R:=bif c6 (aJ a) (aJ NS)then bif decide (d=NT)then bif c6 (aJ f) (aJ NU)then kr (decide (e>NV))else kr ak else kr ak else kr ak
def v(a0:aq)(a1 a2:az)(a3:aq)(Zi:az)(NS:aq)(Zj NT Zk:az)(NU:aq)(NV:az):aW:=bif c6 (aJ a0) (aJ NS)then bif decide (a1=NT)then bif c6 (aJ a3) (aJ NU)then decide (a2>NV)else ak else ak else ak
end Y0

namespace Si
def r2(N:aE)(g k0 k1:oD R)(a:aU)(d:az)(e:aq)(f h i:az)(j:aq)(l m o p:az):aA R:=bif decide (p<o)then bif decide (0<=p)&&decide (p<(a.length:az))then bif Y0.v (bM (ar a p.toNat 0)) (bU (ar a p.toNat 1)) (bU (ar a p.toNat (1+1))) (bM (ar a p.toNat (1+1+1))) d e f h i j l then k0 a d e f h i j l p o p else g a d e f h i j l m o (bE (p+1))else aj else k1 a d e f h i j l m o p
def l2(N:aE)(k0 k1:oD R):aE->oD R
 |0=>λ_ _ _ _ _ _ _ _ _ _ _=>aj
 |n+1=>r2 N (l2 N k0 k1 n) k0 k1
def b(N:aE)(kr:az->aA R)(a:aU)(Zi:az)(NS:aq)(Zj NT Zk:az)(NU:aq)(NV:az):aA R:=l2 N (λ_ _ _ _ _ _ _ _ d _ _=>kr d) (λ_ _ _ _ _ _ _ _ _ _ _=>kr (-1)) N a Zi NS Zj NT Zk NU NV 0 (a.length:az) 0
def vo:=b Lib.cR λr0=>ah r0
def c:=λa d e f h i j l=>(vo a d e f h i j l).isSome
def v:=λa d e f h i j l=>(vo a d e f h i j l).getD (0)
theorem out{x}:∀a d e f h i j l,vo a d e f h i j l=ah x->c a d e f h i j l=ai/\v a d e f h i j l=x:=λ_ _ _ _ _ _ _ _=>Lib.dj
end Si

namespace o9
def r5(N:aE)(g k0:mR R)(a:aq)(d e:az)(f:aU):aA R:=bif decide (e<(f.length:az))then bif decide (0<=e)&&decide (e<(f.length:az))then bif !Be.v (bM (ar f e.toNat 0)) (bU (ar f e.toNat 1)) (bU (ar f e.toNat (1+1))) (bM (ar f e.toNat (1+1+1))) a then bif decide (0<=d)&&decide (d<(f.length:az))then g a (bE (d+1)) (bE (e+1)) (eA f d.toNat 0 [.s (bM (ar f e.toNat 0)), .i .i64 (bU (ar f e.toNat 1)), .i .i64 (bU (ar f e.toNat (1+1))), .s (bM (ar f e.toNat (1+1+1)))])else aj else g a d (bE (e+1)) f else aj else k0 a d e f
def l5(N:aE)(k0:mR R):aE->mR R
 |0=>λ_ _ _ _=>aj
 |n+1=>r5 N (l5 N k0 n) k0
def b(N:aE)(kr:aU->aA R)(a:aU)(gW:aq):aA R:=bif tI.c a gW then bif decide (tI.v a gW=gD 1)then kr a else l5 N (λ_ d _ e=>bif iy d (e.length:az) (e.length:az)then bif iy 0 d ((lX d.toNat e++aN [Ck.s,Ck.i ao,Ck.i ao,Ck.s] ((e.length:az).toNat-d.toNat)++vF (e.length:az).toNat e).length:az)then kr (dW (lX d.toNat e++aN [Ck.s,Ck.i ao,Ck.i ao,Ck.s] ((e.length:az).toNat-d.toNat)++vF (e.length:az).toNat e) (aX 0) d.toNat)else aj else aj) N gW (tI.v a gW) (bE (tI.v a gW+1)) a else aj
def vo:=b Lib.cR λr0=>ah r0
def c:=λa d=>(vo a d).isSome
def v:=λa d=>(vo a d).getD ([])
theorem out{x}:∀a d,vo a d=ah x->c a d=ai/\v a d=x:=λ_ _=>Lib.dj
end o9

namespace fP
def r5(N:aE)(g k0 k1:vR R)(a:aq)(d e f:az)(h:aW)(i j:az):aA R:=bif decide (j<5)then bif decide (bE (d+j)<(a.size:az))then bif decide (0<=bE (d+j))&&decide (bE (d+j)<(a.size:az))then bif decide (0<=bE (7*j))then bif decide (bE (↑(ig a (bE (d+j)).toNat):az)>127)then g a d e f h (bE (i+bE (bI (bE (↑(ig a (bE (d+j)).toNat):az)) 128*gA 2 (if(bE (7*j)).toNat<=64 then(bE (7*j)).toNat else 64)))) (bE (j+1))else bif decide (j>0)then bif decide (bE (↑(ig a (bE (d+j)).toNat):az)=0)then k0 a d 0 0 ak (bE (i+bE (bI (bE (↑(ig a (bE (d+j)).toNat):az)) 128*gA 2 (if(bE (7*j)).toNat<=64 then(bE (7*j)).toNat else 64)))) j else bif decide (bE (i+bE (bI (bE (↑(ig a (bE (d+j)).toNat):az)) 128*gA 2 (if(bE (7*j)).toNat<=64 then(bE (7*j)).toNat else 64)))>1000000000)then k0 a d 0 0 ak (bE (i+bE (bI (bE (↑(ig a (bE (d+j)).toNat):az)) 128*gA 2 (if(bE (7*j)).toNat<=64 then(bE (7*j)).toNat else 64)))) j else k0 a d (bE (i+bE (bI (bE (↑(ig a (bE (d+j)).toNat):az)) 128*gA 2 (if(bE (7*j)).toNat<=64 then(bE (7*j)).toNat else 64)))) (bE (bE (d+j)+1)) ai (bE (i+bE (bI (bE (↑(ig a (bE (d+j)).toNat):az)) 128*gA 2 (if(bE (7*j)).toNat<=64 then(bE (7*j)).toNat else 64)))) j else bif decide (bE (i+bE (bI (bE (↑(ig a (bE (d+j)).toNat):az)) 128*gA 2 (if(bE (7*j)).toNat<=64 then(bE (7*j)).toNat else 64)))>1000000000)then k0 a d 0 0 ak (bE (i+bE (bI (bE (↑(ig a (bE (d+j)).toNat):az)) 128*gA 2 (if(bE (7*j)).toNat<=64 then(bE (7*j)).toNat else 64)))) j else k0 a d (bE (i+bE (bI (bE (↑(ig a (bE (d+j)).toNat):az)) 128*gA 2 (if(bE (7*j)).toNat<=64 then(bE (7*j)).toNat else 64)))) (bE (bE (d+j)+1)) ai (bE (i+bE (bI (bE (↑(ig a (bE (d+j)).toNat):az)) 128*gA 2 (if(bE (7*j)).toNat<=64 then(bE (7*j)).toNat else 64)))) j else aj else aj else k1 a d e f h i j else k1 a d e f h i j
def l5(N:aE)(k0 k1:vR R):aE->vR R
 |0=>λ_ _ _ _ _ _ _=>aj
 |n+1=>r5 N (l5 N k0 k1 n) k0 k1
def b(N:aE)(kr:MC R)(a:aq)(d:az):aA R:=bif !pb.v d 0 (a.size:az)then kr 0 0 ak else l5 N (λ_ _ e f h _ _=>kr e f h) (λ_ _ _ _ _ _ _=>kr 0 0 ak) N a d 0 0 ak 0 0
def v(dM:aq)(gJ:az):az×az×aW:=if 0<=gJ/\gJ<=dM.size then Lib.rv dM gJ.toNat 5 0 0 else(0,0,ak)
end fP

namespace Bi
def r6(N:aE)(g k0:vP R)(a:az)(d:aq)(e f:az):aA R:=bif decide (f<8)then bif decide (bI a 2=1)then g (bC dQ (↑(dG (kP (bY 32 (bC dQ (cG a 2))) (bY 32 3558460437))):az)) d e (bE (f+1))else g (bC dQ (cG a 2)) d e (bE (f+1))else k0 a d e f
def l6(N:aE)(k0:vP R):aE->vP R
 |0=>λ_ _ _ _=>aj
 |n+1=>r6 N (l6 N k0 n) k0
def r2(N:aE)(g k0:zg R)(a:az)(d:aq)(e:az):aA R:=bif decide (e<(d.size:az))then bif decide (0<=e)&&decide (e<(d.size:az))then l6 N (λf h i _=>g f h (bE (i+1))) N (bC dQ (↑(dG (kP (bY 32 a) (bY 32 (bC dQ (↑(ig d e.toNat):az))))):az)) d e 0 else aj else k0 a d e
def l2(N:aE)(k0:zg R):aE->zg R
 |0=>λ_ _ _=>aj
 |n+1=>r2 N (l2 N k0 n) k0
def b(N:aE)(kr:az->aA R)(a:az)(d:aq):aA R:=l2 N (λe _ _=>kr e) N a d 0
def vo:=b Lib.cR λr0=>ah r0
def c:=λa d=>(vo a d).isSome
def v:=λa d=>(vo a d).getD (0)
theorem out{x}:∀a d,vo a d=ah x->c a d=ai/\v a d=x:=λ_ _=>Lib.dj
end Bi

namespace uw
def b(kr:az->aA R)(a:aq):aA R:=bif Bi.c 4294967295 a then kr (Bi.v 4294967295 a)else aj
def vo:=b λr0=>ah r0
def c:=λa=>(vo a).isSome
def v:=λa=>(vo a).getD (0)
theorem out{x}:∀a,vo a=ah x->c a=ai/\v a=x:=λ_=>Lib.dj
end uw

namespace Dj
def b(kr:aq->aA R)(a:aq):aA R:=bif uw.c a then kr (bytesOf (aw (aw (aw (aw (aN [Ck.i bc] 4) 0 [CV.i bc (bC bc (j6 (uw.v a) (gA 2 (if aX 24<=32 then aX 24 else 32))))]) 1 [CV.i bc (bC bc (j6 (uw.v a) (gA 2 (if aX 16<=32 then aX 16 else 32))))]) 2 [CV.i bc (bC bc (j6 (uw.v a) (gA 2 (if aX 8<=32 then aX 8 else 32))))]) 3 [CV.i bc (bC bc (uw.v a))]))else aj
def vo:=b λr0=>ah r0
def c:=λa=>(vo a).isSome
def v:=λa=>(vo a).getD (⟨#[]⟩)
theorem out{x}:∀a,vo a=ah x->c a=ai/\v a=x:=λ_=>Lib.dj
end Dj

namespace U203
def r3(N:aE)(g k0:nJ R)(a:aq)(d:az)(e:aU):aA R:=bif decide ((a.size:az)<=20000)then bif !(fP.v a d).2.2 then k0 a d e else bif !pb.v (fP.v a d).1 1 9000 then k0 a d e else bif decide (bE ((fP.v a d).1+4)>bE ((a.size:az)-(fP.v a d).2.1))then k0 a d e else bif iy (bE ((fP.v a d).2.1+4)) (bE (bE ((fP.v a d).2.1+4)+(fP.v a d).1)) (a.size:az)then bif Dj.c (bL a (bE ((fP.v a d).2.1+4)).toNat (bE (bE ((fP.v a d).2.1+4)+(fP.v a d).1)).toNat)then bif iy (fP.v a d).2.1 (bE ((fP.v a d).2.1+4)) (a.size:az)then bif !List.beq (Dj.v (bL a (bE ((fP.v a d).2.1+4)).toNat (bE (bE ((fP.v a d).2.1+4)+(fP.v a d).1)).toNat)).toList (bL a (fP.v a d).2.1.toNat (bE ((fP.v a d).2.1+4)).toNat).toList then k0 a d e else bif cy (e.length+(aw (aN [.s] 1) 0 [.s (bL a (bE ((fP.v a d).2.1+4)).toNat (bE (bE ((fP.v a d).2.1+4)+(fP.v a d).1)).toNat)]).length) 16 then g a (bE (bE ((fP.v a d).2.1+4)+(fP.v a d).1)) (e++aw (aN [.s] 1) 0 [.s (bL a (bE ((fP.v a d).2.1+4)).toNat (bE (bE ((fP.v a d).2.1+4)+(fP.v a d).1)).toNat)])else aj else aj else aj else aj else k0 a d e
def l3(N:aE)(k0:nJ R):aE->nJ R
 |0=>λ_ _ _=>aj
 |n+1=>r3 N (l3 N k0 n) k0
def b(N:aE)(kr:qX R)(a:aq):aA R:=l3 N (λ_ d e=>kr e d) N a 0 (aN [.s] 0)
def vo:=b Lib.cR λr0 r1=>ah (r0,r1)
def c:=λa=>(vo a).isSome
def v:=λa=>(vo a).getD ([],0)
theorem out{x}:∀a,vo a=ah x->c a=ai/\v a=x:=λ_=>Lib.dj
end U203

namespace xZ
def r2(N:aE)(g k0 k1:CQ R)(a:aW)(d:aU)(e f:az)(h:aU):aA R:=bif decide (f<e)then bif decide (0<=f)&&decide (f<(d.length:az))then bif !pb.v ((bM (ar d f.toNat 0)).size:az) 1 8 then k0 ak d e f h else bif decide (((bM (ar d f.toNat 1)).size:az)>20000)then k0 ak d e f h else bif !pb.v (bU (ar d f.toNat (1+1))) 0 ((bM (ar d f.toNat 1)).size:az)then k0 ak d e f h else bif decide (f>0)then bif decide (0<=bE (f-1))&&decide (bE (f-1)<(h.length:az))then bif !Op.bytesLess (bM (ar h (bE (f-1)).toNat 0)).toList (bM (ar d f.toNat 0)).toList then k0 ak d e f h else g a d e (bE (f+1)) h else aj else g a d e (bE (f+1)) h else aj else k1 a d e f h
def l2(N:aE)(k0 k1:CQ R):aE->CQ R
 |0=>λ_ _ _ _ _=>aj
 |n+1=>r2 N (l2 N k0 k1 n) k0 k1
def b(N:aE)(kr:aW->aA R)(a:aU):aA R:=l2 N (λd _ _ _ _=>kr d) (λ_ _ _ _ d=>kr (decide ((d.length:az)<=30))) N ak a (a.length:az) 0 a
def vo:=b Lib.cR λr0=>ah r0
def c:=λa=>(vo a).isSome
def v:=λa=>(vo a).getD ak
theorem out{x}:∀a,vo a=ah x->c a=ai/\v a=x:=λ_=>Lib.dj
end xZ

namespace NF
def b(kr:aW->aA R)(a d:aq)(e:az)(FP:aq):aA R:=kr (c6 (aJ a) (aJ FP))
def v(a0 a1:aq)(a2:az)(FP:aq):aW:=(c6 (aJ a0) (aJ FP))
end NF

namespace uC
def r2(N:aE)(g k0 k1:ie R)(a:aU)(d:aq)(e f h:az):aA R:=bif decide (h<f)then bif decide (0<=h)&&decide (h<(a.length:az))then bif NF.v (bM (ar a h.toNat 0)) (bM (ar a h.toNat 1)) (bU (ar a h.toNat (1+1))) d then k0 a d h f h else g a d e f (bE (h+1))else aj else k1 a d e f h
def l2(N:aE)(k0 k1:ie R):aE->ie R
 |0=>λ_ _ _ _ _=>aj
 |n+1=>r2 N (l2 N k0 k1 n) k0 k1
def b(N:aE)(kr:az->aA R)(a:aU)(FP:aq):aA R:=l2 N (λ_ _ d _ _=>kr d) (λ_ _ _ _ _=>kr (-1)) N a FP 0 (a.length:az) 0
def vo:=b Lib.cR λr0=>ah r0
def c:=λa d=>(vo a d).isSome
def v:=λa d=>(vo a d).getD (0)
theorem out{x}:∀a d,vo a d=ah x->c a d=ai/\v a d=x:=λ_ _=>Lib.dj
end uC

namespace zt
def b(kr:az->aA R)(a:aU)(d:aq):aA R:=bif uC.c a d then kr (uC.v a d)else aj
def vo:=b λr0=>ah r0
def c:=λa d=>(vo a d).isSome
def v:=λa d=>(vo a d).getD (0)
theorem out{x}:∀a d,vo a d=ah x->c a d=ai/\v a d=x:=λ_ _=>Lib.dj
end zt

namespace zr
def b(kr:KL R)(a:aU)(d:aq):aA R:=bif zt.c a d then bif decide (zt.v a d<0)then kr ⟨#[]⟩ ak else bif decide (0<=zt.v a d)&&decide (zt.v a d<(a.length:az))then kr (bM (ar a (zt.v a d).toNat 1)) ai else aj else aj
def vo:=b λr0 r1=>ah (r0,r1)
def c:=λa d=>(vo a d).isSome
def v:=λa d=>(vo a d).getD (⟨#[]⟩,ak)
theorem out{x}:∀a d,vo a d=ah x->c a d=ai/\v a d=x:=λ_ _=>Lib.dj
end zr

namespace uA
def b(kr:IA R)(a:aq)(d:az):aA R:=bif !(fP.v a d).2.2 then kr ⟨#[]⟩ 0 ak else bif decide ((fP.v a d).1>20000)then kr ⟨#[]⟩ 0 ak else bif decide ((fP.v a d).1>bE ((a.size:az)-(fP.v a d).2.1))then kr ⟨#[]⟩ 0 ak else bif iy (fP.v a d).2.1 (bE ((fP.v a d).2.1+(fP.v a d).1)) (a.size:az)then kr (bL a (fP.v a d).2.1.toNat (bE ((fP.v a d).2.1+(fP.v a d).1)).toNat) (bE ((fP.v a d).2.1+(fP.v a d).1)) ai else aj
def v(dM:aq)(gJ:az):aq×az×aW:=Lib.g8 dM gJ
end uA

namespace wz
def b(kr:yA R)(a:aq):aA R:=bif !(uA.v a 0).2.2 then kr ⟨#[]⟩ 0 0 ⟨#[]⟩ ak else bif !(fP.v a (uA.v a 0).2.1).2.2 then kr ⟨#[]⟩ 0 0 ⟨#[]⟩ ak else bif !(fP.v a (fP.v a (uA.v a 0).2.1).2.1).2.2 then kr ⟨#[]⟩ 0 0 ⟨#[]⟩ ak else bif iy (fP.v a (fP.v a (uA.v a 0).2.1).2.1).2.1 (a.size:az) (a.size:az)then bif !zp.v (uA.v a 0).1 (fP.v a (uA.v a 0).2.1).1 (fP.v a (fP.v a (uA.v a 0).2.1).2.1).1 (bL a (fP.v a (fP.v a (uA.v a 0).2.1).2.1).2.1.toNat (a.size:az).toNat)then kr ⟨#[]⟩ 0 0 ⟨#[]⟩ ak else kr (uA.v a 0).1 (fP.v a (uA.v a 0).2.1).1 (fP.v a (fP.v a (uA.v a 0).2.1).2.1).1 (bL a (fP.v a (fP.v a (uA.v a 0).2.1).2.1).2.1.toNat (a.size:az).toNat) ai else aj
def v(t0:aq):aq×az×az×aq×aW:=jg.v t0
end wz

namespace Gz
def b(kr:aU->aA R)(a:aU)(d:aq):aA R:=bif uv.c a then bif o9.c (uv.v a) d then kr (o9.v (uv.v a) d)else aj else aj
def vo:=b λr0=>ah r0
def c:=λa d=>(vo a d).isSome
def v:=λa d=>(vo a d).getD ([])
theorem out{x}:∀a d,vo a d=ah x->c a d=ai/\v a d=x:=λ_ _=>Lib.dj
end Gz


namespace Bf
def r3(N:aE)(g k0:um R)(a:az)(d:aq)(e f:az)(h:aq)(i:aU):aA R:=bif decide (a<(i.length:az))then bif decide (0<=a)&&decide (a<(i.length:az))then bif bZ (bM (ar i a.toNat 0)).toList (aJ d)then g (bE (a+1)) d e f h i else k0 a d e f h i else aj else k0 a d e f h i
def l3(N:aE)(k0:um R):aE->um R
 |0=>λ_ _ _ _ _ _=>aj
 |n+1=>r3 N (l3 N k0 n) k0
def b(N:aE)(kr:aU->aA R)(a:aU)(d:aq)(e f:az)(h:aq):aA R:=bif Gz.c a d then l3 N (λi j l m o p=>bif decide (0<=i)&&decide (i<=(p.length:az))&&cy (p.length+(aw (aN [Ck.s,Ck.i ao,Ck.i ao,Ck.s] 1) 0 [.s j, .i .i64 l, .i .i64 m, .s o]).length) 48 then kr (Pu.Lu p i.toNat (aw (aN [Ck.s,Ck.i ao,Ck.i ao,Ck.s] 1) 0 [.s j, .i .i64 l, .i .i64 m, .s o]))else aj) N 0 d e f h (Gz.v a d)else aj
def vo:=b Lib.cR λr0=>ah r0
def c:=λa d e f h=>(vo a d e f h).isSome
def v:=λa d e f h=>(vo a d e f h).getD ([])
theorem out{x}:∀a d e f h,vo a d e f h=ah x->c a d e f h=ai/\v a d e f h=x:=λ_ _ _ _ _=>Lib.dj
end Bf

namespace U118
def r7(N:aE)(g k0:GM R)(a d:az)(e f:aU):aA R:=bif decide (d<a)then bif decide (0<=d)&&decide (d<(f.length:az))then bif(wz.v (bM (ar f d.toNat 0))).2.2.2.2 then bif Bf.c e (wz.v (bM (ar f d.toNat 0))).1 (wz.v (bM (ar f d.toNat 0))).2.1 (wz.v (bM (ar f d.toNat 0))).2.2.1 (wz.v (bM (ar f d.toNat 0))).2.2.2.1 then g a (bE (d+1)) (Bf.v e (wz.v (bM (ar f d.toNat 0))).1 (wz.v (bM (ar f d.toNat 0))).2.1 (wz.v (bM (ar f d.toNat 0))).2.2.1 (wz.v (bM (ar f d.toNat 0))).2.2.2.1) f else aj else g a (bE (d+1)) e f else aj else k0 a d e f
def l7(N:aE)(k0:GM R):aE->GM R
 |0=>λ_ _ _ _=>aj
 |n+1=>r7 N (l7 N k0 n) k0
def b(N:aE)(kr:aU->aA R)(a:aU):aA R:=bif xZ.c a then bif !xZ.v a then kr (aN [Ck.s,Ck.i ao,Ck.i ao,Ck.s] 0)else bif zr.c a {data:= #[au 107,au 101,au 112,au 116]}then bif U203.c (zr.v a {data:= #[au 107,au 101,au 112,au 116]}).1 then l7 N (λ_ _ d _=>kr d) N ((U203.v (zr.v a {data:= #[au 107,au 101,au 112,au 116]}).1).1.length:az) 0 (aN [Ck.s,Ck.i ao,Ck.i ao,Ck.s] 0) (U203.v (zr.v a {data:= #[au 107,au 101,au 112,au 116]}).1).1 else aj else aj else aj
def vo:=b Lib.cR λr0=>ah r0
def c:=λa=>(vo a).isSome
def v:=λa=>(vo a).getD ([])
theorem out{x}:∀a,vo a=ah x->c a=ai/\v a=x:=λ_=>Lib.dj
end U118

namespace Rr
def b(kr:aW->aA R)(a:aq)(d e:az)(f:aq)(h:az):aA R:=bif zp.v a d e f then bif zo.v h then kr (pb.v h d (bE (bE (d+e)-1)))else kr ak else kr ak
def v(a0:aq)(a1 a2:az)(a3:aq)(a4:az):aW:=bif zp.v a0 a1 a2 a3 then bif zo.v a4 then pb.v a4 a1 (bE (bE (a1+a2)-1))else ak else ak
end Rr

namespace Y1
def b(kr:az->aA R)(a:az)(d e f h:aU)(i:az)(j l:aU)(m o:az):aA R:=bif rk.c l o then kr (rk.v l o)else aj
def vo:=b λr0=>ah r0
def c:=λa d e f h i j l m o=>(vo a d e f h i j l m o).isSome
def v:=λa d e f h i j l m o=>(vo a d e f h i j l m o).getD (0)
end Y1

namespace ru
def b(kr:az->aA R)(a:az)(d:aq):aA R:=bif decide (d.size+(bytesOf (aw (aN [Ck.i bc] 1) 0 [CV.i bc (bC bc (bE (↑(dG (iD (bY 64 a) (bY 64 255))):az)))])).size<=4611686018427387904)then bif uw.c (d++bytesOf (aw (aN [Ck.i bc] 1) 0 [CV.i bc (bC bc (bE (↑(dG (iD (bY 64 a) (bY 64 255))):az)))]))then kr (bI (bE (uw.v (d++bytesOf (aw (aN [Ck.i bc] 1) 0 [CV.i bc (bC bc (bE (↑(dG (iD (bY 64 a) (bY 64 255))):az)))])))) 16)else aj else aj
def vo:=b λr0=>ah r0
def c:=λa d=>(vo a d).isSome
def v:=λa d=>(vo a d).getD (0)
theorem out{x}:∀a d,vo a d=ah x->c a d=ai/\v a d=x:=λ_ _=>Lib.dj
end ru

namespace oL
def r18(N:aE)(g k0:tp R)(a:aE)(d e f h i j:az)(l:aU):aA R:=bif decide (h<f)then bif decide (0<=h)&&decide (h<((g9 (ar l a 0)).length:az))then bif decide (0<=h)&&decide (h<((g9 (ar l a 0)).length:az))then g a d e f (bE (h+1)) i j (eA l a 0 [CV.l 3 (eA (g9 (ar l a 0)) h.toNat 0 [.i .i64 (bE (cG (bU (ar (g9 (ar l a 0)) h.toNat 0)) 2))])])else aj else aj else k0 a d e f h i j l
def l18(N:aE)(k0:tp R):aE->tp R
 |0=>λ_ _ _ _ _ _ _ _=>aj
 |n+1=>r18 N (l18 N k0 n) k0
def r15(N:aE)(g k0:m_ R)(a d e f:az)(h:aU):aA R:=bif decide (d<a)then bif decide (0<=d)&&decide (d<(h.length:az))then l18 N (λ_ i j _ _ l m o=>g i (bE (j+1)) l m o) N d.toNat a d ((g9 (ar h d.toNat 0)).length:az) 0 e f h else aj else k0 a d e f h
def l15(N:aE)(k0:m_ R):aE->m_ R
 |0=>λ_ _ _ _ _=>aj
 |n+1=>r15 N (l15 N k0 n) k0
def r5(N:aE)(g k0:zh R)(a:aq)(d e f h:az)(i:aU):aA R:=bif decide (e<d)then bif decide (0<=e)&&decide (e<(i.length:az))then bif ru.c e a then bif decide (0<=ru.v e a)&&decide (ru.v e a<((g9 (ar i e.toNat 0)).length:az))then bif decide (0<=ru.v e a)&&decide (ru.v e a<((g9 (ar i e.toNat 0)).length:az))then g a d (bE (e+1)) f h (eA i e.toNat 0 [CV.l 3 (eA (g9 (ar i e.toNat 0)) (ru.v e a).toNat 0 [.i .i64 (mm ak (bE (bU (ar (g9 (ar i e.toNat 0)) (ru.v e a).toNat 0)+1)) 15)])])else aj else aj else aj else aj else k0 a d e f h i
def l5(N:aE)(k0:zh R):aE->zh R
 |0=>λ_ _ _ _ _ _=>aj
 |n+1=>r5 N (l5 N k0 n) k0
def b(N:aE)(kr:qX R)(a:aU)(d:az)(e:aq):aA R:=bif iK.c a d then bif oI.c a d then bif !oI.v a d then kr (iK.v a d).1 (iK.v a d).2 else l5 N (λ_ _ _ f h i=>bif decide (bE (h+1)<64)then kr i (bE (h+1))else l15 N (λ_ _ _ j l=>kr l j) N (i.length:az) 0 f 0 i) N e ((iK.v a d).1.length:az) 0 0 (iK.v a d).2 (iK.v a d).1 else aj else aj
def vo:=b Lib.cR λr0 r1=>ah (r0,r1)
def c:=λa d e=>(vo a d e).isSome
def v:=λa d e=>(vo a d e).getD ([],0)
theorem out{x}:∀a d e,vo a d e=ah x->c a d e=ai/\v a d e=x:=λ_ _ _=>Lib.dj
end oL

namespace Sg
def b(kr:aW->aA R)(a gW:aq):aA R:=kr (c6 (aJ a) (aJ gW))
def v(a0 gW:aq):aW:=(c6 (aJ a0) (aJ gW))
end Sg

namespace Bh
def r2(N:aE)(g k0 k1:ie R)(a:aU)(d:aq)(e f h:az):aA R:=bif decide (h<f)then bif decide (0<=h)&&decide (h<(a.length:az))then bif Sg.v (bM (ar a h.toNat 0)) d then k0 a d h f h else g a d e f (bE (h+1))else aj else k1 a d e f h
def l2(N:aE)(k0 k1:ie R):aE->ie R
 |0=>λ_ _ _ _ _=>aj
 |n+1=>r2 N (l2 N k0 k1 n) k0 k1
def b(N:aE)(kr:az->aA R)(a:aU)(gW:aq):aA R:=l2 N (λ_ _ d _ _=>kr d) (λ_ _ _ _ _=>kr (-1)) N a gW 0 (a.length:az) 0
def vo:=b Lib.cR λr0=>ah r0
def c:=λa d=>(vo a d).isSome
def v:=λa d=>(vo a d).getD (0)
end Bh

namespace EI
def r5(N:aE)(g k0:mR R)(a:aq)(d e:az)(f:aU):aA R:=bif decide (e<(f.length:az))then bif decide (0<=e)&&decide (e<(f.length:az))then bif !Sg.v (bM (ar f e.toNat 0)) a then bif decide (0<=d)&&decide (d<(f.length:az))then g a (bE (d+1)) (bE (e+1)) (eA f d.toNat 0 [.s (bM (ar f e.toNat 0))])else aj else g a d (bE (e+1)) f else aj else k0 a d e f
def l5(N:aE)(k0:mR R):aE->mR R
 |0=>λ_ _ _ _=>aj
 |n+1=>r5 N (l5 N k0 n) k0
def b(N:aE)(kr:aU->aA R)(a:aU)(gW:aq):aA R:=bif Bh.c a gW then bif decide (Bh.v a gW=gD 1)then kr a else l5 N (λ_ d _ e=>bif iy d (e.length:az) (e.length:az)then bif iy 0 d ((lX d.toNat e++aN [.s] ((e.length:az).toNat-d.toNat)++vF (e.length:az).toNat e).length:az)then kr (dW (lX d.toNat e++aN [.s] ((e.length:az).toNat-d.toNat)++vF (e.length:az).toNat e) (aX 0) d.toNat)else aj else aj) N gW (Bh.v a gW) (bE (Bh.v a gW+1)) a else aj
def vo:=b Lib.cR λr0=>ah r0
def c:=λa d=>(vo a d).isSome
def v:=λa d=>(vo a d).getD ([])
end EI

namespace kA
def b(kr:aU->aA R)(a:aU)(d:aq):aA R:=bif sS.c a then bif EI.c (sS.v a) d then kr (EI.v (sS.v a) d)else aj else aj
def vo:=b λr0=>ah r0
def c:=λa d=>(vo a d).isSome
def v:=λa d=>(vo a d).getD ([])
end kA

namespace Bd
def r5(N:aE)(g k0:CU R)(a:aq)(d:az)(e:aU)(f h:az):aA R:=bif decide (h<f)then bif decide (0<=h)&&decide (h<(e.length:az))then bif ru.c h a then bif decide (0<=ru.v h a)&&decide (ru.v h a<((g9 (ar e h.toNat 0)).length:az))then g a (mm ak d (bU (ar (g9 (ar e h.toNat 0)) (ru.v h a).toNat 0))) e f (bE (h+1))else aj else aj else aj else k0 a d e f h
def l5(N:aE)(k0:CU R):aE->CU R
 |0=>λ_ _ _ _ _=>aj
 |n+1=>r5 N (l5 N k0 n) k0
def b(N:aE)(kr:az->aA R)(a:aU)(d:az)(e:aq):aA R:=bif oI.c a d then bif !oI.v a d then kr 0 else l5 N (λ_ f _ _ _=>kr f) N e 15 a (a.length:az) 0 else aj
def vo:=b Lib.cR λr0=>ah r0
def c:=λa d e=>(vo a d e).isSome
def v:=λa d e=>(vo a d e).getD (0)
end Bd

namespace Y2
def b(kr:Iz R)(a d e:aU)(f:az)(h:aq):aA R:=bif iQ.c a d e f then bif o8.c a d e f then bif !o8.v a d e f then kr (iQ.v a d e f).1 (iQ.v a d e f).2.1 (iQ.v a d e f).2.2.1 (iQ.v a d e f).2.2.2 ⟨#[]⟩else bif !KS.v h then kr (iQ.v a d e f).1 (iQ.v a d e f).2.1 (iQ.v a d e f).2.2.1 (iQ.v a d e f).2.2.2 ⟨#[]⟩else bif oL.c e f h then bif rq.c d h then bif rq.v d h then bif kA.c d h then bif cy ((kA.v d h).length+(aw (aN [.s] 1) 0 [.s h]).length) 16 then kr (iQ.v a d e f).1 (kA.v d h++aw (aN [.s] 1) 0 [.s h]) (oL.v e f h).1 (oL.v e f h).2 ⟨#[]⟩else aj else aj else bif kA.c a h then bif cy ((kA.v a h).length+(aw (aN [.s] 1) 0 [.s h]).length) 16 then bif decide (((kA.v a h++aw (aN [.s] 1) 0 [.s h]).length:az)<=2)then kr (kA.v a h++aw (aN [.s] 1) 0 [.s h]) (iQ.v a d e f).2.1 (oL.v e f h).1 (oL.v e f h).2 ⟨#[]⟩else bif decide (0<((kA.v a h++aw (aN [.s] 1) 0 [.s h]).length:az))then bif iy 1 ((kA.v a h++aw (aN [.s] 1) 0 [.s h]).length:az) ((kA.v a h++aw (aN [.s] 1) 0 [.s h]).length:az)then bif decide (((iQ.v a d e f).2.1.length:az)<4)then bif cy ((iQ.v a d e f).2.1.length+(aw (aN [.s] 1) 0 [.s (bM (ar (kA.v a h++aw (aN [.s] 1) 0 [.s h]) (aX 0) 0))]).length) 16 then kr (dW (kA.v a h++aw (aN [.s] 1) 0 [.s h]) (aX 1) ((kA.v a h++aw (aN [.s] 1) 0 [.s h]).length:az).toNat) ((iQ.v a d e f).2.1++aw (aN [.s] 1) 0 [.s (bM (ar (kA.v a h++aw (aN [.s] 1) 0 [.s h]) (aX 0) 0))]) (oL.v e f h).1 (oL.v e f h).2 ⟨#[]⟩else aj else bif decide (0<((iQ.v a d e f).2.1.length:az))then bif Bd.c (oL.v e f h).1 (oL.v e f h).2 (bM (ar (kA.v a h++aw (aN [.s] 1) 0 [.s h]) (aX 0) 0))then bif Bd.c (oL.v e f h).1 (oL.v e f h).2 (bM (ar (iQ.v a d e f).2.1 (aX 0) 0))then bif decide (Bd.v (oL.v e f h).1 (oL.v e f h).2 (bM (ar (kA.v a h++aw (aN [.s] 1) 0 [.s h]) (aX 0) 0))>Bd.v (oL.v e f h).1 (oL.v e f h).2 (bM (ar (iQ.v a d e f).2.1 (aX 0) 0)))then bif iy 1 ((iQ.v a d e f).2.1.length:az) ((iQ.v a d e f).2.1.length:az)then bif cy ((dW (iQ.v a d e f).2.1 (aX 1) ((iQ.v a d e f).2.1.length:az).toNat).length+(aw (aN [.s] 1) 0 [.s (bM (ar (kA.v a h++aw (aN [.s] 1) 0 [.s h]) (aX 0) 0))]).length) 16 then kr (dW (kA.v a h++aw (aN [.s] 1) 0 [.s h]) (aX 1) ((kA.v a h++aw (aN [.s] 1) 0 [.s h]).length:az).toNat) (dW (iQ.v a d e f).2.1 (aX 1) ((iQ.v a d e f).2.1.length:az).toNat++aw (aN [.s] 1) 0 [.s (bM (ar (kA.v a h++aw (aN [.s] 1) 0 [.s h]) (aX 0) 0))]) (oL.v e f h).1 (oL.v e f h).2 (bM (ar (iQ.v a d e f).2.1 (aX 0) 0))else aj else aj else kr (dW (kA.v a h++aw (aN [.s] 1) 0 [.s h]) (aX 1) ((kA.v a h++aw (aN [.s] 1) 0 [.s h]).length:az).toNat) (iQ.v a d e f).2.1 (oL.v e f h).1 (oL.v e f h).2 (bM (ar (kA.v a h++aw (aN [.s] 1) 0 [.s h]) (aX 0) 0))else aj else aj else aj else aj else aj else aj else aj else aj else aj else aj else aj
def vo:=b λr0 r1 r2 r3 r4=>ah (r0,r1,r2,r3,r4)
def c:=λa d e f h=>(vo a d e f h).isSome
def v:=λa d e f h=>(vo a d e f h).getD ([],[],[],0,⟨#[]⟩)
end Y2


namespace pG
def r2(N:aE)(g k0:iL R)(a d e f h:az)(i:aq)(j l m:az)(o:aq)(p:az)(q r s t u w:aU):aA R:=bif decide (a<(w.length:az))then bif decide (0<=a)&&decide (a<(w.length:az))then bif decide (bU (ar w a.toNat 0)<h)then g (bE (a+1)) d e f h i j l m o p q r s t u w else k0 a d e f h i j l m o p q r s t u w else aj else k0 a d e f h i j l m o p q r s t u w
def l2(N:aE)(k0:iL R):aE->iL R
 |0=>λ_ _ _ _ _ _ _ _ _ _ _ _ _ _ _ _ _=>aj
 |n+1=>r2 N (l2 N k0 n) k0
def b(N:aE)(kr:dZ R)(a:az)(d e f h:aU)(i:az)(j l:aU)(m o:az)(p:aq)(q r s:az)(t:aq)(u:az):aA R:=l2 N (λw y z α xa xb xc xd xe xf xg xh xi xj xk xl xm=>bif decide (0<=w)&&decide (w<=(xm.length:az))&&cy (xm.length+(aw (aN [Ck.i ao,Ck.s,Ck.i ao,Ck.i ao,Ck.i ao,Ck.s,Ck.i ao] 1) 0 [.i .i64 xa, .s xb, .i .i64 xc, .i .i64 xd, .i .i64 xe, .s xf, .i .i64 xg]).length) 72 then kr y xh xi xj xk z xl (Pu.Lu xm w.toNat (aw (aN [Ck.i ao,Ck.s,Ck.i ao,Ck.i ao,Ck.i ao,Ck.s,Ck.i ao] 1) 0 [.i .i64 xa, .s xb, .i .i64 xc, .i .i64 xd, .i .i64 xe, .s xf, .i .i64 xg])) α else aj) N 0 a i m o p q r s t u d e f h j l
def vo:=b Lib.cR λr0 r1 r2 r3 r4 r5 r6 r7 r8=>ah (r0,r1,r2,r3,r4,r5,r6,r7,r8)
def c:=λa d e f h i j l m o p q r s t u=>(vo a d e f h i j l m o p q r s t u).isSome
def v:=λa d e f h i j l m o p q r s t u=>(vo a d e f h i j l m o p q r s t u).getD (0,[],[],[],[],0,[],[],0)
end pG

namespace KT
def b(kr:qY R)(a d e:aU)(f:az)(h:aq):aA R:=bif iQ.c a d e f then bif kA.c a h then bif kA.c d h then kr (kA.v a h) (kA.v d h) (iQ.v a d e f).2.2.1 (iQ.v a d e f).2.2.2 else aj else aj else aj
def vo:=b λr0 r1 r2 r3=>ah (r0,r1,r2,r3)
def c:=λa d e f h=>(vo a d e f h).isSome
def v:=λa d e f h=>(vo a d e f h).getD ([],[],[],0)
end KT

namespace U11
def b(kr:na R)(a:az)(d e f h:aU)(i:az)(j l:aU)(m o:az)(p:aq):aA R:=bif p9.c a d e f h i j l m then Lib.lt (p9.v a d e f h i j l m) λq=>bif I9.c a d e f h i j l m then Lib.lt (I9.v a d e f h i j l m) λr=>bif !r then kr q.1 q.2.1 q.2.2.1 q.2.2.2.1 q.2.2.2.2.1 q.2.2.2.2.2.1 q.2.2.2.2.2.2.1 q.2.2.2.2.2.2.2.1 q.2.2.2.2.2.2.2.2 1 else bif !pb.v o 1 9 then kr q.1 q.2.1 q.2.2.1 q.2.2.2.1 q.2.2.2.2.1 q.2.2.2.2.2.1 q.2.2.2.2.2.2.1 q.2.2.2.2.2.2.2.1 q.2.2.2.2.2.2.2.2 1 else bif !KS.v p then kr q.1 q.2.1 q.2.2.1 q.2.2.2.1 q.2.2.2.2.1 q.2.2.2.2.2.1 q.2.2.2.2.2.2.1 q.2.2.2.2.2.2.2.1 q.2.2.2.2.2.2.2.2 1 else bif Y1.c a d e f h i j l m o then Lib.lt (Y1.v a d e f h i j l m o) λs=>bif decide (s≥0)then kr q.1 q.2.1 q.2.2.1 q.2.2.2.1 q.2.2.2.2.1 q.2.2.2.2.2.1 q.2.2.2.2.2.2.1 q.2.2.2.2.2.2.2.1 q.2.2.2.2.2.2.2.2 1 else bif decide ((l.length:az)=6)then kr q.1 q.2.1 q.2.2.1 q.2.2.2.1 q.2.2.2.2.1 q.2.2.2.2.2.1 q.2.2.2.2.2.2.1 q.2.2.2.2.2.2.2.1 q.2.2.2.2.2.2.2.2 1 else bif EL.c d p then Lib.lt (EL.v d p) λt=>bif decide (t≥0)then bif decide (0<=t)&&decide (t<(d.length:az))then bif Rr.v (bM (ar d t.toNat 0)) (bU (ar d t.toNat 1)) (bU (ar d t.toNat (1+1))) (bM (ar d t.toNat (1+1+1))) a then bif decide (0<=t)&&decide (t<(d.length:az))then bif Y2.c e f h i p then Lib.lt (Y2.v e f h i p) λu=>bif pG.c q.1 q.2.1 u.1 u.2.1 u.2.2.1 u.2.2.2.1 q.2.2.2.2.2.2.1 q.2.2.2.2.2.2.2.1 q.2.2.2.2.2.2.2.2 o p 0 (bU (ar d t.toNat 1)) 2 (bM (ar d t.toNat (1+1+1))) (bE (a-bU (ar d t.toNat 1)))then Lib.lt (pG.v q.1 q.2.1 u.1 u.2.1 u.2.2.1 u.2.2.2.1 q.2.2.2.2.2.2.1 q.2.2.2.2.2.2.2.1 q.2.2.2.2.2.2.2.2 o p 0 (bU (ar d t.toNat 1)) 2 (bM (ar d t.toNat (1+1+1))) (bE (a-bU (ar d t.toNat 1)))) λw=>kr w.1 w.2.1 w.2.2.1 w.2.2.2.1 w.2.2.2.2.1 w.2.2.2.2.2.1 w.2.2.2.2.2.2.1 w.2.2.2.2.2.2.2.1 (mm ak (bE (m+1)) 1000000000) 0 else aj else aj else aj else bif Ja.c a d e f h i j l m p then Lib.lt (Ja.v a d e f h i j l m p) λu=>bif decide (u<0)then bif decide ((j.length:az)=20)then kr q.1 q.2.1 q.2.2.1 q.2.2.2.1 q.2.2.2.2.1 q.2.2.2.2.2.1 q.2.2.2.2.2.2.1 q.2.2.2.2.2.2.2.1 q.2.2.2.2.2.2.2.2 2 else bif decide (t≥0)then bif Gz.c d p then Lib.lt (Gz.v d p) λw=>bif KT.c e f h i p then Lib.lt (KT.v e f h i p) λy=>bif oL.c h i p then Lib.lt (oL.v h i p) λz=>bif decide (u<0)then bif cy (q.2.2.2.2.2.2.1.length+(aw (aN [Ck.s,Ck.s,Ck.i ao,Ck.i ao,Ck.i ao] 1) 0 [.s p, .s ⟨#[]⟩, .i .i64 1, .i .i64 0, .i .i64 0]).length) 56 then bif decide ((j.length:az)<((q.2.2.2.2.2.2.1++aw (aN [Ck.s,Ck.s,Ck.i ao,Ck.i ao,Ck.i ao] 1) 0 [.s p, .s ⟨#[]⟩, .i .i64 1, .i .i64 0, .i .i64 0]).length:az))then bif pG.c q.1 w y.1 y.2.1 z.1 z.2 (q.2.2.2.2.2.2.1++aw (aN [Ck.s,Ck.s,Ck.i ao,Ck.i ao,Ck.i ao] 1) 0 [.s p, .s ⟨#[]⟩, .i .i64 1, .i .i64 0, .i .i64 0]) q.2.2.2.2.2.2.2.1 q.2.2.2.2.2.2.2.2 o p (bE ((j.length:az)+1)) 0 1 (bM (ar (q.2.2.2.2.2.2.1++aw (aN [Ck.s,Ck.s,Ck.i ao,Ck.i ao,Ck.i ao] 1) 0 [.s p, .s ⟨#[]⟩, .i .i64 1, .i .i64 0, .i .i64 0]) (j.length:az).toNat 1)) 0 then Lib.lt (pG.v q.1 w y.1 y.2.1 z.1 z.2 (q.2.2.2.2.2.2.1++aw (aN [Ck.s,Ck.s,Ck.i ao,Ck.i ao,Ck.i ao] 1) 0 [.s p, .s ⟨#[]⟩, .i .i64 1, .i .i64 0, .i .i64 0]) q.2.2.2.2.2.2.2.1 q.2.2.2.2.2.2.2.2 o p (bE ((j.length:az)+1)) 0 1 (bM (ar (q.2.2.2.2.2.2.1++aw (aN [Ck.s,Ck.s,Ck.i ao,Ck.i ao,Ck.i ao] 1) 0 [.s p, .s ⟨#[]⟩, .i .i64 1, .i .i64 0, .i .i64 0]) (j.length:az).toNat 1)) 0) λα=>kr α.1 α.2.1 α.2.2.1 α.2.2.2.1 α.2.2.2.2.1 α.2.2.2.2.2.1 α.2.2.2.2.2.2.1 α.2.2.2.2.2.2.2.1 α.2.2.2.2.2.2.2.2 0 else aj else aj else aj else bif decide (0<=u)&&decide (u<(q.2.2.2.2.2.2.1.length:az))then bif pG.c q.1 w y.1 y.2.1 z.1 z.2 q.2.2.2.2.2.2.1 q.2.2.2.2.2.2.2.1 q.2.2.2.2.2.2.2.2 o p (bE (u+1)) 0 1 (bM (ar q.2.2.2.2.2.2.1 u.toNat 1)) 0 then Lib.lt (pG.v q.1 w y.1 y.2.1 z.1 z.2 q.2.2.2.2.2.2.1 q.2.2.2.2.2.2.2.1 q.2.2.2.2.2.2.2.2 o p (bE (u+1)) 0 1 (bM (ar q.2.2.2.2.2.2.1 u.toNat 1)) 0) λα=>kr α.1 α.2.1 α.2.2.1 α.2.2.2.1 α.2.2.2.2.1 α.2.2.2.2.2.1 α.2.2.2.2.2.2.1 α.2.2.2.2.2.2.2.1 α.2.2.2.2.2.2.2.2 0 else aj else aj else aj else aj else aj else bif oL.c h i p then Lib.lt (oL.v h i p) λw=>bif decide (u<0)then bif cy (q.2.2.2.2.2.2.1.length+(aw (aN [Ck.s,Ck.s,Ck.i ao,Ck.i ao,Ck.i ao] 1) 0 [.s p, .s ⟨#[]⟩, .i .i64 1, .i .i64 0, .i .i64 0]).length) 56 then bif decide ((j.length:az)<((q.2.2.2.2.2.2.1++aw (aN [Ck.s,Ck.s,Ck.i ao,Ck.i ao,Ck.i ao] 1) 0 [.s p, .s ⟨#[]⟩, .i .i64 1, .i .i64 0, .i .i64 0]).length:az))then bif pG.c q.1 q.2.1 q.2.2.1 q.2.2.2.1 w.1 w.2 (q.2.2.2.2.2.2.1++aw (aN [Ck.s,Ck.s,Ck.i ao,Ck.i ao,Ck.i ao] 1) 0 [.s p, .s ⟨#[]⟩, .i .i64 1, .i .i64 0, .i .i64 0]) q.2.2.2.2.2.2.2.1 q.2.2.2.2.2.2.2.2 o p (bE ((j.length:az)+1)) 0 1 (bM (ar (q.2.2.2.2.2.2.1++aw (aN [Ck.s,Ck.s,Ck.i ao,Ck.i ao,Ck.i ao] 1) 0 [.s p, .s ⟨#[]⟩, .i .i64 1, .i .i64 0, .i .i64 0]) (j.length:az).toNat 1)) 0 then Lib.lt (pG.v q.1 q.2.1 q.2.2.1 q.2.2.2.1 w.1 w.2 (q.2.2.2.2.2.2.1++aw (aN [Ck.s,Ck.s,Ck.i ao,Ck.i ao,Ck.i ao] 1) 0 [.s p, .s ⟨#[]⟩, .i .i64 1, .i .i64 0, .i .i64 0]) q.2.2.2.2.2.2.2.1 q.2.2.2.2.2.2.2.2 o p (bE ((j.length:az)+1)) 0 1 (bM (ar (q.2.2.2.2.2.2.1++aw (aN [Ck.s,Ck.s,Ck.i ao,Ck.i ao,Ck.i ao] 1) 0 [.s p, .s ⟨#[]⟩, .i .i64 1, .i .i64 0, .i .i64 0]) (j.length:az).toNat 1)) 0) λy=>kr y.1 y.2.1 y.2.2.1 y.2.2.2.1 y.2.2.2.2.1 y.2.2.2.2.2.1 y.2.2.2.2.2.2.1 y.2.2.2.2.2.2.2.1 y.2.2.2.2.2.2.2.2 0 else aj else aj else aj else bif decide (0<=u)&&decide (u<(q.2.2.2.2.2.2.1.length:az))then bif pG.c q.1 q.2.1 q.2.2.1 q.2.2.2.1 w.1 w.2 q.2.2.2.2.2.2.1 q.2.2.2.2.2.2.2.1 q.2.2.2.2.2.2.2.2 o p (bE (u+1)) 0 1 (bM (ar q.2.2.2.2.2.2.1 u.toNat 1)) 0 then Lib.lt (pG.v q.1 q.2.1 q.2.2.1 q.2.2.2.1 w.1 w.2 q.2.2.2.2.2.2.1 q.2.2.2.2.2.2.2.1 q.2.2.2.2.2.2.2.2 o p (bE (u+1)) 0 1 (bM (ar q.2.2.2.2.2.2.1 u.toNat 1)) 0) λy=>kr y.1 y.2.1 y.2.2.1 y.2.2.2.1 y.2.2.2.2.1 y.2.2.2.2.2.1 y.2.2.2.2.2.2.1 y.2.2.2.2.2.2.2.1 y.2.2.2.2.2.2.2.2 0 else aj else aj else aj else bif decide (t≥0)then bif Gz.c d p then Lib.lt (Gz.v d p) λw=>bif KT.c e f h i p then Lib.lt (KT.v e f h i p) λy=>bif oL.c h i p then Lib.lt (oL.v h i p) λz=>bif decide (u<0)then bif cy (q.2.2.2.2.2.2.1.length+(aw (aN [Ck.s,Ck.s,Ck.i ao,Ck.i ao,Ck.i ao] 1) 0 [.s p, .s ⟨#[]⟩, .i .i64 1, .i .i64 0, .i .i64 0]).length) 56 then bif decide ((j.length:az)<((q.2.2.2.2.2.2.1++aw (aN [Ck.s,Ck.s,Ck.i ao,Ck.i ao,Ck.i ao] 1) 0 [.s p, .s ⟨#[]⟩, .i .i64 1, .i .i64 0, .i .i64 0]).length:az))then bif pG.c q.1 w y.1 y.2.1 z.1 z.2 (q.2.2.2.2.2.2.1++aw (aN [Ck.s,Ck.s,Ck.i ao,Ck.i ao,Ck.i ao] 1) 0 [.s p, .s ⟨#[]⟩, .i .i64 1, .i .i64 0, .i .i64 0]) q.2.2.2.2.2.2.2.1 q.2.2.2.2.2.2.2.2 o p (bE ((j.length:az)+1)) 0 1 (bM (ar (q.2.2.2.2.2.2.1++aw (aN [Ck.s,Ck.s,Ck.i ao,Ck.i ao,Ck.i ao] 1) 0 [.s p, .s ⟨#[]⟩, .i .i64 1, .i .i64 0, .i .i64 0]) (j.length:az).toNat 1)) 0 then Lib.lt (pG.v q.1 w y.1 y.2.1 z.1 z.2 (q.2.2.2.2.2.2.1++aw (aN [Ck.s,Ck.s,Ck.i ao,Ck.i ao,Ck.i ao] 1) 0 [.s p, .s ⟨#[]⟩, .i .i64 1, .i .i64 0, .i .i64 0]) q.2.2.2.2.2.2.2.1 q.2.2.2.2.2.2.2.2 o p (bE ((j.length:az)+1)) 0 1 (bM (ar (q.2.2.2.2.2.2.1++aw (aN [Ck.s,Ck.s,Ck.i ao,Ck.i ao,Ck.i ao] 1) 0 [.s p, .s ⟨#[]⟩, .i .i64 1, .i .i64 0, .i .i64 0]) (j.length:az).toNat 1)) 0) λα=>kr α.1 α.2.1 α.2.2.1 α.2.2.2.1 α.2.2.2.2.1 α.2.2.2.2.2.1 α.2.2.2.2.2.2.1 α.2.2.2.2.2.2.2.1 α.2.2.2.2.2.2.2.2 0 else aj else aj else aj else bif decide (0<=u)&&decide (u<(q.2.2.2.2.2.2.1.length:az))then bif pG.c q.1 w y.1 y.2.1 z.1 z.2 q.2.2.2.2.2.2.1 q.2.2.2.2.2.2.2.1 q.2.2.2.2.2.2.2.2 o p (bE (u+1)) 0 1 (bM (ar q.2.2.2.2.2.2.1 u.toNat 1)) 0 then Lib.lt (pG.v q.1 w y.1 y.2.1 z.1 z.2 q.2.2.2.2.2.2.1 q.2.2.2.2.2.2.2.1 q.2.2.2.2.2.2.2.2 o p (bE (u+1)) 0 1 (bM (ar q.2.2.2.2.2.2.1 u.toNat 1)) 0) λα=>kr α.1 α.2.1 α.2.2.1 α.2.2.2.1 α.2.2.2.2.1 α.2.2.2.2.2.1 α.2.2.2.2.2.2.1 α.2.2.2.2.2.2.2.1 α.2.2.2.2.2.2.2.2 0 else aj else aj else aj else aj else aj else bif oL.c h i p then Lib.lt (oL.v h i p) λw=>bif decide (u<0)then bif cy (q.2.2.2.2.2.2.1.length+(aw (aN [Ck.s,Ck.s,Ck.i ao,Ck.i ao,Ck.i ao] 1) 0 [.s p, .s ⟨#[]⟩, .i .i64 1, .i .i64 0, .i .i64 0]).length) 56 then bif decide ((j.length:az)<((q.2.2.2.2.2.2.1++aw (aN [Ck.s,Ck.s,Ck.i ao,Ck.i ao,Ck.i ao] 1) 0 [.s p, .s ⟨#[]⟩, .i .i64 1, .i .i64 0, .i .i64 0]).length:az))then bif pG.c q.1 q.2.1 q.2.2.1 q.2.2.2.1 w.1 w.2 (q.2.2.2.2.2.2.1++aw (aN [Ck.s,Ck.s,Ck.i ao,Ck.i ao,Ck.i ao] 1) 0 [.s p, .s ⟨#[]⟩, .i .i64 1, .i .i64 0, .i .i64 0]) q.2.2.2.2.2.2.2.1 q.2.2.2.2.2.2.2.2 o p (bE ((j.length:az)+1)) 0 1 (bM (ar (q.2.2.2.2.2.2.1++aw (aN [Ck.s,Ck.s,Ck.i ao,Ck.i ao,Ck.i ao] 1) 0 [.s p, .s ⟨#[]⟩, .i .i64 1, .i .i64 0, .i .i64 0]) (j.length:az).toNat 1)) 0 then Lib.lt (pG.v q.1 q.2.1 q.2.2.1 q.2.2.2.1 w.1 w.2 (q.2.2.2.2.2.2.1++aw (aN [Ck.s,Ck.s,Ck.i ao,Ck.i ao,Ck.i ao] 1) 0 [.s p, .s ⟨#[]⟩, .i .i64 1, .i .i64 0, .i .i64 0]) q.2.2.2.2.2.2.2.1 q.2.2.2.2.2.2.2.2 o p (bE ((j.length:az)+1)) 0 1 (bM (ar (q.2.2.2.2.2.2.1++aw (aN [Ck.s,Ck.s,Ck.i ao,Ck.i ao,Ck.i ao] 1) 0 [.s p, .s ⟨#[]⟩, .i .i64 1, .i .i64 0, .i .i64 0]) (j.length:az).toNat 1)) 0) λy=>kr y.1 y.2.1 y.2.2.1 y.2.2.2.1 y.2.2.2.2.1 y.2.2.2.2.2.1 y.2.2.2.2.2.2.1 y.2.2.2.2.2.2.2.1 y.2.2.2.2.2.2.2.2 0 else aj else aj else aj else bif decide (0<=u)&&decide (u<(q.2.2.2.2.2.2.1.length:az))then bif pG.c q.1 q.2.1 q.2.2.1 q.2.2.2.1 w.1 w.2 q.2.2.2.2.2.2.1 q.2.2.2.2.2.2.2.1 q.2.2.2.2.2.2.2.2 o p (bE (u+1)) 0 1 (bM (ar q.2.2.2.2.2.2.1 u.toNat 1)) 0 then Lib.lt (pG.v q.1 q.2.1 q.2.2.1 q.2.2.2.1 w.1 w.2 q.2.2.2.2.2.2.1 q.2.2.2.2.2.2.2.1 q.2.2.2.2.2.2.2.2 o p (bE (u+1)) 0 1 (bM (ar q.2.2.2.2.2.2.1 u.toNat 1)) 0) λy=>kr y.1 y.2.1 y.2.2.1 y.2.2.2.1 y.2.2.2.2.1 y.2.2.2.2.2.1 y.2.2.2.2.2.2.1 y.2.2.2.2.2.2.2.1 y.2.2.2.2.2.2.2.2 0 else aj else aj else aj else aj else aj else bif Ja.c a d e f h i j l m p then Lib.lt (Ja.v a d e f h i j l m p) λu=>bif decide (u<0)then bif decide ((j.length:az)=20)then kr q.1 q.2.1 q.2.2.1 q.2.2.2.1 q.2.2.2.2.1 q.2.2.2.2.2.1 q.2.2.2.2.2.2.1 q.2.2.2.2.2.2.2.1 q.2.2.2.2.2.2.2.2 2 else bif decide (t≥0)then bif Gz.c d p then Lib.lt (Gz.v d p) λw=>bif KT.c e f h i p then Lib.lt (KT.v e f h i p) λy=>bif oL.c h i p then Lib.lt (oL.v h i p) λz=>bif decide (u<0)then bif cy (q.2.2.2.2.2.2.1.length+(aw (aN [Ck.s,Ck.s,Ck.i ao,Ck.i ao,Ck.i ao] 1) 0 [.s p, .s ⟨#[]⟩, .i .i64 1, .i .i64 0, .i .i64 0]).length) 56 then bif decide ((j.length:az)<((q.2.2.2.2.2.2.1++aw (aN [Ck.s,Ck.s,Ck.i ao,Ck.i ao,Ck.i ao] 1) 0 [.s p, .s ⟨#[]⟩, .i .i64 1, .i .i64 0, .i .i64 0]).length:az))then bif pG.c q.1 w y.1 y.2.1 z.1 z.2 (q.2.2.2.2.2.2.1++aw (aN [Ck.s,Ck.s,Ck.i ao,Ck.i ao,Ck.i ao] 1) 0 [.s p, .s ⟨#[]⟩, .i .i64 1, .i .i64 0, .i .i64 0]) q.2.2.2.2.2.2.2.1 q.2.2.2.2.2.2.2.2 o p (bE ((j.length:az)+1)) 0 1 (bM (ar (q.2.2.2.2.2.2.1++aw (aN [Ck.s,Ck.s,Ck.i ao,Ck.i ao,Ck.i ao] 1) 0 [.s p, .s ⟨#[]⟩, .i .i64 1, .i .i64 0, .i .i64 0]) (j.length:az).toNat 1)) 0 then Lib.lt (pG.v q.1 w y.1 y.2.1 z.1 z.2 (q.2.2.2.2.2.2.1++aw (aN [Ck.s,Ck.s,Ck.i ao,Ck.i ao,Ck.i ao] 1) 0 [.s p, .s ⟨#[]⟩, .i .i64 1, .i .i64 0, .i .i64 0]) q.2.2.2.2.2.2.2.1 q.2.2.2.2.2.2.2.2 o p (bE ((j.length:az)+1)) 0 1 (bM (ar (q.2.2.2.2.2.2.1++aw (aN [Ck.s,Ck.s,Ck.i ao,Ck.i ao,Ck.i ao] 1) 0 [.s p, .s ⟨#[]⟩, .i .i64 1, .i .i64 0, .i .i64 0]) (j.length:az).toNat 1)) 0) λα=>kr α.1 α.2.1 α.2.2.1 α.2.2.2.1 α.2.2.2.2.1 α.2.2.2.2.2.1 α.2.2.2.2.2.2.1 α.2.2.2.2.2.2.2.1 α.2.2.2.2.2.2.2.2 0 else aj else aj else aj else bif decide (0<=u)&&decide (u<(q.2.2.2.2.2.2.1.length:az))then bif pG.c q.1 w y.1 y.2.1 z.1 z.2 q.2.2.2.2.2.2.1 q.2.2.2.2.2.2.2.1 q.2.2.2.2.2.2.2.2 o p (bE (u+1)) 0 1 (bM (ar q.2.2.2.2.2.2.1 u.toNat 1)) 0 then Lib.lt (pG.v q.1 w y.1 y.2.1 z.1 z.2 q.2.2.2.2.2.2.1 q.2.2.2.2.2.2.2.1 q.2.2.2.2.2.2.2.2 o p (bE (u+1)) 0 1 (bM (ar q.2.2.2.2.2.2.1 u.toNat 1)) 0) λα=>kr α.1 α.2.1 α.2.2.1 α.2.2.2.1 α.2.2.2.2.1 α.2.2.2.2.2.1 α.2.2.2.2.2.2.1 α.2.2.2.2.2.2.2.1 α.2.2.2.2.2.2.2.2 0 else aj else aj else aj else aj else aj else bif oL.c h i p then Lib.lt (oL.v h i p) λw=>bif decide (u<0)then bif cy (q.2.2.2.2.2.2.1.length+(aw (aN [Ck.s,Ck.s,Ck.i ao,Ck.i ao,Ck.i ao] 1) 0 [.s p, .s ⟨#[]⟩, .i .i64 1, .i .i64 0, .i .i64 0]).length) 56 then bif decide ((j.length:az)<((q.2.2.2.2.2.2.1++aw (aN [Ck.s,Ck.s,Ck.i ao,Ck.i ao,Ck.i ao] 1) 0 [.s p, .s ⟨#[]⟩, .i .i64 1, .i .i64 0, .i .i64 0]).length:az))then bif pG.c q.1 q.2.1 q.2.2.1 q.2.2.2.1 w.1 w.2 (q.2.2.2.2.2.2.1++aw (aN [Ck.s,Ck.s,Ck.i ao,Ck.i ao,Ck.i ao] 1) 0 [.s p, .s ⟨#[]⟩, .i .i64 1, .i .i64 0, .i .i64 0]) q.2.2.2.2.2.2.2.1 q.2.2.2.2.2.2.2.2 o p (bE ((j.length:az)+1)) 0 1 (bM (ar (q.2.2.2.2.2.2.1++aw (aN [Ck.s,Ck.s,Ck.i ao,Ck.i ao,Ck.i ao] 1) 0 [.s p, .s ⟨#[]⟩, .i .i64 1, .i .i64 0, .i .i64 0]) (j.length:az).toNat 1)) 0 then Lib.lt (pG.v q.1 q.2.1 q.2.2.1 q.2.2.2.1 w.1 w.2 (q.2.2.2.2.2.2.1++aw (aN [Ck.s,Ck.s,Ck.i ao,Ck.i ao,Ck.i ao] 1) 0 [.s p, .s ⟨#[]⟩, .i .i64 1, .i .i64 0, .i .i64 0]) q.2.2.2.2.2.2.2.1 q.2.2.2.2.2.2.2.2 o p (bE ((j.length:az)+1)) 0 1 (bM (ar (q.2.2.2.2.2.2.1++aw (aN [Ck.s,Ck.s,Ck.i ao,Ck.i ao,Ck.i ao] 1) 0 [.s p, .s ⟨#[]⟩, .i .i64 1, .i .i64 0, .i .i64 0]) (j.length:az).toNat 1)) 0) λy=>kr y.1 y.2.1 y.2.2.1 y.2.2.2.1 y.2.2.2.2.1 y.2.2.2.2.2.1 y.2.2.2.2.2.2.1 y.2.2.2.2.2.2.2.1 y.2.2.2.2.2.2.2.2 0 else aj else aj else aj else bif decide (0<=u)&&decide (u<(q.2.2.2.2.2.2.1.length:az))then bif pG.c q.1 q.2.1 q.2.2.1 q.2.2.2.1 w.1 w.2 q.2.2.2.2.2.2.1 q.2.2.2.2.2.2.2.1 q.2.2.2.2.2.2.2.2 o p (bE (u+1)) 0 1 (bM (ar q.2.2.2.2.2.2.1 u.toNat 1)) 0 then Lib.lt (pG.v q.1 q.2.1 q.2.2.1 q.2.2.2.1 w.1 w.2 q.2.2.2.2.2.2.1 q.2.2.2.2.2.2.2.1 q.2.2.2.2.2.2.2.2 o p (bE (u+1)) 0 1 (bM (ar q.2.2.2.2.2.2.1 u.toNat 1)) 0) λy=>kr y.1 y.2.1 y.2.2.1 y.2.2.2.1 y.2.2.2.2.1 y.2.2.2.2.2.1 y.2.2.2.2.2.2.1 y.2.2.2.2.2.2.2.1 y.2.2.2.2.2.2.2.2 0 else aj else aj else aj else bif decide (t≥0)then bif Gz.c d p then Lib.lt (Gz.v d p) λw=>bif KT.c e f h i p then Lib.lt (KT.v e f h i p) λy=>bif oL.c h i p then Lib.lt (oL.v h i p) λz=>bif decide (u<0)then bif cy (q.2.2.2.2.2.2.1.length+(aw (aN [Ck.s,Ck.s,Ck.i ao,Ck.i ao,Ck.i ao] 1) 0 [.s p, .s ⟨#[]⟩, .i .i64 1, .i .i64 0, .i .i64 0]).length) 56 then bif decide ((j.length:az)<((q.2.2.2.2.2.2.1++aw (aN [Ck.s,Ck.s,Ck.i ao,Ck.i ao,Ck.i ao] 1) 0 [.s p, .s ⟨#[]⟩, .i .i64 1, .i .i64 0, .i .i64 0]).length:az))then bif pG.c q.1 w y.1 y.2.1 z.1 z.2 (q.2.2.2.2.2.2.1++aw (aN [Ck.s,Ck.s,Ck.i ao,Ck.i ao,Ck.i ao] 1) 0 [.s p, .s ⟨#[]⟩, .i .i64 1, .i .i64 0, .i .i64 0]) q.2.2.2.2.2.2.2.1 q.2.2.2.2.2.2.2.2 o p (bE ((j.length:az)+1)) 0 1 (bM (ar (q.2.2.2.2.2.2.1++aw (aN [Ck.s,Ck.s,Ck.i ao,Ck.i ao,Ck.i ao] 1) 0 [.s p, .s ⟨#[]⟩, .i .i64 1, .i .i64 0, .i .i64 0]) (j.length:az).toNat 1)) 0 then Lib.lt (pG.v q.1 w y.1 y.2.1 z.1 z.2 (q.2.2.2.2.2.2.1++aw (aN [Ck.s,Ck.s,Ck.i ao,Ck.i ao,Ck.i ao] 1) 0 [.s p, .s ⟨#[]⟩, .i .i64 1, .i .i64 0, .i .i64 0]) q.2.2.2.2.2.2.2.1 q.2.2.2.2.2.2.2.2 o p (bE ((j.length:az)+1)) 0 1 (bM (ar (q.2.2.2.2.2.2.1++aw (aN [Ck.s,Ck.s,Ck.i ao,Ck.i ao,Ck.i ao] 1) 0 [.s p, .s ⟨#[]⟩, .i .i64 1, .i .i64 0, .i .i64 0]) (j.length:az).toNat 1)) 0) λα=>kr α.1 α.2.1 α.2.2.1 α.2.2.2.1 α.2.2.2.2.1 α.2.2.2.2.2.1 α.2.2.2.2.2.2.1 α.2.2.2.2.2.2.2.1 α.2.2.2.2.2.2.2.2 0 else aj else aj else aj else bif decide (0<=u)&&decide (u<(q.2.2.2.2.2.2.1.length:az))then bif pG.c q.1 w y.1 y.2.1 z.1 z.2 q.2.2.2.2.2.2.1 q.2.2.2.2.2.2.2.1 q.2.2.2.2.2.2.2.2 o p (bE (u+1)) 0 1 (bM (ar q.2.2.2.2.2.2.1 u.toNat 1)) 0 then Lib.lt (pG.v q.1 w y.1 y.2.1 z.1 z.2 q.2.2.2.2.2.2.1 q.2.2.2.2.2.2.2.1 q.2.2.2.2.2.2.2.2 o p (bE (u+1)) 0 1 (bM (ar q.2.2.2.2.2.2.1 u.toNat 1)) 0) λα=>kr α.1 α.2.1 α.2.2.1 α.2.2.2.1 α.2.2.2.2.1 α.2.2.2.2.2.1 α.2.2.2.2.2.2.1 α.2.2.2.2.2.2.2.1 α.2.2.2.2.2.2.2.2 0 else aj else aj else aj else aj else aj else bif oL.c h i p then Lib.lt (oL.v h i p) λw=>bif decide (u<0)then bif cy (q.2.2.2.2.2.2.1.length+(aw (aN [Ck.s,Ck.s,Ck.i ao,Ck.i ao,Ck.i ao] 1) 0 [.s p, .s ⟨#[]⟩, .i .i64 1, .i .i64 0, .i .i64 0]).length) 56 then bif decide ((j.length:az)<((q.2.2.2.2.2.2.1++aw (aN [Ck.s,Ck.s,Ck.i ao,Ck.i ao,Ck.i ao] 1) 0 [.s p, .s ⟨#[]⟩, .i .i64 1, .i .i64 0, .i .i64 0]).length:az))then bif pG.c q.1 q.2.1 q.2.2.1 q.2.2.2.1 w.1 w.2 (q.2.2.2.2.2.2.1++aw (aN [Ck.s,Ck.s,Ck.i ao,Ck.i ao,Ck.i ao] 1) 0 [.s p, .s ⟨#[]⟩, .i .i64 1, .i .i64 0, .i .i64 0]) q.2.2.2.2.2.2.2.1 q.2.2.2.2.2.2.2.2 o p (bE ((j.length:az)+1)) 0 1 (bM (ar (q.2.2.2.2.2.2.1++aw (aN [Ck.s,Ck.s,Ck.i ao,Ck.i ao,Ck.i ao] 1) 0 [.s p, .s ⟨#[]⟩, .i .i64 1, .i .i64 0, .i .i64 0]) (j.length:az).toNat 1)) 0 then Lib.lt (pG.v q.1 q.2.1 q.2.2.1 q.2.2.2.1 w.1 w.2 (q.2.2.2.2.2.2.1++aw (aN [Ck.s,Ck.s,Ck.i ao,Ck.i ao,Ck.i ao] 1) 0 [.s p, .s ⟨#[]⟩, .i .i64 1, .i .i64 0, .i .i64 0]) q.2.2.2.2.2.2.2.1 q.2.2.2.2.2.2.2.2 o p (bE ((j.length:az)+1)) 0 1 (bM (ar (q.2.2.2.2.2.2.1++aw (aN [Ck.s,Ck.s,Ck.i ao,Ck.i ao,Ck.i ao] 1) 0 [.s p, .s ⟨#[]⟩, .i .i64 1, .i .i64 0, .i .i64 0]) (j.length:az).toNat 1)) 0) λy=>kr y.1 y.2.1 y.2.2.1 y.2.2.2.1 y.2.2.2.2.1 y.2.2.2.2.2.1 y.2.2.2.2.2.2.1 y.2.2.2.2.2.2.2.1 y.2.2.2.2.2.2.2.2 0 else aj else aj else aj else bif decide (0<=u)&&decide (u<(q.2.2.2.2.2.2.1.length:az))then bif pG.c q.1 q.2.1 q.2.2.1 q.2.2.2.1 w.1 w.2 q.2.2.2.2.2.2.1 q.2.2.2.2.2.2.2.1 q.2.2.2.2.2.2.2.2 o p (bE (u+1)) 0 1 (bM (ar q.2.2.2.2.2.2.1 u.toNat 1)) 0 then Lib.lt (pG.v q.1 q.2.1 q.2.2.1 q.2.2.2.1 w.1 w.2 q.2.2.2.2.2.2.1 q.2.2.2.2.2.2.2.1 q.2.2.2.2.2.2.2.2 o p (bE (u+1)) 0 1 (bM (ar q.2.2.2.2.2.2.1 u.toNat 1)) 0) λy=>kr y.1 y.2.1 y.2.2.1 y.2.2.2.1 y.2.2.2.2.1 y.2.2.2.2.2.1 y.2.2.2.2.2.2.1 y.2.2.2.2.2.2.2.1 y.2.2.2.2.2.2.2.2 0 else aj else aj else aj else aj else aj else aj else aj else aj
def vo:=b λr0 r1 r2 r3 r4 r5 r6 r7 r8 r9=>ah (r0,r1,r2,r3,r4,r5,r6,r7,r8,r9)
def c:=λa d e f h i j l m o p=>(vo a d e f h i j l m o p).isSome
def v:=λa d e f h i j l m o p=>(vo a d e f h i j l m o p).getD (0,[],[],[],[],0,[],[],0,0)
end U11

namespace Sd
def b(kr:BO R)(a:az)(d:aq)(e:aU):aA R:=bif cy ((aN [Ck.i ao,Ck.i ao] 0).length+e.length) 16 then kr a d (aN [Ck.i ao,Ck.i ao] 0++e)else aj
def v(iG:az)(gz:aq)(eE:aU):az×aq×aU:=(iG,gz,eE)
def c(iG:az)(gz:aq)(eE:aU):aW:=decide (eE.length<=4294967296)
end Sd

namespace Sf
def r2(N:aE)(g k0 k1:vN R)(a:aW)(d:aU)(e f h:az)(i:aq)(j:aU):aA R:=bif decide (f<e)then bif decide (0<=f)&&decide (f<(d.length:az))then bif !pb.v (bU (ar d f.toNat 0)) 1 9 then k0 ak d e f h i j else bif !pb.v (bU (ar d f.toNat 1)) 0 (i.size:az)then k0 ak d e f h i j else bif decide (f>0)then bif decide (0<=bE (f-1))&&decide (bE (f-1)<(j.length:az))then bif decide (bU (ar j (bE (f-1)).toNat 0)≥bU (ar d f.toNat 0))then k0 ak d e f h i j else g a d e (bE (f+1)) h i j else aj else g a d e (bE (f+1)) h i j else aj else k1 a d e f h i j
def l2(N:aE)(k0 k1:vN R):aE->vN R
 |0=>λ_ _ _ _ _ _ _=>aj
 |n+1=>r2 N (l2 N k0 k1 n) k0 k1
def b(N:aE)(kr:aW->aA R)(a:az)(d:aq)(e:aU):aA R:=l2 N (λf _ _ _ _ _ _=>kr f) (λ_ _ _ _ f h i=>bif pb.v f 1 3 then bif decide ((h.size:az)<=400)then kr (decide ((i.length:az)<=6))else kr ak else kr ak) N ak e (e.length:az) 0 a d e
def v(iG:az)(gz:aq)(eE:aU):aW:=(cz eE.length).all (qO.el gz eE)&&qO.rest iG gz eE
end Sf

namespace ND
def b(kr:GO R)(a:az)(d:aq)(e:aU)(f:aq):aA R:=bif Sd.c a d e then bif !Sf.v a d e then kr a d e ak else bif a !=1 then kr a d e ak else bif !pb.v (f.size:az) 1 40 then kr a d e ak else bif decide (bE ((d.size:az)+(f.size:az))>400)then kr a d e ak else bif decide (d.size+f.size<=4611686018427387904)then kr a (d++f) e ai else aj else aj
def v(iG:az)(gz:aq)(eE:aU)(iZ:aq):az×aq×aU×aW:=
 if qO.v iG gz eE=ai/\iG=1/\1<=iZ.size/\iZ.size<=40/\gz.size+iZ.size<=400 then(iG,gz++iZ,eE,ai)else(iG,gz,eE,ak)
def c(iG:az)(gz:aq)(eE:aU)(iZ:aq):aW:=decide (eE.length<=4294967296)
end ND

end Go.FG
