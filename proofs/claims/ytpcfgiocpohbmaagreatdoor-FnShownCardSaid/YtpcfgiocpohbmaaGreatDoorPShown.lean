/- Functions of the program, told as functions of numbers, texts and lists, and what each comes to. No condition but those that each states. -/
import Derived.Test.YtpcfgiocpohbmaaGreatDoorLib
set_option linter.unusedVariables false
set_option linter.unusedSimpArgs false
set_option maxRecDepth 100000
open BitVec renaming toNat->ed,and->nF,ofInt->cq,xor->kJ
open Bool renaming cond_eq_ite->dI,true->aj,false->ao,false_eq_true->cN,true_and->bK,not_true->a9,and_self->aL,and_false->El,not_false->bO
open ByteArray renaming toList->aC,size->bh,extract->bc
open Go.IntKind renaming i64->ar,wrap->bj,u32->dO,u8->a6
open Go.Op renaming bytesLess->bP
open Int renaming toNat->aY,fdiv->jT,pow->gj,tmod->bZ,tdiv->cO,tmod_eq_emod_of_nonneg->iJ
open List renaming set->aF,beq->cu,length->bI,range->ej,range'->ml,all_cons->mv,length_append->bW,length_singleton->bu,take->mP,drop->za
open Nat renaming sub_zero->Eh,lt_irrefl->bB,ble->eG,beq->bA
open Option renaming none->ai,some->ah
open UInt8 renaming ofNat->ak
open _root_ renaming Int->ay,Option->aA,ByteArray->aq,Bool->aU,Nat->aG,cond_true->aw,cond_false->az,of_decide_eq_true->ca,decide_eq_decide->c_,decide_true->aT,decide_false->bn,decide_eq_true->aE,if_neg->a_,if_pos->ba,decide_eq_false->aK
namespace Go.FG
variable {R:Type}
abbrev vD(R:Type):=Row->ay->aA R
abbrev xF(R:Type):=ay->Row->aA R
abbrev yZ(R:Type):=aq->aU->aA R
abbrev A2(R:Type):=Row->aU->aA R
abbrev RE(R:Type):=ay->aq->aA R
abbrev wL(R:Type):=Row->ay->ay->aA R
abbrev qp(R:Type):=ay->ay->ay->aA R
abbrev wK(R:Type):=ay->aq->ay->aA R
abbrev BB(R:Type):=ay->aq->Row->aA R
abbrev Iz(R:Type):=aU->xF R
abbrev mr(R:Type):=aq->xF R
abbrev wM(R:Type):=Row->xF R
abbrev My(R:Type):=ay->ay->aU->aA R
abbrev Mz(R:Type):=aq->ay->aU->aA R
abbrev BA(R:Type):=ay->Row->Row->aA R
abbrev Mx(R:Type):=ay->aU->aq->aA R
abbrev lS(R:Type):=ay->ay->xF R
abbrev CB(R:Type):=Row->Row->vD R
abbrev GU(R:Type):=ay->wL R
abbrev CE(R:Type):=aq->wL R
abbrev XP(R:Type):=aU->wL R
abbrev GW(R:Type):=Row->aq->aU->ay->aA R
abbrev GR(R:Type):=aU->ay->vD R
abbrev vC(R:Type):=ay->aq->ay->ay->aA R
abbrev vE(R:Type):=Row->mr R
abbrev GV(R:Type):=ay->aq->A2 R
abbrev mN(R:Type):=aq->ay->xF R
abbrev qR(R:Type):=aq->BA R
abbrev pO(R:Type):=Row->ay->xF R
abbrev sW(R:Type):=Row->BA R
abbrev GX(R:Type):=aq->Iz R
abbrev GS(R:Type):=ay->BA R
abbrev x_(R:Type):=ay->pO R
abbrev RG(R:Type):=aq->pO R
abbrev pK(R:Type):=ay->Row->qp R
abbrev Cw(R:Type):=aU->ay->ay->vD R
abbrev yp(R:Type):=aq->ay->ay->yZ R
abbrev xZ(R:Type):=ay->lS R
abbrev CC(R:Type):=aq->lS R
abbrev CD(R:Type):=aq->ay->ay->vD R
abbrev RF(R:Type):=Row->Row->Row->RE R
abbrev Cx(R:Type):=aU->ay->BB R
abbrev pM(R:Type):=ay->Row->aq->aq->ay->aA R
abbrev yo(R:Type):=Row->aU->mr R
abbrev kE(R:Type):=Row->aq->qp R
abbrev Cy(R:Type):=aU->pO R
abbrev CA(R:Type):=ay->aq->mr R
abbrev pN(R:Type):=Row->ay->qp R
abbrev nG(R:Type):=ay->Row->lS R
abbrev kg(R:Type):=ay->Row->aq->mr R
abbrev Eo(R:Type):=Row->aU->qR R
abbrev Em(R:Type):=ay->ay->aq->ay->A2 R
abbrev ue(R:Type):=ay->aq->ay->BB R
abbrev nI(R:Type):=Row->xZ R
abbrev vA(R:Type):=aU->ay->Row->Row->wM R
abbrev nr(R:Type):=Row->ue R
abbrev vF(R:Type):=aq->ay->ay->ay->aU->ay->ay->aA R
abbrev vB(R:Type):=aU->Row->ay->ay->BB R
abbrev sZ(R:Type):=aq->ay->ay->ay->aU->qp R
abbrev gh(R:Type):=ay->Row->Row->Row->Row->ay->Row->vD R
abbrev jJ(R:Type):=Row->ay->ay->aq->ay->ay->ay->mr R
abbrev Cz(R:Type):=ay->Row->Row->Row->Row->ay->Row->wL R
abbrev pL(R:Type):=ay->Row->Row->Row->Row->ay->Row->Row->ay->aU->aA R
abbrev gg(R:Type):=aU->ay->gh R
abbrev oI(R:Type):=aq->ay->gh R
abbrev jx(R:Type):=ay->ay->ay->ay->ay->ay->Row->Row->Row->Row->Row->Row->aA R
abbrev nH(R:Type):=ay->Row->Row->Row->Row->ay->Row->Row->ay->Row->Row->Row->aA R
abbrev yY(R:Type):=ay->Row->Row->Row->Row->ay->Row->Row->GU R
abbrev gX(R:Type):=aU->Row->ay->ay->ay->ay->aq->ay->ay->wK R
abbrev qq(R:Type):=ay->nH R
abbrev gv(R:Type):=aU->Row->ay->ay->ay->ay->aq->ay->ay->ay->mr R
abbrev mM(R:Type):=aU->aq->Row->ay->ay->ay->ay->aq->ay->ay->wK R
abbrev dW(R:Type):=aq->ay->ay->ay->ay->ay->ay->Row->Row->Row->Row->Row->Row->Row->aA R
abbrev lk(R:Type):=ay->Row->ay->jx R
abbrev gn(R:Type):=ay->ay->ay->ay->Row->Row->Row->Row->Row->Row->Row->Row->Row->Row->Row->aA R
abbrev fE(R:Type):=aU->dW R
abbrev kK(R:Type):=aq->aU->ay->ay->Row->Row->Row->Row->ay->Row->Row->ay->aq->ay->RE R
abbrev gE(R:Type):=ay->ay->aq->ay->Row->Row->ay->ay->Row->Row->Row->Row->Row->Row->Row->Row->Row->aA R
abbrev jZ(R:Type):=ay->aU->ay->ay->Row->Row->Row->Row->ay->Row->Row->ay->aq->aq->qp R
abbrev jg(R:Type):=ay->Row->ay->ay->ay->ay->ay->ay->ay->ay->Row->Row->Row->Row->Row->Row->Row->Row->Row->aA R
abbrev fT(R:Type):=ay->ay->ay->Row->Row->Row->Row->ay->Row->Row->ay->jx R
abbrev gG(R:Type):=ay->aq->fT R
abbrev fY(R:Type):=ay->ay->ay->ay->Row->ay->ay->Row->Row->Row->Row->Row->Row->Row->Row->Row->ay->ay->ay->ay->ay->aq->ay->ay->ay->mr R
abbrev fA(R:Type):=aq->aU->ay->ay->Row->Row->Row->Row->ay->Row->Row->ay->ay->ay->ay->ay->ay->ay->ay->aq->ay->ay->ay->aq->ay->Row->Row->Row->Row->Row->Row->aA R

namespace U8
def b(kr:aU->aA R)(a:Row):aA R:=kr (decide ((a.length:ay)>1048576))
def v(a0:Row):aU:=(decide ((a0.length:ay)>1048576))
theorem im(kr:aU->aA R)(a0:Row):b kr a0=kr (v a0):=by first|rfl|(unfold b v;simp only[dI];(repeat' split)<;>rfl)
end U8

namespace Mi
def r3(N:aG)(g k0:wL R)(a:Row)(d e:ay):aA R:=bif decide (e<(a.length:ay))then bif decide (e<4000)then bif decide (0<=e)&&decide (e<(a.length:ay))then g a (bN (↑(ed (nF (cq 64 (bN (bN (bN (d*131)+bN (bS (au a e.toNat 0)))+7))) (cq 64 1073741823))):ay)) (bN (e+1))else ai else k0 a d e else k0 a d e
def l3(N:aG)(k0:wL R):aG->wL R
 |0=>λ_ _ _=>ai
 |n+1=>r3 N (l3 N k0 n) k0
def b(N:aG)(kr:wL R)(a:Row):aA R:=l3 N (λd e _=>kr d 0 e) N a (bN (34901+(a.length:ay))) 0
def vo:=b Lib.cR λr0 r1 r2=>ah (r0,r1,r2)
def c:=λa=>(vo a).isSome
def v:=λa=>(vo a).getD ([],0,0)
theorem out{x}:∀a,vo a=ah x->c a=aj/\v a=x:=λ_=>Lib.dL
end Mi

namespace C7
def r3(N:aG)(g:qp R)(g1:lS R)(k0:qp R)(k1:lS R)(a d e:ay):aA R:=bif decide (a<3)then g1 (bN (a+1)) d e ([]++aF (aR [Ck.l 3] 1) 0 [CV.l 3 (aR [Ck.i ar] (aY 16))])else k0 a d e
def uU(N:aG)(g:qp R)(g1:lS R)(k0:qp R)(k1:lS R)(a d e:ay)(f:Row):aA R:=bif decide (a<3)then bif cF (f.length+(aF (aR [Ck.l 3] 1) 0 [CV.l 3 (aR [Ck.i ar] (aY 16))]).length) 24 then g1 (bN (a+1)) d e (f++aF (aR [Ck.l 3] 1) 0 [CV.l 3 (aR [Ck.i ar] (aY 16))])else ai else k1 a d e f
def oa(N:aG)(k0:qp R)(k1:lS R):aG->lS R
 |0=>λ_ _ _ _=>ai
 |n+1=>uU N (λx0 x1 x2=>ai) (oa N k0 k1 n) k0 k1
def l3(N:aG)(k0:qp R)(k1:lS R):aG->qp R
 |0=>λ_ _ _=>ai
 |n+1=>r3 N (l3 N k0 k1 n) (oa N k0 k1 n) k0 k1
def b(N:aG)(kr:vD R):aA R:=l3 N (λ_ _ a=>kr [] a) (λ_ _ a d=>kr d a) N 0 0 0
def vo:=b Lib.cR λr0 r1=>ah (r0,r1)
def c:=vo.isSome
def v:=vo.getD ([],0)
end C7

namespace U66
def b(kr:CB R):aA R:=kr [] [] ([]++aF (aR [Ck.l 3] 1) 0 [CV.l 3 (aR [Ck.i ar] (aY 16))]++aF (aR [Ck.l 3] 1) 0 [CV.l 3 (aR [Ck.i ar] (aY 16))]++aF (aR [Ck.l 3] 1) 0 [CV.l 3 (aR [Ck.i ar] (aY 16))]) 0
def v:Row×Row×Row×ay:=([],[],[]++aF (aR [Ck.l 3] 1) 0 [CV.l 3 (aR [Ck.i ar] (aY 16))]++aF (aR [Ck.l 3] 1) 0 [CV.l 3 (aR [Ck.i ar] (aY 16))]++aF (aR [Ck.l 3] 1) 0 [CV.l 3 (aR [Ck.i ar] (aY 16))],0)
theorem im(kr:CB R):b kr=kr v.1 v.2.1 v.2.2.1 v.2.2.2:=by first|rfl|(unfold b v;simp only[dI];(repeat' split)<;>rfl)
end U66

namespace U37
def b(kr:gh R):aA R:=kr 1 [] [] [] ([]++aF (aR [Ck.l 3] 1) 0 [CV.l 3 (aR [Ck.i ar] (aY 16))]++aF (aR [Ck.l 3] 1) 0 [CV.l 3 (aR [Ck.i ar] (aY 16))]++aF (aR [Ck.l 3] 1) 0 [CV.l 3 (aR [Ck.i ar] (aY 16))]) 0 [] [] 0
def v:ay×Row×Row×Row×Row×ay×Row×Row×ay:=(1,[],[],[],[]++aF (aR [Ck.l 3] 1) 0 [CV.l 3 (aR [Ck.i ar] (aY 16))]++aF (aR [Ck.l 3] 1) 0 [CV.l 3 (aR [Ck.i ar] (aY 16))]++aF (aR [Ck.l 3] 1) 0 [CV.l 3 (aR [Ck.i ar] (aY 16))],0,[],[],0)
theorem im(kr:gh R):b kr=kr v.1 v.2.1 v.2.2.1 v.2.2.2.1 v.2.2.2.2.1 v.2.2.2.2.2.1 v.2.2.2.2.2.2.1 v.2.2.2.2.2.2.2.1 v.2.2.2.2.2.2.2.2:=by first|rfl|(unfold b v;simp only[dI];(repeat' split)<;>rfl)
end U37

namespace cZ
def b(kr:GU R)(a:Row)(d e:ay):aA R:=bif decide (d<(a.length:ay))then bif decide (0<=d)&&decide (d<(a.length:ay))then kr (bN (↑(ed (nF (cq 64 (bN (bN (↑(ed (nF (cq 64 (bN (↑(ed (kJ (cq 64 (jT (bN (bN (e*6364136223846793005)+1442695040888963407)) (gj 2 (if aY 33<=64 then aY 33 else 64)))) (cq 64 (jT (bN (bN (e*6364136223846793005)+1442695040888963407)) (gj 2 (if aY 45<=64 then aY 45 else 64)))))):ay))) (cq 64 255))):ay)+bN (bS (au a d.toNat 0))))) (cq 64 255))):ay)) a (bN (d+1)) (bN (bN (e*6364136223846793005)+1442695040888963407))else ai else kr (bN (↑(ed (nF (cq 64 (bN (↑(ed (kJ (cq 64 (jT (bN (bN (e*6364136223846793005)+1442695040888963407)) (gj 2 (if aY 33<=64 then aY 33 else 64)))) (cq 64 (jT (bN (bN (e*6364136223846793005)+1442695040888963407)) (gj 2 (if aY 45<=64 then aY 45 else 64)))))):ay))) (cq 64 255))):ay)) a d (bN (bN (e*6364136223846793005)+1442695040888963407))
def vo:=b λr0 r1 r2 r3=>ah (r0,r1,r2,r3)
def c:=λa d e=>(vo a d e).isSome
def v:=λa d e=>(vo a d e).getD (0,[],0,0)
theorem out{x}:∀a d e,vo a d e=ah x->c a d e=aj/\v a d e=x:=λ_ _ _=>Lib.dL
end cZ

namespace mJ
def b(kr:GU R)(a:Row)(d e f:ay):aA R:=bif decide (f<=0)then kr 0 a d e else bif decide (f<=256)then bif cZ.c a d e then bif !decide (f=0)then kr (bZ (cZ.v a d e).1 f) (cZ.v a d e).2.1 (cZ.v a d e).2.2.1 (cZ.v a d e).2.2.2 else ai else ai else bif cZ.c a d e then bif cZ.c (cZ.v a d e).2.1 (cZ.v a d e).2.2.1 (cZ.v a d e).2.2.2 then bif cZ.c (cZ.v (cZ.v a d e).2.1 (cZ.v a d e).2.2.1 (cZ.v a d e).2.2.2).2.1 (cZ.v (cZ.v a d e).2.1 (cZ.v a d e).2.2.1 (cZ.v a d e).2.2.2).2.2.1 (cZ.v (cZ.v a d e).2.1 (cZ.v a d e).2.2.1 (cZ.v a d e).2.2.2).2.2.2 then bif cZ.c (cZ.v (cZ.v (cZ.v a d e).2.1 (cZ.v a d e).2.2.1 (cZ.v a d e).2.2.2).2.1 (cZ.v (cZ.v a d e).2.1 (cZ.v a d e).2.2.1 (cZ.v a d e).2.2.2).2.2.1 (cZ.v (cZ.v a d e).2.1 (cZ.v a d e).2.2.1 (cZ.v a d e).2.2.2).2.2.2).2.1 (cZ.v (cZ.v (cZ.v a d e).2.1 (cZ.v a d e).2.2.1 (cZ.v a d e).2.2.2).2.1 (cZ.v (cZ.v a d e).2.1 (cZ.v a d e).2.2.1 (cZ.v a d e).2.2.2).2.2.1 (cZ.v (cZ.v a d e).2.1 (cZ.v a d e).2.2.1 (cZ.v a d e).2.2.2).2.2.2).2.2.1 (cZ.v (cZ.v (cZ.v a d e).2.1 (cZ.v a d e).2.2.1 (cZ.v a d e).2.2.2).2.1 (cZ.v (cZ.v a d e).2.1 (cZ.v a d e).2.2.1 (cZ.v a d e).2.2.2).2.2.1 (cZ.v (cZ.v a d e).2.1 (cZ.v a d e).2.2.1 (cZ.v a d e).2.2.2).2.2.2).2.2.2 then bif !decide (f=0)then kr (bZ (bN (bN (bN (bN ((cZ.v a d e).1*16777216)+bN ((cZ.v (cZ.v a d e).2.1 (cZ.v a d e).2.2.1 (cZ.v a d e).2.2.2).1*65536))+bN ((cZ.v (cZ.v (cZ.v a d e).2.1 (cZ.v a d e).2.2.1 (cZ.v a d e).2.2.2).2.1 (cZ.v (cZ.v a d e).2.1 (cZ.v a d e).2.2.1 (cZ.v a d e).2.2.2).2.2.1 (cZ.v (cZ.v a d e).2.1 (cZ.v a d e).2.2.1 (cZ.v a d e).2.2.2).2.2.2).1*256))+(cZ.v (cZ.v (cZ.v (cZ.v a d e).2.1 (cZ.v a d e).2.2.1 (cZ.v a d e).2.2.2).2.1 (cZ.v (cZ.v a d e).2.1 (cZ.v a d e).2.2.1 (cZ.v a d e).2.2.2).2.2.1 (cZ.v (cZ.v a d e).2.1 (cZ.v a d e).2.2.1 (cZ.v a d e).2.2.2).2.2.2).2.1 (cZ.v (cZ.v (cZ.v a d e).2.1 (cZ.v a d e).2.2.1 (cZ.v a d e).2.2.2).2.1 (cZ.v (cZ.v a d e).2.1 (cZ.v a d e).2.2.1 (cZ.v a d e).2.2.2).2.2.1 (cZ.v (cZ.v a d e).2.1 (cZ.v a d e).2.2.1 (cZ.v a d e).2.2.2).2.2.2).2.2.1 (cZ.v (cZ.v (cZ.v a d e).2.1 (cZ.v a d e).2.2.1 (cZ.v a d e).2.2.2).2.1 (cZ.v (cZ.v a d e).2.1 (cZ.v a d e).2.2.1 (cZ.v a d e).2.2.2).2.2.1 (cZ.v (cZ.v a d e).2.1 (cZ.v a d e).2.2.1 (cZ.v a d e).2.2.2).2.2.2).2.2.2).1)) f) (cZ.v (cZ.v (cZ.v (cZ.v a d e).2.1 (cZ.v a d e).2.2.1 (cZ.v a d e).2.2.2).2.1 (cZ.v (cZ.v a d e).2.1 (cZ.v a d e).2.2.1 (cZ.v a d e).2.2.2).2.2.1 (cZ.v (cZ.v a d e).2.1 (cZ.v a d e).2.2.1 (cZ.v a d e).2.2.2).2.2.2).2.1 (cZ.v (cZ.v (cZ.v a d e).2.1 (cZ.v a d e).2.2.1 (cZ.v a d e).2.2.2).2.1 (cZ.v (cZ.v a d e).2.1 (cZ.v a d e).2.2.1 (cZ.v a d e).2.2.2).2.2.1 (cZ.v (cZ.v a d e).2.1 (cZ.v a d e).2.2.1 (cZ.v a d e).2.2.2).2.2.2).2.2.1 (cZ.v (cZ.v (cZ.v a d e).2.1 (cZ.v a d e).2.2.1 (cZ.v a d e).2.2.2).2.1 (cZ.v (cZ.v a d e).2.1 (cZ.v a d e).2.2.1 (cZ.v a d e).2.2.2).2.2.1 (cZ.v (cZ.v a d e).2.1 (cZ.v a d e).2.2.1 (cZ.v a d e).2.2.2).2.2.2).2.2.2).2.1 (cZ.v (cZ.v (cZ.v (cZ.v a d e).2.1 (cZ.v a d e).2.2.1 (cZ.v a d e).2.2.2).2.1 (cZ.v (cZ.v a d e).2.1 (cZ.v a d e).2.2.1 (cZ.v a d e).2.2.2).2.2.1 (cZ.v (cZ.v a d e).2.1 (cZ.v a d e).2.2.1 (cZ.v a d e).2.2.2).2.2.2).2.1 (cZ.v (cZ.v (cZ.v a d e).2.1 (cZ.v a d e).2.2.1 (cZ.v a d e).2.2.2).2.1 (cZ.v (cZ.v a d e).2.1 (cZ.v a d e).2.2.1 (cZ.v a d e).2.2.2).2.2.1 (cZ.v (cZ.v a d e).2.1 (cZ.v a d e).2.2.1 (cZ.v a d e).2.2.2).2.2.2).2.2.1 (cZ.v (cZ.v (cZ.v a d e).2.1 (cZ.v a d e).2.2.1 (cZ.v a d e).2.2.2).2.1 (cZ.v (cZ.v a d e).2.1 (cZ.v a d e).2.2.1 (cZ.v a d e).2.2.2).2.2.1 (cZ.v (cZ.v a d e).2.1 (cZ.v a d e).2.2.1 (cZ.v a d e).2.2.2).2.2.2).2.2.2).2.2.1 (cZ.v (cZ.v (cZ.v (cZ.v a d e).2.1 (cZ.v a d e).2.2.1 (cZ.v a d e).2.2.2).2.1 (cZ.v (cZ.v a d e).2.1 (cZ.v a d e).2.2.1 (cZ.v a d e).2.2.2).2.2.1 (cZ.v (cZ.v a d e).2.1 (cZ.v a d e).2.2.1 (cZ.v a d e).2.2.2).2.2.2).2.1 (cZ.v (cZ.v (cZ.v a d e).2.1 (cZ.v a d e).2.2.1 (cZ.v a d e).2.2.2).2.1 (cZ.v (cZ.v a d e).2.1 (cZ.v a d e).2.2.1 (cZ.v a d e).2.2.2).2.2.1 (cZ.v (cZ.v a d e).2.1 (cZ.v a d e).2.2.1 (cZ.v a d e).2.2.2).2.2.2).2.2.1 (cZ.v (cZ.v (cZ.v a d e).2.1 (cZ.v a d e).2.2.1 (cZ.v a d e).2.2.2).2.1 (cZ.v (cZ.v a d e).2.1 (cZ.v a d e).2.2.1 (cZ.v a d e).2.2.2).2.2.1 (cZ.v (cZ.v a d e).2.1 (cZ.v a d e).2.2.1 (cZ.v a d e).2.2.2).2.2.2).2.2.2).2.2.2 else ai else ai else ai else ai else ai
def vo:=b λr0 r1 r2 r3=>ah (r0,r1,r2,r3)
def c:=λa d e f=>(vo a d e f).isSome
def v:=λa d e f=>(vo a d e f).getD (0,[],0,0)
theorem out{x}:∀a d e f,vo a d e f=ah x->c a d e f=aj/\v a d e f=x:=λ_ _ _ _=>Lib.dL
end mJ

namespace mw
def b(kr:x_ R)(a:Row)(d e:ay)(f:Row):aA R:=bif mJ.c a d e (f.length:ay)then bif decide (0<=(mJ.v a d e (f.length:ay)).1)&&decide ((mJ.v a d e (f.length:ay)).1<(f.length:ay))then kr (bS (au f (mJ.v a d e (f.length:ay)).1.toNat 0)) (mJ.v a d e (f.length:ay)).2.1 (mJ.v a d e (f.length:ay)).2.2.1 (mJ.v a d e (f.length:ay)).2.2.2 f else ai else ai
def vo:=b λr0 r1 r2 r3 r4=>ah (r0,r1,r2,r3,r4)
def c:=λa d e f=>(vo a d e f).isSome
def v:=λa d e f=>(vo a d e f).getD (0,[],0,0,[])
theorem out{x}:∀a d e f,vo a d e f=ah x->c a d e f=aj/\v a d e f=x:=λ_ _ _ _=>Lib.dL
end mw

namespace oh
def b(kr:RG R)(a:Row)(d e:ay)(f:Row):aA R:=bif mJ.c a d e (f.length:ay)then bif decide (0<=(mJ.v a d e (f.length:ay)).1)&&decide ((mJ.v a d e (f.length:ay)).1<(f.length:ay))then kr (bJ (au f (mJ.v a d e (f.length:ay)).1.toNat 0)) (mJ.v a d e (f.length:ay)).2.1 (mJ.v a d e (f.length:ay)).2.2.1 (mJ.v a d e (f.length:ay)).2.2.2 f else ai else ai
def vo:=b λr0 r1 r2 r3 r4=>ah (r0,r1,r2,r3,r4)
def c:=λa d e f=>(vo a d e f).isSome
def v:=λa d e f=>(vo a d e f).getD (⟨#[]⟩,[],0,0,[])
theorem out{x}:∀a d e f,vo a d e f=ah x->c a d e f=aj/\v a d e f=x:=λ_ _ _ _=>Lib.dL
end oh

namespace sD
def b(kr:CE R)(a:Row)(d e:ay):aA R:=bif oh.c a d e (aF (aF (aF (aF (aF (aF (aF (aF (aR [.s] 8) 0 [.s {data:= #[ak 47,ak 97]}]) 1 [.s {data:= #[ak 47,ak 98]}]) 2 [.s {data:= #[ak 47,ak 99]}]) 3 [.s {data:= #[ak 47,ak 100]}]) 4 [.s {data:= #[ak 47,ak 101]}]) 5 [.s {data:= #[ak 47,ak 102]}]) 6 [.s {data:= #[ak 47,ak 103]}]) 7 [.s {data:= #[ak 47,ak 104]}])then kr (oh.v a d e (aF (aF (aF (aF (aF (aF (aF (aF (aR [.s] 8) 0 [.s {data:= #[ak 47,ak 97]}]) 1 [.s {data:= #[ak 47,ak 98]}]) 2 [.s {data:= #[ak 47,ak 99]}]) 3 [.s {data:= #[ak 47,ak 100]}]) 4 [.s {data:= #[ak 47,ak 101]}]) 5 [.s {data:= #[ak 47,ak 102]}]) 6 [.s {data:= #[ak 47,ak 103]}]) 7 [.s {data:= #[ak 47,ak 104]}])).1 (oh.v a d e (aF (aF (aF (aF (aF (aF (aF (aF (aR [.s] 8) 0 [.s {data:= #[ak 47,ak 97]}]) 1 [.s {data:= #[ak 47,ak 98]}]) 2 [.s {data:= #[ak 47,ak 99]}]) 3 [.s {data:= #[ak 47,ak 100]}]) 4 [.s {data:= #[ak 47,ak 101]}]) 5 [.s {data:= #[ak 47,ak 102]}]) 6 [.s {data:= #[ak 47,ak 103]}]) 7 [.s {data:= #[ak 47,ak 104]}])).2.1 (oh.v a d e (aF (aF (aF (aF (aF (aF (aF (aF (aR [.s] 8) 0 [.s {data:= #[ak 47,ak 97]}]) 1 [.s {data:= #[ak 47,ak 98]}]) 2 [.s {data:= #[ak 47,ak 99]}]) 3 [.s {data:= #[ak 47,ak 100]}]) 4 [.s {data:= #[ak 47,ak 101]}]) 5 [.s {data:= #[ak 47,ak 102]}]) 6 [.s {data:= #[ak 47,ak 103]}]) 7 [.s {data:= #[ak 47,ak 104]}])).2.2.1 (oh.v a d e (aF (aF (aF (aF (aF (aF (aF (aF (aR [.s] 8) 0 [.s {data:= #[ak 47,ak 97]}]) 1 [.s {data:= #[ak 47,ak 98]}]) 2 [.s {data:= #[ak 47,ak 99]}]) 3 [.s {data:= #[ak 47,ak 100]}]) 4 [.s {data:= #[ak 47,ak 101]}]) 5 [.s {data:= #[ak 47,ak 102]}]) 6 [.s {data:= #[ak 47,ak 103]}]) 7 [.s {data:= #[ak 47,ak 104]}])).2.2.2.1 else ai
def vo:=b λr0 r1 r2 r3=>ah (r0,r1,r2,r3)
def c:=λa d e=>(vo a d e).isSome
def v:=λa d e=>(vo a d e).getD (⟨#[]⟩,[],0,0)
theorem out{x}:∀a d e,vo a d e=ah x->c a d e=aj/\v a d e=x:=λ_ _ _=>Lib.dL
end sD

namespace Gw
def b(kr:XP R)(a:Row)(d e f:ay):aA R:=bif mJ.c a d e f then kr (decide ((mJ.v a d e f).1=0)) (mJ.v a d e f).2.1 (mJ.v a d e f).2.2.1 (mJ.v a d e f).2.2.2 else ai
def vo:=b λr0 r1 r2 r3=>ah (r0,r1,r2,r3)
def c:=λa d e f=>(vo a d e f).isSome
def v:=λa d e f=>(vo a d e f).getD (ao,[],0,0)
theorem out{x}:∀a d e f,vo a d e f=ah x->c a d e f=aj/\v a d e f=x:=λ_ _ _ _=>Lib.dL
end Gw

namespace G8
def r4(N:aG)(g k0:fY R)(a d e f:ay)(h:Row)(i j:ay)(l m o p q r s t u:Row)(w y z α xa:ay)(xb:aq)(xc xd xe:ay)(xf:aq)(xg:ay)(xh:Row):aA R:=bif decide (f<(q.length:ay))then bif decide (0<=f)&&decide (f<(q.length:ay))then bif decide (bS (au q f.toNat 2)=1)then bif cF (xh.length+(aF (aR [Ck.i ar] 1) 0 [.i .i64 f]).length) 8 then g a d e (bN (f+1)) h i j l m o p q r s t u w y z α xa xb xc xd xe xf xg (xh++aF (aR [Ck.i ar] 1) 0 [.i .i64 f])else ai else g a d e (bN (f+1)) h i j l m o p q r s t u w y z α xa xb xc xd xe xf xg xh else ai else k0 a d e f h i j l m o p q r s t u w y z α xa xb xc xd xe xf xg xh
def l4(N:aG)(k0:fY R):aG->fY R
 |0=>λ_ _ _ _ _ _ _ _ _ _ _ _ _ _ _ _ _ _ _ _ _ _ _ _ _ _ _ _=>ai
 |n+1=>r4 N (l4 N k0 n) k0
abbrev h0{R:Type}(kr:gE R)(w:Row)(y z:ay)(α xa xb xc xd xe xf xg xh:Row)(xi:ay)(xk:aq)(xl:ay)(xm:Row):aA R:=bif mJ.c w y z 3 then Lib.lt (mJ.v w y z 3) λxn=>bif decide ((xm.length:ay)>0)then bif Gw.c xn.2.1 xn.2.2.1 xn.2.2.2 6 then Lib.lt (Gw.v xn.2.1 xn.2.2.1 xn.2.2.2 6) λxo=>bif !xo.1 then bif mJ.c xo.2.1 xo.2.2.1 xo.2.2.2 (xm.length:ay)then Lib.lt (mJ.v xo.2.1 xo.2.2.1 xo.2.2.2 (xm.length:ay)) λxp=>bif decide (0<=xp.1)&&decide (xp.1<(xm.length:ay))then bif decide (xi=2)then bif oh.c xp.2.1 xp.2.2.1 xp.2.2.2 (aF (aF (aF (aF (aR [.s] 4) 0 [.s {data:= #[ak 120]}]) 1 [.s {data:= #[ak 104,ak 101,ak 108,ak 108,ak 111]}]) 2 [.s {data:= #[ak 109,ak 111,ak 114,ak 101,ak 32]}]) 3 [.s {data:= #[ak 48,ak 49,ak 50,ak 51,ak 52,ak 53,ak 54,ak 55,ak 56,ak 57]}])then Lib.lt (oh.v xp.2.1 xp.2.2.1 xp.2.2.2 (aF (aF (aF (aF (aR [.s] 4) 0 [.s {data:= #[ak 120]}]) 1 [.s {data:= #[ak 104,ak 101,ak 108,ak 108,ak 111]}]) 2 [.s {data:= #[ak 109,ak 111,ak 114,ak 101,ak 32]}]) 3 [.s {data:= #[ak 48,ak 49,ak 50,ak 51,ak 52,ak 53,ak 54,ak 55,ak 56,ak 57]}])) λxq=>bif decide (xi=3)then bif mw.c xq.2.1 xq.2.2.1 xq.2.2.2.1 (aF (aF (aF (aF (aF (aR [Ck.i ar] 5) 0 [.i .i64 0]) 1 [.i .i64 3]) 2 [.i .i64 20]) 3 [.i .i64 60]) 4 [.i .i64 60])then Lib.lt (mw.v xq.2.1 xq.2.2.1 xq.2.2.2.1 (aF (aF (aF (aF (aF (aR [Ck.i ar] 5) 0 [.i .i64 0]) 1 [.i .i64 3]) 2 [.i .i64 20]) 3 [.i .i64 60]) 4 [.i .i64 60])) λxr=>kr xi (bS (au xm xp.1.toNat 0)) xq.1 xr.1 [] xr.2.1 xr.2.2.1 xr.2.2.2.1 α xa xb xc xd xe xf xg xh else ai else kr xi (bS (au xm xp.1.toNat 0)) xq.1 xl [] xq.2.1 xq.2.2.1 xq.2.2.2.1 α xa xb xc xd xe xf xg xh else ai else bif decide (xi=3)then bif mw.c xp.2.1 xp.2.2.1 xp.2.2.2 (aF (aF (aF (aF (aF (aR [Ck.i ar] 5) 0 [.i .i64 0]) 1 [.i .i64 3]) 2 [.i .i64 20]) 3 [.i .i64 60]) 4 [.i .i64 60])then Lib.lt (mw.v xp.2.1 xp.2.2.1 xp.2.2.2 (aF (aF (aF (aF (aF (aR [Ck.i ar] 5) 0 [.i .i64 0]) 1 [.i .i64 3]) 2 [.i .i64 20]) 3 [.i .i64 60]) 4 [.i .i64 60])) λxq=>kr xi (bS (au xm xp.1.toNat 0)) xk xq.1 [] xq.2.1 xq.2.2.1 xq.2.2.2.1 α xa xb xc xd xe xf xg xh else ai else kr xi (bS (au xm xp.1.toNat 0)) xk xl [] xp.2.1 xp.2.2.1 xp.2.2.2 α xa xb xc xd xe xf xg xh else ai else ai else bif decide (xi=2)then bif oh.c xo.2.1 xo.2.2.1 xo.2.2.2 (aF (aF (aF (aF (aR [.s] 4) 0 [.s {data:= #[ak 120]}]) 1 [.s {data:= #[ak 104,ak 101,ak 108,ak 108,ak 111]}]) 2 [.s {data:= #[ak 109,ak 111,ak 114,ak 101,ak 32]}]) 3 [.s {data:= #[ak 48,ak 49,ak 50,ak 51,ak 52,ak 53,ak 54,ak 55,ak 56,ak 57]}])then Lib.lt (oh.v xo.2.1 xo.2.2.1 xo.2.2.2 (aF (aF (aF (aF (aR [.s] 4) 0 [.s {data:= #[ak 120]}]) 1 [.s {data:= #[ak 104,ak 101,ak 108,ak 108,ak 111]}]) 2 [.s {data:= #[ak 109,ak 111,ak 114,ak 101,ak 32]}]) 3 [.s {data:= #[ak 48,ak 49,ak 50,ak 51,ak 52,ak 53,ak 54,ak 55,ak 56,ak 57]}])) λxp=>bif decide (xi=3)then bif mw.c xp.2.1 xp.2.2.1 xp.2.2.2.1 (aF (aF (aF (aF (aF (aR [Ck.i ar] 5) 0 [.i .i64 0]) 1 [.i .i64 3]) 2 [.i .i64 20]) 3 [.i .i64 60]) 4 [.i .i64 60])then Lib.lt (mw.v xp.2.1 xp.2.2.1 xp.2.2.2.1 (aF (aF (aF (aF (aF (aR [Ck.i ar] 5) 0 [.i .i64 0]) 1 [.i .i64 3]) 2 [.i .i64 20]) 3 [.i .i64 60]) 4 [.i .i64 60])) λxq=>kr xi xn.1 xp.1 xq.1 [] xq.2.1 xq.2.2.1 xq.2.2.2.1 α xa xb xc xd xe xf xg xh else ai else kr xi xn.1 xp.1 xl [] xp.2.1 xp.2.2.1 xp.2.2.2.1 α xa xb xc xd xe xf xg xh else ai else bif decide (xi=3)then bif mw.c xo.2.1 xo.2.2.1 xo.2.2.2 (aF (aF (aF (aF (aF (aR [Ck.i ar] 5) 0 [.i .i64 0]) 1 [.i .i64 3]) 2 [.i .i64 20]) 3 [.i .i64 60]) 4 [.i .i64 60])then Lib.lt (mw.v xo.2.1 xo.2.2.1 xo.2.2.2 (aF (aF (aF (aF (aF (aR [Ck.i ar] 5) 0 [.i .i64 0]) 1 [.i .i64 3]) 2 [.i .i64 20]) 3 [.i .i64 60]) 4 [.i .i64 60])) λxp=>kr xi xn.1 xk xp.1 [] xp.2.1 xp.2.2.1 xp.2.2.2.1 α xa xb xc xd xe xf xg xh else ai else kr xi xn.1 xk xl [] xo.2.1 xo.2.2.1 xo.2.2.2 α xa xb xc xd xe xf xg xh else ai else bif decide (xi=2)then bif oh.c xn.2.1 xn.2.2.1 xn.2.2.2 (aF (aF (aF (aF (aR [.s] 4) 0 [.s {data:= #[ak 120]}]) 1 [.s {data:= #[ak 104,ak 101,ak 108,ak 108,ak 111]}]) 2 [.s {data:= #[ak 109,ak 111,ak 114,ak 101,ak 32]}]) 3 [.s {data:= #[ak 48,ak 49,ak 50,ak 51,ak 52,ak 53,ak 54,ak 55,ak 56,ak 57]}])then Lib.lt (oh.v xn.2.1 xn.2.2.1 xn.2.2.2 (aF (aF (aF (aF (aR [.s] 4) 0 [.s {data:= #[ak 120]}]) 1 [.s {data:= #[ak 104,ak 101,ak 108,ak 108,ak 111]}]) 2 [.s {data:= #[ak 109,ak 111,ak 114,ak 101,ak 32]}]) 3 [.s {data:= #[ak 48,ak 49,ak 50,ak 51,ak 52,ak 53,ak 54,ak 55,ak 56,ak 57]}])) λxo=>bif decide (xi=3)then bif mw.c xo.2.1 xo.2.2.1 xo.2.2.2.1 (aF (aF (aF (aF (aF (aR [Ck.i ar] 5) 0 [.i .i64 0]) 1 [.i .i64 3]) 2 [.i .i64 20]) 3 [.i .i64 60]) 4 [.i .i64 60])then Lib.lt (mw.v xo.2.1 xo.2.2.1 xo.2.2.2.1 (aF (aF (aF (aF (aF (aR [Ck.i ar] 5) 0 [.i .i64 0]) 1 [.i .i64 3]) 2 [.i .i64 20]) 3 [.i .i64 60]) 4 [.i .i64 60])) λxp=>kr xi xn.1 xo.1 xp.1 [] xp.2.1 xp.2.2.1 xp.2.2.2.1 α xa xb xc xd xe xf xg xh else ai else kr xi xn.1 xo.1 xl [] xo.2.1 xo.2.2.1 xo.2.2.2.1 α xa xb xc xd xe xf xg xh else ai else bif decide (xi=3)then bif mw.c xn.2.1 xn.2.2.1 xn.2.2.2 (aF (aF (aF (aF (aF (aR [Ck.i ar] 5) 0 [.i .i64 0]) 1 [.i .i64 3]) 2 [.i .i64 20]) 3 [.i .i64 60]) 4 [.i .i64 60])then Lib.lt (mw.v xn.2.1 xn.2.2.1 xn.2.2.2 (aF (aF (aF (aF (aF (aR [Ck.i ar] 5) 0 [.i .i64 0]) 1 [.i .i64 3]) 2 [.i .i64 20]) 3 [.i .i64 60]) 4 [.i .i64 60])) λxo=>kr xi xn.1 xk xo.1 [] xo.2.1 xo.2.2.1 xo.2.2.2.1 α xa xb xc xd xe xf xg xh else ai else kr xi xn.1 xk xl [] xn.2.1 xn.2.2.1 xn.2.2.2 α xa xb xc xd xe xf xg xh else ai
abbrev h1{R:Type}(kr:gE R)(w:Row)(y z:ay)(α xa xb xc xd xe xf xg xh:Row)(xi xj:ay)(xk:aq)(xl:ay):aA R:=bif decide (xi=5)then bif mw.c w y z (aF (aF (aF (aF (aR [Ck.i ar] 4) 0 [.i .i64 1]) 1 [.i .i64 2]) 2 [.i .i64 5]) 3 [.i .i64 30])then Lib.lt (mw.v w y z (aF (aF (aF (aF (aR [Ck.i ar] 4) 0 [.i .i64 1]) 1 [.i .i64 2]) 2 [.i .i64 5]) 3 [.i .i64 30])) λxn=>kr xi xj xk xn.1 [] xn.2.1 xn.2.2.1 xn.2.2.2.1 α xa xb xc xd xe xf xg xh else ai else bif decide (xi=6)then bif mJ.c w y z 9 then Lib.lt (mJ.v w y z 9) λxn=>bif decide ((xe.length:ay)>0)then bif Gw.c xn.2.1 xn.2.2.1 xn.2.2.2 4 then Lib.lt (Gw.v xn.2.1 xn.2.2.1 xn.2.2.2 4) λxo=>bif !xo.1 then bif mJ.c xo.2.1 xo.2.2.1 xo.2.2.2 (xe.length:ay)then Lib.lt (mJ.v xo.2.1 xo.2.2.1 xo.2.2.2 (xe.length:ay)) λxp=>bif decide (0<=xp.1)&&decide (xp.1<(xe.length:ay))then kr xi (bS (au xe xp.1.toNat 0)) xk xl [] xp.2.1 xp.2.2.1 xp.2.2.2 α xa xb xc xd xe xf xg xh else ai else ai else kr xi (bN (1+xn.1)) xk xl [] xo.2.1 xo.2.2.1 xo.2.2.2 α xa xb xc xd xe xf xg xh else ai else kr xi (bN (1+xn.1)) xk xl [] xn.2.1 xn.2.2.1 xn.2.2.2 α xa xb xc xd xe xf xg xh else ai else kr xi xj xk xl [] w y z α xa xb xc xd xe xf xg xh
abbrev h2{R:Type}(kr:gE R)(w:Row)(y z:ay)(α xa xb xc xd xe xf xg xh:Row)(xk:aq)(xl:ay):aA R:=bif mJ.c w y z 9 then Lib.lt (mJ.v w y z 9) λxn=>bif decide ((xe.length:ay)>0)then bif Gw.c xn.2.1 xn.2.2.1 xn.2.2.2 4 then Lib.lt (Gw.v xn.2.1 xn.2.2.1 xn.2.2.2 4) λxo=>bif !xo.1 then bif mJ.c xo.2.1 xo.2.2.1 xo.2.2.2 (xe.length:ay)then Lib.lt (mJ.v xo.2.1 xo.2.2.1 xo.2.2.2 (xe.length:ay)) λxp=>bif decide (0<=xp.1)&&decide (xp.1<(xe.length:ay))then kr 6 (bS (au xe xp.1.toNat 0)) xk xl [] xp.2.1 xp.2.2.1 xp.2.2.2 α xa xb xc xd xe xf xg xh else ai else ai else kr 6 (bN (1+xn.1)) xk xl [] xo.2.1 xo.2.2.1 xo.2.2.2 α xa xb xc xd xe xf xg xh else ai else kr 6 (bN (1+xn.1)) xk xl [] xn.2.1 xn.2.2.1 xn.2.2.2 α xa xb xc xd xe xf xg xh else ai
abbrev h3{R:Type}(kr:gE R)(w:Row)(y z:ay)(α xa xb xc xd xe xf xg xh:Row)(xi xl:ay):aA R:=bif mJ.c w y z 9 then Lib.lt (mJ.v w y z 9) λxn=>bif sD.c xn.2.1 xn.2.2.1 xn.2.2.2 then Lib.lt (sD.v xn.2.1 xn.2.2.1 xn.2.2.2) λxo=>kr xi (bN (1+xn.1)) xo.1 xl [] xo.2.1 xo.2.2.1 xo.2.2.2 α xa xb xc xd xe xf xg xh else ai else ai
def b(N:aG)(kr:gE R)(a:Row)(d e f:ay)(h i j l:Row)(m:ay)(o p:Row)(q:ay)(r s t:Row):aA R:=bif mw.c a d e (aF (aF (aF (aF (aF (aF (aF (aF (aF (aF (aF (aF (aF (aF (aR [Ck.i ar] 14) 0 [.i .i64 1]) 1 [.i .i64 1]) 2 [.i .i64 1]) 3 [.i .i64 1]) 4 [.i .i64 2]) 5 [.i .i64 2]) 6 [.i .i64 2]) 7 [.i .i64 3]) 8 [.i .i64 3]) 9 [.i .i64 3]) 10 [.i .i64 4]) 11 [.i .i64 5]) 12 [.i .i64 6]) 13 [.i .i64 6])then Lib.lt (mw.v a d e (aF (aF (aF (aF (aF (aF (aF (aF (aF (aF (aF (aF (aF (aF (aR [Ck.i ar] 14) 0 [.i .i64 1]) 1 [.i .i64 1]) 2 [.i .i64 1]) 3 [.i .i64 1]) 4 [.i .i64 2]) 5 [.i .i64 2]) 6 [.i .i64 2]) 7 [.i .i64 3]) 8 [.i .i64 3]) 9 [.i .i64 3]) 10 [.i .i64 4]) 11 [.i .i64 5]) 12 [.i .i64 6]) 13 [.i .i64 6])) λu=>l4 N (λ_ _ _ _ w y z α xa xb xc xd xe xf xg xh _ _ _ _ _ _ _ xi xj xk xl xm=>bif decide ((xm.length:ay)=0)then bif decide (xi=2)then bif decide ((xe.length:ay)≥6)then h2 kr w y z α xa xb xc xd xe xf xg xh xk xl else bif mJ.c w y z 9 then Lib.lt (mJ.v w y z 9) λxn=>bif sD.c xn.2.1 xn.2.2.1 xn.2.2.2 then Lib.lt (sD.v xn.2.1 xn.2.2.1 xn.2.2.2) λxo=>kr 1 (bN (1+xn.1)) xo.1 xl [] xo.2.1 xo.2.2.1 xo.2.2.2 α xa xb xc xd xe xf xg xh else ai else ai else bif decide (xi=3)then bif decide ((xe.length:ay)≥6)then h2 kr w y z α xa xb xc xd xe xf xg xh xk xl else bif mJ.c w y z 9 then Lib.lt (mJ.v w y z 9) λxn=>bif sD.c xn.2.1 xn.2.2.1 xn.2.2.2 then Lib.lt (sD.v xn.2.1 xn.2.2.1 xn.2.2.2) λxo=>kr 1 (bN (1+xn.1)) xo.1 xl [] xo.2.1 xo.2.2.1 xo.2.2.2 α xa xb xc xd xe xf xg xh else ai else ai else bif decide ((xe.length:ay)≥6)then bif decide (xi=1)then h2 kr w y z α xa xb xc xd xe xf xg xh xk xl else bif decide (xi=1)then h3 kr w y z α xa xb xc xd xe xf xg xh xi xl else bif decide (xi=2)then h0 kr w y z α xa xb xc xd xe xf xg xh xi xk xl xm else bif decide (xi=3)then h0 kr w y z α xa xb xc xd xe xf xg xh xi xk xl xm else bif decide (xi=4)then h0 kr w y z α xa xb xc xd xe xf xg xh xi xk xl xm else h1 kr w y z α xa xb xc xd xe xf xg xh xi xj xk xl else bif decide (xi=1)then h3 kr w y z α xa xb xc xd xe xf xg xh xi xl else bif decide (xi=2)then h0 kr w y z α xa xb xc xd xe xf xg xh xi xk xl xm else bif decide (xi=3)then h0 kr w y z α xa xb xc xd xe xf xg xh xi xk xl xm else bif decide (xi=4)then h0 kr w y z α xa xb xc xd xe xf xg xh xi xk xl xm else h1 kr w y z α xa xb xc xd xe xf xg xh xi xj xk xl else bif decide ((xe.length:ay)≥6)then bif decide (xi=1)then h2 kr w y z α xa xb xc xd xe xf xg xh xk xl else bif decide (xi=1)then h3 kr w y z α xa xb xc xd xe xf xg xh xi xl else bif decide (xi=2)then h0 kr w y z α xa xb xc xd xe xf xg xh xi xk xl xm else bif decide (xi=3)then h0 kr w y z α xa xb xc xd xe xf xg xh xi xk xl xm else bif decide (xi=4)then h0 kr w y z α xa xb xc xd xe xf xg xh xi xk xl xm else h1 kr w y z α xa xb xc xd xe xf xg xh xi xj xk xl else bif decide (xi=1)then h3 kr w y z α xa xb xc xd xe xf xg xh xi xl else bif decide (xi=2)then h0 kr w y z α xa xb xc xd xe xf xg xh xi xk xl xm else bif decide (xi=3)then h0 kr w y z α xa xb xc xd xe xf xg xh xi xk xl xm else bif decide (xi=4)then h0 kr w y z α xa xb xc xd xe xf xg xh xi xk xl xm else h1 kr w y z α xa xb xc xd xe xf xg xh xi xj xk xl) N f m q 0 u.2.1 u.2.2.1 u.2.2.2.1 h i j l o p r s t f m q 0 0 ⟨#[]⟩ 0 u.1 0 ⟨#[]⟩ 0 (aR [Ck.i ar] 0)else ai
def vo:=b Lib.cR λr0 r1 r2 r3 r4 r5 r6 r7 r8 r9 GJ PW r12 r13 r14 r15 r16=>ah (r0,r1,r2,r3,r4,r5,r6,r7,r8,r9,GJ,PW,r12,r13,r14,r15,r16)
def c:=λa d e f h i j l m o p q r s t=>(vo a d e f h i j l m o p q r s t).isSome
def v:=λa d e f h i j l m o p q r s t=>(vo a d e f h i j l m o p q r s t).getD (0,0,⟨#[]⟩,0,[],[],0,0,[],[],[],[],[],[],[],[],[])
theorem out{x}:∀a d e f h i j l m o p q r s t,vo a d e f h i j l m o p q r s t=ah x->c a d e f h i j l m o p q r s t=aj/\v a d e f h i j l m o p q r s t=x:=λ_ _ _ _ _ _ _ _ _ _ _ _ _ _ _=>Lib.dL
end G8

namespace mQ
def r3(N:aG)(g:pK R)(g1:nG R)(k0:pK R)(k1:nG R)(a:ay)(d:Row)(e f h:ay):aA R:=bif decide (a<(d.length:ay))then bif decide (0<=a)&&decide (a<(d.length:ay))then bif cF ((aR [Ck.i ar] 0).length+(kU (au d a.toNat 0)).length) 8 then g1 (bN (a+1)) d e f h ([]++aF (aR [Ck.l 3] 1) 0 [CV.l 3 (aR [Ck.i ar] 0++kU (au d a.toNat 0))])else ai else ai else k0 a d e f h
def uU(N:aG)(g:pK R)(g1:nG R)(k0:pK R)(k1:nG R)(a:ay)(d:Row)(e f h:ay)(i:Row):aA R:=bif decide (a<(d.length:ay))then bif decide (0<=a)&&decide (a<(d.length:ay))then bif cF ((aR [Ck.i ar] 0).length+(kU (au d a.toNat 0)).length) 8 then bif cF (i.length+(aF (aR [Ck.l 3] 1) 0 [CV.l 3 (aR [Ck.i ar] 0++kU (au d a.toNat 0))]).length) 24 then g1 (bN (a+1)) d e f h (i++aF (aR [Ck.l 3] 1) 0 [CV.l 3 (aR [Ck.i ar] 0++kU (au d a.toNat 0))])else ai else ai else ai else k1 a d e f h i
def oa(N:aG)(k0:pK R)(k1:nG R):aG->nG R
 |0=>λ_ _ _ _ _ _=>ai
 |n+1=>uU N (λx0 x1 x2 x3 x4=>ai) (oa N k0 k1 n) k0 k1
def l3(N:aG)(k0:pK R)(k1:nG R):aG->pK R
 |0=>λ_ _ _ _ _=>ai
 |n+1=>r3 N (l3 N k0 k1 n) (oa N k0 k1 n) k0 k1
def b(N:aG)(kr:vD R)(a:Row)(d:ay):aA R:=l3 N (λ_ _ _ _ e=>kr [] e) (λ_ _ _ _ e f=>kr f e) N 0 a d 0 d
def vo:=b Lib.cR λr0 r1=>ah (r0,r1)
def c:=λa d=>(vo a d).isSome
def v:=λa d=>(vo a d).getD ([],0)
theorem out{x}:∀a d,vo a d=ah x->c a d=aj/\v a d=x:=λ_ _=>Lib.dL
end mQ

namespace e7
def b(kr:CB R)(a d e:Row)(f:ay):aA R:=bif cF ((aR [.s] 0).length+a.length) 16 then bif cF ((aR [.s] 0).length+d.length) 16 then bif mQ.c e f then kr (aR [.s] 0++a) (aR [.s] 0++d) (mQ.v e f).1 (mQ.v e f).2 else ai else ai else ai
def vo:=b λr0 r1 r2 r3=>ah (r0,r1,r2,r3)
def c:=λa d e f=>(vo a d e f).isSome
def v:=λa d e f=>(vo a d e f).getD ([],[],[],0)
theorem out{x}:∀a d e f,vo a d e f=ah x->c a d e f=aj/\v a d e f=x:=λ_ _ _ _=>Lib.dL
end e7

namespace j7
def b(kr:gh R)(a:ay)(d e f h:Row)(i:ay)(j l:Row)(m:ay):aA R:=bif cF ((aR [Ck.s,Ck.i ar,Ck.i ar,Ck.s] 0).length+d.length) 48 then bif e7.c e f h i then bif cF ((aR [Ck.s,Ck.s,Ck.i ar,Ck.i ar,Ck.i ar] 0).length+j.length) 56 then bif cF ((aR [Ck.i ar,Ck.s,Ck.i ar,Ck.i ar,Ck.i ar,Ck.s,Ck.i ar] 0).length+l.length) 72 then kr a (aR [Ck.s,Ck.i ar,Ck.i ar,Ck.s] 0++d) (e7.v e f h i).1 (e7.v e f h i).2.1 (e7.v e f h i).2.2.1 (e7.v e f h i).2.2.2 (aR [Ck.s,Ck.s,Ck.i ar,Ck.i ar,Ck.i ar] 0++j) (aR [Ck.i ar,Ck.s,Ck.i ar,Ck.i ar,Ck.i ar,Ck.s,Ck.i ar] 0++l) m else ai else ai else ai else ai
def vo:=b λr0 r1 r2 r3 r4 r5 r6 r7 r8=>ah (r0,r1,r2,r3,r4,r5,r6,r7,r8)
def c:=λa d e f h i j l m=>(vo a d e f h i j l m).isSome
def v:=λa d e f h i j l m=>(vo a d e f h i j l m).getD (0,[],[],[],[],0,[],[],0)
theorem out{x}:∀a d e f h i j l m,vo a d e f h i j l m=ah x->c a d e f h i j l m=aj/\v a d e f h i j l m=x:=λ_ _ _ _ _ _ _ _ _=>Lib.dL
end j7

namespace jN
def b(kr:aU->aA R)(a d e:ay):aA R:=bif decide (a≥d)then kr (decide (a<=e))else kr ao
def v(a0 a1 a2:ay):aU:=bif decide (a0≥a1)then decide (a0<=a2)else ao
theorem im(kr:aU->aA R)(a0 a1 a2:ay):b kr a0 a1 a2=kr (v a0 a1 a2):=by first|rfl|(unfold b v;simp only[dI];(repeat' split)<;>rfl)
end jN

namespace qS
def b(kr:aU->aA R)(a:aq):aA R:=kr (jN.v (a.size:ay) 1 30)
def v(a0:aq):aU:=(jN.v (a0.size:ay) 1 30)
theorem im(kr:aU->aA R)(a0:aq):b kr a0=kr (v a0):=by first|rfl|(unfold b v;simp only[dI];(repeat' split)<;>rfl)
end qS

namespace ie
def b(kr:aU->aA R)(a:aq)(d e:ay)(f:aq):aA R:=bif qS.v a then bif jN.v d 0 1000000000 then bif jN.v e 1 999999 then kr (decide ((f.size:ay)<=400))else kr ao else kr ao else kr ao
def v(a0:aq)(a1 a2:ay)(a3:aq):aU:=bif qS.v a0 then bif jN.v a1 0 1000000000 then bif jN.v a2 1 999999 then decide ((a3.size:ay)<=400)else ao else ao else ao
theorem im(kr:aU->aA R)(a0:aq)(a1 a2:ay)(a3:aq):b kr a0 a1 a2 a3=kr (v a0 a1 a2 a3):=by first|rfl|(unfold b v;simp only[dI];(repeat' split)<;>rfl)
theorem DX{k:aq}{s l:ay}{b:aq}(h:v k s l b=aj):(1<=k.size/\k.size<=30)/\(0<=s/\s<=1000000000)/\(1<=l/\l<=999999)/\b.size<=400:=by unfold v at h;cases h1:qS.v k<;>rw[h1]at h<;>simp only[aw,az,cN]at h;cases h2:jN.v s 0 1000000000<;>rw[h2]at h<;>simp only[aw,az,cN]at h;cases h3:jN.v l 1 999999<;>rw[h3]at h<;>simp only[aw,az,cN]at h;simp[qS.v,jN.v]at h1 h2 h3;have:=ca h;omega
end ie

namespace e9
def r2(N:aG)(g k0 k1:GW R)(a:Row)(d:aq)(e:aU)(f:ay):aA R:=bif decide (f<(a.length:ay))then bif decide (0<=f)&&decide (f<(a.length:ay))then bif cu (bJ (au a f.toNat 0)).toList (aC d)then k0 a d aj f else g a d e (bN (f+1))else ai else k1 a d e f
def l2(N:aG)(k0 k1:GW R):aG->GW R
 |0=>λ_ _ _ _=>ai
 |n+1=>r2 N (l2 N k0 k1 n) k0 k1
def b(N:aG)(kr:aU->aA R)(a:Row)(d:aq):aA R:=l2 N (λ_ _ e _=>kr e) (λ_ _ _ _=>kr ao) N a d ao 0
def vo:=b Lib.cR λr0=>ah r0
def c:=λa d=>(vo a d).isSome
def v:=λa d=>(vo a d).getD ao
theorem out{x}:∀a d,vo a d=ah x->c a d=aj/\v a d=x:=λ_ _=>Lib.dL
end e9

namespace qT
def b(kr:aU->aA R)(a d e:Row)(f:ay)(h:aq):aA R:=bif e9.c a h then bif e9.v a h then kr aj else bif e9.c d h then kr (e9.v d h)else ai else ai
def vo:=b λr0=>ah r0
def c:=λa d e f h=>(vo a d e f h).isSome
def v:=λa d e f h=>(vo a d e f h).getD ao
theorem out{x}:∀a d e f h,vo a d e f h=ah x->c a d e f h=aj/\v a d e f h=x:=λ_ _ _ _ _=>Lib.dL
end qT

namespace gH
def r9(N:aG)(g k0 k1:Cw R)(a:aU)(d e:ay)(f:Row)(h:ay):aA R:=bif decide (0<=d)&&decide (d<(f.length:ay))then bif decide (e<((kU (au f d.toNat 0)).length:ay))then bif decide (0<=d)&&decide (d<(f.length:ay))then bif decide (0<=e)&&decide (e<((kU (au f d.toNat 0)).length:ay))then bif !jN.v (bS (au (kU (au f d.toNat 0)) e.toNat 0)) 0 15 then k0 ao d e f h else g a d (bN (e+1)) f h else ai else ai else k1 a d e f h else ai
def l9(N:aG)(k0 k1:Cw R):aG->Cw R
 |0=>λ_ _ _ _ _=>ai
 |n+1=>r9 N (l9 N k0 k1 n) k0 k1
def r4(N:aG)(g k0 k1:GR R)(a:aU)(d:ay)(e:Row)(f:ay):aA R:=bif decide (d<(e.length:ay))then bif decide (0<=d)&&decide (d<(e.length:ay))then bif((kU (au e d.toNat 0)).length:ay) !=16 then k0 ao d e f else l9 N (λh i _ j l=>k0 h i j l) (λh i _ j l=>g h (bN (i+1)) j l) N a d 0 e f else ai else k1 a d e f
def l4(N:aG)(k0 k1:GR R):aG->GR R
 |0=>λ_ _ _ _=>ai
 |n+1=>r4 N (l4 N k0 k1 n) k0 k1
def b(N:aG)(kr:aU->aA R)(a:Row)(d:ay):aA R:=bif(a.length:ay) !=3 then kr ao else bif !jN.v d 0 63 then kr ao else l4 N (λe _ _ _=>kr e) (λ_ _ _ _=>kr aj) N ao 0 a d
def vo:=b Lib.cR λr0=>ah r0
def c:=λa d=>(vo a d).isSome
def v:=λa d=>(vo a d).getD ao
theorem out{x}:∀a d,vo a d=ah x->c a d=aj/\v a d=x:=λ_ _=>Lib.dL
end gH

namespace jz
def r3(N:aG)(g k0 k1:vA R)(a:aU)(d:ay)(e f h:Row)(i:ay)(j:Row):aA R:=bif decide (d<(j.length:ay))then bif decide (0<=d)&&decide (d<(j.length:ay))then bif !qS.v (bJ (au j d.toNat 0))then k0 ao d e f h i j else bif gU 0 d (j.length:ay)then bif decide (0<=d)&&decide (d<(j.length:ay))then bif e9.c (dR j (aY 0) d.toNat) (bJ (au j d.toNat 0))then bif e9.v (dR j (aY 0) d.toNat) (bJ (au j d.toNat 0))then k0 ao d e f h i j else g a (bN (d+1)) e f h i j else ai else ai else ai else ai else k1 a d e f h i j
def l3(N:aG)(k0 k1:vA R):aG->vA R
 |0=>λ_ _ _ _ _ _ _=>ai
 |n+1=>r3 N (l3 N k0 k1 n) k0 k1
def b(N:aG)(kr:aU->aA R)(a d e:Row)(f:ay):aA R:=bif cF ((aR [.s] 0).length+a.length) 16 then bif cF ((aR [.s] 0++a).length+d.length) 16 then l3 N (λh _ _ _ _ _ _=>kr h) (λ_ _ h i j l _=>bif decide ((h.length:ay)<=2)then bif decide ((i.length:ay)<=4)then bif gH.c j l then kr (gH.v j l)else ai else kr ao else kr ao) N ao 0 a d e f (aR [.s] 0++a++d)else ai else ai
def vo:=b Lib.cR λr0=>ah r0
def c:=λa d e f=>(vo a d e f).isSome
def v:=λa d e f=>(vo a d e f).getD ao
theorem out{x}:∀a d e f,vo a d e f=ah x->c a d e f=aj/\v a d e f=x:=λ_ _ _ _=>Lib.dL
end jz

namespace mR
def r2(N:aG)(g k0 k1:gg R)(a:aU)(d e:ay)(f h i j:Row)(l:ay)(m o:Row)(p:ay):aA R:=bif decide (d<(f.length:ay))then bif decide (0<=d)&&decide (d<(f.length:ay))then bif !ie.v (bJ (au f d.toNat 0)) (bS (au f d.toNat 1)) (bS (au f d.toNat (1+1))) (bJ (au f d.toNat (1+1+1)))then k0 ao d e f h i j l m o p else bif decide (d>0)then bif decide (0<=bN (d-1))&&decide (bN (d-1)<(f.length:ay))then bif decide (0<=d)&&decide (d<(f.length:ay))then bif !Op.bytesLess (bJ (au f (bN (d-1)).toNat 0)).toList (bJ (au f d.toNat 0)).toList then k0 ao d e f h i j l m o p else bif decide (0<=d)&&decide (d<(f.length:ay))then bif qT.c h i j l (bJ (au f d.toNat 0))then bif !qT.v h i j l (bJ (au f d.toNat 0))then k0 ao d e f h i j l m o p else g a (bN (d+1)) e f h i j l m o p else ai else ai else ai else ai else bif decide (0<=d)&&decide (d<(f.length:ay))then bif qT.c h i j l (bJ (au f d.toNat 0))then bif !qT.v h i j l (bJ (au f d.toNat 0))then k0 ao d e f h i j l m o p else g a (bN (d+1)) e f h i j l m o p else ai else ai else ai else k1 a d e f h i j l m o p
def l2(N:aG)(k0 k1:gg R):aG->gg R
 |0=>λ_ _ _ _ _ _ _ _ _ _ _=>ai
 |n+1=>r2 N (l2 N k0 k1 n) k0 k1
def b(N:aG)(kr:aU->aA R)(a:ay)(d e f h:Row)(i:ay)(j l:Row)(m:ay):aA R:=l2 N (λo _ _ _ _ _ _ _ _ _ _=>kr o) (λ_ _ _ o p q r s _ _ _=>bif jz.c p q r s then bif jz.v p q r s then kr (decide ((o.length:ay)=bN ((p.length:ay)+(q.length:ay))))else kr ao else ai) N ao 0 a d e f h i j l m
def vo:=b Lib.cR λr0=>ah r0
def c:=λa d e f h i j l m=>(vo a d e f h i j l m).isSome
def v:=λa d e f h i j l m=>(vo a d e f h i j l m).getD ao
theorem out{x}:∀a d e f h i j l m,vo a d e f h i j l m=ah x->c a d e f h i j l m=aj/\v a d e f h i j l m=x:=λ_ _ _ _ _ _ _ _ _=>Lib.dL
end mR

namespace oi
def r5(N:aG)(g k0 k1:jZ R)(a:ay)(d:aU)(e f:ay)(h i j l:Row)(m:ay)(o p:Row)(q:ay)(r s:aq)(t u w:ay):aA R:=bif decide (e<a)then bif decide (0<=e)&&decide (e<(o.length:ay))then bif cu (bJ (au o e.toNat 0)).toList (aC r)then bif decide (0<=e)&&decide (e<(o.length:ay))then bif decide (bS (au o e.toNat 2)=1)then bif decide (t=1)then k0 a ao e f h i j l m o p q r s t u w else g a d (bN (e+1)) f h i j l m o p q r s t u w else g a d (bN (e+1)) f h i j l m o p q r s t u w else ai else g a d (bN (e+1)) f h i j l m o p q r s t u w else ai else k1 a d e f h i j l m o p q r s t u w
def l5(N:aG)(k0 k1:jZ R):aG->jZ R
 |0=>λ_ _ _ _ _ _ _ _ _ _ _ _ _ _ _ _ _=>ai
 |n+1=>r5 N (l5 N k0 k1 n) k0 k1
def b(N:aG)(kr:aU->aA R)(a:ay)(d e f h:Row)(i:ay)(j l:Row)(m o:ay):aA R:=bif decide (0<=o)&&decide (o<(j.length:ay))then bif !qS.v (bJ (au j o.toNat 0))then kr ao else bif decide (((bJ (au j o.toNat 1)).size:ay)>400)then kr ao else bif !jN.v (bS (au j o.toNat (1+1))) 1 3 then kr ao else bif !jN.v (bS (au j o.toNat (1+1+1))) 0 999999 then kr ao else bif !jN.v (bS (au j o.toNat (1+1+1+1))) 0 a then kr ao else l5 N (λ_ p _ _ _ _ _ _ _ _ _ _ _ _ _ _ _=>kr p) (λ_ _ _ _ _ _ _ _ _ _ _ _ _ _ _ _ _=>kr aj) N o ao 0 a d e f h i j l m (bJ (au j o.toNat 0)) (bJ (au j o.toNat 1)) (bS (au j o.toNat (1+1))) (bS (au j o.toNat (1+1+1))) (bS (au j o.toNat (1+1+1+1)))else ai
def vo:=b Lib.cR λr0=>ah r0
def c:=λa d e f h i j l m o=>(vo a d e f h i j l m o).isSome
def v:=λa d e f h i j l m o=>(vo a d e f h i j l m o).getD ao
theorem out{x}:∀a d e f h i j l m o,vo a d e f h i j l m o=ah x->c a d e f h i j l m o=aj/\v a d e f h i j l m o=x:=λ_ _ _ _ _ _ _ _ _ _=>Lib.dL
end oi

namespace kL
def r9(N:aG)(g k0 k1:gg R)(a:aU)(d e:ay)(f h i j:Row)(l:ay)(m o:Row)(p:ay):aA R:=bif decide (d<(o.length:ay))then bif decide (0<=d)&&decide (d<(o.length:ay))then bif !jN.v (bS (au o d.toNat 0)) 1 9 then k0 ao d e f h i j l m o p else bif decide (d>0)then bif decide (0<=bN (d-1))&&decide (bN (d-1)<(o.length:ay))then bif decide (bS (au o (bN (d-1)).toNat 0)≥bS (au o d.toNat 0))then k0 ao d e f h i j l m o p else bif !qS.v (bJ (au o d.toNat 1))then k0 ao d e f h i j l m o p else bif !jN.v (bS (au o d.toNat (1+1+1+1))) 1 3 then k0 ao d e f h i j l m o p else bif !jN.v (bS (au o d.toNat (1+1))) 0 (m.length:ay)then k0 ao d e f h i j l m o p else bif decide (((bJ (au o d.toNat (1+1+1+1+1))).size:ay)>400)then k0 ao d e f h i j l m o p else bif !jN.v (bS (au o d.toNat (1+1+1))) 0 e then k0 ao d e f h i j l m o p else bif decide (bS (au o d.toNat (1+1+1+1+1+1))<0)then k0 ao d e f h i j l m o p else g a (bN (d+1)) e f h i j l m o p else ai else bif !qS.v (bJ (au o d.toNat 1))then k0 ao d e f h i j l m o p else bif !jN.v (bS (au o d.toNat (1+1+1+1))) 1 3 then k0 ao d e f h i j l m o p else bif !jN.v (bS (au o d.toNat (1+1))) 0 (m.length:ay)then k0 ao d e f h i j l m o p else bif decide (((bJ (au o d.toNat (1+1+1+1+1))).size:ay)>400)then k0 ao d e f h i j l m o p else bif !jN.v (bS (au o d.toNat (1+1+1))) 0 e then k0 ao d e f h i j l m o p else bif decide (bS (au o d.toNat (1+1+1+1+1+1))<0)then k0 ao d e f h i j l m o p else g a (bN (d+1)) e f h i j l m o p else ai else k1 a d e f h i j l m o p
def l9(N:aG)(k0 k1:gg R):aG->gg R
 |0=>λ_ _ _ _ _ _ _ _ _ _ _=>ai
 |n+1=>r9 N (l9 N k0 k1 n) k0 k1
def r4(N:aG)(g k0 k1:gg R)(a:aU)(d e:ay)(f h i j:Row)(l:ay)(m o:Row)(p:ay):aA R:=bif decide (d<(m.length:ay))then bif oi.c e f h i j l m o p d then bif !oi.v e f h i j l m o p d then k0 ao d e f h i j l m o p else g a (bN (d+1)) e f h i j l m o p else ai else k1 a d e f h i j l m o p
def l4(N:aG)(k0 k1:gg R):aG->gg R
 |0=>λ_ _ _ _ _ _ _ _ _ _ _=>ai
 |n+1=>r4 N (l4 N k0 k1 n) k0 k1
def b(N:aG)(kr:aU->aA R)(a:ay)(d e f h:Row)(i:ay)(j l:Row)(m:ay):aA R:=bif !jN.v a 1 1000000000 then kr ao else bif mR.c a d e f h i j l m then bif !mR.v a d e f h i j l m then kr ao else bif decide ((j.length:ay)>20)then kr ao else bif decide ((l.length:ay)>6)then kr ao else bif !jN.v m 0 1000000000 then kr ao else l4 N (λo _ _ _ _ _ _ _ _ _ _=>kr o) (λo _ p q r s t u w y z=>l9 N (λα _ _ _ _ _ _ _ _ _ _=>kr α) (λ_ _ _ _ _ _ _ _ _ _ _=>kr aj) N o 0 p q r s t u w y z) N ao 0 a d e f h i j l m else ai
def vo:=b Lib.cR λr0=>ah r0
def c:=λa d e f h i j l m=>(vo a d e f h i j l m).isSome
def v:=λa d e f h i j l m=>(vo a d e f h i j l m).getD ao
theorem out{x}:∀a d e f h i j l m,vo a d e f h i j l m=ah x->c a d e f h i j l m=aj/\v a d e f h i j l m=x:=λ_ _ _ _ _ _ _ _ _=>Lib.dL
end kL

namespace uj
def r2(N:aG)(g k0 k1:kK R)(a:aq)(d:aU)(e f:ay)(h i j l:Row)(m:ay)(o p:Row)(q:ay)(r:aq)(s t:ay)(u:aq):aA R:=bif decide (e<(h.length:ay))then bif decide (0<=e)&&decide (e<(h.length:ay))then bif cu (bJ (au h e.toNat 0)).toList (aC a)then bif decide (0<=e)&&decide (e<(h.length:ay))then k0 a aj e f h i j l m o p q (bJ (au h e.toNat 0)) (bS (au h e.toNat 1)) (bS (au h e.toNat (1+1))) (bJ (au h e.toNat (1+1+1)))else ai else g a d (bN (e+1)) f h i j l m o p q r s t u else ai else k1 a d e f h i j l m o p q r s t u
def l2(N:aG)(k0 k1:kK R):aG->kK R
 |0=>λ_ _ _ _ _ _ _ _ _ _ _ _ _ _ _ _=>ai
 |n+1=>r2 N (l2 N k0 k1 n) k0 k1
def b(N:aG)(kr:yp R)(a:ay)(d e f h:Row)(i:ay)(j l:Row)(m:ay)(o:aq):aA R:=l2 N (λ_ p _ _ _ _ _ _ _ _ _ _ q r s t=>kr q r s t p) (λ_ _ _ _ _ _ _ _ _ _ _ _ _ _ _ _=>kr ⟨#[]⟩ 0 0 ⟨#[]⟩ ao) N o ao 0 a d e f h i j l m ⟨#[]⟩ 0 0 ⟨#[]⟩
def vo:=b Lib.cR λr0 r1 r2 r3 r4=>ah (r0,r1,r2,r3,r4)
def c:=λa d e f h i j l m o=>(vo a d e f h i j l m o).isSome
def v:=λa d e f h i j l m o=>(vo a d e f h i j l m o).getD (⟨#[]⟩,0,0,⟨#[]⟩,ao)
theorem out{x}:∀a d e f h i j l m o,vo a d e f h i j l m o=ah x->c a d e f h i j l m o=aj/\v a d e f h i j l m o=x:=λ_ _ _ _ _ _ _ _ _ _=>Lib.dL
end uj

namespace sE
def b(kr:aU->aA R)(a:aq)(d e:ay)(f:aq)(h:ay):aA R:=bif ie.v a d e f then bif jN.v h d 1000000000 then kr (decide (bN (h-d)<e))else kr ao else kr ao
def v(a0:aq)(a1 a2:ay)(a3:aq)(a4:ay):aU:=bif ie.v a0 a1 a2 a3 then bif jN.v a4 a1 1000000000 then decide (bN (a4-a1)<a2)else ao else ao
theorem im(kr:aU->aA R)(a0:aq)(a1 a2:ay)(a3:aq)(a4:ay):b kr a0 a1 a2 a3 a4=kr (v a0 a1 a2 a3 a4):=by first|rfl|(unfold b v;simp only[dI];(repeat' split)<;>rfl)
end sE

namespace iP
def r6(N:aG)(g k0:vC R)(a:ay)(d:aq)(e f:ay):aA R:=bif decide (f<8)then bif decide (bZ a 2=1)then g (bj dO (↑(ed (kJ (cq 32 (bj dO (cO a 2))) (cq 32 3558460437))):ay)) d e (bN (f+1))else g (bj dO (cO a 2)) d e (bN (f+1))else k0 a d e f
def l6(N:aG)(k0:vC R):aG->vC R
 |0=>λ_ _ _ _=>ai
 |n+1=>r6 N (l6 N k0 n) k0
def r2(N:aG)(g k0:wK R)(a:ay)(d:aq)(e:ay):aA R:=bif decide (e<(d.size:ay))then bif decide (0<=e)&&decide (e<(d.size:ay))then l6 N (λf h i _=>g f h (bN (i+1))) N (bj dO (↑(ed (kJ (cq 32 a) (cq 32 (bj dO (↑(fK d e.toNat):ay))))):ay)) d e 0 else ai else k0 a d e
def l2(N:aG)(k0:wK R):aG->wK R
 |0=>λ_ _ _=>ai
 |n+1=>r2 N (l2 N k0 n) k0
def b(N:aG)(kr:ay->aA R)(a:ay)(d:aq):aA R:=l2 N (λe _ _=>kr e) N a d 0
def vo:=b Lib.cR λr0=>ah r0
def c:=λa d=>(vo a d).isSome
def v:=λa d=>(vo a d).getD (0)
theorem out{x}:∀a d,vo a d=ah x->c a d=aj/\v a d=x:=λ_ _=>Lib.dL
end iP

namespace tf
def b(kr:ay->aA R)(a:aq):aA R:=bif iP.c 4294967295 a then kr (iP.v 4294967295 a)else ai
def vo:=b λr0=>ah r0
def c:=λa=>(vo a).isSome
def v:=λa=>(vo a).getD (0)
theorem out{x}:∀a,vo a=ah x->c a=aj/\v a=x:=λ_=>Lib.dL
end tf

namespace iE
def b(kr:ay->aA R)(a:ay)(d:aq):aA R:=bif decide (d.size+(bytesOf (aF (aR [Ck.i a6] 1) 0 [CV.i a6 (bj a6 a)])).size<=4611686018427387904)then bif tf.c (d++bytesOf (aF (aR [Ck.i a6] 1) 0 [CV.i a6 (bj a6 a)]))then kr (bN (bZ (tf.v (d++bytesOf (aF (aR [Ck.i a6] 1) 0 [CV.i a6 (bj a6 a)]))) 16))else ai else ai
def vo:=b λr0=>ah r0
def c:=λa d=>(vo a d).isSome
def v:=λa d=>(vo a d).getD (0)
theorem out{x}:∀a d,vo a d=ah x->c a d=aj/\v a d=x:=λ_ _=>Lib.dL
end iE

namespace dy
def r17(N:aG)(g k0:xZ R)(a d e f:ay)(h:Row):aA R:=bif decide (0<=a)&&decide (a<(h.length:ay))then bif decide (d<((kU (au h a.toNat 0)).length:ay))then bif decide (0<=a)&&decide (a<(h.length:ay))then bif decide (0<=a)&&decide (a<(h.length:ay))then bif decide (0<=d)&&decide (d<((kU (au h a.toNat 0)).length:ay))then bif decide (0<=d)&&decide (d<((kU (au h a.toNat 0)).length:ay))then g a (bN (d+1)) e f (eN h a.toNat 0 [CV.l 3 (eN (kU (au h a.toNat 0)) d.toNat 0 [.i .i64 (bN (cO (bS (au (kU (au h a.toNat 0)) d.toNat 0)) 2))])])else ai else ai else ai else ai else k0 a d e f h else ai
def ZA(N:aG)(k0:xZ R):aG->xZ R
 |0=>λ_ _ _ _ _=>ai
 |n+1=>r17 N (ZA N k0 n) k0
def r14(N:aG)(g k0:lS R)(a d e:ay)(f:Row):aA R:=bif decide (a<(f.length:ay))then ZA N (λh _ i j l=>g (bN (h+1)) i j l) N a 0 d e f else k0 a d e f
def Zz(N:aG)(k0:lS R):aG->lS R
 |0=>λ_ _ _ _=>ai
 |n+1=>r14 N (Zz N k0 n) k0
def r5(N:aG)(g k0:CC R)(a:aq)(d e f:ay)(h:Row):aA R:=bif decide (d<(h.length:ay))then bif iE.c d a then bif decide (0<=d)&&decide (d<(h.length:ay))then bif decide (0<=iE.v d a)&&decide (iE.v d a<((kU (au h d.toNat 0)).length:ay))then bif decide (bS (au (kU (au h d.toNat 0)) (iE.v d a).toNat 0)<15)then bif decide (0<=d)&&decide (d<(h.length:ay))then bif decide (0<=iE.v d a)&&decide (iE.v d a<((kU (au h d.toNat 0)).length:ay))then bif decide (0<=iE.v d a)&&decide (iE.v d a<((kU (au h d.toNat 0)).length:ay))then g a (bN (d+1)) e f (eN h d.toNat 0 [CV.l 3 (eN (kU (au h d.toNat 0)) (iE.v d a).toNat 0 [.i .i64 (bN (bS (au (kU (au h d.toNat 0)) (iE.v d a).toNat 0)+1))])])else ai else ai else ai else g a (bN (d+1)) e f h else ai else ai else ai else k0 a d e f h
def l5(N:aG)(k0:CC R):aG->CC R
 |0=>λ_ _ _ _ _=>ai
 |n+1=>r5 N (l5 N k0 n) k0
def b(N:aG)(kr:vD R)(a:Row)(d:ay)(e:aq):aA R:=bif mQ.c a d then bif gH.c a d then bif !gH.v a d then kr (mQ.v a d).1 (mQ.v a d).2 else l5 N (λ_ _ f h i=>bif decide (bN (h+1)=64)then Zz N (λ_ _ j l=>kr l j) N 0 f 0 i else kr i (bN (h+1))) N e 0 0 (mQ.v a d).2 (mQ.v a d).1 else ai else ai
def vo:=b Lib.cR λr0 r1=>ah (r0,r1)
def c:=λa d e=>(vo a d e).isSome
def v:=λa d e=>(vo a d e).getD ([],0)
theorem out{x}:∀a d e,vo a d e=ah x->c a d e=aj/\v a d e=x:=λ_ _ _=>Lib.dL
end dy

namespace nL
def r3(N:aG)(g k0:vE R)(a:Row)(d:aq)(e:ay)(f:Row):aA R:=bif decide (e<(a.length:ay))then bif decide (0<=e)&&decide (e<(a.length:ay))then bif !List.beq (bJ (au a e.toNat 0)).toList (aC d)then bif decide (0<=e)&&decide (e<(a.length:ay))then bif cF (f.length+(aF (aR [.s] 1) 0 [.s (bJ (au a e.toNat 0))]).length) 16 then g a d (bN (e+1)) (f++aF (aR [.s] 1) 0 [.s (bJ (au a e.toNat 0))])else ai else ai else g a d (bN (e+1)) f else ai else k0 a d e f
def l3(N:aG)(k0:vE R):aG->vE R
 |0=>λ_ _ _ _=>ai
 |n+1=>r3 N (l3 N k0 n) k0
def b(N:aG)(kr:Row->aA R)(a:Row)(d:aq):aA R:=l3 N (λ_ _ _ e=>kr e) N a d 0 (aR [.s] 0)
def vo:=b Lib.cR λr0=>ah r0
def c:=λa d=>(vo a d).isSome
def v:=λa d=>(vo a d).getD ([])
theorem out{x}:∀a d,vo a d=ah x->c a d=aj/\v a d=x:=λ_ _=>Lib.dL
end nL

namespace mS
def r5(N:aG)(g k0:CD R)(a:aq)(d e:ay)(f:Row)(h:ay):aA R:=bif decide (e<(f.length:ay))then bif decide (0<=e)&&decide (e<(f.length:ay))then bif iE.c e a then bif decide (0<=iE.v e a)&&decide (iE.v e a<((kU (au f e.toNat 0)).length:ay))then bif decide (bS (au (kU (au f e.toNat 0)) (iE.v e a).toNat 0)<d)then g a (bS (au (kU (au f e.toNat 0)) (iE.v e a).toNat 0)) (bN (e+1)) f h else g a d (bN (e+1)) f h else ai else ai else ai else k0 a d e f h
def l5(N:aG)(k0:CD R):aG->CD R
 |0=>λ_ _ _ _ _=>ai
 |n+1=>r5 N (l5 N k0 n) k0
def b(N:aG)(kr:ay->aA R)(a:Row)(d:ay)(e:aq):aA R:=bif gH.c a d then bif !gH.v a d then kr 0 else l5 N (λ_ f _ _ _=>kr f) N e 15 0 a d else ai
def vo:=b Lib.cR λr0=>ah r0
def c:=λa d e=>(vo a d e).isSome
def v:=λa d e=>(vo a d e).getD (0)
theorem out{x}:∀a d e,vo a d e=ah x->c a d e=aj/\v a d e=x:=λ_ _ _=>Lib.dL
end mS

namespace e8
def b(kr:RF R)(a d e:Row)(f:ay)(h:aq):aA R:=bif e7.c a d e f then bif jz.c a d e f then bif !jz.v a d e f then kr (e7.v a d e f).1 (e7.v a d e f).2.1 (e7.v a d e f).2.2.1 (e7.v a d e f).2.2.2 ⟨#[]⟩else bif !qS.v h then kr (e7.v a d e f).1 (e7.v a d e f).2.1 (e7.v a d e f).2.2.1 (e7.v a d e f).2.2.2 ⟨#[]⟩else bif dy.c e f h then bif e9.c a h then bif e9.v a h then bif nL.c a h then bif cF ((nL.v a h).length+(aF (aR [.s] 1) 0 [.s h]).length) 16 then kr (nL.v a h++aF (aR [.s] 1) 0 [.s h]) (e7.v a d e f).2.1 (dy.v e f h).1 (dy.v e f h).2 ⟨#[]⟩else ai else ai else bif e9.c d h then bif e9.v d h then bif nL.c d h then bif cF ((nL.v d h).length+(aF (aR [.s] 1) 0 [.s h]).length) 16 then kr (e7.v a d e f).1 (nL.v d h++aF (aR [.s] 1) 0 [.s h]) (dy.v e f h).1 (dy.v e f h).2 ⟨#[]⟩else ai else ai else bif cF ((e7.v a d e f).1.length+(aF (aR [.s] 1) 0 [.s h]).length) 16 then bif decide ((((e7.v a d e f).1++aF (aR [.s] 1) 0 [.s h]).length:ay)<=2)then kr ((e7.v a d e f).1++aF (aR [.s] 1) 0 [.s h]) (e7.v a d e f).2.1 (dy.v e f h).1 (dy.v e f h).2 ⟨#[]⟩else bif decide (0<(((e7.v a d e f).1++aF (aR [.s] 1) 0 [.s h]).length:ay))then bif gU 1 (((e7.v a d e f).1++aF (aR [.s] 1) 0 [.s h]).length:ay) (((e7.v a d e f).1++aF (aR [.s] 1) 0 [.s h]).length:ay)then bif cF ((aR [.s] 0).length+(dR ((e7.v a d e f).1++aF (aR [.s] 1) 0 [.s h]) (aY 1) (((e7.v a d e f).1++aF (aR [.s] 1) 0 [.s h]).length:ay).toNat).length) 16 then bif decide (((e7.v a d e f).2.1.length:ay)<4)then bif cF ((e7.v a d e f).2.1.length+(aF (aR [.s] 1) 0 [.s (bJ (au ((e7.v a d e f).1++aF (aR [.s] 1) 0 [.s h]) (aY 0) 0))]).length) 16 then kr (aR [.s] 0++dR ((e7.v a d e f).1++aF (aR [.s] 1) 0 [.s h]) (aY 1) (((e7.v a d e f).1++aF (aR [.s] 1) 0 [.s h]).length:ay).toNat) ((e7.v a d e f).2.1++aF (aR [.s] 1) 0 [.s (bJ (au ((e7.v a d e f).1++aF (aR [.s] 1) 0 [.s h]) (aY 0) 0))]) (dy.v e f h).1 (dy.v e f h).2 ⟨#[]⟩else ai else bif mS.c (dy.v e f h).1 (dy.v e f h).2 (bJ (au ((e7.v a d e f).1++aF (aR [.s] 1) 0 [.s h]) (aY 0) 0))then bif decide (0<((e7.v a d e f).2.1.length:ay))then bif mS.c (dy.v e f h).1 (dy.v e f h).2 (bJ (au (e7.v a d e f).2.1 (aY 0) 0))then bif decide (mS.v (dy.v e f h).1 (dy.v e f h).2 (bJ (au ((e7.v a d e f).1++aF (aR [.s] 1) 0 [.s h]) (aY 0) 0))>mS.v (dy.v e f h).1 (dy.v e f h).2 (bJ (au (e7.v a d e f).2.1 (aY 0) 0)))then bif decide (0<((e7.v a d e f).2.1.length:ay))then bif gU 1 ((e7.v a d e f).2.1.length:ay) ((e7.v a d e f).2.1.length:ay)then bif cF ((aR [.s] 0).length+(dR (e7.v a d e f).2.1 (aY 1) ((e7.v a d e f).2.1.length:ay).toNat).length) 16 then bif cF ((aR [.s] 0++dR (e7.v a d e f).2.1 (aY 1) ((e7.v a d e f).2.1.length:ay).toNat).length+(aF (aR [.s] 1) 0 [.s (bJ (au ((e7.v a d e f).1++aF (aR [.s] 1) 0 [.s h]) (aY 0) 0))]).length) 16 then kr (aR [.s] 0++dR ((e7.v a d e f).1++aF (aR [.s] 1) 0 [.s h]) (aY 1) (((e7.v a d e f).1++aF (aR [.s] 1) 0 [.s h]).length:ay).toNat) (aR [.s] 0++dR (e7.v a d e f).2.1 (aY 1) ((e7.v a d e f).2.1.length:ay).toNat++aF (aR [.s] 1) 0 [.s (bJ (au ((e7.v a d e f).1++aF (aR [.s] 1) 0 [.s h]) (aY 0) 0))]) (dy.v e f h).1 (dy.v e f h).2 (bJ (au (e7.v a d e f).2.1 (aY 0) 0))else ai else ai else ai else ai else kr (aR [.s] 0++dR ((e7.v a d e f).1++aF (aR [.s] 1) 0 [.s h]) (aY 1) (((e7.v a d e f).1++aF (aR [.s] 1) 0 [.s h]).length:ay).toNat) (e7.v a d e f).2.1 (dy.v e f h).1 (dy.v e f h).2 (bJ (au ((e7.v a d e f).1++aF (aR [.s] 1) 0 [.s h]) (aY 0) 0))else ai else ai else ai else ai else ai else ai else ai else ai else ai else ai else ai else ai
def vo:=b λr0 r1 r2 r3 r4=>ah (r0,r1,r2,r3,r4)
def c:=λa d e f h=>(vo a d e f h).isSome
def v:=λa d e f h=>(vo a d e f h).getD ([],[],[],0,⟨#[]⟩)
theorem out{x}:∀a d e f h,vo a d e f h=ah x->c a d e f h=aj/\v a d e f h=x:=λ_ _ _ _ _=>Lib.dL
end e8

namespace ki
def r9(N:aG)(g k0:jJ R)(a:Row)(d e:ay)(f:aq)(h i j:ay)(l:aq)(m:ay)(o:Row):aA R:=bif decide (d<(a.length:ay))then bif decide (0<=d)&&decide (d<(a.length:ay))then bif decide (bS (au a d.toNat 0)>e)then bif decide (0<=d)&&decide (d<(a.length:ay))then bif cF (o.length+(aF (aR [Ck.i ar,Ck.s,Ck.i ar,Ck.i ar,Ck.i ar,Ck.s,Ck.i ar] 1) 0 [.i .i64 (bS (au a d.toNat 0)), .s (bJ (au a d.toNat 1)), .i .i64 (bS (au a d.toNat (1+1))), .i .i64 (bS (au a d.toNat (1+1+1))), .i .i64 (bS (au a d.toNat (1+1+1+1))), .s (bJ (au a d.toNat (1+1+1+1+1))), .i .i64 (bS (au a d.toNat (1+1+1+1+1+1)))]).length) 72 then g a (bN (d+1)) e f h i j l m (o++aF (aR [Ck.i ar,Ck.s,Ck.i ar,Ck.i ar,Ck.i ar,Ck.s,Ck.i ar] 1) 0 [.i .i64 (bS (au a d.toNat 0)), .s (bJ (au a d.toNat 1)), .i .i64 (bS (au a d.toNat (1+1))), .i .i64 (bS (au a d.toNat (1+1+1))), .i .i64 (bS (au a d.toNat (1+1+1+1))), .s (bJ (au a d.toNat (1+1+1+1+1))), .i .i64 (bS (au a d.toNat (1+1+1+1+1+1)))])else ai else ai else g a (bN (d+1)) e f h i j l m o else ai else k0 a d e f h i j l m o
def l9(N:aG)(k0:jJ R):aG->jJ R
 |0=>λ_ _ _ _ _ _ _ _ _ _=>ai
 |n+1=>r9 N (l9 N k0 n) k0
def r3(N:aG)(g k0:jJ R)(a:Row)(d e:ay)(f:aq)(h i j:ay)(l:aq)(m:ay)(o:Row):aA R:=bif decide (d<(a.length:ay))then bif decide (0<=d)&&decide (d<(a.length:ay))then bif decide (bS (au a d.toNat 0)<e)then bif decide (0<=d)&&decide (d<(a.length:ay))then bif cF (o.length+(aF (aR [Ck.i ar,Ck.s,Ck.i ar,Ck.i ar,Ck.i ar,Ck.s,Ck.i ar] 1) 0 [.i .i64 (bS (au a d.toNat 0)), .s (bJ (au a d.toNat 1)), .i .i64 (bS (au a d.toNat (1+1))), .i .i64 (bS (au a d.toNat (1+1+1))), .i .i64 (bS (au a d.toNat (1+1+1+1))), .s (bJ (au a d.toNat (1+1+1+1+1))), .i .i64 (bS (au a d.toNat (1+1+1+1+1+1)))]).length) 72 then g a (bN (d+1)) e f h i j l m (o++aF (aR [Ck.i ar,Ck.s,Ck.i ar,Ck.i ar,Ck.i ar,Ck.s,Ck.i ar] 1) 0 [.i .i64 (bS (au a d.toNat 0)), .s (bJ (au a d.toNat 1)), .i .i64 (bS (au a d.toNat (1+1))), .i .i64 (bS (au a d.toNat (1+1+1))), .i .i64 (bS (au a d.toNat (1+1+1+1))), .s (bJ (au a d.toNat (1+1+1+1+1))), .i .i64 (bS (au a d.toNat (1+1+1+1+1+1)))])else ai else ai else g a (bN (d+1)) e f h i j l m o else ai else k0 a d e f h i j l m o
def l3(N:aG)(k0:jJ R):aG->jJ R
 |0=>λ_ _ _ _ _ _ _ _ _ _=>ai
 |n+1=>r3 N (l3 N k0 n) k0
def b(N:aG)(kr:Row->aA R)(a:Row)(d:ay)(e:aq)(f h i:ay)(j:aq)(l:ay):aA R:=l3 N (λm _ o p q r s t u w=>bif cF (w.length+(aF (aR [Ck.i ar,Ck.s,Ck.i ar,Ck.i ar,Ck.i ar,Ck.s,Ck.i ar] 1) 0 [.i .i64 o, .s p, .i .i64 q, .i .i64 r, .i .i64 s, .s t, .i .i64 u]).length) 72 then l9 N (λ_ _ _ _ _ _ _ _ _ y=>kr y) N m 0 o p q r s t u (w++aF (aR [Ck.i ar,Ck.s,Ck.i ar,Ck.i ar,Ck.i ar,Ck.s,Ck.i ar] 1) 0 [.i .i64 o, .s p, .i .i64 q, .i .i64 r, .i .i64 s, .s t, .i .i64 u])else ai) N a 0 d e f h i j l (aR [Ck.i ar,Ck.s,Ck.i ar,Ck.i ar,Ck.i ar,Ck.s,Ck.i ar] 0)
def vo:=b Lib.cR λr0=>ah r0
def c:=λa d e f h i j l=>(vo a d e f h i j l).isSome
def v:=λa d e f h i j l=>(vo a d e f h i j l).getD ([])
theorem out{x}:∀a d e f h i j l,vo a d e f h i j l=ah x->c a d e f h i j l=aj/\v a d e f h i j l=x:=λ_ _ _ _ _ _ _ _=>Lib.dL
end ki

namespace oN
def r3(N:aG)(g k0:vE R)(a:Row)(d:aq)(e:ay)(f:Row):aA R:=bif decide (e<(a.length:ay))then bif decide (0<=e)&&decide (e<(a.length:ay))then bif !List.beq (bJ (au a e.toNat 0)).toList (aC d)then bif decide (0<=e)&&decide (e<(a.length:ay))then bif cF (f.length+(aF (aR [Ck.s,Ck.i ar,Ck.i ar,Ck.s] 1) 0 [.s (bJ (au a e.toNat 0)), .i .i64 (bS (au a e.toNat 1)), .i .i64 (bS (au a e.toNat (1+1))), .s (bJ (au a e.toNat (1+1+1)))]).length) 48 then g a d (bN (e+1)) (f++aF (aR [Ck.s,Ck.i ar,Ck.i ar,Ck.s] 1) 0 [.s (bJ (au a e.toNat 0)), .i .i64 (bS (au a e.toNat 1)), .i .i64 (bS (au a e.toNat (1+1))), .s (bJ (au a e.toNat (1+1+1)))])else ai else ai else g a d (bN (e+1)) f else ai else k0 a d e f
def l3(N:aG)(k0:vE R):aG->vE R
 |0=>λ_ _ _ _=>ai
 |n+1=>r3 N (l3 N k0 n) k0
def b(N:aG)(kr:Row->aA R)(a:Row)(d:aq):aA R:=l3 N (λ_ _ _ e=>kr e) N a d 0 (aR [Ck.s,Ck.i ar,Ck.i ar,Ck.s] 0)
def vo:=b Lib.cR λr0=>ah r0
def c:=λa d=>(vo a d).isSome
def v:=λa d=>(vo a d).getD ([])
theorem out{x}:∀a d,vo a d=ah x->c a d=aj/\v a d=x:=λ_ _=>Lib.dL
end oN

namespace sF
def b(kr:CB R)(a d e:Row)(f:ay)(h:aq):aA R:=bif nL.c a h then bif nL.c d h then bif mQ.c e f then kr (nL.v a h) (nL.v d h) (mQ.v e f).1 (mQ.v e f).2 else ai else ai else ai
def vo:=b λr0 r1 r2 r3=>ah (r0,r1,r2,r3)
def c:=λa d e f h=>(vo a d e f h).isSome
def v:=λa d e f h=>(vo a d e f h).getD ([],[],[],0)
theorem out{x}:∀a d e f h,vo a d e f h=ah x->c a d e f h=aj/\v a d e f h=x:=λ_ _ _ _ _=>Lib.dL
end sF

namespace uh
def r22(N:aG)(g k0:fA R)(a:aq)(d:aU)(e f:ay)(h i j l:Row)(m:ay)(o p:Row)(q r s t u w y z:ay)(α:aq)(xa xb xc:ay)(xd:aq)(xe:ay)(xf xg xh xi xj xk:Row):aA R:=bif decide (e<(o.length:ay))then bif decide (0<=e)&&decide (e<(o.length:ay))then bif cu (bJ (au o e.toNat 0)).toList (aC a)then bif decide (0<=e)&&decide (e<(o.length:ay))then bif decide (bS (au o e.toNat 2)=1)then bif decide (0<=e)&&decide (e<(o.length:ay))then g a d (bN (e+1)) f h i j l m o p q r s t u w y z α (bN (e+1)) xb xc (bJ (au o e.toNat 1)) xe xf xg xh xi xj xk else ai else g a d (bN (e+1)) f h i j l m o p q r s t u w y z α xa xb xc xd xe xf xg xh xi xj xk else ai else g a d (bN (e+1)) f h i j l m o p q r s t u w y z α xa xb xc xd xe xf xg xh xi xj xk else ai else k0 a d e f h i j l m o p q r s t u w y z α xa xb xc xd xe xf xg xh xi xj xk
def Tg(N:aG)(k0:fA R):aG->fA R
 |0=>λ_ _ _ _ _ _ _ _ _ _ _ _ _ _ _ _ _ _ _ _ _ _ _ _ _ _ _ _ _ _ _=>ai
 |n+1=>r22 N (Tg N k0 n) k0
def r5(N:aG)(g k0 k1:gG R)(a:ay)(d:aq)(e f h:ay)(i j l m:Row)(o:ay)(p q:Row)(r s t u w y z:ay)(α xa xb xc xd xe:Row):aA R:=bif decide (f<(q.length:ay))then bif decide (0<=f)&&decide (f<(q.length:ay))then bif decide (bS (au q f.toNat 0)=a)then k0 a d 1 f h i j l m o p q r w y z w y z α xa xb xc xd xe else g a d e (bN (f+1)) h i j l m o p q r s t u w y z α xa xb xc xd xe else ai else k1 a d e f h i j l m o p q r s t u w y z α xa xb xc xd xe
def l5(N:aG)(k0 k1:gG R):aG->gG R
 |0=>λ_ _ _ _ _ _ _ _ _ _ _ _ _ _ _ _ _ _ _ _ _ _ _ _ _=>ai
 |n+1=>r5 N (l5 N k0 k1 n) k0 k1
def b(N:aG)(kr:Cz R)(a:ay)(d e f h:Row)(i:ay)(j l:Row)(m o:ay)(p:aq):aA R:=bif j7.c a d e f h i j l m then Lib.lt (j7.v a d e f h i j l m) λq=>bif kL.c a d e f h i j l m then Lib.lt (kL.v a d e f h i j l m) λr=>bif !r then kr q.1 q.2.1 q.2.2.1 q.2.2.2.1 q.2.2.2.2.1 q.2.2.2.2.2.1 q.2.2.2.2.2.2.1 q.2.2.2.2.2.2.2.1 q.2.2.2.2.2.2.2.2 1 else bif !jN.v o 1 9 then kr q.1 q.2.1 q.2.2.1 q.2.2.2.1 q.2.2.2.2.1 q.2.2.2.2.2.1 q.2.2.2.2.2.2.1 q.2.2.2.2.2.2.2.1 q.2.2.2.2.2.2.2.2 1 else bif !qS.v p then kr q.1 q.2.1 q.2.2.1 q.2.2.2.1 q.2.2.2.2.1 q.2.2.2.2.2.1 q.2.2.2.2.2.2.1 q.2.2.2.2.2.2.2.1 q.2.2.2.2.2.2.2.2 1 else bif decide ((l.length:ay)≥6)then kr q.1 q.2.1 q.2.2.1 q.2.2.2.1 q.2.2.2.2.1 q.2.2.2.2.2.1 q.2.2.2.2.2.2.1 q.2.2.2.2.2.2.2.1 q.2.2.2.2.2.2.2.2 1 else l5 N (λ_ _ s _ _ _ _ _ _ _ _ _ _ t u w _ _ _ y z α xa xb xc=>kr t y z α xa u xb xc w s) (λs t _ _ u w y z α xa xb xc xd xe xf xg xh xi xj xk xl xm xn xo xp=>bif uj.c u w y z α xa xb xc xd t then Lib.lt (uj.v u w y z α xa xb xc xd t) λxq=>bif xq.2.2.2.2 then bif sE.v xq.1 xq.2.1 xq.2.2.1 xq.2.2.2.1 u then bif e8.c y z α xa t then Lib.lt (e8.v y z α xa t) λxr=>bif decide (xj<1000000000)then bif ki.c xp s t 0 xq.2.1 2 xq.2.2.2.1 (bN (u-xq.2.1))then Lib.lt (ki.v xp s t 0 xq.2.1 2 xq.2.2.2.1 (bN (u-xq.2.1))) λxs=>kr xh xk xr.1 xr.2.1 xr.2.2.1 xr.2.2.2.1 xo xs (bN (xj+1)) 0 else ai else bif ki.c xp s t 0 xq.2.1 2 xq.2.2.2.1 (bN (u-xq.2.1))then Lib.lt (ki.v xp s t 0 xq.2.1 2 xq.2.2.2.1 (bN (u-xq.2.1))) λxs=>kr xh xk xr.1 xr.2.1 xr.2.2.1 xr.2.2.2.1 xo xs xj 0 else ai else ai else Tg N (λxr xs _ _ _ _ _ _ _ xt _ _ _ _ _ xu xv xw xx xy xz ya yb yc yd ye yf yg yh yi yj=>bif decide (xz=0)then bif decide ((xt.length:ay)≥20)then kr xu ye yf yg yh xv yi yj xw 2 else bif cF (yi.length+(aF (aR [Ck.s,Ck.s,Ck.i ar,Ck.i ar,Ck.i ar] 1) 0 [.s xr, .s ⟨#[]⟩, .i .i64 1, .i .i64 0, .i .i64 0]).length) 56 then bif xs then bif oN.c ye xr then Lib.lt (oN.v ye xr) λyk=>bif sF.c yf yg yh xv xr then Lib.lt (sF.v yf yg yh xv xr) λyl=>bif dy.c yl.2.2.1 yl.2.2.2 xr then Lib.lt (dy.v yl.2.2.1 yl.2.2.2 xr) λym=>bif ki.c yj xx xy ((yi++aF (aR [Ck.s,Ck.s,Ck.i ar,Ck.i ar,Ck.i ar] 1) 0 [.s xr, .s ⟨#[]⟩, .i .i64 1, .i .i64 0, .i .i64 0]).length:ay) ya yb yc yd then Lib.lt (ki.v yj xx xy ((yi++aF (aR [Ck.s,Ck.s,Ck.i ar,Ck.i ar,Ck.i ar] 1) 0 [.s xr, .s ⟨#[]⟩, .i .i64 1, .i .i64 0, .i .i64 0]).length:ay) ya yb yc yd) λyn=>kr xu yk yl.1 yl.2.1 ym.1 ym.2 (yi++aF (aR [Ck.s,Ck.s,Ck.i ar,Ck.i ar,Ck.i ar] 1) 0 [.s xr, .s ⟨#[]⟩, .i .i64 1, .i .i64 0, .i .i64 0]) yn xw 0 else ai else ai else ai else ai else bif dy.c yh xv xr then Lib.lt (dy.v yh xv xr) λyk=>bif ki.c yj xx xy ((yi++aF (aR [Ck.s,Ck.s,Ck.i ar,Ck.i ar,Ck.i ar] 1) 0 [.s xr, .s ⟨#[]⟩, .i .i64 1, .i .i64 0, .i .i64 0]).length:ay) ya yb yc yd then Lib.lt (ki.v yj xx xy ((yi++aF (aR [Ck.s,Ck.s,Ck.i ar,Ck.i ar,Ck.i ar] 1) 0 [.s xr, .s ⟨#[]⟩, .i .i64 1, .i .i64 0, .i .i64 0]).length:ay) ya yb yc yd) λyl=>kr xu ye yf yg yk.1 yk.2 (yi++aF (aR [Ck.s,Ck.s,Ck.i ar,Ck.i ar,Ck.i ar] 1) 0 [.s xr, .s ⟨#[]⟩, .i .i64 1, .i .i64 0, .i .i64 0]) yl xw 0 else ai else ai else ai else bif xs then bif oN.c ye xr then Lib.lt (oN.v ye xr) λyk=>bif sF.c yf yg yh xv xr then Lib.lt (sF.v yf yg yh xv xr) λyl=>bif dy.c yl.2.2.1 yl.2.2.2 xr then Lib.lt (dy.v yl.2.2.1 yl.2.2.2 xr) λym=>bif ki.c yj xx xy xz ya yb yc yd then Lib.lt (ki.v yj xx xy xz ya yb yc yd) λyn=>kr xu yk yl.1 yl.2.1 ym.1 ym.2 yi yn xw 0 else ai else ai else ai else ai else bif dy.c yh xv xr then Lib.lt (dy.v yh xv xr) λyk=>bif ki.c yj xx xy xz ya yb yc yd then Lib.lt (ki.v yj xx xy xz ya yb yc yd) λyl=>kr xu ye yf yg yk.1 yk.2 yi yl xw 0 else ai else ai) N t xq.2.2.2.2 0 u w y z α xa xb xc xd xe xf xg xh xi xj s t 0 0 1 ⟨#[]⟩ 0 xk xl xm xn xo xp else Tg N (λxr xs _ _ _ _ _ _ _ xt _ _ _ _ _ xu xv xw xx xy xz ya yb yc yd ye yf yg yh yi yj=>bif decide (xz=0)then bif decide ((xt.length:ay)≥20)then kr xu ye yf yg yh xv yi yj xw 2 else bif cF (yi.length+(aF (aR [Ck.s,Ck.s,Ck.i ar,Ck.i ar,Ck.i ar] 1) 0 [.s xr, .s ⟨#[]⟩, .i .i64 1, .i .i64 0, .i .i64 0]).length) 56 then bif xs then bif oN.c ye xr then Lib.lt (oN.v ye xr) λyk=>bif sF.c yf yg yh xv xr then Lib.lt (sF.v yf yg yh xv xr) λyl=>bif dy.c yl.2.2.1 yl.2.2.2 xr then Lib.lt (dy.v yl.2.2.1 yl.2.2.2 xr) λym=>bif ki.c yj xx xy ((yi++aF (aR [Ck.s,Ck.s,Ck.i ar,Ck.i ar,Ck.i ar] 1) 0 [.s xr, .s ⟨#[]⟩, .i .i64 1, .i .i64 0, .i .i64 0]).length:ay) ya yb yc yd then Lib.lt (ki.v yj xx xy ((yi++aF (aR [Ck.s,Ck.s,Ck.i ar,Ck.i ar,Ck.i ar] 1) 0 [.s xr, .s ⟨#[]⟩, .i .i64 1, .i .i64 0, .i .i64 0]).length:ay) ya yb yc yd) λyn=>kr xu yk yl.1 yl.2.1 ym.1 ym.2 (yi++aF (aR [Ck.s,Ck.s,Ck.i ar,Ck.i ar,Ck.i ar] 1) 0 [.s xr, .s ⟨#[]⟩, .i .i64 1, .i .i64 0, .i .i64 0]) yn xw 0 else ai else ai else ai else ai else bif dy.c yh xv xr then Lib.lt (dy.v yh xv xr) λyk=>bif ki.c yj xx xy ((yi++aF (aR [Ck.s,Ck.s,Ck.i ar,Ck.i ar,Ck.i ar] 1) 0 [.s xr, .s ⟨#[]⟩, .i .i64 1, .i .i64 0, .i .i64 0]).length:ay) ya yb yc yd then Lib.lt (ki.v yj xx xy ((yi++aF (aR [Ck.s,Ck.s,Ck.i ar,Ck.i ar,Ck.i ar] 1) 0 [.s xr, .s ⟨#[]⟩, .i .i64 1, .i .i64 0, .i .i64 0]).length:ay) ya yb yc yd) λyl=>kr xu ye yf yg yk.1 yk.2 (yi++aF (aR [Ck.s,Ck.s,Ck.i ar,Ck.i ar,Ck.i ar] 1) 0 [.s xr, .s ⟨#[]⟩, .i .i64 1, .i .i64 0, .i .i64 0]) yl xw 0 else ai else ai else ai else bif xs then bif oN.c ye xr then Lib.lt (oN.v ye xr) λyk=>bif sF.c yf yg yh xv xr then Lib.lt (sF.v yf yg yh xv xr) λyl=>bif dy.c yl.2.2.1 yl.2.2.2 xr then Lib.lt (dy.v yl.2.2.1 yl.2.2.2 xr) λym=>bif ki.c yj xx xy xz ya yb yc yd then Lib.lt (ki.v yj xx xy xz ya yb yc yd) λyn=>kr xu yk yl.1 yl.2.1 ym.1 ym.2 yi yn xw 0 else ai else ai else ai else ai else bif dy.c yh xv xr then Lib.lt (dy.v yh xv xr) λyk=>bif ki.c yj xx xy xz ya yb yc yd then Lib.lt (ki.v yj xx xy xz ya yb yc yd) λyl=>kr xu ye yf yg yk.1 yk.2 yi yl xw 0 else ai else ai) N t xq.2.2.2.2 0 u w y z α xa xb xc xd xe xf xg xh xi xj s t 0 0 1 ⟨#[]⟩ 0 xk xl xm xn xo xp else ai) N o p 0 0 a d e f h i j l m 0 0 0 q.1 q.2.2.2.2.2.1 q.2.2.2.2.2.2.2.2 q.2.1 q.2.2.1 q.2.2.2.1 q.2.2.2.2.1 q.2.2.2.2.2.2.1 q.2.2.2.2.2.2.2.1 else ai else ai
def vo:=b Lib.cR λr0 r1 r2 r3 r4 r5 r6 r7 r8 r9=>ah (r0,r1,r2,r3,r4,r5,r6,r7,r8,r9)
def c:=λa d e f h i j l m o p=>(vo a d e f h i j l m o p).isSome
def v:=λa d e f h i j l m o p=>(vo a d e f h i j l m o p).getD (0,[],[],[],[],0,[],[],0,0)
theorem out{x}:∀a d e f h i j l m o p,vo a d e f h i j l m o p=ah x->c a d e f h i j l m o p=aj/\v a d e f h i j l m o p=x:=λ_ _ _ _ _ _ _ _ _ _ _=>Lib.dL
end uh

namespace sG
def b(kr:aU->aA R)(a:ay)(d e f h:Row)(i:ay)(j l:Row)(m o:ay):aA R:=bif kL.c a d e f h i j l m then bif kL.v a d e f h i j l m then bif jN.v o 0 (bN ((j.length:ay)-1))then bif decide (0<=o)&&decide (o<(j.length:ay))then kr (decide (bS (au j o.toNat 2)=1))else ai else kr ao else kr ao else ai
def vo:=b λr0=>ah r0
def c:=λa d e f h i j l m o=>(vo a d e f h i j l m o).isSome
def v:=λa d e f h i j l m o=>(vo a d e f h i j l m o).getD ao
theorem out{x}:∀a d e f h i j l m o,vo a d e f h i j l m o=ah x->c a d e f h i j l m o=aj/\v a d e f h i j l m o=x:=λ_ _ _ _ _ _ _ _ _ _=>Lib.dL
end sG

namespace G7
def b(kr:BB R)(a:ay)(d:aq)(e:Row):aA R:=bif cF ((aR [Ck.i ar,Ck.i ar] 0).length+e.length) 16 then kr a d (aR [Ck.i ar,Ck.i ar] 0++e)else ai
def v(iA:ay)(gi:aq)(eA:Row):ay×aq×Row:=(iA,gi,eA)
def c(iA:ay)(gi:aq)(eA:Row):aU:=decide (eA.length<=4294967296)
theorem im(kr:BB R)(iA:ay)(gi:aq)(eA:Row)(hc:c iA gi eA=aj):b kr iA gi eA=kr (v iA gi eA).1 (v iA gi eA).2.1 (v iA gi eA).2.2:=by have h:eA.length<=4294967296:=ca hc;unfold b;rw[show bI (aR [Ck.i ar,Ck.i ar] 0)+eA.length=eA.length by simp[aR],Lib.cE (by omega) (by omega)];rfl
end G7

namespace qH
def r2(N:aG)(g k0 k1:Cx R)(a:aU)(d e:ay)(f:aq)(h:Row):aA R:=bif decide (d<(h.length:ay))then bif decide (0<=d)&&decide (d<(h.length:ay))then bif !jN.v (bS (au h d.toNat 0)) 1 9 then k0 ao d e f h else bif decide (d>0)then bif decide (0<=bN (d-1))&&decide (bN (d-1)<(h.length:ay))then bif decide (bS (au h (bN (d-1)).toNat 0)≥bS (au h d.toNat 0))then k0 ao d e f h else bif !jN.v (bS (au h d.toNat 1)) 0 (f.size:ay)then k0 ao d e f h else g a (bN (d+1)) e f h else ai else bif !jN.v (bS (au h d.toNat 1)) 0 (f.size:ay)then k0 ao d e f h else g a (bN (d+1)) e f h else ai else k1 a d e f h
def l2(N:aG)(k0 k1:Cx R):aG->Cx R
 |0=>λ_ _ _ _ _=>ai
 |n+1=>r2 N (l2 N k0 k1 n) k0 k1
def b(N:aG)(kr:aU->aA R)(a:ay)(d:aq)(e:Row):aA R:=l2 N (λf _ _ _ _=>kr f) (λ_ _ f h i=>bif jN.v f 1 3 then bif decide ((h.size:ay)<=400)then kr (decide ((i.length:ay)<=6))else kr ao else kr ao) N ao 0 a d e
def el(t:aq)(rs:Row)(i:aG):aU:=decide (1<=bS (au rs i 0)/\bS (au rs i 0)<=9)&&(decide (0<=bS (au rs i 1)/\bS (au rs i 1)<=t.size)&&(i==0||decide (bS (au rs (i-1) 0)<bS (au rs i 0))))
def rest(st:ay)(t:aq)(rs:Row):aU:=decide (1<=st/\st<=3)&&(decide (t.size<=400)&&decide (rs.length<=6))
def v(iA:ay)(gi:aq)(eA:Row):aU:=(ej eA.length).all (el gi eA)&&rest iA gi eA
theorem mF(n a b:ay):jN.v n a b=decide (a<=n/\n<=b):=by unfold jN.v;by_cases h:a<=n<;>by_cases h2:n<=b<;>simp[h,h2]
theorem Um(st:ay)(t:aq)(rs:Row){R:Type}(kr:aU->aA R):(bif jN.v st 1 3 then bif decide ((t.size:ay)<=400)then kr (decide ((rs.length:ay)<=6))else kr ao else kr ao)=kr (rest st t rs):=by
 unfold rest;rw[mF];have e1:decide ((t.size:ay)<=400)=decide (t.size<=400):=by rw[c_];omega
 have e2:decide ((rs.length:ay)<=6)=decide (rs.length<=6):=by rw[c_];omega
 rw[e1,e2];cases decide (1<=st/\st<=3)<;>cases decide (t.size<=400)<;>rfl
theorem Ct{i:aG}(h:0<i)(hn:i<=9223372036854775807):bN ((i:ay)-1)=((i-1:aG):ay):=by rw[jH (by omega) (by omega)];omega
theorem Ny(p:aG->aU){i n:aG}(h:i<n):(ml i (n-i)).all p=(p i&&(ml (i+1) (n-(i+1))).all p):=by rw[show n-i=(n-(i+1))+1 by omega,List.range'_succ,mv]
theorem im(kr:aU->aA R)(iA:ay)(gi:aq)(eA:Row)(f0:GF gi)(f1:xG eA):∃N,b N kr iA gi eA=kr (v iA gi eA):=by
 refine⟨eA.length+1, ?_⟩
 unfold b;simp only[Um]
 have:=Lib.iL (λn (i:aG)=>l2 (eA.length+1) (λy5 y6 y7 y8 y9=>kr y5) (λKz rO Mr Ms QV=>kr (rest Mr Ms QV)) n ao i iA gi eA) (λi=>eA.length-i) (λi=>i<=eA.length)
  (λi=>kr ((ml i (eA.length-i)).all (el gi eA)&&rest iA gi eA)) (λn i hi=>by
  simp only[l2,r2,Lib.dJ,Lib.c9,Lib.eK,bK,mF]
  by_cases h:i<eA.length
  ·rw[Ny _ h];simp only[h,aT,aw,Lib.dn h f1.1];cases h1:decide (1<=bS (au eA i 0)/\bS (au eA i 0)<=9)with
   |false=>left;simp[el,h1]
   |true=>
    simp only[a9,az];by_cases hz:0<i
    ·have e0:decide ((i:ay)>0)=true:=by simp;omega
     have hp:i-1<eA.length:=by omega
     have hi0:(i==0)=false:=by simp;omega
     simp only[e0,aw,Ct hz (by have:=f1.1;omega),Lib.c9,Lib.dJ,Lib.eK,hp,aT,aL];cases h2:decide (bS (au eA (i-1) 0)≥bS (au eA i 0))with
     |true=>
      left;have e3:decide (bS (au eA (i-1) 0)<bS (au eA i 0))=false:=by simp at h2⊢;omega
      simp[el,e3,hi0]
     |false=>
      have e3:decide (bS (au eA (i-1) 0)<bS (au eA i 0))=true:=by simp at h2⊢;omega
      cases h3:decide (0<=bS (au eA i 1)/\bS (au eA i 1)<=gi.size)with
      |false=>left;simp[el,h3]
      |true=>right;exact⟨i+1,h,by omega,by simp only[el,h1,h3,e3,Bool.or_true,bK],rfl⟩
    ·have hz:i=0:=by omega
     subst hz;simp only[show decide (((0:aG):ay)>0)=ao from rfl,az];cases h3:decide (0<=bS (au eA 0 1)/\bS (au eA 0 1)<=gi.size)with
     |false=>left;simp[el,h3]
     |true=>right;exact⟨1,h,by omega,by simp only[el,h1,h3,bK];rfl,rfl⟩
  ·left;have h0:eA.length-i=0:=by omega
   simp only[h,bn,az,h0,List.range'_zero,List.all_nil,bK]) (eA.length+1) 0 (by omega) (by omega)
 refine this.trans ?_;unfold v;rw[Eh,<-List.range_eq_range']
end qH

namespace Da
def b(kr:GV R)(a:ay)(d:aq)(e:Row)(f:aq):aA R:=bif G7.c a d e then bif !qH.v a d e then kr a d e ao else bif a !=1 then kr a d e ao else bif !jN.v (f.size:ay) 1 40 then kr a d e ao else bif decide (bN ((d.size:ay)+(f.size:ay))>400)then kr a d e ao else bif decide (d.size+f.size<=4611686018427387904)then kr a (d++f) e aj else ai else ai
def v(iA:ay)(gi:aq)(eA:Row)(iR:aq):ay×aq×Row×aU:=
 if qH.v iA gi eA=aj/\iA=1/\1<=iR.size/\iR.size<=40/\gi.size+iR.size<=400 then(iA,gi++iR,eA,aj)else(iA,gi,eA,ao)
def c(iA:ay)(gi:aq)(eA:Row)(iR:aq):aU:=decide (eA.length<=4294967296)
theorem im(kr:GV R)(iA:ay)(gi:aq)(eA:Row)(iR:aq)(hc:c iA gi eA iR=aj)(f0:GF gi)(f1:xG eA)(f2:GF iR):b kr iA gi eA iR=kr (v iA gi eA iR).1 (v iA gi eA iR).2.1 (v iA gi eA iR).2.2.1 (v iA gi eA iR).2.2.2:=by
 have hs1:gi.size<=4611686018427387904:=f0;have Ll:iR.size<=4611686018427387904:=f2;have e1:G7.c iA gi eA=true:=hc;have e2:∀a b c,qH.v a b c=qH.v a b c:=λ_ _ _=>rfl;have e3:∀n a b,jN.v n a b=decide (a<=n/\n<=b):=qH.mF;unfold b v;rw[e1,e2,e3,aw];cases h1:qH.v iA gi eA with
 |false=>simp
 |true=>
  by_cases h2:iA=1
  ·by_cases h3:1<=(iR.size:ay)/\(iR.size:ay)<=40
   ·have e4:bN ((gi.size:ay)+(iR.size:ay))=gi.size+iR.size:=jH (by omega) (by omega);rw[e4,aE h3];by_cases h4:(gi.size:ay)+(iR.size:ay)>400
    ·rw[Lib.EY h4,a_ (by omega)];simp[h2]
    ·rw[Lib.Je h4,ba (by refine⟨rfl,h2, ?_, ?_, ?_⟩<;>omega),Lib.EY (show gi.size+iR.size<=4611686018427387904 by omega)];simp[h2]
   ·rw[aK h3,a_ (by omega)];simp
  ·have g_:(iA !=1)=true:=bne_iff_ne.mpr h2;rw[a_ (by simp[h2]),g_];rfl
end Da

namespace qF
def r1(N:aG)(g k0:jx R)(a d e f h i:ay)(j l m o p q:Row):aA R:=bif decide (e<(q.length:ay))then bif decide (0<=e)&&decide (e<(q.length:ay))then bif decide (bS (au q e.toNat 2)=bN (a+1))then bif decide (0<=e)&&decide (e<(q.length:ay))then bif decide (bS (au q e.toNat 4)=1)then bif decide (0<=a)&&decide (a<(p.length:ay))then bif decide (0<=e)&&decide (e<(q.length:ay))then bif decide (0<=e)&&decide (e<((eN q e.toNat 5 [.s (bJ (au p a.toNat 1))]).length:ay))then g a d (bN (e+1)) f h i j l m o p (eN (eN q e.toNat 5 [.s (bJ (au p a.toNat 1))]) e.toNat 4 [.i .i64 d])else ai else ai else ai else g a d (bN (e+1)) f h i j l m o p q else ai else g a d (bN (e+1)) f h i j l m o p q else ai else k0 a d e f h i j l m o p q
def l1(N:aG)(k0:jx R):aG->jx R
 |0=>λ_ _ _ _ _ _ _ _ _ _ _ _=>ai
 |n+1=>r1 N (l1 N k0 n) k0
def b(N:aG)(kr:gh R)(a:ay)(d e f h:Row)(i:ay)(j l:Row)(m o p:ay):aA R:=l1 N (λ_ _ _ q r s t u w y z α=>kr q t u w y r z α s) N o p 0 a i m d e f h j l
def vo:=b Lib.cR λr0 r1 r2 r3 r4 r5 r6 r7 r8=>ah (r0,r1,r2,r3,r4,r5,r6,r7,r8)
def c:=λa d e f h i j l m o p=>(vo a d e f h i j l m o p).isSome
def v:=λa d e f h i j l m o p=>(vo a d e f h i j l m o p).getD (0,[],[],[],[],0,[],[],0)
theorem out{x}:∀a d e f h i j l m o p,vo a d e f h i j l m o p=ah x->c a d e f h i j l m o p=aj/\v a d e f h i j l m o p=x:=λ_ _ _ _ _ _ _ _ _ _ _=>Lib.dL
end qF

namespace A4
def b(kr:pL R)(a:ay)(d e f h:Row)(i:ay)(j l:Row)(m o:ay)(p:aq):aA R:=bif j7.c a d e f h i j l m then Lib.lt (j7.v a d e f h i j l m) λq=>bif sG.c a d e f h i j l m o then Lib.lt (sG.v a d e f h i j l m o) λr=>bif !r then kr q.1 q.2.1 q.2.2.1 q.2.2.2.1 q.2.2.2.2.1 q.2.2.2.2.2.1 q.2.2.2.2.2.2.1 q.2.2.2.2.2.2.2.1 q.2.2.2.2.2.2.2.2 ao else bif decide (0<=o)&&decide (o<(j.length:ay))then bif !(Da.v 1 (bJ (au j o.toNat 1)) [] p).2.2.2 then kr q.1 q.2.1 q.2.2.1 q.2.2.2.1 q.2.2.2.2.1 q.2.2.2.2.2.1 q.2.2.2.2.2.2.1 q.2.2.2.2.2.2.2.1 q.2.2.2.2.2.2.2.2 ao else bif decide (0<=o)&&decide (o<(q.2.2.2.2.2.2.1.length:ay))then bif qF.c q.1 q.2.1 q.2.2.1 q.2.2.2.1 q.2.2.2.2.1 q.2.2.2.2.2.1 (eN q.2.2.2.2.2.2.1 o.toNat 1 [.s (Da.v 1 (bJ (au j o.toNat 1)) [] p).2.1]) q.2.2.2.2.2.2.2.1 q.2.2.2.2.2.2.2.2 o 1 then Lib.lt (qF.v q.1 q.2.1 q.2.2.1 q.2.2.2.1 q.2.2.2.2.1 q.2.2.2.2.2.1 (eN q.2.2.2.2.2.2.1 o.toNat 1 [.s (Da.v 1 (bJ (au j o.toNat 1)) [] p).2.1]) q.2.2.2.2.2.2.2.1 q.2.2.2.2.2.2.2.2 o 1) λs=>kr s.1 s.2.1 s.2.2.1 s.2.2.2.1 s.2.2.2.2.1 s.2.2.2.2.2.1 s.2.2.2.2.2.2.1 s.2.2.2.2.2.2.2.1 s.2.2.2.2.2.2.2.2 aj else ai else ai else ai else ai else ai
def vo:=b λr0 r1 r2 r3 r4 r5 r6 r7 r8 r9=>ah (r0,r1,r2,r3,r4,r5,r6,r7,r8,r9)
def c:=λa d e f h i j l m o p=>(vo a d e f h i j l m o p).isSome
def v:=λa d e f h i j l m o p=>(vo a d e f h i j l m o p).getD (0,[],[],[],[],0,[],[],0,ao)
theorem out{x}:∀a d e f h i j l m o p,vo a d e f h i j l m o p=ah x->c a d e f h i j l m o p=aj/\v a d e f h i j l m o p=x:=λ_ _ _ _ _ _ _ _ _ _ _=>Lib.dL
end A4

namespace eT
def r9(N:aG)(g k0:nr R)(a:Row)(d:ay)(e:aq)(f h:ay)(i:aq)(j:Row):aA R:=bif decide (d<(a.length:ay))then bif decide (0<=d)&&decide (d<(a.length:ay))then bif !(bP (bJ (au a d.toNat 0)).toList (aC e)||List.beq (bJ (au a d.toNat 0)).toList (aC e))then bif decide (0<=d)&&decide (d<(a.length:ay))then bif cF (j.length+(aF (aR [Ck.s,Ck.i ar,Ck.i ar,Ck.s] 1) 0 [.s (bJ (au a d.toNat 0)), .i .i64 (bS (au a d.toNat 1)), .i .i64 (bS (au a d.toNat (1+1))), .s (bJ (au a d.toNat (1+1+1)))]).length) 48 then g a (bN (d+1)) e f h i (j++aF (aR [Ck.s,Ck.i ar,Ck.i ar,Ck.s] 1) 0 [.s (bJ (au a d.toNat 0)), .i .i64 (bS (au a d.toNat 1)), .i .i64 (bS (au a d.toNat (1+1))), .s (bJ (au a d.toNat (1+1+1)))])else ai else ai else g a (bN (d+1)) e f h i j else ai else k0 a d e f h i j
def l9(N:aG)(k0:nr R):aG->nr R
 |0=>λ_ _ _ _ _ _ _=>ai
 |n+1=>r9 N (l9 N k0 n) k0
def r3(N:aG)(g k0:nr R)(a:Row)(d:ay)(e:aq)(f h:ay)(i:aq)(j:Row):aA R:=bif decide (d<(a.length:ay))then bif decide (0<=d)&&decide (d<(a.length:ay))then bif bP (bJ (au a d.toNat 0)).toList (aC e)then bif decide (0<=d)&&decide (d<(a.length:ay))then bif cF (j.length+(aF (aR [Ck.s,Ck.i ar,Ck.i ar,Ck.s] 1) 0 [.s (bJ (au a d.toNat 0)), .i .i64 (bS (au a d.toNat 1)), .i .i64 (bS (au a d.toNat (1+1))), .s (bJ (au a d.toNat (1+1+1)))]).length) 48 then g a (bN (d+1)) e f h i (j++aF (aR [Ck.s,Ck.i ar,Ck.i ar,Ck.s] 1) 0 [.s (bJ (au a d.toNat 0)), .i .i64 (bS (au a d.toNat 1)), .i .i64 (bS (au a d.toNat (1+1))), .s (bJ (au a d.toNat (1+1+1)))])else ai else ai else g a (bN (d+1)) e f h i j else ai else k0 a d e f h i j
def l3(N:aG)(k0:nr R):aG->nr R
 |0=>λ_ _ _ _ _ _ _=>ai
 |n+1=>r3 N (l3 N k0 n) k0
def b(N:aG)(kr:Row->aA R)(a:Row)(d:aq)(e f:ay)(h:aq):aA R:=l3 N (λi _ j l m o p=>bif cF (p.length+(aF (aR [Ck.s,Ck.i ar,Ck.i ar,Ck.s] 1) 0 [.s j, .i .i64 l, .i .i64 m, .s o]).length) 48 then l9 N (λ_ _ _ _ _ _ q=>kr q) N i 0 j l m o (p++aF (aR [Ck.s,Ck.i ar,Ck.i ar,Ck.s] 1) 0 [.s j, .i .i64 l, .i .i64 m, .s o])else ai) N a 0 d e f h (aR [Ck.s,Ck.i ar,Ck.i ar,Ck.s] 0)
def vo:=b Lib.cR λr0=>ah r0
def c:=λa d e f h=>(vo a d e f h).isSome
def v:=λa d e f h=>(vo a d e f h).getD ([])
theorem out{x}:∀a d e f h,vo a d e f h=ah x->c a d e f h=aj/\v a d e f h=x:=λ_ _ _ _ _=>Lib.dL
end eT

namespace v_
def b(kr:gh R)(a:ay)(d e f h:Row)(i:ay)(j l:Row)(m:ay)(o:aq)(p q:ay)(r:aq):aA R:=bif e8.c e f h i o then Lib.lt (e8.v e f h i o) λs=>bif !List.beq (aC s.2.2.2.2) (aC ⟨#[]⟩)then bif oN.c d s.2.2.2.2 then Lib.lt (oN.v d s.2.2.2.2) λt=>bif qT.c s.1 s.2.1 s.2.2.1 s.2.2.2.1 o then Lib.lt (qT.v s.1 s.2.1 s.2.2.1 s.2.2.2.1 o) λu=>bif u then bif eT.c t o p q r then Lib.lt (eT.v t o p q r) λw=>kr a w s.1 s.2.1 s.2.2.1 s.2.2.2.1 j l m else ai else kr a t s.1 s.2.1 s.2.2.1 s.2.2.2.1 j l m else ai else ai else bif qT.c s.1 s.2.1 s.2.2.1 s.2.2.2.1 o then Lib.lt (qT.v s.1 s.2.1 s.2.2.1 s.2.2.2.1 o) λt=>bif t then bif eT.c d o p q r then Lib.lt (eT.v d o p q r) λu=>kr a u s.1 s.2.1 s.2.2.1 s.2.2.2.1 j l m else ai else kr a d s.1 s.2.1 s.2.2.1 s.2.2.2.1 j l m else ai else ai
def vo:=b λr0 r1 r2 r3 r4 r5 r6 r7 r8=>ah (r0,r1,r2,r3,r4,r5,r6,r7,r8)
def c:=λa d e f h i j l m o p q r=>(vo a d e f h i j l m o p q r).isSome
def v:=λa d e f h i j l m o p q r=>(vo a d e f h i j l m o p q r).getD (0,[],[],[],[],0,[],[],0)
theorem out{x}:∀a d e f h i j l m o p q r,vo a d e f h i j l m o p q r=ah x->c a d e f h i j l m o p q r=aj/\v a d e f h i j l m o p q r=x:=λ_ _ _ _ _ _ _ _ _ _ _ _ _=>Lib.dL
end v_

namespace Bb
def b(kr:pL R)(a:ay)(d e f h:Row)(i:ay)(j l:Row)(m o p:ay):aA R:=bif j7.c a d e f h i j l m then Lib.lt (j7.v a d e f h i j l m) λq=>bif sG.c a d e f h i j l m o then Lib.lt (sG.v a d e f h i j l m o) λr=>bif !r then kr q.1 q.2.1 q.2.2.1 q.2.2.2.1 q.2.2.2.2.1 q.2.2.2.2.2.1 q.2.2.2.2.2.2.1 q.2.2.2.2.2.2.2.1 q.2.2.2.2.2.2.2.2 ao else bif !jN.v p 0 999999 then kr q.1 q.2.1 q.2.2.1 q.2.2.2.1 q.2.2.2.2.1 q.2.2.2.2.2.1 q.2.2.2.2.2.2.1 q.2.2.2.2.2.2.2.1 q.2.2.2.2.2.2.2.2 ao else bif decide (0<=o)&&decide (o<(j.length:ay))then bif decide (0<=o)&&decide (o<(q.2.2.2.2.2.2.1.length:ay))then bif qF.c q.1 q.2.1 q.2.2.1 q.2.2.2.1 q.2.2.2.2.1 q.2.2.2.2.2.1 (eN q.2.2.2.2.2.2.1 o.toNat 0 [.s (bJ (au j o.toNat 0)), .s (bJ (au j o.toNat 1)), .i .i64 2, .i .i64 p, .i .i64 a]) q.2.2.2.2.2.2.2.1 q.2.2.2.2.2.2.2.2 o 2 then Lib.lt (qF.v q.1 q.2.1 q.2.2.1 q.2.2.2.1 q.2.2.2.2.1 q.2.2.2.2.2.1 (eN q.2.2.2.2.2.2.1 o.toNat 0 [.s (bJ (au j o.toNat 0)), .s (bJ (au j o.toNat 1)), .i .i64 2, .i .i64 p, .i .i64 a]) q.2.2.2.2.2.2.2.1 q.2.2.2.2.2.2.2.2 o 2) λs=>bif decide (p>0)then bif v_.c s.1 s.2.1 s.2.2.1 s.2.2.2.1 s.2.2.2.2.1 s.2.2.2.2.2.1 s.2.2.2.2.2.2.1 s.2.2.2.2.2.2.2.1 s.2.2.2.2.2.2.2.2 (bJ (au j o.toNat 0)) a p (bJ (au j o.toNat 1))then Lib.lt (v_.v s.1 s.2.1 s.2.2.1 s.2.2.2.1 s.2.2.2.2.1 s.2.2.2.2.2.1 s.2.2.2.2.2.2.1 s.2.2.2.2.2.2.2.1 s.2.2.2.2.2.2.2.2 (bJ (au j o.toNat 0)) a p (bJ (au j o.toNat 1))) λt=>kr t.1 t.2.1 t.2.2.1 t.2.2.2.1 t.2.2.2.2.1 t.2.2.2.2.2.1 t.2.2.2.2.2.2.1 t.2.2.2.2.2.2.2.1 t.2.2.2.2.2.2.2.2 aj else ai else kr s.1 s.2.1 s.2.2.1 s.2.2.2.1 s.2.2.2.2.1 s.2.2.2.2.2.1 s.2.2.2.2.2.2.1 s.2.2.2.2.2.2.2.1 s.2.2.2.2.2.2.2.2 aj else ai else ai else ai else ai else ai
def vo:=b λr0 r1 r2 r3 r4 r5 r6 r7 r8 r9=>ah (r0,r1,r2,r3,r4,r5,r6,r7,r8,r9)
def c:=λa d e f h i j l m o p=>(vo a d e f h i j l m o p).isSome
def v:=λa d e f h i j l m o p=>(vo a d e f h i j l m o p).getD (0,[],[],[],[],0,[],[],0,ao)
theorem out{x}:∀a d e f h i j l m o p,vo a d e f h i j l m o p=ah x->c a d e f h i j l m o p=aj/\v a d e f h i j l m o p=x:=λ_ _ _ _ _ _ _ _ _ _ _=>Lib.dL
end Bb

namespace jt
def r2(N:aG)(g k0:xF R)(a:ay)(d:Row):aA R:=bif decide (a>127)then bif cF (d.length+(aF (aR [Ck.i a6] 1) 0 [CV.i a6 (bj a6 (bN (bZ a 128+128)))]).length) 1 then g (bN (cO a 128)) (d++aF (aR [Ck.i a6] 1) 0 [CV.i a6 (bj a6 (bN (bZ a 128+128)))])else ai else k0 a d
def l2(N:aG)(k0:xF R):aG->xF R
 |0=>λ_ _=>ai
 |n+1=>r2 N (l2 N k0 n) k0
def b(N:aG)(kr:aq->aA R)(a:ay):aA R:=l2 N (λd e=>bif cF (e.length+(aF (aR [Ck.i a6] 1) 0 [CV.i a6 (bj a6 d)]).length) 1 then bif decide ((e++aF (aR [Ck.i a6] 1) 0 [CV.i a6 (bj a6 d)]).length<=4611686018427387904)then kr (bytesOf (e++aF (aR [Ck.i a6] 1) 0 [CV.i a6 (bj a6 d)]))else ai else ai) N a (aR [Ck.i a6] 0)
def v(n0:ay):aq:=bytesOf (Lib.vb n0)
def c(n0:ay):aU:=decide (n0<=9223372036854775807)
theorem im(kr:aq->aA R)(n0:ay)(hc:c n0=aj):∃N,b N kr n0=kr (v n0):=by
 refine⟨n0.toNat+1, ?_⟩
 refine Lib.UC (λn x acc=>l2 (n0.toNat+1) _ n x acc) kr (λn x acc h hl=> ?_) (λn x acc h hl=> ?_) n0 (ca hc)
 ·simp only[l2,r2,h,aT,aw,Lib.jE,show acc.length+bI [[CV.i a6 (bj a6 (bN (bZ x 128+128)))]]=acc.length+1 from rfl,Lib.P6 (show acc.length+1<=140737488355328 by omega),show decide ((128:ay)=0)=ao from rfl,El,bO]
 ·simp only[l2,r2,h,bn,az,Lib.jE,show acc.length+bI [[CV.i a6 (bj a6 x)]]=acc.length+1 from rfl,Lib.P6 (show acc.length+1<=140737488355328 by omega),aw];exact Lib.zp (Lib.EY (by rw[bW,bu];omega))
end jt

namespace jb
def b(kr:yZ R)(a:aq)(d e:ay)(f:aq):aA R:=bif !ie.v a d e f then kr ⟨#[]⟩ ao else bif jt.c (a.size:ay)then bif decide ((jt.v (a.size:ay)).size+a.size<=4611686018427387904)then bif jt.c d then bif decide ((jt.v (a.size:ay)++a).size+(jt.v d).size<=4611686018427387904)then bif jt.c e then bif decide ((jt.v (a.size:ay)++a++jt.v d).size+(jt.v e).size<=4611686018427387904)then bif decide ((jt.v (a.size:ay)++a++jt.v d++jt.v e).size+f.size<=4611686018427387904)then kr (jt.v (a.size:ay)++a++jt.v d++jt.v e++f) aj else ai else ai else ai else ai else ai else ai else ai
def qN(k:aq)(s l:ay)(b:aq):aq:=bytesOf (Lib.vb k.size)++k++bytesOf (Lib.vb s)++bytesOf (Lib.vb l)++b
def v(xP:aq)(xQ:ay)(xR:ay)(Dk:aq):aq×aU:=if ie.v xP xQ xR Dk=aj then(qN xP xQ xR Dk,aj)else(⟨#[]⟩,ao)
theorem im(kr:yZ R)(xP:aq)(xQ:ay)(xR:ay)(Dk:aq):b kr xP xQ xR Dk=kr (v xP xQ xR Dk).1 (v xP xQ xR Dk).2:=by
 unfold b v;cases h:ie.v xP xQ xR Dk with
 |false=>rfl
 |true=>have hr:=ie.DX h;have cc:∀x:ay,x<=9223372036854775807->jt.c x=true:=λx hx=>aE hx;have z1:(jt.v (xP.size:ay)).size<=64:=Lib.mI (x:=(xP.size:ay)) (by omega);have z2:(jt.v xQ).size<=64:=Lib.mI (x:=xQ) (by omega);have z3:(jt.v xR).size<=64:=Lib.mI (x:=xR) (by omega);simp(disch:=omega) only[a9,az,cc _ (show(xP.size:ay)<=9223372036854775807 by omega),cc xQ (by omega),cc xR (by omega),aw,if_true,Lib.dX,Lib.ab7];rfl
end jb

namespace oj
def b(kr:aq->aA R)(a:ay):aA R:=kr (bytesOf (aF (aF (aF (aF (aR [Ck.i a6] 4) 0 [CV.i a6 (bj a6 (jT a (gj 2 (if aY 24<=32 then aY 24 else 32))))]) 1 [CV.i a6 (bj a6 (jT a (gj 2 (if aY 16<=32 then aY 16 else 32))))]) 2 [CV.i a6 (bj a6 (jT a (gj 2 (if aY 8<=32 then aY 8 else 32))))]) 3 [CV.i a6 (bj a6 a)]))
def v(a0:ay):aq:=(bytesOf (aF (aF (aF (aF (aR [Ck.i a6] 4) 0 [CV.i a6 (bj a6 (jT a0 (gj 2 (if aY 24<=32 then aY 24 else 32))))]) 1 [CV.i a6 (bj a6 (jT a0 (gj 2 (if aY 16<=32 then aY 16 else 32))))]) 2 [CV.i a6 (bj a6 (jT a0 (gj 2 (if aY 8<=32 then aY 8 else 32))))]) 3 [CV.i a6 (bj a6 a0)]))
theorem im(kr:aq->aA R)(a0:ay):b kr a0=kr (v a0):=by first|rfl|(unfold b v;simp only[dI];(repeat' split)<;>rfl)
end oj

namespace e_
def b(kr:yZ R)(a:aq):aA R:=bif !jN.v (a.size:ay) 1 9000 then kr ⟨#[]⟩ ao else bif jt.c (a.size:ay)then bif tf.c a then bif decide ((jt.v (a.size:ay)).size+(oj.v (tf.v a)).size<=4611686018427387904)then bif decide ((jt.v (a.size:ay)++oj.v (tf.v a)).size+a.size<=4611686018427387904)then kr (jt.v (a.size:ay)++oj.v (tf.v a)++a) aj else ai else ai else ai else ai
def vo:=b λr0 r1=>ah (r0,r1)
def c:=λa=>(vo a).isSome
def v:=λa=>(vo a).getD (⟨#[]⟩,ao)
theorem out{x}:∀a,vo a=ah x->c a=aj/\v a=x:=λ_=>Lib.dL
end e_

namespace Bc
def b(kr:A2 R)(a:aq)(d e:ay)(f:aq):aA R:=bif e_.c (jb.v a d e f).1 then bif !(jb.v a d e f).2 then kr (aR [Ck.i ar,Ck.s,Ck.s,Ck.s] 0) ao else bif !(e_.v (jb.v a d e f).1).2 then kr (aR [Ck.i ar,Ck.s,Ck.s,Ck.s] 0) ao else kr (aF (aF (aR [Ck.i ar,Ck.s,Ck.s,Ck.s] 2) 0 [.i .i64 1, .s {data:= #[ak 107,ak 101,ak 112,ak 116]}, .s (e_.v (jb.v a d e f).1).1, .s ⟨#[]⟩]) 1 [.i .i64 2, .s {data:= #[ak 107,ak 101,ak 112,ak 116]}, .s ⟨#[]⟩, .s ⟨#[]⟩]) aj else ai
def vo:=b λr0 r1=>ah (r0,r1)
def c:=λa d e f=>(vo a d e f).isSome
def v:=λa d e f=>(vo a d e f).getD ([],ao)
theorem out{x}:∀a d e f,vo a d e f=ah x->c a d e f=aj/\v a d e f=x:=λ_ _ _ _=>Lib.dL
end Bc

namespace th
def b(kr:aU->aA R)(a:aq):aA R:=kr (jN.v (a.size:ay) 1 8)
def v(a0:aq):aU:=(jN.v (a0.size:ay) 1 8)
theorem im(kr:aU->aA R)(a0:aq):b kr a0=kr (v a0):=by first|rfl|(unfold b v;simp only[dI];(repeat' split)<;>rfl)
end th

namespace eO
def r4(N:aG)(g k0 k1:Iz R)(a:aU)(d:ay)(e:Row):aA R:=bif decide (d<(e.length:ay))then bif decide (0<=d)&&decide (d<(e.length:ay))then bif !th.v (bJ (au e d.toNat 0))then k0 ao d e else bif decide (((bJ (au e d.toNat 1)).size:ay)>20000)then k0 ao d e else bif !jN.v (bS (au e d.toNat (1+1))) 0 ((bJ (au e d.toNat 1)).size:ay)then k0 ao d e else bif decide (d>0)then bif decide (0<=bN (d-1))&&decide (bN (d-1)<(e.length:ay))then bif !Op.bytesLess (bJ (au e (bN (d-1)).toNat 0)).toList (bJ (au e d.toNat 0)).toList then k0 ao d e else g a (bN (d+1)) e else ai else g a (bN (d+1)) e else ai else k1 a d e
def l4(N:aG)(k0 k1:Iz R):aG->Iz R
 |0=>λ_ _ _=>ai
 |n+1=>r4 N (l4 N k0 k1 n) k0 k1
def b(N:aG)(kr:aU->aA R)(a:Row):aA R:=bif decide ((a.length:ay)>30)then kr ao else l4 N (λd _ _=>kr d) (λ_ _ _=>kr aj) N ao 0 a
def vo:=b Lib.cR λr0=>ah r0
def c:=λa=>(vo a).isSome
def v:=λa=>(vo a).getD ao
theorem out{x}:∀a,vo a=ah x->c a=aj/\v a=x:=λ_=>Lib.dL
end eO

namespace ju
def r2(N:aG)(g k0 k1:mN R)(a:aq)(d e:ay)(f:Row):aA R:=bif decide (e<(f.length:ay))then bif decide (0<=e)&&decide (e<(f.length:ay))then bif cu (bJ (au f e.toNat 0)).toList (aC a)then k0 a e e f else g a d (bN (e+1)) f else ai else k1 a d e f
def l2(N:aG)(k0 k1:mN R):aG->mN R
 |0=>λ_ _ _ _=>ai
 |n+1=>r2 N (l2 N k0 k1 n) k0 k1
def b(N:aG)(kr:ay->aA R)(a:Row)(d:aq):aA R:=l2 N (λ_ e _ _=>kr e) (λ_ _ _ _=>kr (-1)) N d 0 0 a
def vo:=b Lib.cR λr0=>ah r0
def c:=λa d=>(vo a d).isSome
def v:=λa d=>(vo a d).getD (0)
theorem out{x}:∀a d,vo a d=ah x->c a d=aj/\v a d=x:=λ_ _=>Lib.dL
end ju

namespace jM
def r9(N:aG)(g k0:kg R)(a:ay)(d:Row)(e f:aq)(h:ay)(i:Row):aA R:=bif decide (a<(d.length:ay))then bif decide (0<=a)&&decide (a<(d.length:ay))then bif !(bP (bJ (au d a.toNat 0)).toList (aC e)||List.beq (bJ (au d a.toNat 0)).toList (aC e))then bif decide (0<=a)&&decide (a<(d.length:ay))then bif cF (i.length+(aF (aR [Ck.s,Ck.s,Ck.i ar] 1) 0 [.s (bJ (au d a.toNat 0)), .s (bJ (au d a.toNat 1)), .i .i64 (bS (au d a.toNat (1+1)))]).length) 40 then g (bN (a+1)) d e f h (i++aF (aR [Ck.s,Ck.s,Ck.i ar] 1) 0 [.s (bJ (au d a.toNat 0)), .s (bJ (au d a.toNat 1)), .i .i64 (bS (au d a.toNat (1+1)))])else ai else ai else g (bN (a+1)) d e f h i else ai else k0 a d e f h i
def l9(N:aG)(k0:kg R):aG->kg R
 |0=>λ_ _ _ _ _ _=>ai
 |n+1=>r9 N (l9 N k0 n) k0
def r3(N:aG)(g:pM R)(g1:kg R)(k0:pM R)(k1:kg R)(a:ay)(d:Row)(e f:aq)(h:ay):aA R:=bif decide (a<(d.length:ay))then bif decide (0<=a)&&decide (a<(d.length:ay))then bif bP (bJ (au d a.toNat 0)).toList (aC e)then bif decide (0<=a)&&decide (a<(d.length:ay))then g1 (bN (a+1)) d e f h ([]++aF (aR [Ck.s,Ck.s,Ck.i ar] 1) 0 [.s (bJ (au d a.toNat 0)), .s (bJ (au d a.toNat 1)), .i .i64 (bS (au d a.toNat (1+1)))])else ai else g (bN (a+1)) d e f h else ai else k0 a d e f h
def uU(N:aG)(g:pM R)(g1:kg R)(k0:pM R)(k1:kg R)(a:ay)(d:Row)(e f:aq)(h:ay)(i:Row):aA R:=bif decide (a<(d.length:ay))then bif decide (0<=a)&&decide (a<(d.length:ay))then bif bP (bJ (au d a.toNat 0)).toList (aC e)then bif decide (0<=a)&&decide (a<(d.length:ay))then bif cF (i.length+(aF (aR [Ck.s,Ck.s,Ck.i ar] 1) 0 [.s (bJ (au d a.toNat 0)), .s (bJ (au d a.toNat 1)), .i .i64 (bS (au d a.toNat (1+1)))]).length) 40 then g1 (bN (a+1)) d e f h (i++aF (aR [Ck.s,Ck.s,Ck.i ar] 1) 0 [.s (bJ (au d a.toNat 0)), .s (bJ (au d a.toNat 1)), .i .i64 (bS (au d a.toNat (1+1)))])else ai else ai else g1 (bN (a+1)) d e f h i else ai else k1 a d e f h i
def oa(N:aG)(k0:pM R)(k1:kg R):aG->kg R
 |0=>λ_ _ _ _ _ _=>ai
 |n+1=>uU N (λx0 x1 x2 x3 x4=>ai) (oa N k0 k1 n) k0 k1
def l3(N:aG)(k0:pM R)(k1:kg R):aG->pM R
 |0=>λ_ _ _ _ _=>ai
 |n+1=>r3 N (l3 N k0 k1 n) (oa N k0 k1 n) k0 k1
def b(N:aG)(kr:Row->aA R)(a:Row)(d e:aq)(f:ay):aA R:=l3 N (λ_ h i j l=>l9 N (λ_ _ _ _ _ m=>kr m) N 0 h i j l ([]++aF (aR [Ck.s,Ck.s,Ck.i ar] 1) 0 [.s i, .s j, .i .i64 l])) (λ_ h i j l m=>bif cF (m.length+(aF (aR [Ck.s,Ck.s,Ck.i ar] 1) 0 [.s i, .s j, .i .i64 l]).length) 40 then l9 N (λ_ _ _ _ _ o=>kr o) N 0 h i j l (m++aF (aR [Ck.s,Ck.s,Ck.i ar] 1) 0 [.s i, .s j, .i .i64 l])else ai) N 0 a d e f
def vo:=b Lib.cR λr0=>ah r0
def c:=λa d e f=>(vo a d e f).isSome
def v:=λa d e f=>(vo a d e f).getD ([])
theorem out{x}:∀a d e f,vo a d e f=ah x->c a d e f=aj/\v a d e f=x:=λ_ _ _ _=>Lib.dL
end jM

namespace k_
def r3(N:aG)(g:mr R)(g1:qR R)(k0:mr R)(k1:qR R)(a:aq)(d:ay)(e:Row):aA R:=bif decide (d<(e.length:ay))then bif decide (0<=d)&&decide (d<(e.length:ay))then bif !List.beq (bJ (au e d.toNat 0)).toList (aC a)then bif decide (0<=d)&&decide (d<(e.length:ay))then g1 a (bN (d+1)) e ([]++aF (aR [Ck.s,Ck.s,Ck.i ar] 1) 0 [.s (bJ (au e d.toNat 0)), .s (bJ (au e d.toNat 1)), .i .i64 (bS (au e d.toNat (1+1)))])else ai else g a (bN (d+1)) e else ai else k0 a d e
def uU(N:aG)(g:mr R)(g1:qR R)(k0:mr R)(k1:qR R)(a:aq)(d:ay)(e f:Row):aA R:=bif decide (d<(e.length:ay))then bif decide (0<=d)&&decide (d<(e.length:ay))then bif !List.beq (bJ (au e d.toNat 0)).toList (aC a)then bif decide (0<=d)&&decide (d<(e.length:ay))then bif cF (f.length+(aF (aR [Ck.s,Ck.s,Ck.i ar] 1) 0 [.s (bJ (au e d.toNat 0)), .s (bJ (au e d.toNat 1)), .i .i64 (bS (au e d.toNat (1+1)))]).length) 40 then g1 a (bN (d+1)) e (f++aF (aR [Ck.s,Ck.s,Ck.i ar] 1) 0 [.s (bJ (au e d.toNat 0)), .s (bJ (au e d.toNat 1)), .i .i64 (bS (au e d.toNat (1+1)))])else ai else ai else g1 a (bN (d+1)) e f else ai else k1 a d e f
def oa(N:aG)(k0:mr R)(k1:qR R):aG->qR R
 |0=>λ_ _ _ _=>ai
 |n+1=>uU N (λx0 x1 x2=>ai) (oa N k0 k1 n) k0 k1
def l3(N:aG)(k0:mr R)(k1:qR R):aG->mr R
 |0=>λ_ _ _=>ai
 |n+1=>r3 N (l3 N k0 k1 n) (oa N k0 k1 n) k0 k1
def b(N:aG)(kr:Row->aA R)(a:Row)(d:aq):aA R:=l3 N (λ_ _ _=>kr []) (λ_ _ _ e=>kr e) N d 0 a
def vo:=b Lib.cR λr0=>ah r0
def c:=λa d=>(vo a d).isSome
def v:=λa d=>(vo a d).getD ([])
theorem out{x}:∀a d,vo a d=ah x->c a d=aj/\v a d=x:=λ_ _=>Lib.dL
end k_

namespace zf
abbrev h0{R:Type}(kr:A2 R)(a:Row)(d:ay)(e f h:aq):aA R:=bif ju.c a e then Lib.lt (ju.v a e) λi=>bif decide (i≥0)then bif decide (0<=i)&&decide (i<(a.length:ay))then bif decide (d=1)then bif decide ((bJ (au a i.toNat 1)).size+f.size<=4611686018427387904)then bif jM.c a (bJ (au a i.toNat 0)) (bJ (au a i.toNat 1)++f) (bS (au a i.toNat (1+1)))then Lib.lt (jM.v a (bJ (au a i.toNat 0)) (bJ (au a i.toNat 1)++f) (bS (au a i.toNat (1+1)))) λj=>bif eO.c j then bif !eO.v j then kr [] ao else kr j aj else ai else ai else ai else bif decide (i<0)then kr [] ao else bif decide (d=2)then bif jM.c a (bJ (au a i.toNat 0)) (bJ (au a i.toNat 1)) ((bJ (au a i.toNat 1)).size:ay)then Lib.lt (jM.v a (bJ (au a i.toNat 0)) (bJ (au a i.toNat 1)) ((bJ (au a i.toNat 1)).size:ay)) λj=>bif eO.c j then bif !eO.v j then kr [] ao else kr j aj else ai else ai else bif decide (d=3)then bif decide (bS (au a i.toNat (1+1))<((bJ (au a i.toNat 1)).size:ay))then kr [] ao else bif cu (aC h) (aC e)then kr [] ao else bif !th.v h then kr [] ao else bif k_.c a e then bif jM.c (k_.v a e) h (bJ (au a i.toNat 1)) (bS (au a i.toNat (1+1)))then bif eO.c (jM.v (k_.v a e) h (bJ (au a i.toNat 1)) (bS (au a i.toNat (1+1))))then bif !eO.v (jM.v (k_.v a e) h (bJ (au a i.toNat 1)) (bS (au a i.toNat (1+1))))then kr [] ao else kr (jM.v (k_.v a e) h (bJ (au a i.toNat 1)) (bS (au a i.toNat (1+1)))) aj else ai else ai else ai else bif decide (d=4)then bif k_.c a e then bif eO.c (k_.v a e)then bif !eO.v (k_.v a e)then kr [] ao else kr (k_.v a e) aj else ai else ai else kr [] ao else ai else bif decide (d=1)then bif decide (bh ⟨#[]⟩+f.size<=4611686018427387904)then bif jM.c a e ({data:= #[]}++f) 0 then bif eO.c (jM.v a e ({data:= #[]}++f) 0)then bif !eO.v (jM.v a e ({data:= #[]}++f) 0)then kr [] ao else kr (jM.v a e ({data:= #[]}++f) 0) aj else ai else ai else ai else bif decide (i<0)then kr [] ao else bif decide (d=2)then bif jM.c a e ⟨#[]⟩ (bh ⟨#[]⟩:ay)then bif eO.c (jM.v a e ⟨#[]⟩ (bh ⟨#[]⟩:ay))then bif !eO.v (jM.v a e ⟨#[]⟩ (bh ⟨#[]⟩:ay))then kr [] ao else kr (jM.v a e ⟨#[]⟩ (bh ⟨#[]⟩:ay)) aj else ai else ai else bif decide (d=3)then bif cu (aC h) (aC e)then kr [] ao else bif !th.v h then kr [] ao else bif k_.c a e then bif jM.c (k_.v a e) h ⟨#[]⟩ 0 then bif eO.c (jM.v (k_.v a e) h ⟨#[]⟩ 0)then bif !eO.v (jM.v (k_.v a e) h ⟨#[]⟩ 0)then kr [] ao else kr (jM.v (k_.v a e) h ⟨#[]⟩ 0) aj else ai else ai else ai else bif decide (d=4)then bif k_.c a e then bif eO.c (k_.v a e)then bif !eO.v (k_.v a e)then kr [] ao else kr (k_.v a e) aj else ai else ai else kr [] ao else ai
def b(kr:A2 R)(a:Row)(d:ay)(e f h:aq):aA R:=bif eO.c a then bif !eO.v a then kr [] ao else bif !th.v e then kr [] ao else bif d !=3 then bif !List.beq (aC h) (aC ⟨#[]⟩)then kr [] ao else bif d !=1 then bif !List.beq (aC f) (aC ⟨#[]⟩)then kr [] ao else h0 kr a d e f h else h0 kr a d e f h else bif d !=1 then bif !List.beq (aC f) (aC ⟨#[]⟩)then kr [] ao else h0 kr a d e f h else h0 kr a d e f h else ai
def vo:=b λr0 r1=>ah (r0,r1)
def c:=λa d e f h=>(vo a d e f h).isSome
def v:=λa d e f h=>(vo a d e f h).getD ([],ao)
theorem out{x}:∀a d e f h,vo a d e f h=ah x->c a d e f h=aj/\v a d e f h=x:=λ_ _ _ _ _=>Lib.dL
end zf

namespace oO
def r3(N:aG)(g k0 k1:pO R)(a:Row)(d e:ay)(f:Row):aA R:=bif decide (e<(a.length:ay))then bif decide (0<=e)&&decide (e<(a.length:ay))then bif zf.c f (bS (au a e.toNat 0)) (bJ (au a e.toNat 1)) (bJ (au a e.toNat (1+1))) (bJ (au a e.toNat (1+1+1)))then bif !(zf.v f (bS (au a e.toNat 0)) (bJ (au a e.toNat 1)) (bJ (au a e.toNat (1+1))) (bJ (au a e.toNat (1+1+1)))).2 then k0 a e e f else g a d (bN (e+1)) (zf.v f (bS (au a e.toNat 0)) (bJ (au a e.toNat 1)) (bJ (au a e.toNat (1+1))) (bJ (au a e.toNat (1+1+1)))).1 else ai else ai else k1 a d e f
def l3(N:aG)(k0 k1:pO R):aG->pO R
 |0=>λ_ _ _ _=>ai
 |n+1=>r3 N (l3 N k0 k1 n) k0 k1
def b(N:aG)(kr:vD R)(a d:Row):aA R:=bif cF ((aR [Ck.s,Ck.s,Ck.i ar] 0).length+a.length) 40 then l3 N (λ_ e _ f=>kr f e) (λe _ _ f=>kr f (e.length:ay)) N d 0 0 (aR [Ck.s,Ck.s,Ck.i ar] 0++a)else ai
def vo:=b Lib.cR λr0 r1=>ah (r0,r1)
def c:=λa d=>(vo a d).isSome
def v:=λa d=>(vo a d).getD ([],0)
theorem out{x}:∀a d,vo a d=ah x->c a d=aj/\v a d=x:=λ_ _=>Lib.dL
end oO

namespace xM
def b(kr:ay->aA R)(a:aU):aA R:=bif a then kr 0 else kr 1
def v(a0:aU):ay:=bif a0 then 0 else 1
theorem im(kr:ay->aA R)(a0:aU):b kr a0=kr (v a0):=by first|rfl|(unfold b v;simp only[dI];(repeat' split)<;>rfl)
end xM

namespace A6
def b(kr:qq R)(a:ay)(d e f h:Row)(i:ay)(j l:Row)(m:ay)(o p q:Row)(r s:ay)(t:aq)(u:ay)(w:Row):aA R:=bif Bb.c a d e f h i j l m s (bZ u 1000000)then Lib.lt (Bb.v a d e f h i j l m s (bZ u 1000000)) λy=>bif y.2.2.2.2.2.2.2.2.2 then bif decide (bZ u 1000000>0)then bif decide (0<=s)&&decide (s<(y.2.2.2.2.2.2.1.length:ay))then bif cF ((aR [Ck.s,Ck.i ar,Ck.i ar,Ck.s] 0).length+q.length) 48 then bif cF ((aR [Ck.s,Ck.i ar,Ck.i ar,Ck.s] 0++q).length+(aF (aR [Ck.s,Ck.i ar,Ck.i ar,Ck.s] 1) 0 [.s (bJ (au y.2.2.2.2.2.2.1 s.toNat 0)), .i .i64 (bS (au y.2.2.2.2.2.2.1 s.toNat (1+1+1+1))), .i .i64 (bS (au y.2.2.2.2.2.2.1 s.toNat (1+1+1))), .s (bJ (au y.2.2.2.2.2.2.1 s.toNat 1))]).length) 48 then bif Bc.c (bJ (au y.2.2.2.2.2.2.1 s.toNat 0)) (bS (au y.2.2.2.2.2.2.1 s.toNat (1+1+1+1))) (bS (au y.2.2.2.2.2.2.1 s.toNat (1+1+1))) (bJ (au y.2.2.2.2.2.2.1 s.toNat 1))then Lib.lt (Bc.v (bJ (au y.2.2.2.2.2.2.1 s.toNat 0)) (bS (au y.2.2.2.2.2.2.1 s.toNat (1+1+1+1))) (bS (au y.2.2.2.2.2.2.1 s.toNat (1+1+1))) (bJ (au y.2.2.2.2.2.2.1 s.toNat 1))) λz=>bif z.2 then bif oO.c o z.1 then Lib.lt (oO.v o z.1) λα=>kr (xM.v y.2.2.2.2.2.2.2.2.2) y.1 y.2.1 y.2.2.1 y.2.2.2.1 y.2.2.2.2.1 y.2.2.2.2.2.1 y.2.2.2.2.2.2.1 y.2.2.2.2.2.2.2.1 y.2.2.2.2.2.2.2.2.1 α.1 p (aR [Ck.s,Ck.i ar,Ck.i ar,Ck.s] 0++q++aF (aR [Ck.s,Ck.i ar,Ck.i ar,Ck.s] 1) 0 [.s (bJ (au y.2.2.2.2.2.2.1 s.toNat 0)), .i .i64 (bS (au y.2.2.2.2.2.2.1 s.toNat (1+1+1+1))), .i .i64 (bS (au y.2.2.2.2.2.2.1 s.toNat (1+1+1))), .s (bJ (au y.2.2.2.2.2.2.1 s.toNat 1))])else ai else kr (xM.v y.2.2.2.2.2.2.2.2.2) y.1 y.2.1 y.2.2.1 y.2.2.2.1 y.2.2.2.2.1 y.2.2.2.2.2.1 y.2.2.2.2.2.2.1 y.2.2.2.2.2.2.2.1 y.2.2.2.2.2.2.2.2.1 o p (aR [Ck.s,Ck.i ar,Ck.i ar,Ck.s] 0++q++aF (aR [Ck.s,Ck.i ar,Ck.i ar,Ck.s] 1) 0 [.s (bJ (au y.2.2.2.2.2.2.1 s.toNat 0)), .i .i64 (bS (au y.2.2.2.2.2.2.1 s.toNat (1+1+1+1))), .i .i64 (bS (au y.2.2.2.2.2.2.1 s.toNat (1+1+1))), .s (bJ (au y.2.2.2.2.2.2.1 s.toNat 1))])else ai else ai else ai else ai else kr (xM.v y.2.2.2.2.2.2.2.2.2) y.1 y.2.1 y.2.2.1 y.2.2.2.1 y.2.2.2.2.1 y.2.2.2.2.2.1 y.2.2.2.2.2.2.1 y.2.2.2.2.2.2.2.1 y.2.2.2.2.2.2.2.2.1 o p q else kr (xM.v y.2.2.2.2.2.2.2.2.2) y.1 y.2.1 y.2.2.1 y.2.2.2.1 y.2.2.2.2.1 y.2.2.2.2.2.1 y.2.2.2.2.2.2.1 y.2.2.2.2.2.2.2.1 y.2.2.2.2.2.2.2.2.1 o p q else ai
def vo:=b λr0 r1 r2 r3 r4 r5 r6 r7 r8 r9 GJ PW r12=>ah (r0,r1,r2,r3,r4,r5,r6,r7,r8,r9,GJ,PW,r12)
def c:=λa d e f h i j l m o p q r s t u w=>(vo a d e f h i j l m o p q r s t u w).isSome
def v:=λa d e f h i j l m o p q r s t u w=>(vo a d e f h i j l m o p q r s t u w).getD (0,0,[],[],[],[],0,[],[],0,[],[],[])
theorem out{x}:∀a d e f h i j l m o p q r s t u w,vo a d e f h i j l m o p q r s t u w=ah x->c a d e f h i j l m o p q r s t u w=aj/\v a d e f h i j l m o p q r s t u w=x:=λ_ _ _ _ _ _ _ _ _ _ _ _ _ _ _ _ _=>Lib.dL
end A6

namespace A7
def b(kr:pL R)(a:ay)(d e f h:Row)(i:ay)(j l:Row)(m o:ay):aA R:=bif j7.c a d e f h i j l m then Lib.lt (j7.v a d e f h i j l m) λp=>bif sG.c a d e f h i j l m o then Lib.lt (sG.v a d e f h i j l m o) λq=>bif !q then kr p.1 p.2.1 p.2.2.1 p.2.2.2.1 p.2.2.2.2.1 p.2.2.2.2.2.1 p.2.2.2.2.2.2.1 p.2.2.2.2.2.2.2.1 p.2.2.2.2.2.2.2.2 ao else bif decide (0<=o)&&decide (o<(p.2.2.2.2.2.2.1.length:ay))then bif qF.c p.1 p.2.1 p.2.2.1 p.2.2.2.1 p.2.2.2.2.1 p.2.2.2.2.2.1 (eN p.2.2.2.2.2.2.1 o.toNat 2 [.i .i64 3]) p.2.2.2.2.2.2.2.1 p.2.2.2.2.2.2.2.2 o 3 then Lib.lt (qF.v p.1 p.2.1 p.2.2.1 p.2.2.2.1 p.2.2.2.2.1 p.2.2.2.2.2.1 (eN p.2.2.2.2.2.2.1 o.toNat 2 [.i .i64 3]) p.2.2.2.2.2.2.2.1 p.2.2.2.2.2.2.2.2 o 3) λr=>kr r.1 r.2.1 r.2.2.1 r.2.2.2.1 r.2.2.2.2.1 r.2.2.2.2.2.1 r.2.2.2.2.2.2.1 r.2.2.2.2.2.2.2.1 r.2.2.2.2.2.2.2.2 aj else ai else ai else ai else ai
def vo:=b λr0 r1 r2 r3 r4 r5 r6 r7 r8 r9=>ah (r0,r1,r2,r3,r4,r5,r6,r7,r8,r9)
def c:=λa d e f h i j l m o=>(vo a d e f h i j l m o).isSome
def v:=λa d e f h i j l m o=>(vo a d e f h i j l m o).getD (0,[],[],[],[],0,[],[],0,ao)
theorem out{x}:∀a d e f h i j l m o,vo a d e f h i j l m o=ah x->c a d e f h i j l m o=aj/\v a d e f h i j l m o=x:=λ_ _ _ _ _ _ _ _ _ _=>Lib.dL
end A7

namespace ta
def b(kr:gh R)(a:ay)(d e f h:Row)(i:ay)(j l:Row)(m o:ay):aA R:=bif j7.c a d e f h i j l m then bif decide (bZ o 1000<0)then bif decide ((j7.v a d e f h i j l m).1>bN (1000000000-bN (bZ o 1000+1000)))then kr 1000000000 (j7.v a d e f h i j l m).2.1 (j7.v a d e f h i j l m).2.2.1 (j7.v a d e f h i j l m).2.2.2.1 (j7.v a d e f h i j l m).2.2.2.2.1 (j7.v a d e f h i j l m).2.2.2.2.2.1 (j7.v a d e f h i j l m).2.2.2.2.2.2.1 (j7.v a d e f h i j l m).2.2.2.2.2.2.2.1 (j7.v a d e f h i j l m).2.2.2.2.2.2.2.2 else kr (bN ((j7.v a d e f h i j l m).1+bN (bZ o 1000+1000))) (j7.v a d e f h i j l m).2.1 (j7.v a d e f h i j l m).2.2.1 (j7.v a d e f h i j l m).2.2.2.1 (j7.v a d e f h i j l m).2.2.2.2.1 (j7.v a d e f h i j l m).2.2.2.2.2.1 (j7.v a d e f h i j l m).2.2.2.2.2.2.1 (j7.v a d e f h i j l m).2.2.2.2.2.2.2.1 (j7.v a d e f h i j l m).2.2.2.2.2.2.2.2 else bif decide ((j7.v a d e f h i j l m).1>bN (1000000000-bZ o 1000))then kr 1000000000 (j7.v a d e f h i j l m).2.1 (j7.v a d e f h i j l m).2.2.1 (j7.v a d e f h i j l m).2.2.2.1 (j7.v a d e f h i j l m).2.2.2.2.1 (j7.v a d e f h i j l m).2.2.2.2.2.1 (j7.v a d e f h i j l m).2.2.2.2.2.2.1 (j7.v a d e f h i j l m).2.2.2.2.2.2.2.1 (j7.v a d e f h i j l m).2.2.2.2.2.2.2.2 else kr (bN ((j7.v a d e f h i j l m).1+bZ o 1000)) (j7.v a d e f h i j l m).2.1 (j7.v a d e f h i j l m).2.2.1 (j7.v a d e f h i j l m).2.2.2.1 (j7.v a d e f h i j l m).2.2.2.2.1 (j7.v a d e f h i j l m).2.2.2.2.2.1 (j7.v a d e f h i j l m).2.2.2.2.2.2.1 (j7.v a d e f h i j l m).2.2.2.2.2.2.2.1 (j7.v a d e f h i j l m).2.2.2.2.2.2.2.2 else ai
def vo:=b λr0 r1 r2 r3 r4 r5 r6 r7 r8=>ah (r0,r1,r2,r3,r4,r5,r6,r7,r8)
def c:=λa d e f h i j l m o=>(vo a d e f h i j l m o).isSome
def v:=λa d e f h i j l m o=>(vo a d e f h i j l m o).getD (0,[],[],[],[],0,[],[],0)
theorem out{x}:∀a d e f h i j l m o,vo a d e f h i j l m o=ah x->c a d e f h i j l m o=aj/\v a d e f h i j l m o=x:=λ_ _ _ _ _ _ _ _ _ _=>Lib.dL
end ta

namespace tc
def r4(N:aG)(g k0:fT R)(a d e:ay)(f h i j:Row)(l:ay)(m o:Row)(p q r s t u w:ay)(y z α xa xb xc:Row):aA R:=bif decide (d<(o.length:ay))then bif decide (0<=d)&&decide (d<(o.length:ay))then bif bS (au o d.toNat 0) !=a then bif decide (0<=d)&&decide (d<(o.length:ay))then bif cF (xc.length+(aF (aR [Ck.i ar,Ck.s,Ck.i ar,Ck.i ar,Ck.i ar,Ck.s,Ck.i ar] 1) 0 [.i .i64 (bS (au o d.toNat 0)), .s (bJ (au o d.toNat 1)), .i .i64 (bS (au o d.toNat (1+1))), .i .i64 (bS (au o d.toNat (1+1+1))), .i .i64 (bS (au o d.toNat (1+1+1+1))), .s (bJ (au o d.toNat (1+1+1+1+1))), .i .i64 (bS (au o d.toNat (1+1+1+1+1+1)))]).length) 72 then g a (bN (d+1)) e f h i j l m o p q r s t u w y z α xa xb (xc++aF (aR [Ck.i ar,Ck.s,Ck.i ar,Ck.i ar,Ck.i ar,Ck.s,Ck.i ar] 1) 0 [.i .i64 (bS (au o d.toNat 0)), .s (bJ (au o d.toNat 1)), .i .i64 (bS (au o d.toNat (1+1))), .i .i64 (bS (au o d.toNat (1+1+1))), .i .i64 (bS (au o d.toNat (1+1+1+1))), .s (bJ (au o d.toNat (1+1+1+1+1))), .i .i64 (bS (au o d.toNat (1+1+1+1+1+1)))])else ai else ai else g a (bN (d+1)) e f h i j l m o p q r s t u w y z α xa xb xc else ai else k0 a d e f h i j l m o p q r s t u w y z α xa xb xc
def l4(N:aG)(k0:fT R):aG->fT R
 |0=>λ_ _ _ _ _ _ _ _ _ _ _ _ _ _ _ _ _ _ _ _ _ _ _=>ai
 |n+1=>r4 N (l4 N k0 n) k0
def b(N:aG)(kr:gh R)(a:ay)(d e f h:Row)(i:ay)(j l:Row)(m o:ay):aA R:=bif j7.c a d e f h i j l m then l4 N (λ_ _ _ _ _ _ _ _ _ _ _ _ _ _ p q r s t u w y z=>kr p s t u w q y z r) N o 0 a d e f h i j l m 0 0 0 (j7.v a d e f h i j l m).1 (j7.v a d e f h i j l m).2.2.2.2.2.1 (j7.v a d e f h i j l m).2.2.2.2.2.2.2.2 (j7.v a d e f h i j l m).2.1 (j7.v a d e f h i j l m).2.2.1 (j7.v a d e f h i j l m).2.2.2.1 (j7.v a d e f h i j l m).2.2.2.2.1 (j7.v a d e f h i j l m).2.2.2.2.2.2.1 (aR [Ck.i ar,Ck.s,Ck.i ar,Ck.i ar,Ck.i ar,Ck.s,Ck.i ar] 0)else ai
def vo:=b Lib.cR λr0 r1 r2 r3 r4 r5 r6 r7 r8=>ah (r0,r1,r2,r3,r4,r5,r6,r7,r8)
def c:=λa d e f h i j l m o=>(vo a d e f h i j l m o).isSome
def v:=λa d e f h i j l m o=>(vo a d e f h i j l m o).getD (0,[],[],[],[],0,[],[],0)
theorem out{x}:∀a d e f h i j l m o,vo a d e f h i j l m o=ah x->c a d e f h i j l m o=aj/\v a d e f h i j l m o=x:=λ_ _ _ _ _ _ _ _ _ _=>Lib.dL
end tc

namespace uk
def r5(N:aG)(g:wM R)(g1:sW R)(k0:wM R)(k1:sW R)(a:Row)(d:ay)(e:Row):aA R:=bif decide (d<(e.length:ay))then bif decide (0<=d)&&decide (d<(e.length:ay))then bif decide (d<(a.length:ay))then bif decide (0<=d)&&decide (d<(a.length:ay))then bif decide (bS (au a d.toNat 0)>((bJ (au e d.toNat 1)).size:ay))then bif decide (((bJ (au e d.toNat 1)).size:ay)<bS (au e d.toNat (1+1)))then bif gU 0 (bS (au e d.toNat (1+1))) ((bJ (au e d.toNat 1)).size:ay)then g1 a (bN (d+1)) e ([]++aF (aR [Ck.s,Ck.s,Ck.i ar] 1) 0 [.s (bJ (au e d.toNat 0)), .s (bc (bJ (au e d.toNat 1)) (aY 0) (bS (au e d.toNat (1+1))).toNat), .i .i64 (bS (au e d.toNat (1+1)))])else ai else bif gU 0 ((bJ (au e d.toNat 1)).size:ay) ((bJ (au e d.toNat 1)).size:ay)then g1 a (bN (d+1)) e ([]++aF (aR [Ck.s,Ck.s,Ck.i ar] 1) 0 [.s (bJ (au e d.toNat 0)), .s (bc (bJ (au e d.toNat 1)) (aY 0) ((bJ (au e d.toNat 1)).size:ay).toNat), .i .i64 ((bJ (au e d.toNat 1)).size:ay)])else ai else bif decide (bS (au a d.toNat 0)<bS (au e d.toNat (1+1)))then bif gU 0 (bS (au e d.toNat (1+1))) ((bJ (au e d.toNat 1)).size:ay)then g1 a (bN (d+1)) e ([]++aF (aR [Ck.s,Ck.s,Ck.i ar] 1) 0 [.s (bJ (au e d.toNat 0)), .s (bc (bJ (au e d.toNat 1)) (aY 0) (bS (au e d.toNat (1+1))).toNat), .i .i64 (bS (au e d.toNat (1+1)))])else ai else bif gU 0 (bS (au a d.toNat 0)) ((bJ (au e d.toNat 1)).size:ay)then g1 a (bN (d+1)) e ([]++aF (aR [Ck.s,Ck.s,Ck.i ar] 1) 0 [.s (bJ (au e d.toNat 0)), .s (bc (bJ (au e d.toNat 1)) (aY 0) (bS (au a d.toNat 0)).toNat), .i .i64 (bS (au a d.toNat 0))])else ai else ai else bif decide (0<bS (au e d.toNat (1+1)))then bif gU 0 (bS (au e d.toNat (1+1))) ((bJ (au e d.toNat 1)).size:ay)then g1 a (bN (d+1)) e ([]++aF (aR [Ck.s,Ck.s,Ck.i ar] 1) 0 [.s (bJ (au e d.toNat 0)), .s (bc (bJ (au e d.toNat 1)) (aY 0) (bS (au e d.toNat (1+1))).toNat), .i .i64 (bS (au e d.toNat (1+1)))])else ai else g1 a (bN (d+1)) e ([]++aF (aR [Ck.s,Ck.s,Ck.i ar] 1) 0 [.s (bJ (au e d.toNat 0)), .s (bc (bJ (au e d.toNat 1)) (aY 0) (aY 0)), .i .i64 0])else ai else k0 a d e
def r5a(N:aG)(g:wM R)(g1:sW R)(k0:wM R)(k1:sW R)(a:Row)(d:ay)(e f:Row):aA R:=bif decide (d<(e.length:ay))then bif decide (0<=d)&&decide (d<(e.length:ay))then bif decide (d<(a.length:ay))then bif decide (0<=d)&&decide (d<(a.length:ay))then bif decide (bS (au a d.toNat 0)>((bJ (au e d.toNat 1)).size:ay))then bif decide (((bJ (au e d.toNat 1)).size:ay)<bS (au e d.toNat (1+1)))then bif gU 0 (bS (au e d.toNat (1+1))) ((bJ (au e d.toNat 1)).size:ay)then bif cF (f.length+(aF (aR [Ck.s,Ck.s,Ck.i ar] 1) 0 [.s (bJ (au e d.toNat 0)), .s (bc (bJ (au e d.toNat 1)) (aY 0) (bS (au e d.toNat (1+1))).toNat), .i .i64 (bS (au e d.toNat (1+1)))]).length) 40 then g1 a (bN (d+1)) e (f++aF (aR [Ck.s,Ck.s,Ck.i ar] 1) 0 [.s (bJ (au e d.toNat 0)), .s (bc (bJ (au e d.toNat 1)) (aY 0) (bS (au e d.toNat (1+1))).toNat), .i .i64 (bS (au e d.toNat (1+1)))])else ai else ai else bif gU 0 ((bJ (au e d.toNat 1)).size:ay) ((bJ (au e d.toNat 1)).size:ay)then bif cF (f.length+(aF (aR [Ck.s,Ck.s,Ck.i ar] 1) 0 [.s (bJ (au e d.toNat 0)), .s (bc (bJ (au e d.toNat 1)) (aY 0) ((bJ (au e d.toNat 1)).size:ay).toNat), .i .i64 ((bJ (au e d.toNat 1)).size:ay)]).length) 40 then g1 a (bN (d+1)) e (f++aF (aR [Ck.s,Ck.s,Ck.i ar] 1) 0 [.s (bJ (au e d.toNat 0)), .s (bc (bJ (au e d.toNat 1)) (aY 0) ((bJ (au e d.toNat 1)).size:ay).toNat), .i .i64 ((bJ (au e d.toNat 1)).size:ay)])else ai else ai else bif decide (bS (au a d.toNat 0)<bS (au e d.toNat (1+1)))then bif gU 0 (bS (au e d.toNat (1+1))) ((bJ (au e d.toNat 1)).size:ay)then bif cF (f.length+(aF (aR [Ck.s,Ck.s,Ck.i ar] 1) 0 [.s (bJ (au e d.toNat 0)), .s (bc (bJ (au e d.toNat 1)) (aY 0) (bS (au e d.toNat (1+1))).toNat), .i .i64 (bS (au e d.toNat (1+1)))]).length) 40 then g1 a (bN (d+1)) e (f++aF (aR [Ck.s,Ck.s,Ck.i ar] 1) 0 [.s (bJ (au e d.toNat 0)), .s (bc (bJ (au e d.toNat 1)) (aY 0) (bS (au e d.toNat (1+1))).toNat), .i .i64 (bS (au e d.toNat (1+1)))])else ai else ai else bif gU 0 (bS (au a d.toNat 0)) ((bJ (au e d.toNat 1)).size:ay)then bif cF (f.length+(aF (aR [Ck.s,Ck.s,Ck.i ar] 1) 0 [.s (bJ (au e d.toNat 0)), .s (bc (bJ (au e d.toNat 1)) (aY 0) (bS (au a d.toNat 0)).toNat), .i .i64 (bS (au a d.toNat 0))]).length) 40 then g1 a (bN (d+1)) e (f++aF (aR [Ck.s,Ck.s,Ck.i ar] 1) 0 [.s (bJ (au e d.toNat 0)), .s (bc (bJ (au e d.toNat 1)) (aY 0) (bS (au a d.toNat 0)).toNat), .i .i64 (bS (au a d.toNat 0))])else ai else ai else ai else bif decide (0<bS (au e d.toNat (1+1)))then bif gU 0 (bS (au e d.toNat (1+1))) ((bJ (au e d.toNat 1)).size:ay)then bif cF (f.length+(aF (aR [Ck.s,Ck.s,Ck.i ar] 1) 0 [.s (bJ (au e d.toNat 0)), .s (bc (bJ (au e d.toNat 1)) (aY 0) (bS (au e d.toNat (1+1))).toNat), .i .i64 (bS (au e d.toNat (1+1)))]).length) 40 then g1 a (bN (d+1)) e (f++aF (aR [Ck.s,Ck.s,Ck.i ar] 1) 0 [.s (bJ (au e d.toNat 0)), .s (bc (bJ (au e d.toNat 1)) (aY 0) (bS (au e d.toNat (1+1))).toNat), .i .i64 (bS (au e d.toNat (1+1)))])else ai else ai else bif cF (f.length+(aF (aR [Ck.s,Ck.s,Ck.i ar] 1) 0 [.s (bJ (au e d.toNat 0)), .s (bc (bJ (au e d.toNat 1)) (aY 0) (aY 0)), .i .i64 0]).length) 40 then g1 a (bN (d+1)) e (f++aF (aR [Ck.s,Ck.s,Ck.i ar] 1) 0 [.s (bJ (au e d.toNat 0)), .s (bc (bJ (au e d.toNat 1)) (aY 0) (aY 0)), .i .i64 0])else ai else ai else k1 a d e f
def l5a(N:aG)(k0:wM R)(k1:sW R):aG->sW R
 |0=>λ_ _ _ _=>ai
 |n+1=>r5a N (λx0 x1 x2=>ai) (l5a N k0 k1 n) k0 k1
def l5(N:aG)(k0:wM R)(k1:sW R):aG->wM R
 |0=>λ_ _ _=>ai
 |n+1=>r5 N (l5 N k0 k1 n) (l5a N k0 k1 n) k0 k1
def b(N:aG)(kr:A2 R)(a d:Row):aA R:=bif eO.c a then bif !eO.v a then kr [] ao else l5 N (λ_ _ _=>kr [] aj) (λ_ _ _ e=>kr e aj) N d 0 a else ai
def vo:=b Lib.cR λr0 r1=>ah (r0,r1)
def c:=λa d=>(vo a d).isSome
def v:=λa d=>(vo a d).getD ([],ao)
theorem out{x}:∀a d,vo a d=ah x->c a d=aj/\v a d=x:=λ_ _=>Lib.dL
end uk

namespace lX
def b(kr:yZ R)(a:Row)(d:aq):aA R:=bif ju.c a d then bif decide (ju.v a d<0)then kr ⟨#[]⟩ ao else bif decide (0<=ju.v a d)&&decide (ju.v a d<(a.length:ay))then kr (bJ (au a (ju.v a d).toNat 1)) aj else ai else ai
def vo:=b λr0 r1=>ah (r0,r1)
def c:=λa d=>(vo a d).isSome
def v:=λa d=>(vo a d).getD (⟨#[]⟩,ao)
theorem out{x}:∀a d,vo a d=ah x->c a d=aj/\v a d=x:=λ_ _=>Lib.dL
end lX

namespace eP
def r6(N:aG)(g k0 k1:sZ R)(a:aq)(d e f:ay)(h:aU)(i j l:ay):aA R:=bif decide (l<(a.size:ay))then bif decide (l<bN (d+5))then bif decide (0<=l)&&decide (l<(a.size:ay))then bif decide (0<=l)&&decide (l<(a.size:ay))then bif decide ((↑(fK a l.toNat):ay)<128)then bif decide (bN (i+bN (bZ (bN (↑(fK a l.toNat):ay)) 128*j))>1000000000)then k0 a d 0 0 ao (bN (i+bN (bZ (bN (↑(fK a l.toNat):ay)) 128*j))) (bN (j*128)) l else bif jt.c (bN (i+bN (bZ (bN (↑(fK a l.toNat):ay)) 128*j)))then bif gU d (bN (l+1)) (a.size:ay)then bif !List.beq (jt.v (bN (i+bN (bZ (bN (↑(fK a l.toNat):ay)) 128*j)))).toList (bc a d.toNat (bN (l+1)).toNat).toList then k0 a d 0 0 ao (bN (i+bN (bZ (bN (↑(fK a l.toNat):ay)) 128*j))) (bN (j*128)) l else k0 a d (bN (i+bN (bZ (bN (↑(fK a l.toNat):ay)) 128*j))) (bN (l+1)) aj (bN (i+bN (bZ (bN (↑(fK a l.toNat):ay)) 128*j))) (bN (j*128)) l else ai else ai else g a d e f h (bN (i+bN (bZ (bN (↑(fK a l.toNat):ay)) 128*j))) (bN (j*128)) (bN (l+1))else ai else ai else k1 a d e f h i j l else k1 a d e f h i j l
def l6(N:aG)(k0 k1:sZ R):aG->sZ R
 |0=>λ_ _ _ _ _ _ _ _=>ai
 |n+1=>r6 N (l6 N k0 k1 n) k0 k1
def b(N:aG)(kr:My R)(a:aq)(d:ay):aA R:=bif !jN.v d 0 (a.size:ay)then kr 0 0 ao else l6 N (λ_ _ e f h _ _ _=>kr e f h) (λ_ _ _ _ _ _ _ _=>kr 0 0 ao) N a d 0 0 ao 0 1 d
def v(dH:aq)(gz:ay):ay×ay×aU:=if 0<=gz/\gz<=dH.size then Lib.rv dH gz.toNat 5 0 0 else(0,0,ao)
theorem im(kr:My R)(dH:aq)(gz:ay)(f0:GF dH):∃N,b N kr dH gz=kr (v dH gz).1 (v dH gz).2.1 (v dH gz).2.2:=by
 refine⟨6, ?_⟩
 unfold b v;by_cases hn:0<=gz/\gz<=dH.size
 ·have e:jN.v gz 0 (dH.size:ay)=true:=by simp[jN.v,hn]
  obtain⟨a,rfl⟩:∃a:aG,gz=(a:ay):=⟨gz.toNat,by omega⟩
  have ha:a<=dH.size:=by omega
  rw[e,ba hn,Lib.eK];have hs:dH.size<=4611686018427387904:=f0;simp only[a9,az]
  have:=Lib.iL (λm (s:aG×ay)=>l6 6 (λy8 y9 Kz rO Mr Ms QV y15=>kr Kz rO Mr) (λUJ QW Ma Mt AW XA y22 y23=>kr 0 0 ao) m dH a 0 0 ao s.2 (128^s.1) ((a+s.1:aG):ay)) (λs=>5-s.1) (λs=>s.1<=5/\s.2=Lib.num dH a s.1/\∀i,i<s.1->128<=fK dH (a+i))
   (λs=>kr (Lib.rv dH a (5-s.1) s.1 s.2).1 (Lib.rv dH a (5-s.1) s.1 s.2).2.1 (Lib.rv dH a (5-s.1) s.1 s.2).2.2) (λm s hs5=>by
   obtain⟨j,n⟩:=s
   obtain⟨hj,Zf,Vu⟩:=hs5
   dsimp only at hj Zf Vu⊢
   have hb:=Lib.Ha dH (a+j)
   have e5:bN ((a:ay)+5)=((a+5:aG):ay):=by rw[jH (by omega) (by omega)];omega
   by_cases g6:a+j<dH.size
   ·by_cases hj5:j<5
    ·have eb:bN (fK dH (a+j):ay)=(fK dH (a+j):ay):=jH (by omega) (by omega);have em:bZ (fK dH (a+j):ay) 128=(fK dH (a+j):ay)%128:=iJ (by omega);have hp:(128:ay)^j<=268435456/\(1:ay)<=128^j/\(128:ay)^(j+1)=128^j*128:=by
      obtain rfl|rfl|rfl|rfl|rfl:j=0\/j=1\/j=2\/j=3\/j=4:=by omega
      all_goals decide
     have hrg:=Lib.yN dH j a;rw[<-Zf]at hrg;have hm0:0<=(fK dH (a+j):ay)%128/\(fK dH (a+j):ay)%128<=127:=by omega
     have hq:0<=(fK dH (a+j):ay)%128*128^j/\(fK dH (a+j):ay)%128*128^j<=127*128^j:=
      ⟨Int.mul_nonneg hm0.1 (by omega),Int.mul_le_mul_of_nonneg_right hm0.2 (by omega)⟩
     have eq1:bN ((fK dH (a+j):ay)%128*128^j)=(fK dH (a+j):ay)%128*128^j:=jH (by omega) (by omega);have eq2:bN (n+(fK dH (a+j):ay)%128*128^j)=n+(fK dH (a+j):ay)%128*128^j:=jH (by omega) (by omega);have eq3:bN ((128:ay)^j*128)=128^(j+1):=by rw[hp.2.2];exact jH (by omega) (by omega)
     have ef:5-j=(5-(j+1))+1:=by omega
     have SR:n+(fK dH (a+j):ay)%128*128^j=Lib.num dH a (j+1):=by rw[Lib.uR,<-Zf]
     have en:bN (((a+j:aG):ay)+1)=((a+(j+1):aG):ay):=Lib.dn g6 (by omega);have c2:decide (((a+j:aG):ay)<((a+5:aG):ay))=true:=Lib.NZ (by omega)
     have hrv:Lib.rv dH a (5-j) j n=(if(fK dH (a+j):ay)>127 then Lib.rv dH a (5-(j+1)) (j+1) (n+(fK dH (a+j):ay)%128*128^j)
       else if(j>0/\fK dH (a+j)=0)\/n+(fK dH (a+j):ay)%128*128^j>1000000000 then(0,0,ao)
       else(n+(fK dH (a+j):ay)%128*128^j,((a+j+1:aG):ay),aj)):=by
      rw[ef];simp only[Lib.rv];rw[ba g6]
     simp only[l6,r6,Lib.NZ g6,e5,c2,Lib.c9,Lib.eK,eb,em,eq1,eq2,eq3,en,aw,aL];by_cases hc:(fK dH (a+j):ay)<128
     ·left;rw[aE hc,aw,hrv,a_ (by omega)];by_cases xU:n+(fK dH (a+j):ay)%128*128^j>1000000000
      ·rw[aE xU,ba (.inr xU)];rfl
      ·have ec:jt.c (n+(fK dH (a+j):ay)%128*128^j)=true:=aE (by omega);have ein:gU (a:ay) ((a+(j+1):aG):ay) (dH.size:ay)=true:=by simp[gU];omega
       rw[aK xU,az,ec,aw,ein,aw,SR];have ajG:=Lib.canon dH j a (by omega) Vu (by omega) (by rw[<-SR];omega);unfold jt.v;rw[ajG];by_cases hz:j>0/\fK dH (a+j)=0
       ·rw[aE hz,ba (.inl hz)];rfl
       ·rw[aK hz,a_ (by rw[SR]at xU;omega)];rfl
     ·right;rw[aK hc];refine⟨(j+1,n+(fK dH (a+j):ay)%128*128^j),⟨by dsimp only;omega,SR,λi hi=> ?_⟩,by dsimp only;omega,by dsimp only;rw[hrv,ba (by omega)],rfl⟩
      by_cases Le:i<j
      ·exact Vu i Le
      ·have:i=j:=by dsimp only at hi;omega
       subst this;omega
    ·left;have Dy:j=5:=by omega
     subst Dy;simp only[l6,r6,Lib.NZ g6,e5,Lib.Vl (bB (a+5)),aw,az];rfl
   ·left;have hrv:Lib.rv dH a (5-j) j n=(0,0,ao):=by
     by_cases hj5:j<5
     ·have ef:5-j=(5-(j+1))+1:=by omega
      rw[ef];simp only[Lib.rv];rw[a_ g6]
     ·rw[show 5-j=0 by omega];rfl
    simp only[l6,r6,Lib.Vl g6,az,hrv]) 6 (0,0) ⟨by dsimp only;omega,rfl,λi hi=>by dsimp only at hi;omega⟩ (by dsimp only;omega)
  exact this
 ·have e:jN.v gz 0 (dH.size:ay)=false:=by simp[jN.v];omega
  rw[e,a_ hn];rfl
end eP

namespace qI
def r5(N:aG)(g k0 k1:mN R)(a:aq)(d e:ay)(f:Row):aA R:=bif decide (e<(a.size:ay))then bif !(eP.v a e).2.2 then k0 a e e f else bif decide ((eP.v a e).1>bN (bN ((a.size:ay)-(eP.v a e).2.1)-4))then k0 a e e f else bif gU (bN ((eP.v a e).2.1+4)) (bN (bN ((eP.v a e).2.1+4)+(eP.v a e).1)) (a.size:ay)then bif e_.c (bc a (bN ((eP.v a e).2.1+4)).toNat (bN (bN ((eP.v a e).2.1+4)+(eP.v a e).1)).toNat)then bif !(e_.v (bc a (bN ((eP.v a e).2.1+4)).toNat (bN (bN ((eP.v a e).2.1+4)+(eP.v a e).1)).toNat)).2 then k0 a e e f else bif gU e (bN (bN ((eP.v a e).2.1+4)+(eP.v a e).1)) (a.size:ay)then bif !List.beq (e_.v (bc a (bN ((eP.v a e).2.1+4)).toNat (bN (bN ((eP.v a e).2.1+4)+(eP.v a e).1)).toNat)).1.toList (bc a e.toNat (bN (bN ((eP.v a e).2.1+4)+(eP.v a e).1)).toNat).toList then k0 a e e f else bif cF (f.length+(aF (aR [.s] 1) 0 [.s (bc a (bN ((eP.v a e).2.1+4)).toNat (bN (bN ((eP.v a e).2.1+4)+(eP.v a e).1)).toNat)]).length) 16 then g a d (bN (bN ((eP.v a e).2.1+4)+(eP.v a e).1)) (f++aF (aR [.s] 1) 0 [.s (bc a (bN ((eP.v a e).2.1+4)).toNat (bN (bN ((eP.v a e).2.1+4)+(eP.v a e).1)).toNat)])else ai else ai else ai else ai else k1 a d e f
def l5(N:aG)(k0 k1:mN R):aG->mN R
 |0=>λ_ _ _ _=>ai
 |n+1=>r5 N (l5 N k0 k1 n) k0 k1
def b(N:aG)(kr:vD R)(a:aq):aA R:=bif decide ((a.size:ay)>20000)then kr (aR [.s] 0) 0 else l5 N (λ_ d _ e=>kr e d) (λ_ _ d e=>kr e d) N a 0 0 (aR [.s] 0)
def vo:=b Lib.cR λr0 r1=>ah (r0,r1)
def c:=λa=>(vo a).isSome
def v:=λa=>(vo a).getD ([],0)
theorem out{x}:∀a,vo a=ah x->c a=aj/\v a=x:=λ_=>Lib.dL
end qI

namespace oP
def b(kr:Mz R)(a:aq)(d:ay):aA R:=bif !(eP.v a d).2.2 then kr ⟨#[]⟩ 0 ao else bif decide ((eP.v a d).1>20000)then kr ⟨#[]⟩ 0 ao else bif decide ((eP.v a d).1>bN ((a.size:ay)-(eP.v a d).2.1))then kr ⟨#[]⟩ 0 ao else bif gU (eP.v a d).2.1 (bN ((eP.v a d).2.1+(eP.v a d).1)) (a.size:ay)then kr (bc a (eP.v a d).2.1.toNat (bN ((eP.v a d).2.1+(eP.v a d).1)).toNat) (bN ((eP.v a d).2.1+(eP.v a d).1)) aj else ai
def v(dH:aq)(gz:ay):aq×ay×aU:=Lib.gT dH gz
theorem im(kr:Mz R)(dH:aq)(gz:ay)(f0:GF dH):b kr dH gz=kr (v dH gz).1 (v dH gz).2.1 (v dH gz).2.2:=Lib.Bq f0 gz kr
end oP

namespace jc
def b(kr:yp R)(a:aq):aA R:=bif !(oP.v a 0).2.2 then kr ⟨#[]⟩ 0 0 ⟨#[]⟩ ao else bif !(eP.v a (oP.v a 0).2.1).2.2 then kr ⟨#[]⟩ 0 0 ⟨#[]⟩ ao else bif !(eP.v a (eP.v a (oP.v a 0).2.1).2.1).2.2 then kr ⟨#[]⟩ 0 0 ⟨#[]⟩ ao else bif gU (eP.v a (eP.v a (oP.v a 0).2.1).2.1).2.1 (a.size:ay) (a.size:ay)then bif !(jb.v (oP.v a 0).1 (eP.v a (oP.v a 0).2.1).1 (eP.v a (eP.v a (oP.v a 0).2.1).2.1).1 (bc a (eP.v a (eP.v a (oP.v a 0).2.1).2.1).2.1.toNat (a.size:ay).toNat)).2 then kr ⟨#[]⟩ 0 0 ⟨#[]⟩ ao else bif !List.beq (jb.v (oP.v a 0).1 (eP.v a (oP.v a 0).2.1).1 (eP.v a (eP.v a (oP.v a 0).2.1).2.1).1 (bc a (eP.v a (eP.v a (oP.v a 0).2.1).2.1).2.1.toNat (a.size:ay).toNat)).1.toList (aC a)then kr ⟨#[]⟩ 0 0 ⟨#[]⟩ ao else kr (oP.v a 0).1 (eP.v a (oP.v a 0).2.1).1 (eP.v a (eP.v a (oP.v a 0).2.1).2.1).1 (bc a (eP.v a (eP.v a (oP.v a 0).2.1).2.1).2.1.toNat (a.size:ay).toNat) aj else ai
def no:aq×ay×ay×aq×aU:=(⟨#[]⟩,0,0,⟨#[]⟩,ao)
def v(t0:aq):aq×ay×ay×aq×aU:=
 match Lib.gT t0 0 with
 |(k,a,aj)=>(match Lib.dV t0 a with
  |(s,x,aj)=>(match Lib.dV t0 x with
   |(l,y,aj)=>if ie.v k s l (t0.extract y.toNat t0.size)=aj then(k,s,l,t0.extract y.toNat t0.size,aj)else no
   |_=>no)
  |_=>no)
 |_=>no
theorem im(kr:yp R)(t0:aq)(f0:GF t0):b kr t0=kr (v t0).1 (v t0).2.1 (v t0).2.2.1 (v t0).2.2.2.1 (v t0).2.2.2.2:=by
 have e1:oP.v=Lib.gT:=rfl;have e2:eP.v=Lib.dV:=rfl;unfold b v;simp only[e1,e2,Lib.eK];cases h1:Lib.gT t0 0 with
 |mk k r1=>
  obtain⟨a,ok1⟩:=r1;cases ok1 with
  |false=>rfl
  |true=>
   dsimp only;cases h2:Lib.dV t0 a with
   |mk s r2=>
    obtain⟨x,ok2⟩:=r2;cases ok2 with
    |false=>rfl
    |true=>
     dsimp only;cases h3:Lib.dV t0 x with
     |mk l r3=>
      obtain⟨y,ok3⟩:=r3;cases ok3 with
      |false=>rfl
      |true=>
       obtain⟨p1,p2,p3,p4,p5⟩:=Lib.DV h1;obtain⟨q1,q2,q3,q4,q5,q6⟩:=Lib.jG h2;obtain⟨r1,r2,r3,r4,r5,r6⟩:=Lib.jG h3;dsimp only;simp only[a9,az];rw[Lib.zp (show gU y (t0.size:ay) (t0.size:ay)=aj by simp[gU];omega)];unfold jb.v;cases hE:ie.v k s l (t0.extract y.toNat t0.size)with
       |false=>rfl
       |true=>
        have ht:jb.qN k s l (t0.extract y.toNat t0.size)=t0:=by unfold jb.qN;rw[p5,q6,Lib.uC t0 (by omega) (by omega),r6,Lib.uC t0 (by omega) (by omega),Lib.uC t0 (by omega) (by omega)];exact Lib.Jj t0
        simp only[if_true,a9,az,ht,Lib.nN]
end jc

namespace qG
def r7(N:aG)(g k0:BA R)(a:ay)(d e:Row):aA R:=bif decide (a<(e.length:ay))then bif decide (0<=a)&&decide (a<(e.length:ay))then bif(jc.v (bJ (au e a.toNat 0))).2.2.2.2 then bif eT.c d (jc.v (bJ (au e a.toNat 0))).1 (jc.v (bJ (au e a.toNat 0))).2.1 (jc.v (bJ (au e a.toNat 0))).2.2.1 (jc.v (bJ (au e a.toNat 0))).2.2.2.1 then g (bN (a+1)) (eT.v d (jc.v (bJ (au e a.toNat 0))).1 (jc.v (bJ (au e a.toNat 0))).2.1 (jc.v (bJ (au e a.toNat 0))).2.2.1 (jc.v (bJ (au e a.toNat 0))).2.2.2.1) e else ai else g (bN (a+1)) d e else ai else k0 a d e
def l7(N:aG)(k0:BA R):aG->BA R
 |0=>λ_ _ _=>ai
 |n+1=>r7 N (l7 N k0 n) k0
def b(N:aG)(kr:Row->aA R)(a:Row):aA R:=bif eO.c a then bif !eO.v a then kr (aR [Ck.s,Ck.i ar,Ck.i ar,Ck.s] 0)else bif lX.c a {data:= #[ak 107,ak 101,ak 112,ak 116]}then bif qI.c (lX.v a {data:= #[ak 107,ak 101,ak 112,ak 116]}).1 then l7 N (λ_ d _=>kr d) N 0 (aR [Ck.s,Ck.i ar,Ck.i ar,Ck.s] 0) (qI.v (lX.v a {data:= #[ak 107,ak 101,ak 112,ak 116]}).1).1 else ai else ai else ai
def vo:=b Lib.cR λr0=>ah r0
def c:=λa=>(vo a).isSome
def v:=λa=>(vo a).getD ([])
theorem out{x}:∀a,vo a=ah x->c a=aj/\v a=x:=λ_=>Lib.dL
end qG

namespace lK
def r9(N:aG)(g:yo R)(k0:Eo R)(k1:yo R)(a:Row)(d:aU)(e:aq)(f:ay)(h:Row):aA R:=bif decide (f<(a.length:ay))then bif decide (0<=f)&&decide (f<(a.length:ay))then bif e_.c (jb.v (bJ (au a f.toNat 0)) (bS (au a f.toNat 1)) (bS (au a f.toNat (1+1))) (bJ (au a f.toNat (1+1+1)))).1 then bif !(jb.v (bJ (au a f.toNat 0)) (bS (au a f.toNat 1)) (bS (au a f.toNat (1+1))) (bJ (au a f.toNat (1+1+1)))).2 then k0 a ao e f (aR [Ck.i ar,Ck.s,Ck.s,Ck.s] 0) h else bif !(e_.v (jb.v (bJ (au a f.toNat 0)) (bS (au a f.toNat 1)) (bS (au a f.toNat (1+1))) (bJ (au a f.toNat (1+1+1)))).1).2 then k0 a ao e f (aR [Ck.i ar,Ck.s,Ck.s,Ck.s] 0) h else bif decide (e.size+(e_.v (jb.v (bJ (au a f.toNat 0)) (bS (au a f.toNat 1)) (bS (au a f.toNat (1+1))) (bJ (au a f.toNat (1+1+1)))).1).1.size<=4611686018427387904)then g a d (e++(e_.v (jb.v (bJ (au a f.toNat 0)) (bS (au a f.toNat 1)) (bS (au a f.toNat (1+1))) (bJ (au a f.toNat (1+1+1)))).1).1) (bN (f+1)) h else ai else ai else ai else k1 a d e f h
def l9(N:aG)(k0:Eo R)(k1:yo R):aG->yo R
 |0=>λ_ _ _ _ _=>ai
 |n+1=>r9 N (l9 N k0 k1 n) k0 k1
def b(N:aG)(kr:A2 R)(a d:Row):aA R:=bif eO.c a then bif !eO.v a then kr (aR [Ck.i ar,Ck.s,Ck.s,Ck.s] 0) ao else bif lX.c a {data:= #[ak 110,ak 101,ak 119]}then bif(lX.v a {data:= #[ak 110,ak 101,ak 119]}).2 then l9 N (λ_ e _ _ f _=>kr f e) (λ_ _ e _ f=>bif cF (f.length+(aF (aF (aF (aR [Ck.i ar,Ck.s,Ck.s,Ck.s] 3) 0 [.i .i64 1, .s {data:= #[ak 110,ak 101,ak 119]}, .s e, .s ⟨#[]⟩]) 1 [.i .i64 2, .s {data:= #[ak 110,ak 101,ak 119]}, .s ⟨#[]⟩, .s ⟨#[]⟩]) 2 [.i .i64 3, .s {data:= #[ak 110,ak 101,ak 119]}, .s ⟨#[]⟩, .s {data:= #[ak 107,ak 101,ak 112,ak 116]}]).length) 56 then kr (f++aF (aF (aF (aR [Ck.i ar,Ck.s,Ck.s,Ck.s] 3) 0 [.i .i64 1, .s {data:= #[ak 110,ak 101,ak 119]}, .s e, .s ⟨#[]⟩]) 1 [.i .i64 2, .s {data:= #[ak 110,ak 101,ak 119]}, .s ⟨#[]⟩, .s ⟨#[]⟩]) 2 [.i .i64 3, .s {data:= #[ak 110,ak 101,ak 119]}, .s ⟨#[]⟩, .s {data:= #[ak 107,ak 101,ak 112,ak 116]}]) aj else ai) N d ao ⟨#[]⟩ 0 (aR [Ck.i ar,Ck.s,Ck.s,Ck.s] 0++aF (aR [Ck.i ar,Ck.s,Ck.s,Ck.s] 1) 0 [.i .i64 4, .s {data:= #[ak 110,ak 101,ak 119]}, .s ⟨#[]⟩, .s ⟨#[]⟩])else l9 N (λ_ e _ _ f _=>kr f e) (λ_ _ e _ f=>bif cF (f.length+(aF (aF (aF (aR [Ck.i ar,Ck.s,Ck.s,Ck.s] 3) 0 [.i .i64 1, .s {data:= #[ak 110,ak 101,ak 119]}, .s e, .s ⟨#[]⟩]) 1 [.i .i64 2, .s {data:= #[ak 110,ak 101,ak 119]}, .s ⟨#[]⟩, .s ⟨#[]⟩]) 2 [.i .i64 3, .s {data:= #[ak 110,ak 101,ak 119]}, .s ⟨#[]⟩, .s {data:= #[ak 107,ak 101,ak 112,ak 116]}]).length) 56 then kr (f++aF (aF (aF (aR [Ck.i ar,Ck.s,Ck.s,Ck.s] 3) 0 [.i .i64 1, .s {data:= #[ak 110,ak 101,ak 119]}, .s e, .s ⟨#[]⟩]) 1 [.i .i64 2, .s {data:= #[ak 110,ak 101,ak 119]}, .s ⟨#[]⟩, .s ⟨#[]⟩]) 2 [.i .i64 3, .s {data:= #[ak 110,ak 101,ak 119]}, .s ⟨#[]⟩, .s {data:= #[ak 107,ak 101,ak 112,ak 116]}]) aj else ai) N d ao ⟨#[]⟩ 0 (aR [Ck.i ar,Ck.s,Ck.s,Ck.s] 0)else ai else ai
def vo:=b Lib.cR λr0 r1=>ah (r0,r1)
def c:=λa d=>(vo a d).isSome
def v:=λa d=>(vo a d).getD ([],ao)
theorem out{x}:∀a d,vo a d=ah x->c a d=aj/\v a d=x:=λ_ _=>Lib.dL
end lK

namespace my
def r4(N:aG)(g k0:lk R)(a:ay)(d:Row)(e f h i j l m:ay)(o p q r s t:Row):aA R:=bif decide (e<(d.length:ay))then bif decide (0<=e)&&decide (e<(d.length:ay))then bif ie.v (bJ (au d e.toNat 0)) (bS (au d e.toNat 1)) (bS (au d e.toNat (1+1))) (bJ (au d e.toNat (1+1+1)))then bif decide (0<=e)&&decide (e<(d.length:ay))then bif sE.v (bJ (au d e.toNat 0)) (bS (au d e.toNat 1)) (bS (au d e.toNat (1+1))) (bJ (au d e.toNat (1+1+1))) a then bif decide (0<=e)&&decide (e<(d.length:ay))then bif v_.c j o p q r l s t m (bJ (au d e.toNat 0)) (bS (au d e.toNat 1)) (bS (au d e.toNat (1+1))) (bJ (au d e.toNat (1+1+1)))then Lib.lt (v_.v j o p q r l s t m (bJ (au d e.toNat 0)) (bS (au d e.toNat 1)) (bS (au d e.toNat (1+1))) (bJ (au d e.toNat (1+1+1)))) λu=>g a d (bN (e+1)) f h i u.1 u.2.2.2.2.2.1 u.2.2.2.2.2.2.2.2 u.2.1 u.2.2.1 u.2.2.2.1 u.2.2.2.2.1 u.2.2.2.2.2.2.1 u.2.2.2.2.2.2.2.1 else ai else ai else g a d (bN (e+1)) f h i j l m o p q r s t else ai else g a d (bN (e+1)) f h i j l m o p q r s t else ai else k0 a d e f h i j l m o p q r s t
def l4(N:aG)(k0:lk R):aG->lk R
 |0=>λ_ _ _ _ _ _ _ _ _ _ _ _ _ _ _=>ai
 |n+1=>r4 N (l4 N k0 n) k0
def b(N:aG)(kr:gh R)(a:ay)(d:Row):aA R:=l4 N (λ_ _ _ _ _ _ e f h i j l m o p=>kr e i j l m f o p h) N a d 0 0 0 0 a 0 0 [] [] [] ([]++aF (aR [Ck.l 3] 1) 0 [CV.l 3 (aR [Ck.i ar] (aY 16))]++aF (aR [Ck.l 3] 1) 0 [CV.l 3 (aR [Ck.i ar] (aY 16))]++aF (aR [Ck.l 3] 1) 0 [CV.l 3 (aR [Ck.i ar] (aY 16))]) [] []
def vo:=b Lib.cR λr0 r1 r2 r3 r4 r5 r6 r7 r8=>ah (r0,r1,r2,r3,r4,r5,r6,r7,r8)
def c:=λa d=>(vo a d).isSome
def v:=λa d=>(vo a d).getD (0,[],[],[],[],0,[],[],0)
theorem out{x}:∀a d,vo a d=ah x->c a d=aj/\v a d=x:=λ_ _=>Lib.dL
end my

namespace ui
def r7(N:aG)(g g1 k0 k1:gn R)(a d e f:ay)(h i j l m o p q r s t:Row):aA R:=bif decide (a<(h.length:ay))then bif decide (0<=a)&&decide (a<(h.length:ay))then bif sE.v (bJ (au h a.toNat 0)) (bS (au h a.toNat 1)) (bS (au h a.toNat (1+1))) (bJ (au h a.toNat (1+1+1))) d then bif decide (0<=a)&&decide (a<(h.length:ay))then bif cF (i.length+(aF (aR [Ck.s,Ck.i ar,Ck.i ar,Ck.s] 1) 0 [.s (bJ (au h a.toNat 0)), .i .i64 (bS (au h a.toNat 1)), .i .i64 (bS (au h a.toNat (1+1))), .s (bJ (au h a.toNat (1+1+1)))]).length) 48 then g (bN (a+1)) d e f h (i++aF (aR [Ck.s,Ck.i ar,Ck.i ar,Ck.s] 1) 0 [.s (bJ (au h a.toNat 0)), .i .i64 (bS (au h a.toNat 1)), .i .i64 (bS (au h a.toNat (1+1))), .s (bJ (au h a.toNat (1+1+1)))]) j l m o p q r s t else ai else ai else g (bN (a+1)) d e f h i j l m o p q r s t else ai else k0 a d e f h i j l m o p q r s t
def r7a(N:aG)(g g1 k0 k1:gn R)(a d e f:ay)(h i j l m o p q r s t:Row):aA R:=bif decide (a<(h.length:ay))then bif decide (0<=a)&&decide (a<(h.length:ay))then bif sE.v (bJ (au h a.toNat 0)) (bS (au h a.toNat 1)) (bS (au h a.toNat (1+1))) (bJ (au h a.toNat (1+1+1))) d then bif decide (0<=a)&&decide (a<(h.length:ay))then bif cF (i.length+(aF (aR [Ck.s,Ck.i ar,Ck.i ar,Ck.s] 1) 0 [.s (bJ (au h a.toNat 0)), .i .i64 (bS (au h a.toNat 1)), .i .i64 (bS (au h a.toNat (1+1))), .s (bJ (au h a.toNat (1+1+1)))]).length) 48 then g1 (bN (a+1)) d e f h (i++aF (aR [Ck.s,Ck.i ar,Ck.i ar,Ck.s] 1) 0 [.s (bJ (au h a.toNat 0)), .i .i64 (bS (au h a.toNat 1)), .i .i64 (bS (au h a.toNat (1+1))), .s (bJ (au h a.toNat (1+1+1)))]) j l m o p q r s t else ai else ai else g1 (bN (a+1)) d e f h i j l m o p q r s t else ai else k1 a d e f h i j l m o p q r s t
def l7a(N:aG)(k0 k1:gn R):aG->gn R
 |0=>λ_ _ _ _ _ _ _ _ _ _ _ _ _ _ _=>ai
 |n+1=>r7a N (λx2 x3 x4 x5 x6 x7 x8 x9 Xr Xt GM x13 x14 x15 x16=>ai) (l7a N k0 k1 n) k0 k1
def l7(N:aG)(k0 k1:gn R):aG->gn R
 |0=>λ_ _ _ _ _ _ _ _ _ _ _ _ _ _ _=>ai
 |n+1=>r7 N (l7 N k0 k1 n) (l7a N k0 k1 n) k0 k1
def b(N:aG)(kr:nH R)(a:ay)(d e f h:Row)(i:ay)(j l:Row)(m:ay)(o p q:Row)(r s:ay)(t:aq)(u:ay)(w:Row):aA R:=bif uk.c o w then Lib.lt (uk.v o w) λy=>bif y.2 then bif qG.c y.1 then Lib.lt (qG.v y.1) λz=>l7 N (λ_ α _ _ _ xa _ _ _ _ _ _ xb xc xd=>bif lK.c xb xa then Lib.lt (lK.v xb xa) λxe=>bif xe.2 then bif oO.c xb xe.1 then Lib.lt (oO.v xb xe.1) λxf=>bif my.c α xa then Lib.lt (my.v α xa) λxg=>kr xg.1 xg.2.1 xg.2.2.1 xg.2.2.2.1 xg.2.2.2.2.1 xg.2.2.2.2.2.1 xg.2.2.2.2.2.2.1 xg.2.2.2.2.2.2.2.1 xg.2.2.2.2.2.2.2.2 xf.1 xc xd else ai else ai else bif my.c α xa then Lib.lt (my.v α xa) λxf=>kr xf.1 xf.2.1 xf.2.2.1 xf.2.2.2.1 xf.2.2.2.2.1 xf.2.2.2.2.2.1 xf.2.2.2.2.2.2.1 xf.2.2.2.2.2.2.2.1 xf.2.2.2.2.2.2.2.2 xb xc xd else ai else ai) (λ_ α _ _ _ xa _ _ _ _ _ _ xb xc xd=>bif lK.c xb xa then Lib.lt (lK.v xb xa) λxe=>bif xe.2 then bif oO.c xb xe.1 then Lib.lt (oO.v xb xe.1) λxf=>bif my.c α xa then Lib.lt (my.v α xa) λxg=>kr xg.1 xg.2.1 xg.2.2.1 xg.2.2.2.1 xg.2.2.2.2.1 xg.2.2.2.2.2.1 xg.2.2.2.2.2.2.1 xg.2.2.2.2.2.2.2.1 xg.2.2.2.2.2.2.2.2 xf.1 xc xd else ai else ai else bif my.c α xa then Lib.lt (my.v α xa) λxf=>kr xf.1 xf.2.1 xf.2.2.1 xf.2.2.2.1 xf.2.2.2.2.1 xf.2.2.2.2.2.1 xf.2.2.2.2.2.2.1 xf.2.2.2.2.2.2.2.1 xf.2.2.2.2.2.2.2.2 xb xc xd else ai else ai) N 0 a i m z (aR [Ck.s,Ck.i ar,Ck.i ar,Ck.s] 0) d e f h j l y.1 p q else ai else bif qG.c o then Lib.lt (qG.v o) λz=>l7a N (λ_ α _ _ _ xa _ _ _ _ _ _ xb xc xd=>bif lK.c xb xa then Lib.lt (lK.v xb xa) λxe=>bif xe.2 then bif oO.c xb xe.1 then Lib.lt (oO.v xb xe.1) λxf=>bif my.c α xa then Lib.lt (my.v α xa) λxg=>kr xg.1 xg.2.1 xg.2.2.1 xg.2.2.2.1 xg.2.2.2.2.1 xg.2.2.2.2.2.1 xg.2.2.2.2.2.2.1 xg.2.2.2.2.2.2.2.1 xg.2.2.2.2.2.2.2.2 xf.1 xc xd else ai else ai else bif my.c α xa then Lib.lt (my.v α xa) λxf=>kr xf.1 xf.2.1 xf.2.2.1 xf.2.2.2.1 xf.2.2.2.2.1 xf.2.2.2.2.2.1 xf.2.2.2.2.2.2.1 xf.2.2.2.2.2.2.2.1 xf.2.2.2.2.2.2.2.2 xb xc xd else ai else ai) (λ_ α _ _ _ xa _ _ _ _ _ _ xb xc xd=>bif lK.c xb xa then Lib.lt (lK.v xb xa) λxe=>bif xe.2 then bif oO.c xb xe.1 then Lib.lt (oO.v xb xe.1) λxf=>bif my.c α xa then Lib.lt (my.v α xa) λxg=>kr xg.1 xg.2.1 xg.2.2.1 xg.2.2.2.1 xg.2.2.2.2.1 xg.2.2.2.2.2.1 xg.2.2.2.2.2.2.1 xg.2.2.2.2.2.2.2.1 xg.2.2.2.2.2.2.2.2 xf.1 xc xd else ai else ai else bif my.c α xa then Lib.lt (my.v α xa) λxf=>kr xf.1 xf.2.1 xf.2.2.1 xf.2.2.2.1 xf.2.2.2.2.1 xf.2.2.2.2.2.1 xf.2.2.2.2.2.2.1 xf.2.2.2.2.2.2.2.1 xf.2.2.2.2.2.2.2.2 xb xc xd else ai else ai) N 0 a i m z (aR [Ck.s,Ck.i ar,Ck.i ar,Ck.s] 0) d e f h j l o p q else ai else ai
def vo:=b Lib.cR λr0 r1 r2 r3 r4 r5 r6 r7 r8 r9 GJ PW=>ah (r0,r1,r2,r3,r4,r5,r6,r7,r8,r9,GJ,PW)
def c:=λa d e f h i j l m o p q r s t u w=>(vo a d e f h i j l m o p q r s t u w).isSome
def v:=λa d e f h i j l m o p q r s t u w=>(vo a d e f h i j l m o p q r s t u w).getD (0,[],[],[],[],0,[],[],0,[],[],[])
theorem out{x}:∀a d e f h i j l m o p q r s t u w,vo a d e f h i j l m o p q r s t u w=ah x->c a d e f h i j l m o p q r s t u w=aj/\v a d e f h i j l m o p q r s t u w=x:=λ_ _ _ _ _ _ _ _ _ _ _ _ _ _ _ _ _=>Lib.dL
end ui

namespace Rb
def b(kr:qq R)(a:ay)(d e f h:Row)(i:ay)(j l:Row)(m:ay)(o p q:Row)(r s:ay)(t:aq)(u:ay)(w:Row):aA R:=bif decide (r=1)then bif uh.c a d e f h i j l m s t then Lib.lt (uh.v a d e f h i j l m s t) λy=>kr y.2.2.2.2.2.2.2.2.2 y.1 y.2.1 y.2.2.1 y.2.2.2.1 y.2.2.2.2.1 y.2.2.2.2.2.1 y.2.2.2.2.2.2.1 y.2.2.2.2.2.2.2.1 y.2.2.2.2.2.2.2.2.1 o p q else ai else bif decide (r=2)then bif A4.c a d e f h i j l m s t then Lib.lt (A4.v a d e f h i j l m s t) λy=>kr (xM.v y.2.2.2.2.2.2.2.2.2) y.1 y.2.1 y.2.2.1 y.2.2.2.1 y.2.2.2.2.1 y.2.2.2.2.2.1 y.2.2.2.2.2.2.1 y.2.2.2.2.2.2.2.1 y.2.2.2.2.2.2.2.2.1 o p q else ai else bif decide (r=3)then bif A6.c a d e f h i j l m o p q r s t u w then Lib.lt (A6.v a d e f h i j l m o p q r s t u w) λy=>kr y.1 y.2.1 y.2.2.1 y.2.2.2.1 y.2.2.2.2.1 y.2.2.2.2.2.1 y.2.2.2.2.2.2.1 y.2.2.2.2.2.2.2.1 y.2.2.2.2.2.2.2.2.1 y.2.2.2.2.2.2.2.2.2.1 y.2.2.2.2.2.2.2.2.2.2.1 y.2.2.2.2.2.2.2.2.2.2.2.1 y.2.2.2.2.2.2.2.2.2.2.2.2 else ai else bif decide (r=4)then bif A7.c a d e f h i j l m s then Lib.lt (A7.v a d e f h i j l m s) λy=>kr (xM.v y.2.2.2.2.2.2.2.2.2) y.1 y.2.1 y.2.2.1 y.2.2.2.1 y.2.2.2.2.1 y.2.2.2.2.2.1 y.2.2.2.2.2.2.1 y.2.2.2.2.2.2.2.1 y.2.2.2.2.2.2.2.2.1 o p q else ai else bif decide (r=5)then bif ta.c a d e f h i j l m u then Lib.lt (ta.v a d e f h i j l m u) λy=>kr 0 y.1 y.2.1 y.2.2.1 y.2.2.2.1 y.2.2.2.2.1 y.2.2.2.2.2.1 y.2.2.2.2.2.2.1 y.2.2.2.2.2.2.2.1 y.2.2.2.2.2.2.2.2 o p q else ai else bif decide (r=6)then bif tc.c a d e f h i j l m s then Lib.lt (tc.v a d e f h i j l m s) λy=>kr (xM.v (decide ((y.2.2.2.2.2.2.2.1.length:ay)<(l.length:ay)))) y.1 y.2.1 y.2.2.1 y.2.2.2.1 y.2.2.2.2.1 y.2.2.2.2.2.1 y.2.2.2.2.2.2.1 y.2.2.2.2.2.2.2.1 y.2.2.2.2.2.2.2.2 o p q else ai else bif decide (r=7)then bif ui.c a d e f h i j l m o p q r s t u w then Lib.lt (ui.v a d e f h i j l m o p q r s t u w) λy=>kr 0 y.1 y.2.1 y.2.2.1 y.2.2.2.1 y.2.2.2.2.1 y.2.2.2.2.2.1 y.2.2.2.2.2.2.1 y.2.2.2.2.2.2.2.1 y.2.2.2.2.2.2.2.2.1 y.2.2.2.2.2.2.2.2.2.1 y.2.2.2.2.2.2.2.2.2.2.1 y.2.2.2.2.2.2.2.2.2.2.2 else ai else kr 0 a d e f h i j l m o p q
def vo:=b λr0 r1 r2 r3 r4 r5 r6 r7 r8 r9 GJ PW r12=>ah (r0,r1,r2,r3,r4,r5,r6,r7,r8,r9,GJ,PW,r12)
def c:=λa d e f h i j l m o p q r s t u w=>(vo a d e f h i j l m o p q r s t u w).isSome
def v:=λa d e f h i j l m o p q r s t u w=>(vo a d e f h i j l m o p q r s t u w).getD (0,0,[],[],[],[],0,[],[],0,[],[],[])
theorem out{x}:∀a d e f h i j l m o p q r s t u w,vo a d e f h i j l m o p q r s t u w=ah x->c a d e f h i j l m o p q r s t u w=aj/\v a d e f h i j l m o p q r s t u w=x:=λ_ _ _ _ _ _ _ _ _ _ _ _ _ _ _ _ _=>Lib.dL
end Rb

namespace KO
def b(kr:nH R)(a:ay)(d e f h:Row)(i:ay)(j l:Row)(m:ay)(o p q:Row)(r s:ay)(t:aq)(u:ay)(w:Row):aA R:=bif Rb.c a d e f h i j l m o p q r s t u w then Lib.lt (Rb.v a d e f h i j l m o p q r s t u w) λy=>bif cF ((aR [Ck.i ar] 0).length+y.2.2.2.2.2.2.2.2.2.2.2.1.length) 8 then bif cF ((aR [Ck.i ar] 0++y.2.2.2.2.2.2.2.2.2.2.2.1).length+(aF (aR [Ck.i ar] 1) 0 [.i .i64 y.1]).length) 8 then kr y.2.1 y.2.2.1 y.2.2.2.1 y.2.2.2.2.1 y.2.2.2.2.2.1 y.2.2.2.2.2.2.1 y.2.2.2.2.2.2.2.1 y.2.2.2.2.2.2.2.2.1 y.2.2.2.2.2.2.2.2.2.1 y.2.2.2.2.2.2.2.2.2.2.1 (aR [Ck.i ar] 0++y.2.2.2.2.2.2.2.2.2.2.2.1++aF (aR [Ck.i ar] 1) 0 [.i .i64 y.1]) y.2.2.2.2.2.2.2.2.2.2.2.2 else ai else ai else ai
def vo:=b λr0 r1 r2 r3 r4 r5 r6 r7 r8 r9 GJ PW=>ah (r0,r1,r2,r3,r4,r5,r6,r7,r8,r9,GJ,PW)
def c:=λa d e f h i j l m o p q r s t u w=>(vo a d e f h i j l m o p q r s t u w).isSome
def v:=λa d e f h i j l m o p q r s t u w=>(vo a d e f h i j l m o p q r s t u w).getD (0,[],[],[],[],0,[],[],0,[],[],[])
theorem out{x}:∀a d e f h i j l m o p q r s t u w,vo a d e f h i j l m o p q r s t u w=ah x->c a d e f h i j l m o p q r s t u w=aj/\v a d e f h i j l m o p q r s t u w=x:=λ_ _ _ _ _ _ _ _ _ _ _ _ _ _ _ _ _=>Lib.dL
end KO

namespace Mj
def r3(N:aG)(g k0:jg R)(a:ay)(d:Row)(e f h i j l m o:ay)(p q r s t u w y z:Row):aA R:=bif mJ.c d e f 30 then Lib.lt (mJ.v d e f 30) λα=>bif decide (a<α.1)then bif G8.c α.2.1 α.2.2.1 α.2.2.2 l p q r s m t u o w y z then Lib.lt (G8.v α.2.1 α.2.2.1 α.2.2.2 l p q r s m t u o w y z) λxa=>bif KO.c l xa.2.2.2.2.2.2.2.2.1 xa.2.2.2.2.2.2.2.2.2.1 xa.2.2.2.2.2.2.2.2.2.2.1 xa.2.2.2.2.2.2.2.2.2.2.2.1 m xa.2.2.2.2.2.2.2.2.2.2.2.2.1 xa.2.2.2.2.2.2.2.2.2.2.2.2.2.1 o xa.2.2.2.2.2.2.2.2.2.2.2.2.2.2.1 xa.2.2.2.2.2.2.2.2.2.2.2.2.2.2.2.1 xa.2.2.2.2.2.2.2.2.2.2.2.2.2.2.2.2 xa.1 xa.2.1 xa.2.2.1 xa.2.2.2.1 xa.2.2.2.2.1 then Lib.lt (KO.v l xa.2.2.2.2.2.2.2.2.1 xa.2.2.2.2.2.2.2.2.2.1 xa.2.2.2.2.2.2.2.2.2.2.1 xa.2.2.2.2.2.2.2.2.2.2.2.1 m xa.2.2.2.2.2.2.2.2.2.2.2.2.1 xa.2.2.2.2.2.2.2.2.2.2.2.2.2.1 o xa.2.2.2.2.2.2.2.2.2.2.2.2.2.2.1 xa.2.2.2.2.2.2.2.2.2.2.2.2.2.2.2.1 xa.2.2.2.2.2.2.2.2.2.2.2.2.2.2.2.2 xa.1 xa.2.1 xa.2.2.1 xa.2.2.2.1 xa.2.2.2.2.1) λxb=>g (bN (a+1)) xa.2.2.2.2.2.1 xa.2.2.2.2.2.2.1 xa.2.2.2.2.2.2.2.1 h i j xb.1 xb.2.2.2.2.2.1 xb.2.2.2.2.2.2.2.2.1 xb.2.1 xb.2.2.1 xb.2.2.2.1 xb.2.2.2.2.1 xb.2.2.2.2.2.2.1 xb.2.2.2.2.2.2.2.1 xb.2.2.2.2.2.2.2.2.2.1 xb.2.2.2.2.2.2.2.2.2.2.1 xb.2.2.2.2.2.2.2.2.2.2.2 else ai else ai else k0 a α.2.1 α.2.2.1 α.2.2.2 h i j l m o p q r s t u w y z else ai
def l3(N:aG)(k0:jg R):aG->jg R
 |0=>λ_ _ _ _ _ _ _ _ _ _ _ _ _ _ _ _ _ _ _=>ai
 |n+1=>r3 N (l3 N k0 n) k0
def b(N:aG)(kr:yY R)(a:Row)(d e:ay):aA R:=l3 N (λ_ f h i _ _ _ j l m o p q r s t _ _ _=>kr j o p q r l s t m f h i) N 0 a d e 0 0 0 1 0 0 [] [] [] ([]++aF (aR [Ck.l 3] 1) 0 [CV.l 3 (aR [Ck.i ar] (aY 16))]++aF (aR [Ck.l 3] 1) 0 [CV.l 3 (aR [Ck.i ar] (aY 16))]++aF (aR [Ck.l 3] 1) 0 [CV.l 3 (aR [Ck.i ar] (aY 16))]) [] [] [] [] []
def vo:=b Lib.cR λr0 r1 r2 r3 r4 r5 r6 r7 r8 r9 GJ PW=>ah (r0,r1,r2,r3,r4,r5,r6,r7,r8,r9,GJ,PW)
def c:=λa d e=>(vo a d e).isSome
def v:=λa d e=>(vo a d e).getD (0,[],[],[],[],0,[],[],0,[],0,0)
theorem out{x}:∀a d e,vo a d e=ah x->c a d e=aj/\v a d e=x:=λ_ _ _=>Lib.dL
end Mj

namespace Q_
def b(kr:gh R)(a:Row):aA R:=bif Mi.c a then Lib.lt (Mi.v a) λd=>bif Mj.c d.1 d.2.1 d.2.2 then Lib.lt (Mj.v d.1 d.2.1 d.2.2) λe=>kr e.1 e.2.1 e.2.2.1 e.2.2.2.1 e.2.2.2.2.1 e.2.2.2.2.2.1 e.2.2.2.2.2.2.1 e.2.2.2.2.2.2.2.1 e.2.2.2.2.2.2.2.2.1 else ai else ai
def vo:=b λr0 r1 r2 r3 r4 r5 r6 r7 r8=>ah (r0,r1,r2,r3,r4,r5,r6,r7,r8)
def c:=λa=>(vo a).isSome
def v:=λa=>(vo a).getD (0,[],[],[],[],0,[],[],0)
theorem out{x}:∀a,vo a=ah x->c a=aj/\v a=x:=λ_=>Lib.dL
end Q_

namespace Yf
def c(n:ay):aU:=decide (-9223372036854775808<=n)&&decide (n<=9223372036854775807)
def v(n:ay):aq:=⟨(_root_.Go.Lib.itoa n).toArray⟩
end Yf

namespace v7
def b(kr:aq->aA R)(a:ay):aA R:=bif Yf.c a then kr (Yf.v a)else ai
def vo:=b λr0=>ah r0
def c:=λa=>(vo a).isSome
def v:=λa=>(vo a).getD (⟨#[]⟩)
theorem out{x}:∀a,vo a=ah x->c a=aj/\v a=x:=λ_=>Lib.dL
end v7

namespace EC
def b(kr:aq->aA R)(a:ay):aA R:=bif decide (a=1)then kr ({data:= #[ak 119,ak 97,ak 105,ak 116,ak 115]})else bif decide (a=2)then kr ({data:= #[ak 100,ak 111,ak 110,ak 101]})else kr ({data:= #[ak 102,ak 97,ak 105,ak 108,ak 101,ak 100]})
def v(a0:ay):aq:=bif decide (a0=1)then{data:= #[ak 119,ak 97,ak 105,ak 116,ak 115]}else bif decide (a0=2)then{data:= #[ak 100,ak 111,ak 110,ak 101]}else{data:= #[ak 102,ak 97,ak 105,ak 108,ak 101,ak 100]}
theorem im(kr:aq->aA R)(a0:ay):b kr a0=kr (v a0):=by first|rfl|(unfold b v;simp only[dI];(repeat' split)<;>rfl)
end EC

namespace KK
def r3(N:aG)(g k0:CE R)(a:aq)(d:Row)(e f:ay):aA R:=bif decide (f<e)then bif decide (0<=f)&&decide (f<(d.length:ay))then bif v7.c (fS aj (bS (au d f.toNat 0)) 0)then bif decide ((v7.v (fS aj (bS (au d f.toNat 0)) 0)).size+bh {data:= #[ak 32]}<=4611686018427387904)then bif decide ((v7.v (fS aj (bS (au d f.toNat 0)) 0)++{data:= #[ak 32]}).size+(EC.v (bS (au d f.toNat (1+1+1+1)))).size<=4611686018427387904)then bif decide ((v7.v (fS aj (bS (au d f.toNat 0)) 0)++{data:= #[ak 32]}++EC.v (bS (au d f.toNat (1+1+1+1)))).size+bh {data:= #[ak 32]}<=4611686018427387904)then bif v7.c (fS aj (bS (au d f.toNat (1+1+1+1+1+1))) 0)then bif decide ((v7.v (fS aj (bS (au d f.toNat 0)) 0)++{data:= #[ak 32]}++EC.v (bS (au d f.toNat (1+1+1+1)))++{data:= #[ak 32]}).size+(v7.v (fS aj (bS (au d f.toNat (1+1+1+1+1+1))) 0)).size<=4611686018427387904)then bif decide ((v7.v (fS aj (bS (au d f.toNat 0)) 0)++{data:= #[ak 32]}++EC.v (bS (au d f.toNat (1+1+1+1)))++{data:= #[ak 32]}++v7.v (fS aj (bS (au d f.toNat (1+1+1+1+1+1))) 0)).size+bh {data:= #[ak 32]}<=4611686018427387904)then bif decide ((v7.v (fS aj (bS (au d f.toNat 0)) 0)++{data:= #[ak 32]}++EC.v (bS (au d f.toNat (1+1+1+1)))++{data:= #[ak 32]}++v7.v (fS aj (bS (au d f.toNat (1+1+1+1+1+1))) 0)++{data:= #[ak 32]}).size+(bJ (au d f.toNat (1+1+1+1+1))).size<=4611686018427387904)then bif decide ((v7.v (fS aj (bS (au d f.toNat 0)) 0)++{data:= #[ak 32]}++EC.v (bS (au d f.toNat (1+1+1+1)))++{data:= #[ak 32]}++v7.v (fS aj (bS (au d f.toNat (1+1+1+1+1+1))) 0)++{data:= #[ak 32]}++bJ (au d f.toNat (1+1+1+1+1))).size+bh {data:= #[ak 10]}<=4611686018427387904)then bif decide (a.size+(v7.v (fS aj (bS (au d f.toNat 0)) 0)++{data:= #[ak 32]}++EC.v (bS (au d f.toNat (1+1+1+1)))++{data:= #[ak 32]}++v7.v (fS aj (bS (au d f.toNat (1+1+1+1+1+1))) 0)++{data:= #[ak 32]}++bJ (au d f.toNat (1+1+1+1+1))++{data:= #[ak 10]}).size<=4611686018427387904)then g (a++(v7.v (fS aj (bS (au d f.toNat 0)) 0)++{data:= #[ak 32]}++EC.v (bS (au d f.toNat (1+1+1+1)))++{data:= #[ak 32]}++v7.v (fS aj (bS (au d f.toNat (1+1+1+1+1+1))) 0)++{data:= #[ak 32]}++bJ (au d f.toNat (1+1+1+1+1))++{data:= #[ak 10]})) d e (bN (f+1))else ai else ai else ai else ai else ai else ai else ai else ai else ai else ai else ai else k0 a d e f
def l3(N:aG)(k0:CE R):aG->CE R
 |0=>λ_ _ _ _=>ai
 |n+1=>r3 N (l3 N k0 n) k0
def b(N:aG)(kr:aq->aA R)(a:ay)(d e f h:Row)(i:ay)(j l:Row)(m:ay):aA R:=l3 N (λo _ _ _=>kr o) N ⟨#[]⟩ l (l.length:ay) 0
def vo:=b Lib.cR λr0=>ah r0
def c:=λa d e f h i j l m=>(vo a d e f h i j l m).isSome
def v:=λa d e f h i j l m=>(vo a d e f h i j l m).getD (⟨#[]⟩)
theorem out{x}:∀a d e f h i j l m,vo a d e f h i j l m=ah x->c a d e f h i j l m=aj/\v a d e f h i j l m=x:=λ_ _ _ _ _ _ _ _ _=>Lib.dL
end KK

namespace wa
def c(s t:aq):aU:=eG s.size 4000000000&&bA t.size 1
def v(s t:aq):Row:=(_root_.Go.Lib.splitB t 0 (_root_.Go.Lib.countB s t) s).map λx=>[CV.s x]
end wa

namespace qu
def b(kr:aU->aA R)(a d e:ay):aA R:=bif decide (a≥d)then kr (decide (a<=e))else kr ao
def v(a0 a1 a2:ay):aU:=bif decide (a0≥a1)then decide (a0<=a2)else ao
theorem im(kr:aU->aA R)(a0 a1 a2:ay):b kr a0 a1 a2=kr (v a0 a1 a2):=by first|rfl|(unfold b v;simp only[dI];(repeat' split)<;>rfl)
end qu

namespace n_
def GJ(N:aG)(g k0:pO R)(a:Row)(d e:ay)(f:Row):aA R:=bif decide (e<d)then bif decide (0<=e)&&decide (e<(a.length:ay))then bif !List.beq (bJ (au a e.toNat 0)).toList (aC ⟨#[]⟩)then bif cF (f.length+(aF (aR [.s] 1) 0 [.s (bJ (au a e.toNat 0))]).length) 16 then g a d (bN (e+1)) (f++aF (aR [.s] 1) 0 [.s (bJ (au a e.toNat 0))])else ai else g a d (bN (e+1)) f else ai else k0 a d e f
def Zy(N:aG)(k0:pO R):aG->pO R
 |0=>λ_ _ _ _=>ai
 |n+1=>GJ N (Zy N k0 n) k0
def r5(N:aG)(g k0 k1:GX R)(a:aq)(d:aU)(e:ay)(f:Row):aA R:=bif decide (e<(a.size:ay))then bif decide (0<=e)&&decide (e<(a.size:ay))then bif !qu.v (bN (↑(fK a e.toNat):ay)) 32 126 then k0 a ao e f else g a d (bN (e+1)) f else ai else k1 a d e f
def l5(N:aG)(k0 k1:GX R):aG->GX R
 |0=>λ_ _ _ _=>ai
 |n+1=>r5 N (l5 N k0 k1 n) k0 k1
def b(N:aG)(kr:A2 R)(a:aq):aA R:=bif decide ((a.size:ay)>600)then kr [] ao else l5 N (λ_ d _ _=>kr [] d) (λd _ _ e=>bif wa.c d {data:= #[ak 32]}then Zy N (λ_ _ _ f=>bif decide ((f.length:ay)>10)then kr [] ao else kr f aj) N (wa.v d {data:= #[ak 32]}) ((wa.v d {data:= #[ak 32]}).length:ay) 0 e else ai) N a ao 0 (aR [.s] 0)
def vo:=b Lib.cR λr0 r1=>ah (r0,r1)
def c:=λa=>(vo a).isSome
def v:=λa=>(vo a).getD ([],ao)
theorem out{x}:∀a,vo a=ah x->c a=aj/\v a=x:=λ_=>Lib.dL
end n_

namespace Gv
def b(kr:RE R)(a:aq):aA R:=bif cu (aC a) (aC {data:= #[ak 97,ak 115,ak 107]})then kr 1 ({data:= #[ak 105,ak 116]})else bif cu (aC a) (aC {data:= #[ak 112,ak 97,ak 114,ak 116]})then kr 2 ({data:= #[ak 105,ak 116]})else bif cu (aC a) (aC {data:= #[ak 99,ak 108,ak 111,ak 115,ak 101]})then kr 3 ({data:= #[ak 105,ak 110]})else bif cu (aC a) (aC {data:= #[ak 98,ak 114,ak 101,ak 97,ak 107]})then kr 4 ({data:= #[ak 105]})else bif cu (aC a) (aC {data:= #[ak 112,ak 97,ak 115,ak 115]})then kr 5 ({data:= #[ak 110]})else bif cu (aC a) (aC {data:= #[ak 108,ak 101,ak 97,ak 118,ak 101]})then kr 6 ({data:= #[ak 105]})else bif cu (aC a) (aC {data:= #[ak 102,ak 97,ak 108,ak 108]})then kr 7 ⟨#[]⟩else kr 0 ⟨#[]⟩
def v(a0:aq):ay×aq:=bif cu (aC a0) (aC {data:= #[ak 97,ak 115,ak 107]})then(1,{data:= #[ak 105,ak 116]})else bif cu (aC a0) (aC {data:= #[ak 112,ak 97,ak 114,ak 116]})then(2,{data:= #[ak 105,ak 116]})else bif cu (aC a0) (aC {data:= #[ak 99,ak 108,ak 111,ak 115,ak 101]})then(3,{data:= #[ak 105,ak 110]})else bif cu (aC a0) (aC {data:= #[ak 98,ak 114,ak 101,ak 97,ak 107]})then(4,{data:= #[ak 105]})else bif cu (aC a0) (aC {data:= #[ak 112,ak 97,ak 115,ak 115]})then(5,{data:= #[ak 110]})else bif cu (aC a0) (aC {data:= #[ak 108,ak 101,ak 97,ak 118,ak 101]})then(6,{data:= #[ak 105]})else bif cu (aC a0) (aC {data:= #[ak 102,ak 97,ak 108,ak 108]})then(7,{data:= #[]})else(0,{data:= #[]})
theorem im(kr:RE R)(a0:aq):b kr a0=kr ((v a0).1) ((v a0).2):=by first|rfl|(unfold b v;simp only[dI];(repeat' split)<;>rfl)
end Gv

namespace vt
def c(s:aq):aU:=eG s.size 140737488355328
def v(s:aq):ay×aU:=
 match _root_.Go.Lib.atoiAll s.data.toList with
 | .ok n=>bif decide (0<=n)&&decide (n<=1000000000)&&(_root_.Go.Lib.itoa n==s.data.toList)then(n,aj)else(0,ao)
 |_=>(0,ao)
end vt

namespace KN
def b(kr:aU->aA R)(a d:ay)(e:aq)(f:ay)(h:Row):aA R:=bif qu.v a 1 7 then bif qu.v d 0 30 then bif decide ((e.size:ay)<=60)then bif decide (f≥0)then kr (decide ((h.length:ay)<=4))else kr ao else kr ao else kr ao else kr ao
def v(a0 a1:ay)(a2:aq)(a3:ay)(a4:Row):aU:=bif qu.v a0 1 7 then bif qu.v a1 0 30 then bif decide ((a2.size:ay)<=60)then bif decide (a3≥0)then decide ((a4.length:ay)<=4)else ao else ao else ao else ao
theorem im(kr:aU->aA R)(a0 a1:ay)(a2:aq)(a3:ay)(a4:Row):b kr a0 a1 a2 a3 a4=kr (v a0 a1 a2 a3 a4):=by first|rfl|(unfold b v;simp only[dI];(repeat' split)<;>rfl)
end KN

namespace BK
def r3(N:aG)(g:gX R)(g1:gv R)(k0 k1:gX R)(k2 k3:gv R)(a:aU)(d:Row)(e f h i:ay)(j:aq)(l m o:ay)(p:aq)(q:ay):aA R:=bif decide (f<e)then bif decide (0<=f)&&decide (f<(d.length:ay))then bif vt.c (bJ (au d f.toNat 0))then bif !(vt.v (bJ (au d f.toNat 0))).2 then k0 ao d e f m o p q m o p q else g1 a d e (bN (f+1)) h i j l m o p q ([]++aF (aR [Ck.i ar] 1) 0 [.i .i64 (vt.v (bJ (au d f.toNat 0))).1])else ai else ai else k1 a d e f h i j l m o p q
def uU(N:aG)(g:gX R)(g1:gv R)(k0 k1:gX R)(k2 k3:gv R)(a:aU)(d:Row)(e f h i:ay)(j:aq)(l m o:ay)(p:aq)(q:ay)(r:Row):aA R:=bif decide (f<e)then bif decide (0<=f)&&decide (f<(d.length:ay))then bif vt.c (bJ (au d f.toNat 0))then bif !(vt.v (bJ (au d f.toNat 0))).2 then k2 ao d e f m o p q m o p q r else bif cF (r.length+(aF (aR [Ck.i ar] 1) 0 [.i .i64 (vt.v (bJ (au d f.toNat 0))).1]).length) 8 then g1 a d e (bN (f+1)) h i j l m o p q (r++aF (aR [Ck.i ar] 1) 0 [.i .i64 (vt.v (bJ (au d f.toNat 0))).1])else ai else ai else ai else k3 a d e f h i j l m o p q r
def oa(N:aG)(k0 k1:gX R)(k2 k3:gv R):aG->gv R
 |0=>λ_ _ _ _ _ _ _ _ _ _ _ _ _=>ai
 |n+1=>uU N (λx0 x1 x2 x3 x4 x5 x6 x7 x8 x9 Xr Xt=>ai) (oa N k0 k1 k2 k3 n) k0 k1 k2 k3
def l3(N:aG)(k0 k1:gX R)(k2 k3:gv R):aG->gX R
 |0=>λ_ _ _ _ _ _ _ _ _ _ _ _=>ai
 |n+1=>r3 N (l3 N k0 k1 k2 k3 n) (oa N k0 k1 k2 k3 n) k0 k1 k2 k3
def b(N:aG)(kr:Em R)(a:Row):aA R:=l3 N (λd _ _ _ e f h i _ _ _ _=>kr e f h i [] d) (λ_ _ _ _ _ _ _ _ d e f h=>kr d e f h [] (KN.v d e f h [])) (λd _ _ _ e f h i _ _ _ _ j=>kr e f h i j d) (λ_ _ _ _ _ _ _ _ d e f h i=>kr d e f h i (KN.v d e f h i)) N ao a (a.length:ay) 0 0 0 ⟨#[]⟩ 0 7 0 ⟨#[]⟩ 0
def vo:=b Lib.cR λr0 r1 r2 r3 r4 r5=>ah (r0,r1,r2,r3,r4,r5)
def c:=λa=>(vo a).isSome
def v:=λa=>(vo a).getD (0,0,⟨#[]⟩,0,[],ao)
theorem out{x}:∀a,vo a=ah x->c a=aj/\v a=x:=λ_=>Lib.dL
end BK

namespace qU
def r8(N:aG)(g k0 k1:mM R)(a:aU)(d:aq)(e:Row)(f h i j:ay)(l:aq)(m o p:ay)(q:aq)(r:ay):aA R:=bif decide (h<f)then bif decide (0<=h)&&decide (h<(e.length:ay))then bif vt.c (bJ (au e h.toNat 0))then bif decide (0<=h)&&decide (h<(d.size:ay))then bif decide ((↑(fK d h.toNat):ay)=105)then bif !(vt.v (bJ (au e h.toNat 0))).2 then k0 ao d e f h o (vt.v (bJ (au e h.toNat 0))).1 q r o (vt.v (bJ (au e h.toNat 0))).1 q r else g a d e f (bN (h+1)) i j l m o (vt.v (bJ (au e h.toNat 0))).1 q r else bif decide ((↑(fK d h.toNat):ay)=110)then bif !(vt.v (bJ (au e h.toNat 0))).2 then k0 ao d e f h o p q (vt.v (bJ (au e h.toNat 0))).1 o p q (vt.v (bJ (au e h.toNat 0))).1 else g a d e f (bN (h+1)) i j l m o p q (vt.v (bJ (au e h.toNat 0))).1 else g a d e f (bN (h+1)) i j l m o p (bJ (au e h.toNat 0)) r else ai else ai else ai else k1 a d e f h i j l m o p q r
def l8(N:aG)(k0 k1:mM R):aG->mM R
 |0=>λ_ _ _ _ _ _ _ _ _ _ _ _ _=>ai
 |n+1=>r8 N (l8 N k0 k1 n) k0 k1
def b(N:aG)(kr:Em R)(a:Row):aA R:=bif decide (0<(a.length:ay))then bif decide ((Gv.v (bJ (au a (aY 0) 0))).1=7)then bif gU 1 (a.length:ay) (a.length:ay)then bif BK.c (dR a (aY 1) (a.length:ay).toNat)then kr (BK.v (dR a (aY 1) (a.length:ay).toNat)).1 (BK.v (dR a (aY 1) (a.length:ay).toNat)).2.1 (BK.v (dR a (aY 1) (a.length:ay).toNat)).2.2.1 (BK.v (dR a (aY 1) (a.length:ay).toNat)).2.2.2.1 (BK.v (dR a (aY 1) (a.length:ay).toNat)).2.2.2.2.1 (BK.v (dR a (aY 1) (a.length:ay).toNat)).2.2.2.2.2 else ai else ai else bif decide ((Gv.v (bJ (au a (aY 0) 0))).1=0)then kr (Gv.v (bJ (au a (aY 0) 0))).1 0 ⟨#[]⟩ 0 [] ao else bif(a.length:ay) !=bN (((Gv.v (bJ (au a (aY 0) 0))).2.size:ay)+1)then kr (Gv.v (bJ (au a (aY 0) 0))).1 0 ⟨#[]⟩ 0 [] ao else bif gU 1 (a.length:ay) (a.length:ay)then l8 N (λd _ _ _ _ e f h i _ _ _ _=>kr e f h i [] d) (λ_ _ _ _ _ _ _ _ _ d e f h=>kr d e f h [] (KN.v d e f h [])) N ao (Gv.v (bJ (au a (aY 0) 0))).2 (dR a (aY 1) (a.length:ay).toNat) ((dR a (aY 1) (a.length:ay).toNat).length:ay) 0 0 0 ⟨#[]⟩ 0 (Gv.v (bJ (au a (aY 0) 0))).1 0 ⟨#[]⟩ 0 else ai else ai
def vo:=b Lib.cR λr0 r1 r2 r3 r4 r5=>ah (r0,r1,r2,r3,r4,r5)
def c:=λa=>(vo a).isSome
def v:=λa=>(vo a).getD (0,0,⟨#[]⟩,0,[],ao)
theorem out{x}:∀a,vo a=ah x->c a=aj/\v a=x:=λ_=>Lib.dL
end qU

namespace I7
def r8(N:aG)(g k0 k1:x_ R)(a:ay)(d:Row)(e f:ay)(h:Row):aA R:=bif decide (f<e)then bif decide (0<=f)&&decide (f<(d.length:ay))then bif n_.c (bJ (au d f.toNat 0))then bif(n_.v (bJ (au d f.toNat 0))).2 then bif decide (((n_.v (bJ (au d f.toNat 0))).1.length:ay)=0)then g a d e (bN (f+1)) h else bif decide (0<((n_.v (bJ (au d f.toNat 0))).1.length:ay))then bif decide (0<((bJ (au (n_.v (bJ (au d f.toNat 0))).1 (aY 0) 0)).size:ay))then bif decide ((↑(fK (bJ (au (n_.v (bJ (au d f.toNat 0))).1 (aY 0) 0)) (aY 0)):ay)=35)then g a d e (bN (f+1)) h else bif !(n_.v (bJ (au d f.toNat 0))).2 then k0 (bN (f+1)) d e f h else bif qU.c (n_.v (bJ (au d f.toNat 0))).1 then bif !(qU.v (n_.v (bJ (au d f.toNat 0))).1).2.2.2.2.2 then k0 (bN (f+1)) d e f h else bif decide ((h.length:ay)=70)then k0 (bN (f+1)) d e f h else bif cF (h.length+(aF (aR [Ck.i ar,Ck.i ar,Ck.s,Ck.i ar,Ck.l 3] 1) 0 [.i .i64 (qU.v (n_.v (bJ (au d f.toNat 0))).1).1, .i .i64 (qU.v (n_.v (bJ (au d f.toNat 0))).1).2.1, .s (qU.v (n_.v (bJ (au d f.toNat 0))).1).2.2.1, .i .i64 (qU.v (n_.v (bJ (au d f.toNat 0))).1).2.2.2.1,CV.l 3 (qU.v (n_.v (bJ (au d f.toNat 0))).1).2.2.2.2.1]).length) 64 then g a d e (bN (f+1)) (h++aF (aR [Ck.i ar,Ck.i ar,Ck.s,Ck.i ar,Ck.l 3] 1) 0 [.i .i64 (qU.v (n_.v (bJ (au d f.toNat 0))).1).1, .i .i64 (qU.v (n_.v (bJ (au d f.toNat 0))).1).2.1, .s (qU.v (n_.v (bJ (au d f.toNat 0))).1).2.2.1, .i .i64 (qU.v (n_.v (bJ (au d f.toNat 0))).1).2.2.2.1,CV.l 3 (qU.v (n_.v (bJ (au d f.toNat 0))).1).2.2.2.2.1])else ai else ai else ai else ai else bif !(n_.v (bJ (au d f.toNat 0))).2 then k0 (bN (f+1)) d e f h else bif qU.c (n_.v (bJ (au d f.toNat 0))).1 then bif !(qU.v (n_.v (bJ (au d f.toNat 0))).1).2.2.2.2.2 then k0 (bN (f+1)) d e f h else bif decide ((h.length:ay)=70)then k0 (bN (f+1)) d e f h else bif cF (h.length+(aF (aR [Ck.i ar,Ck.i ar,Ck.s,Ck.i ar,Ck.l 3] 1) 0 [.i .i64 (qU.v (n_.v (bJ (au d f.toNat 0))).1).1, .i .i64 (qU.v (n_.v (bJ (au d f.toNat 0))).1).2.1, .s (qU.v (n_.v (bJ (au d f.toNat 0))).1).2.2.1, .i .i64 (qU.v (n_.v (bJ (au d f.toNat 0))).1).2.2.2.1,CV.l 3 (qU.v (n_.v (bJ (au d f.toNat 0))).1).2.2.2.2.1]).length) 64 then g a d e (bN (f+1)) (h++aF (aR [Ck.i ar,Ck.i ar,Ck.s,Ck.i ar,Ck.l 3] 1) 0 [.i .i64 (qU.v (n_.v (bJ (au d f.toNat 0))).1).1, .i .i64 (qU.v (n_.v (bJ (au d f.toNat 0))).1).2.1, .s (qU.v (n_.v (bJ (au d f.toNat 0))).1).2.2.1, .i .i64 (qU.v (n_.v (bJ (au d f.toNat 0))).1).2.2.2.1,CV.l 3 (qU.v (n_.v (bJ (au d f.toNat 0))).1).2.2.2.2.1])else ai else ai else ai else ai else k1 a d e f h
def l8(N:aG)(k0 k1:x_ R):aG->x_ R
 |0=>λ_ _ _ _ _=>ai
 |n+1=>r8 N (l8 N k0 k1 n) k0 k1
def b(N:aG)(kr:vD R)(a:aq):aA R:=bif wa.c a {data:= #[ak 10]}then bif decide (0<=bN (((wa.v a {data:= #[ak 10]}).length:ay)-1))&&decide (bN (((wa.v a {data:= #[ak 10]}).length:ay)-1)<((wa.v a {data:= #[ak 10]}).length:ay))then bif cu (bJ (au (wa.v a {data:= #[ak 10]}) (bN (((wa.v a {data:= #[ak 10]}).length:ay)-1)).toNat 0)).toList (aC ⟨#[]⟩)then bif gU 0 (bN (((wa.v a {data:= #[ak 10]}).length:ay)-1)) ((wa.v a {data:= #[ak 10]}).length:ay)then bif decide ((a.size:ay)>3000)then kr [] (-1)else bif decide (((dR (wa.v a {data:= #[ak 10]}) (aY 0) (bN (((wa.v a {data:= #[ak 10]}).length:ay)-1)).toNat).length:ay)>90)then kr [] (-1)else l8 N (λd _ _ _ _=>kr [] d) (λ_ _ _ _ d=>kr d 0) N 0 (dR (wa.v a {data:= #[ak 10]}) (aY 0) (bN (((wa.v a {data:= #[ak 10]}).length:ay)-1)).toNat) ((dR (wa.v a {data:= #[ak 10]}) (aY 0) (bN (((wa.v a {data:= #[ak 10]}).length:ay)-1)).toNat).length:ay) 0 (aR [Ck.i ar,Ck.i ar,Ck.s,Ck.i ar,Ck.l 3] 0)else ai else bif decide ((a.size:ay)>3000)then kr [] (-1)else bif decide (((wa.v a {data:= #[ak 10]}).length:ay)>90)then kr [] (-1)else l8 N (λd _ _ _ _=>kr [] d) (λ_ _ _ _ d=>kr d 0) N 0 (wa.v a {data:= #[ak 10]}) ((wa.v a {data:= #[ak 10]}).length:ay) 0 (aR [Ck.i ar,Ck.i ar,Ck.s,Ck.i ar,Ck.l 3] 0)else ai else ai
def vo:=b Lib.cR λr0 r1=>ah (r0,r1)
def c:=λa=>(vo a).isSome
def v:=λa=>(vo a).getD ([],0)
theorem out{x}:∀a,vo a=ah x->c a=aj/\v a=x:=λ_=>Lib.dL
end I7

namespace Ra
def b(kr:ay->aA R)(a:ay):aA R:=bif decide (a<10)then kr (bj a6 (bN (48+a)))else kr (bj a6 (bN (bN (97+a)-10)))
def v(a0:ay):ay:=bif decide (a0<10)then bj a6 (bN (48+a0))else bj a6 (bN (bN (97+a0)-10))
theorem im(kr:ay->aA R)(a0:ay):b kr a0=kr (v a0):=by first|rfl|(unfold b v;simp only[dI];(repeat' split)<;>rfl)
end Ra

namespace Ei
def r5(N:aG)(g k0:Mx R)(a:ay)(d:aU)(e:aq):aA R:=bif a !=0 then bif decide (bZ a 10<0)then bif decide ((bytesOf (aF (aR [Ck.i a6] 1) 0 [CV.i a6 (Ra.v (bN (0-bZ a 10)))])).size+e.size<=4611686018427387904)then g (bN (cO a 10)) d (bytesOf (aF (aR [Ck.i a6] 1) 0 [CV.i a6 (Ra.v (bN (0-bZ a 10)))])++e)else ai else bif decide ((bytesOf (aF (aR [Ck.i a6] 1) 0 [CV.i a6 (Ra.v (bZ a 10))])).size+e.size<=4611686018427387904)then g (bN (cO a 10)) d (bytesOf (aF (aR [Ck.i a6] 1) 0 [CV.i a6 (Ra.v (bZ a 10))])++e)else ai else k0 a d e
def l5(N:aG)(k0:Mx R):aG->Mx R
 |0=>λ_ _ _=>ai
 |n+1=>r5 N (l5 N k0 n) k0
def b(N:aG)(kr:aq->aA R)(a:ay):aA R:=bif decide (a=0)then kr ({data:= #[ak 48]})else l5 N (λ_ d e=>bif d then bif decide (bh {data:= #[ak 45]}+e.size<=4611686018427387904)then kr ({data:= #[ak 45]}++e)else ai else kr e) N a (decide (a<0)) ⟨#[]⟩
def vo:=b Lib.cR λr0=>ah r0
def c:=λa=>(vo a).isSome
def v:=λa=>(vo a).getD (⟨#[]⟩)
theorem out{x}:∀a,vo a=ah x->c a=aj/\v a=x:=λ_=>Lib.dL
end Ei

namespace I8
def b(kr:aU->aA R)(a d:aq):aA R:=bif decide ((a.size:ay)<=(d.size:ay))then bif gU 0 (a.size:ay) (d.size:ay)then kr (cu (bc d (aY 0) (a.size:ay).toNat).toList (aC a))else ai else kr ao
def vo:=b λr0=>ah r0
def c:=λa d=>(vo a d).isSome
def v:=λa d=>(vo a d).getD ao
theorem out{x}:∀a d,vo a d=ah x->c a d=aj/\v a d=x:=λ_ _=>Lib.dL
end I8

namespace ji
def b(kr:aq->aA R)(a:ay):aA R:=bif decide (a<0)then kr ({data:= #[ak 48]})else bif Ei.c a then kr (Ei.v a)else ai
def vo:=b λr0=>ah r0
def c:=λa=>(vo a).isSome
def v:=λa=>(vo a).getD (⟨#[]⟩)
theorem out{x}:∀a,vo a=ah x->c a=aj/\v a=x:=λ_=>Lib.dL
end ji

namespace C_
def r3(N:aG)(g k0:oI R)(a:aq)(d e:ay)(f h i j:Row)(l:ay)(m o:Row)(p:ay):aA R:=bif decide (d<(o.length:ay))then bif decide (0<=d)&&decide (d<(o.length:ay))then bif decide (bS (au o d.toNat (1+1+1+1))=1)then bif decide (bS (au o d.toNat (1+1+1+1))=2)then bif ji.c (bS (au o d.toNat 0))then bif decide (a.size+(ji.v (bS (au o d.toNat 0))).size<=4611686018427387904)then bif decide ((a++ji.v (bS (au o d.toNat 0))).size+bh {data:= #[ak 32]}<=4611686018427387904)then bif decide ((a++ji.v (bS (au o d.toNat 0))++{data:= #[ak 32]}).size+bh {data:= #[ak 100,ak 111,ak 110,ak 101]}<=4611686018427387904)then bif decide ((a++ji.v (bS (au o d.toNat 0))++{data:= #[ak 32]}++{data:= #[ak 100,ak 111,ak 110,ak 101]}).size+bh {data:= #[ak 32]}<=4611686018427387904)then bif ji.c (bS (au o d.toNat (1+1+1+1+1+1)))then bif decide ((a++ji.v (bS (au o d.toNat 0))++{data:= #[ak 32]}++{data:= #[ak 100,ak 111,ak 110,ak 101]}++{data:= #[ak 32]}).size+(ji.v (bS (au o d.toNat (1+1+1+1+1+1)))).size<=4611686018427387904)then bif decide ((a++ji.v (bS (au o d.toNat 0))++{data:= #[ak 32]}++{data:= #[ak 100,ak 111,ak 110,ak 101]}++{data:= #[ak 32]}++ji.v (bS (au o d.toNat (1+1+1+1+1+1)))).size+bh {data:= #[ak 32]}<=4611686018427387904)then bif decide ((a++ji.v (bS (au o d.toNat 0))++{data:= #[ak 32]}++{data:= #[ak 100,ak 111,ak 110,ak 101]}++{data:= #[ak 32]}++ji.v (bS (au o d.toNat (1+1+1+1+1+1)))++{data:= #[ak 32]}).size+(bJ (au o d.toNat (1+1+1+1+1))).size<=4611686018427387904)then bif decide ((a++ji.v (bS (au o d.toNat 0))++{data:= #[ak 32]}++{data:= #[ak 100,ak 111,ak 110,ak 101]}++{data:= #[ak 32]}++ji.v (bS (au o d.toNat (1+1+1+1+1+1)))++{data:= #[ak 32]}++bJ (au o d.toNat (1+1+1+1+1))).size+bh {data:= #[ak 10]}<=4611686018427387904)then g (a++ji.v (bS (au o d.toNat 0))++{data:= #[ak 32]}++{data:= #[ak 100,ak 111,ak 110,ak 101]}++{data:= #[ak 32]}++ji.v (bS (au o d.toNat (1+1+1+1+1+1)))++{data:= #[ak 32]}++bJ (au o d.toNat (1+1+1+1+1))++{data:= #[ak 10]}) (bN (d+1)) e f h i j l m o p else ai else ai else ai else ai else ai else ai else ai else ai else ai else ai else bif ji.c (bS (au o d.toNat 0))then bif decide (a.size+(ji.v (bS (au o d.toNat 0))).size<=4611686018427387904)then bif decide ((a++ji.v (bS (au o d.toNat 0))).size+bh {data:= #[ak 32]}<=4611686018427387904)then bif decide ((a++ji.v (bS (au o d.toNat 0))++{data:= #[ak 32]}).size+bh {data:= #[ak 119,ak 97,ak 105,ak 116,ak 115]}<=4611686018427387904)then bif decide ((a++ji.v (bS (au o d.toNat 0))++{data:= #[ak 32]}++{data:= #[ak 119,ak 97,ak 105,ak 116,ak 115]}).size+bh {data:= #[ak 32]}<=4611686018427387904)then bif ji.c (bS (au o d.toNat (1+1+1+1+1+1)))then bif decide ((a++ji.v (bS (au o d.toNat 0))++{data:= #[ak 32]}++{data:= #[ak 119,ak 97,ak 105,ak 116,ak 115]}++{data:= #[ak 32]}).size+(ji.v (bS (au o d.toNat (1+1+1+1+1+1)))).size<=4611686018427387904)then bif decide ((a++ji.v (bS (au o d.toNat 0))++{data:= #[ak 32]}++{data:= #[ak 119,ak 97,ak 105,ak 116,ak 115]}++{data:= #[ak 32]}++ji.v (bS (au o d.toNat (1+1+1+1+1+1)))).size+bh {data:= #[ak 32]}<=4611686018427387904)then bif decide ((a++ji.v (bS (au o d.toNat 0))++{data:= #[ak 32]}++{data:= #[ak 119,ak 97,ak 105,ak 116,ak 115]}++{data:= #[ak 32]}++ji.v (bS (au o d.toNat (1+1+1+1+1+1)))++{data:= #[ak 32]}).size+(bJ (au o d.toNat (1+1+1+1+1))).size<=4611686018427387904)then bif decide ((a++ji.v (bS (au o d.toNat 0))++{data:= #[ak 32]}++{data:= #[ak 119,ak 97,ak 105,ak 116,ak 115]}++{data:= #[ak 32]}++ji.v (bS (au o d.toNat (1+1+1+1+1+1)))++{data:= #[ak 32]}++bJ (au o d.toNat (1+1+1+1+1))).size+bh {data:= #[ak 10]}<=4611686018427387904)then g (a++ji.v (bS (au o d.toNat 0))++{data:= #[ak 32]}++{data:= #[ak 119,ak 97,ak 105,ak 116,ak 115]}++{data:= #[ak 32]}++ji.v (bS (au o d.toNat (1+1+1+1+1+1)))++{data:= #[ak 32]}++bJ (au o d.toNat (1+1+1+1+1))++{data:= #[ak 10]}) (bN (d+1)) e f h i j l m o p else ai else ai else ai else ai else ai else ai else ai else ai else ai else ai else bif decide (bS (au o d.toNat (1+1+1+1))=2)then bif ji.c (bS (au o d.toNat 0))then bif decide (a.size+(ji.v (bS (au o d.toNat 0))).size<=4611686018427387904)then bif decide ((a++ji.v (bS (au o d.toNat 0))).size+bh {data:= #[ak 32]}<=4611686018427387904)then bif decide ((a++ji.v (bS (au o d.toNat 0))++{data:= #[ak 32]}).size+bh {data:= #[ak 100,ak 111,ak 110,ak 101]}<=4611686018427387904)then bif decide ((a++ji.v (bS (au o d.toNat 0))++{data:= #[ak 32]}++{data:= #[ak 100,ak 111,ak 110,ak 101]}).size+bh {data:= #[ak 32]}<=4611686018427387904)then bif ji.c (bS (au o d.toNat (1+1+1+1+1+1)))then bif decide ((a++ji.v (bS (au o d.toNat 0))++{data:= #[ak 32]}++{data:= #[ak 100,ak 111,ak 110,ak 101]}++{data:= #[ak 32]}).size+(ji.v (bS (au o d.toNat (1+1+1+1+1+1)))).size<=4611686018427387904)then bif decide ((a++ji.v (bS (au o d.toNat 0))++{data:= #[ak 32]}++{data:= #[ak 100,ak 111,ak 110,ak 101]}++{data:= #[ak 32]}++ji.v (bS (au o d.toNat (1+1+1+1+1+1)))).size+bh {data:= #[ak 32]}<=4611686018427387904)then bif decide ((a++ji.v (bS (au o d.toNat 0))++{data:= #[ak 32]}++{data:= #[ak 100,ak 111,ak 110,ak 101]}++{data:= #[ak 32]}++ji.v (bS (au o d.toNat (1+1+1+1+1+1)))++{data:= #[ak 32]}).size+(bJ (au o d.toNat (1+1+1+1+1))).size<=4611686018427387904)then bif decide ((a++ji.v (bS (au o d.toNat 0))++{data:= #[ak 32]}++{data:= #[ak 100,ak 111,ak 110,ak 101]}++{data:= #[ak 32]}++ji.v (bS (au o d.toNat (1+1+1+1+1+1)))++{data:= #[ak 32]}++bJ (au o d.toNat (1+1+1+1+1))).size+bh {data:= #[ak 10]}<=4611686018427387904)then g (a++ji.v (bS (au o d.toNat 0))++{data:= #[ak 32]}++{data:= #[ak 100,ak 111,ak 110,ak 101]}++{data:= #[ak 32]}++ji.v (bS (au o d.toNat (1+1+1+1+1+1)))++{data:= #[ak 32]}++bJ (au o d.toNat (1+1+1+1+1))++{data:= #[ak 10]}) (bN (d+1)) e f h i j l m o p else ai else ai else ai else ai else ai else ai else ai else ai else ai else ai else bif ji.c (bS (au o d.toNat 0))then bif decide (a.size+(ji.v (bS (au o d.toNat 0))).size<=4611686018427387904)then bif decide ((a++ji.v (bS (au o d.toNat 0))).size+bh {data:= #[ak 32]}<=4611686018427387904)then bif decide ((a++ji.v (bS (au o d.toNat 0))++{data:= #[ak 32]}).size+bh {data:= #[ak 102,ak 97,ak 105,ak 108,ak 101,ak 100]}<=4611686018427387904)then bif decide ((a++ji.v (bS (au o d.toNat 0))++{data:= #[ak 32]}++{data:= #[ak 102,ak 97,ak 105,ak 108,ak 101,ak 100]}).size+bh {data:= #[ak 32]}<=4611686018427387904)then bif ji.c (bS (au o d.toNat (1+1+1+1+1+1)))then bif decide ((a++ji.v (bS (au o d.toNat 0))++{data:= #[ak 32]}++{data:= #[ak 102,ak 97,ak 105,ak 108,ak 101,ak 100]}++{data:= #[ak 32]}).size+(ji.v (bS (au o d.toNat (1+1+1+1+1+1)))).size<=4611686018427387904)then bif decide ((a++ji.v (bS (au o d.toNat 0))++{data:= #[ak 32]}++{data:= #[ak 102,ak 97,ak 105,ak 108,ak 101,ak 100]}++{data:= #[ak 32]}++ji.v (bS (au o d.toNat (1+1+1+1+1+1)))).size+bh {data:= #[ak 32]}<=4611686018427387904)then bif decide ((a++ji.v (bS (au o d.toNat 0))++{data:= #[ak 32]}++{data:= #[ak 102,ak 97,ak 105,ak 108,ak 101,ak 100]}++{data:= #[ak 32]}++ji.v (bS (au o d.toNat (1+1+1+1+1+1)))++{data:= #[ak 32]}).size+(bJ (au o d.toNat (1+1+1+1+1))).size<=4611686018427387904)then bif decide ((a++ji.v (bS (au o d.toNat 0))++{data:= #[ak 32]}++{data:= #[ak 102,ak 97,ak 105,ak 108,ak 101,ak 100]}++{data:= #[ak 32]}++ji.v (bS (au o d.toNat (1+1+1+1+1+1)))++{data:= #[ak 32]}++bJ (au o d.toNat (1+1+1+1+1))).size+bh {data:= #[ak 10]}<=4611686018427387904)then g (a++ji.v (bS (au o d.toNat 0))++{data:= #[ak 32]}++{data:= #[ak 102,ak 97,ak 105,ak 108,ak 101,ak 100]}++{data:= #[ak 32]}++ji.v (bS (au o d.toNat (1+1+1+1+1+1)))++{data:= #[ak 32]}++bJ (au o d.toNat (1+1+1+1+1))++{data:= #[ak 10]}) (bN (d+1)) e f h i j l m o p else ai else ai else ai else ai else ai else ai else ai else ai else ai else ai else ai else k0 a d e f h i j l m o p
def l3(N:aG)(k0:oI R):aG->oI R
 |0=>λ_ _ _ _ _ _ _ _ _ _ _=>ai
 |n+1=>r3 N (l3 N k0 n) k0
def b(N:aG)(kr:aq->aA R)(a:ay)(d e f h:Row)(i:ay)(j l:Row)(m:ay):aA R:=l3 N (λo _ _ _ _ _ _ _ _ _ _=>kr o) N ⟨#[]⟩ 0 a d e f h i j l m
def vo:=b Lib.cR λr0=>ah r0
def c:=λa d e f h i j l m=>(vo a d e f h i j l m).isSome
def v:=λa d e f h i j l m=>(vo a d e f h i j l m).getD (⟨#[]⟩)
theorem out{x}:∀a d e f h i j l m,vo a d e f h i j l m=ah x->c a d e f h i j l m=aj/\v a d e f h i j l m=x:=λ_ _ _ _ _ _ _ _ _=>Lib.dL
end C_

namespace U5
def r13(N:aG)(g k0:dW R)(a:aq)(d e f h i j:ay)(l m o p q r s:Row):aA R:=bif decide (e<(a.size:ay))then bif decide (0<=e)&&decide (e<(a.size:ay))then bif(↑(fK a e.toNat):ay) !=10 then g a d (bN (e+1)) f h i j l m o p q r s else k0 a d e f h i j l m o p q r s else ai else k0 a d e f h i j l m o p q r s
def Ro(N:aG)(k0:dW R):aG->dW R
 |0=>λ_ _ _ _ _ _ _ _ _ _ _ _ _ _=>ai
 |n+1=>r13 N (Ro N k0 n) k0
def r8(N:aG)(g:fE R)(g1:dW R)(k0 k1:fE R)(k2:dW R)(a:aU)(d:aq)(e f h i j l:ay)(m o p q r s t:Row):aA R:=bif decide (h<(t.length:ay))then bif decide (0<=h)&&decide (h<(t.length:ay))then bif Ei.c (bS (au t h.toNat 0))then Lib.lt (Ei.v (bS (au t h.toNat 0))) λu=>bif decide (u.size+bh {data:= #[ak 32]}<=4611686018427387904)then bif gU f (d.size:ay) (d.size:ay)then bif I8.c (u++{data:= #[ak 32]}) (bc d f.toNat (d.size:ay).toNat)then Lib.lt (I8.v (u++{data:= #[ak 32]}) (bc d f.toNat (d.size:ay).toNat)) λw=>bif !w then k0 ao d e f h i j l m o p q r s t else Ro N (λy z α xa xb xc xd xe xf xg xh xi xj xk=>g1 y z (bN (α+1)) (bN (xa+1)) xb xc xd xe xf xg xh xi xj xk) N d e f h i j l m o p q r s t else ai else ai else ai else ai else ai else k1 a d e f h i j l m o p q r s t
def r8a(N:aG)(g:fE R)(g1:dW R)(k0 k1:fE R)(k2:dW R)(a:aq)(d e f h i j:ay)(l m o p q r s:Row):aA R:=bif decide (f<(s.length:ay))then bif decide (0<=f)&&decide (f<(s.length:ay))then bif Ei.c (bS (au s f.toNat 0))then Lib.lt (Ei.v (bS (au s f.toNat 0))) λt=>bif decide (t.size+bh {data:= #[ak 32]}<=4611686018427387904)then bif gU e (a.size:ay) (a.size:ay)then bif I8.c (t++{data:= #[ak 32]}) (bc a e.toNat (a.size:ay).toNat)then Lib.lt (I8.v (t++{data:= #[ak 32]}) (bc a e.toNat (a.size:ay).toNat)) λu=>bif !u then k0 ao a d e f h i j l m o p q r s else Ro N (λw y z α xa xb xc xd xe xf xg xh xi xj=>g1 w y (bN (z+1)) (bN (α+1)) xa xb xc xd xe xf xg xh xi xj) N a d e f h i j l m o p q r s else ai else ai else ai else ai else ai else k2 a d e f h i j l m o p q r s
def Rp(N:aG)(k0 k1:fE R)(k2:dW R):aG->dW R
 |0=>λ_ _ _ _ _ _ _ _ _ _ _ _ _ _=>ai
 |n+1=>r8a N (λx3 x4 x5 x6 x7 x8 x9 Xr Xt GM x13 x14 x15 x16 x17=>ai) (Rp N k0 k1 k2 n) k0 k1 k2
def l8(N:aG)(k0 k1:fE R)(k2:dW R):aG->fE R
 |0=>λ_ _ _ _ _ _ _ _ _ _ _ _ _ _ _=>ai
 |n+1=>r8 N (l8 N k0 k1 k2 n) (Rp N k0 k1 k2 n) k0 k1 k2
def b(N:aG)(kr:aU->aA R)(a:Row):aA R:=bif U8.v a then kr aj else bif Q_.c a then Lib.lt (Q_.v a) λd=>bif KK.c d.1 d.2.1 d.2.2.1 d.2.2.2.1 d.2.2.2.2.1 d.2.2.2.2.2.1 d.2.2.2.2.2.2.1 d.2.2.2.2.2.2.2.1 d.2.2.2.2.2.2.2.2 then Lib.lt (KK.v d.1 d.2.1 d.2.2.1 d.2.2.2.1 d.2.2.2.2.1 d.2.2.2.2.2.1 d.2.2.2.2.2.2.1 d.2.2.2.2.2.2.2.1 d.2.2.2.2.2.2.2.2) λe=>bif I7.c {data:= #[ak 97,ak 115,ak 107,ak 32,ak 49,ak 32,ak 47,ak 97,ak 10,ak 102,ak 97,ak 108,ak 108,ak 32,ak 51,ak 32,ak 52,ak 10]}then Lib.lt (I7.v {data:= #[ak 97,ak 115,ak 107,ak 32,ak 49,ak 32,ak 47,ak 97,ak 10,ak 102,ak 97,ak 108,ak 108,ak 32,ak 51,ak 32,ak 52,ak 10]}) λf=>l8 N (λh _ _ _ _ _ _ _ _ _ _ _ _ _ _=>kr h) (λ_ h i j _ l m o p q r s t u w=>bif decide (j=(h.size:ay))then bif C_.c l q r s t m u w o then Lib.lt (C_.v l q r s t m u w o) λy=>bif cu (aC h) (aC y)then bif decide (i=0)then bif decide ((p.length:ay)=2)then bif decide (1<(p.length:ay))then kr (decide (((kU (au p (aY 1) 4)).length:ay)=2))else ai else kr ao else kr ao else kr ao else ai else kr ao) (λh i j _ l m o p q r s t u w=>bif decide (j=(h.size:ay))then bif C_.c l q r s t m u w o then Lib.lt (C_.v l q r s t m u w o) λy=>bif cu (aC h) (aC y)then bif decide (i=0)then bif decide ((p.length:ay)=2)then bif decide (1<(p.length:ay))then kr (decide (((kU (au p (aY 1) 4)).length:ay)=2))else ai else kr ao else kr ao else kr ao else ai else kr ao) N ao e f.2 0 0 d.1 d.2.2.2.2.2.1 d.2.2.2.2.2.2.2.2 f.1 d.2.1 d.2.2.1 d.2.2.2.1 d.2.2.2.2.1 d.2.2.2.2.2.2.1 d.2.2.2.2.2.2.2.1 else ai else ai else ai
def vo:=b Lib.cR λr0=>ah r0
def c:=λa=>(vo a).isSome
def v:=λa=>(vo a).getD ao
theorem out{x}:∀a,vo a=ah x->c a=aj/\v a=x:=λ_=>Lib.dL
end U5

namespace U79
def b(kr:aU->aA R)(a:aq)(d e:ay)(f qb:aq):aA R:=kr (cu (aC a) (aC qb))
def v(a0:aq)(a1 a2:ay)(a3 qb:aq):aU:=(cu (aC a0) (aC qb))
end U79

namespace RU
def r2(N:aG)(g k0 k1:kE R)(a:Row)(d:aq)(e f h:ay):aA R:=bif decide (h<f)then bif decide (0<=h)&&decide (h<(a.length:ay))then bif U79.v (bJ (au a h.toNat 0)) (bS (au a h.toNat 1)) (bS (au a h.toNat (1+1))) (bJ (au a h.toNat (1+1+1))) d then k0 a d h f h else g a d e f (bN (h+1))else ai else k1 a d e f h
def l2(N:aG)(k0 k1:kE R):aG->kE R
 |0=>λ_ _ _ _ _=>ai
 |n+1=>r2 N (l2 N k0 k1 n) k0 k1
def b(N:aG)(kr:ay->aA R)(a:Row)(qb:aq):aA R:=l2 N (λ_ _ d _ _=>kr d) (λ_ _ _ _ _=>kr (-1)) N a qb 0 (a.length:ay) 0
def vo:=b Lib.cR λr0=>ah r0
def c:=λa d=>(vo a d).isSome
def v:=λa d=>(vo a d).getD (0)
theorem out{x}:∀a d,vo a d=ah x->c a d=aj/\v a d=x:=λ_ _=>Lib.dL
end RU

namespace A9
def b(kr:aU->aA R)(a:aq)(d e:ay)(f qb:aq):aA R:=kr (cu (aC a) (aC qb))
def v(a0:aq)(a1 a2:ay)(a3 qb:aq):aU:=(cu (aC a0) (aC qb))
end A9

namespace tl
def r2(N:aG)(g k0 k1:kE R)(a:Row)(d:aq)(e f h:ay):aA R:=bif decide (h<f)then bif decide (0<=h)&&decide (h<(a.length:ay))then bif A9.v (bJ (au a h.toNat 0)) (bS (au a h.toNat 1)) (bS (au a h.toNat (1+1))) (bJ (au a h.toNat (1+1+1))) d then k0 a d h f h else g a d e f (bN (h+1))else ai else k1 a d e f h
def l2(N:aG)(k0 k1:kE R):aG->kE R
 |0=>λ_ _ _ _ _=>ai
 |n+1=>r2 N (l2 N k0 k1 n) k0 k1
def b(N:aG)(kr:ay->aA R)(a:Row)(qb:aq):aA R:=l2 N (λ_ _ d _ _=>kr d) (λ_ _ _ _ _=>kr (-1)) N a qb 0 (a.length:ay) 0
def vo:=b Lib.cR λr0=>ah r0
def c:=λa d=>(vo a d).isSome
def v:=λa d=>(vo a d).getD (0)
theorem out{x}:∀a d,vo a d=ah x->c a d=aj/\v a d=x:=λ_ _=>Lib.dL
end tl

namespace pc
def r5(N:aG)(g k0:mN R)(a:aq)(d e:ay)(f:Row):aA R:=bif decide (e<(f.length:ay))then bif decide (0<=e)&&decide (e<(f.length:ay))then bif !A9.v (bJ (au f e.toNat 0)) (bS (au f e.toNat 1)) (bS (au f e.toNat (1+1))) (bJ (au f e.toNat (1+1+1))) a then bif decide (0<=d)&&decide (d<(f.length:ay))then g a (bN (d+1)) (bN (e+1)) (eN f d.toNat 0 [.s (bJ (au f e.toNat 0)), .i .i64 (bS (au f e.toNat 1)), .i .i64 (bS (au f e.toNat (1+1))), .s (bJ (au f e.toNat (1+1+1)))])else ai else g a d (bN (e+1)) f else ai else k0 a d e f
def l5(N:aG)(k0:mN R):aG->mN R
 |0=>λ_ _ _ _=>ai
 |n+1=>r5 N (l5 N k0 n) k0
def b(N:aG)(kr:Row->aA R)(a:Row)(qb:aq):aA R:=bif tl.c a qb then bif decide (tl.v a qb=Int.neg 1)then kr a else l5 N (λ_ d _ e=>bif gU d (e.length:ay) (e.length:ay)then bif gU 0 d ((mP d.toNat e++aR [Ck.s,Ck.i ar,Ck.i ar,Ck.s] ((e.length:ay).toNat-d.toNat)++za (e.length:ay).toNat e).length:ay)then kr (dR (mP d.toNat e++aR [Ck.s,Ck.i ar,Ck.i ar,Ck.s] ((e.length:ay).toNat-d.toNat)++za (e.length:ay).toNat e) (aY 0) d.toNat)else ai else ai) N qb (tl.v a qb) (bN (tl.v a qb+1)) a else ai
def vo:=b Lib.cR λr0=>ah r0
def c:=λa d=>(vo a d).isSome
def v:=λa d=>(vo a d).getD ([])
theorem out{x}:∀a d,vo a d=ah x->c a d=aj/\v a d=x:=λ_ _=>Lib.dL
end pc

namespace Nu
def b(kr:aU->aA R)(a d:aq)(e:ay)(mG:aq):aA R:=kr (cu (aC a) (aC mG))
def v(a0 a1:aq)(a2:ay)(mG:aq):aU:=(cu (aC a0) (aC mG))
end Nu

namespace uo
def r2(N:aG)(g k0 k1:kE R)(a:Row)(d:aq)(e f h:ay):aA R:=bif decide (h<f)then bif decide (0<=h)&&decide (h<(a.length:ay))then bif Nu.v (bJ (au a h.toNat 0)) (bJ (au a h.toNat 1)) (bS (au a h.toNat (1+1))) d then k0 a d h f h else g a d e f (bN (h+1))else ai else k1 a d e f h
def l2(N:aG)(k0 k1:kE R):aG->kE R
 |0=>λ_ _ _ _ _=>ai
 |n+1=>r2 N (l2 N k0 k1 n) k0 k1
def b(N:aG)(kr:ay->aA R)(a:Row)(mG:aq):aA R:=l2 N (λ_ _ d _ _=>kr d) (λ_ _ _ _ _=>kr (-1)) N a mG 0 (a.length:ay) 0
def vo:=b Lib.cR λr0=>ah r0
def c:=λa d=>(vo a d).isSome
def v:=λa d=>(vo a d).getD (0)
theorem out{x}:∀a d,vo a d=ah x->c a d=aj/\v a d=x:=λ_ _=>Lib.dL
end uo

namespace Be
def b(kr:aU->aA R)(a d:aq)(e:ay)(mG:aq):aA R:=kr (cu (aC a) (aC mG))
def v(a0 a1:aq)(a2:ay)(mG:aq):aU:=(cu (aC a0) (aC mG))
end Be

namespace nM
def r2(N:aG)(g k0 k1:kE R)(a:Row)(d:aq)(e f h:ay):aA R:=bif decide (h<f)then bif decide (0<=h)&&decide (h<(a.length:ay))then bif Be.v (bJ (au a h.toNat 0)) (bJ (au a h.toNat 1)) (bS (au a h.toNat (1+1))) d then k0 a d h f h else g a d e f (bN (h+1))else ai else k1 a d e f h
def l2(N:aG)(k0 k1:kE R):aG->kE R
 |0=>λ_ _ _ _ _=>ai
 |n+1=>r2 N (l2 N k0 k1 n) k0 k1
def b(N:aG)(kr:ay->aA R)(a:Row)(mG:aq):aA R:=l2 N (λ_ _ d _ _=>kr d) (λ_ _ _ _ _=>kr (-1)) N a mG 0 (a.length:ay) 0
def vo:=b Lib.cR λr0=>ah r0
def c:=λa d=>(vo a d).isSome
def v:=λa d=>(vo a d).getD (0)
theorem out{x}:∀a d,vo a d=ah x->c a d=aj/\v a d=x:=λ_ _=>Lib.dL
end nM

namespace zg
def r5(N:aG)(g k0:mN R)(a:aq)(d e:ay)(f:Row):aA R:=bif decide (e<(f.length:ay))then bif decide (0<=e)&&decide (e<(f.length:ay))then bif !Be.v (bJ (au f e.toNat 0)) (bJ (au f e.toNat 1)) (bS (au f e.toNat (1+1))) a then bif decide (0<=d)&&decide (d<(f.length:ay))then g a (bN (d+1)) (bN (e+1)) (eN f d.toNat 0 [.s (bJ (au f e.toNat 0)), .s (bJ (au f e.toNat 1)), .i .i64 (bS (au f e.toNat (1+1)))])else ai else g a d (bN (e+1)) f else ai else k0 a d e f
def l5(N:aG)(k0:mN R):aG->mN R
 |0=>λ_ _ _ _=>ai
 |n+1=>r5 N (l5 N k0 n) k0
def b(N:aG)(kr:Row->aA R)(a:Row)(mG:aq):aA R:=bif nM.c a mG then bif decide (nM.v a mG=Int.neg 1)then kr a else l5 N (λ_ d _ e=>bif gU d (e.length:ay) (e.length:ay)then bif gU 0 d ((mP d.toNat e++aR [Ck.s,Ck.s,Ck.i ar] ((e.length:ay).toNat-d.toNat)++za (e.length:ay).toNat e).length:ay)then kr (dR (mP d.toNat e++aR [Ck.s,Ck.s,Ck.i ar] ((e.length:ay).toNat-d.toNat)++za (e.length:ay).toNat e) (aY 0) d.toNat)else ai else ai) N mG (nM.v a mG) (bN (nM.v a mG+1)) a else ai
def vo:=b Lib.cR λr0=>ah r0
def c:=λa d=>(vo a d).isSome
def v:=λa d=>(vo a d).getD ([])
theorem out{x}:∀a d,vo a d=ah x->c a d=aj/\v a d=x:=λ_ _=>Lib.dL
end zg

namespace fJ
def r5(N:aG)(g k0 k1:vF R)(a:aq)(d e f:ay)(h:aU)(i j:ay):aA R:=bif decide (j<5)then bif decide (bN (d+j)<(a.size:ay))then bif decide (0<=bN (d+j))&&decide (bN (d+j)<(a.size:ay))then bif decide (0<=bN (7*j))then bif decide (bN (↑(fK a (bN (d+j)).toNat):ay)>127)then g a d e f h (bN (i+bN (bZ (bN (↑(fK a (bN (d+j)).toNat):ay)) 128*gj 2 (if(bN (7*j)).toNat<=64 then(bN (7*j)).toNat else 64)))) (bN (j+1))else bif decide (j>0)then bif decide (bN (↑(fK a (bN (d+j)).toNat):ay)=0)then k0 a d 0 0 ao (bN (i+bN (bZ (bN (↑(fK a (bN (d+j)).toNat):ay)) 128*gj 2 (if(bN (7*j)).toNat<=64 then(bN (7*j)).toNat else 64)))) j else bif decide (bN (i+bN (bZ (bN (↑(fK a (bN (d+j)).toNat):ay)) 128*gj 2 (if(bN (7*j)).toNat<=64 then(bN (7*j)).toNat else 64)))>1000000000)then k0 a d 0 0 ao (bN (i+bN (bZ (bN (↑(fK a (bN (d+j)).toNat):ay)) 128*gj 2 (if(bN (7*j)).toNat<=64 then(bN (7*j)).toNat else 64)))) j else k0 a d (bN (i+bN (bZ (bN (↑(fK a (bN (d+j)).toNat):ay)) 128*gj 2 (if(bN (7*j)).toNat<=64 then(bN (7*j)).toNat else 64)))) (bN (bN (d+j)+1)) aj (bN (i+bN (bZ (bN (↑(fK a (bN (d+j)).toNat):ay)) 128*gj 2 (if(bN (7*j)).toNat<=64 then(bN (7*j)).toNat else 64)))) j else bif decide (bN (i+bN (bZ (bN (↑(fK a (bN (d+j)).toNat):ay)) 128*gj 2 (if(bN (7*j)).toNat<=64 then(bN (7*j)).toNat else 64)))>1000000000)then k0 a d 0 0 ao (bN (i+bN (bZ (bN (↑(fK a (bN (d+j)).toNat):ay)) 128*gj 2 (if(bN (7*j)).toNat<=64 then(bN (7*j)).toNat else 64)))) j else k0 a d (bN (i+bN (bZ (bN (↑(fK a (bN (d+j)).toNat):ay)) 128*gj 2 (if(bN (7*j)).toNat<=64 then(bN (7*j)).toNat else 64)))) (bN (bN (d+j)+1)) aj (bN (i+bN (bZ (bN (↑(fK a (bN (d+j)).toNat):ay)) 128*gj 2 (if(bN (7*j)).toNat<=64 then(bN (7*j)).toNat else 64)))) j else ai else ai else k1 a d e f h i j else k1 a d e f h i j
def l5(N:aG)(k0 k1:vF R):aG->vF R
 |0=>λ_ _ _ _ _ _ _=>ai
 |n+1=>r5 N (l5 N k0 k1 n) k0 k1
def b(N:aG)(kr:My R)(a:aq)(d:ay):aA R:=bif !qu.v d 0 (a.size:ay)then kr 0 0 ao else l5 N (λ_ _ e f h _ _=>kr e f h) (λ_ _ _ _ _ _ _=>kr 0 0 ao) N a d 0 0 ao 0 0
def v(dH:aq)(gz:ay):ay×ay×aU:=if 0<=gz/\gz<=dH.size then Lib.rv dH gz.toNat 5 0 0 else(0,0,ao)
end fJ

namespace Bd
def r6(N:aG)(g k0:vC R)(a:ay)(d:aq)(e f:ay):aA R:=bif decide (f<8)then bif decide (bZ a 2=1)then g (bj dO (↑(ed (kJ (cq 32 (bj dO (cO a 2))) (cq 32 3558460437))):ay)) d e (bN (f+1))else g (bj dO (cO a 2)) d e (bN (f+1))else k0 a d e f
def l6(N:aG)(k0:vC R):aG->vC R
 |0=>λ_ _ _ _=>ai
 |n+1=>r6 N (l6 N k0 n) k0
def r2(N:aG)(g k0:wK R)(a:ay)(d:aq)(e:ay):aA R:=bif decide (e<(d.size:ay))then bif decide (0<=e)&&decide (e<(d.size:ay))then l6 N (λf h i _=>g f h (bN (i+1))) N (bj dO (↑(ed (kJ (cq 32 a) (cq 32 (bj dO (↑(fK d e.toNat):ay))))):ay)) d e 0 else ai else k0 a d e
def l2(N:aG)(k0:wK R):aG->wK R
 |0=>λ_ _ _=>ai
 |n+1=>r2 N (l2 N k0 n) k0
def b(N:aG)(kr:ay->aA R)(a:ay)(d:aq):aA R:=l2 N (λe _ _=>kr e) N a d 0
def vo:=b Lib.cR λr0=>ah r0
def c:=λa d=>(vo a d).isSome
def v:=λa d=>(vo a d).getD (0)
theorem out{x}:∀a d,vo a d=ah x->c a d=aj/\v a d=x:=λ_ _=>Lib.dL
end Bd

namespace ze
def b(kr:ay->aA R)(a:aq):aA R:=bif Bd.c 4294967295 a then kr (Bd.v 4294967295 a)else ai
def vo:=b λr0=>ah r0
def c:=λa=>(vo a).isSome
def v:=λa=>(vo a).getD (0)
theorem out{x}:∀a,vo a=ah x->c a=aj/\v a=x:=λ_=>Lib.dL
end ze

namespace v9
def b(kr:aq->aA R)(a:aq):aA R:=bif ze.c a then kr (bytesOf (aF (aF (aF (aF (aR [Ck.i a6] 4) 0 [CV.i a6 (bj a6 (jT (ze.v a) (gj 2 (if aY 24<=32 then aY 24 else 32))))]) 1 [CV.i a6 (bj a6 (jT (ze.v a) (gj 2 (if aY 16<=32 then aY 16 else 32))))]) 2 [CV.i a6 (bj a6 (jT (ze.v a) (gj 2 (if aY 8<=32 then aY 8 else 32))))]) 3 [CV.i a6 (bj a6 (ze.v a))]))else ai
def vo:=b λr0=>ah r0
def c:=λa=>(vo a).isSome
def v:=λa=>(vo a).getD (⟨#[]⟩)
theorem out{x}:∀a,vo a=ah x->c a=aj/\v a=x:=λ_=>Lib.dL
end v9

namespace U152
def r3(N:aG)(g k0:mr R)(a:aq)(d:ay)(e:Row):aA R:=bif decide ((a.size:ay)<=20000)then bif !(fJ.v a d).2.2 then k0 a d e else bif !qu.v (fJ.v a d).1 1 9000 then k0 a d e else bif decide (bN ((fJ.v a d).1+4)>bN ((a.size:ay)-(fJ.v a d).2.1))then k0 a d e else bif gU (bN ((fJ.v a d).2.1+4)) (bN (bN ((fJ.v a d).2.1+4)+(fJ.v a d).1)) (a.size:ay)then bif v9.c (bc a (bN ((fJ.v a d).2.1+4)).toNat (bN (bN ((fJ.v a d).2.1+4)+(fJ.v a d).1)).toNat)then bif gU (fJ.v a d).2.1 (bN ((fJ.v a d).2.1+4)) (a.size:ay)then bif !List.beq (v9.v (bc a (bN ((fJ.v a d).2.1+4)).toNat (bN (bN ((fJ.v a d).2.1+4)+(fJ.v a d).1)).toNat)).toList (bc a (fJ.v a d).2.1.toNat (bN ((fJ.v a d).2.1+4)).toNat).toList then k0 a d e else bif cF (e.length+(aF (aR [.s] 1) 0 [.s (bc a (bN ((fJ.v a d).2.1+4)).toNat (bN (bN ((fJ.v a d).2.1+4)+(fJ.v a d).1)).toNat)]).length) 16 then g a (bN (bN ((fJ.v a d).2.1+4)+(fJ.v a d).1)) (e++aF (aR [.s] 1) 0 [.s (bc a (bN ((fJ.v a d).2.1+4)).toNat (bN (bN ((fJ.v a d).2.1+4)+(fJ.v a d).1)).toNat)])else ai else ai else ai else ai else k0 a d e
def l3(N:aG)(k0:mr R):aG->mr R
 |0=>λ_ _ _=>ai
 |n+1=>r3 N (l3 N k0 n) k0
def b(N:aG)(kr:vD R)(a:aq):aA R:=l3 N (λ_ d e=>kr e d) N a 0 (aR [.s] 0)
def vo:=b Lib.cR λr0 r1=>ah (r0,r1)
def c:=λa=>(vo a).isSome
def v:=λa=>(vo a).getD ([],0)
theorem out{x}:∀a,vo a=ah x->c a=aj/\v a=x:=λ_=>Lib.dL
end U152

namespace U77
def b(kr:aU->aA R)(a:aq):aA R:=kr (qu.v (a.size:ay) 1 30)
def v(a0:aq):aU:=(qu.v (a0.size:ay) 1 30)
end U77

namespace G6
def b(kr:aU->aA R)(a:ay):aA R:=kr (qu.v a 0 1000000000)
def v(a0:ay):aU:=(qu.v a0 0 1000000000)
end G6

namespace EA
def b(kr:aU->aA R)(a:aq)(d e:ay)(f:aq):aA R:=bif U77.v a then bif G6.v d then bif qu.v e 1 999999 then kr (decide ((f.size:ay)<=400))else kr ao else kr ao else kr ao
def v(a0:aq)(a1 a2:ay)(a3:aq):aU:=bif U77.v a0 then bif G6.v a1 then bif qu.v a2 1 999999 then decide ((a3.size:ay)<=400)else ao else ao else ao
end EA

namespace td
def r4(N:aG)(g k0:xF R)(a:ay)(d:Row):aA R:=bif decide (a>127)then bif cF (d.length+(aF (aR [Ck.i a6] 1) 0 [CV.i a6 (bj a6 (bN (bZ a 128+128)))]).length) 1 then g (bN (cO a 128)) (d++aF (aR [Ck.i a6] 1) 0 [CV.i a6 (bj a6 (bN (bZ a 128+128)))])else ai else k0 a d
def l4(N:aG)(k0:xF R):aG->xF R
 |0=>λ_ _=>ai
 |n+1=>r4 N (l4 N k0 n) k0
def b(N:aG)(kr:yZ R)(a:ay):aA R:=bif !qu.v a 0 1000000000 then kr ⟨#[]⟩ ao else l4 N (λd e=>bif cF (e.length+(aF (aR [Ck.i a6] 1) 0 [CV.i a6 (bj a6 d)]).length) 1 then bif decide ((e++aF (aR [Ck.i a6] 1) 0 [CV.i a6 (bj a6 d)]).length<=4611686018427387904)then kr (bytesOf (e++aF (aR [Ck.i a6] 1) 0 [CV.i a6 (bj a6 d)])) aj else ai else ai) N a (aR [Ck.i a6] 0)
def v(n0:ay):aq×aU:=if 0<=n0/\n0<=1000000000 then(bytesOf (Lib.vb n0),aj)else(⟨#[]⟩,ao)
end td

namespace KM
def b(kr:yZ R)(a:aq):aA R:=bif decide ((a.size:ay)>20000)then kr ⟨#[]⟩ ao else bif decide ((td.v (a.size:ay)).1.size+a.size<=4611686018427387904)then kr ((td.v (a.size:ay)).1++a) aj else ai
def v(s0:aq):aq×aU:=if s0.size>20000 then(⟨#[]⟩,ao)else(bytesOf (Lib.vb s0.size)++s0,aj)
end KM

namespace KL
def b(kr:yZ R)(a:aq)(d e:ay)(f:aq):aA R:=bif !EA.v a d e f then kr ⟨#[]⟩ ao else bif decide ((KM.v a).1.size+(td.v d).1.size<=4611686018427387904)then bif decide (((KM.v a).1++(td.v d).1).size+(td.v e).1.size<=4611686018427387904)then bif decide (((KM.v a).1++(td.v d).1++(td.v e).1).size+f.size<=4611686018427387904)then kr ((KM.v a).1++(td.v d).1++(td.v e).1++f) aj else ai else ai else ai
def v(xP:aq)(xQ:ay)(xR:ay)(Dk:aq):aq×aU:=jb.v xP xQ xR Dk
end KL

namespace EB
def b(kr:yZ R)(a:aq):aA R:=bif !qu.v (a.size:ay) 1 9000 then kr ⟨#[]⟩ ao else bif v9.c a then bif decide ((td.v (a.size:ay)).1.size+(v9.v a).size<=4611686018427387904)then bif decide (((td.v (a.size:ay)).1++v9.v a).size+a.size<=4611686018427387904)then kr ((td.v (a.size:ay)).1++v9.v a++a) aj else ai else ai else ai
def vo:=b λr0 r1=>ah (r0,r1)
def c:=λa=>(vo a).isSome
def v:=λa=>(vo a).getD (⟨#[]⟩,ao)
end EB

namespace xN
def b(kr:yZ R)(a:aq)(d e:ay)(f:aq):aA R:=bif !(KL.v a d e f).2 then kr ⟨#[]⟩ ao else bif EB.c (KL.v a d e f).1 then kr (EB.v (KL.v a d e f).1).1 (EB.v (KL.v a d e f).1).2 else ai
def vo:=b λr0 r1=>ah (r0,r1)
def c:=λa d e f=>(vo a d e f).isSome
def v:=λa d e f=>(vo a d e f).getD (⟨#[]⟩,ao)
end xN

namespace gm
def b(kr:ay->aA R)(a:Row)(d:aq):aA R:=bif uo.c a d then kr (uo.v a d)else ai
def vo:=b λr0=>ah r0
def c:=λa d=>(vo a d).isSome
def v:=λa d=>(vo a d).getD (0)
theorem out{x}:∀a d,vo a d=ah x->c a d=aj/\v a d=x:=λ_ _=>Lib.dL
end gm

namespace k9
def r2(N:aG)(g k0 k1:Cy R)(a:aU)(d:Row)(e f:ay)(h:Row):aA R:=bif decide (f<e)then bif decide (0<=f)&&decide (f<(d.length:ay))then bif !qu.v ((bJ (au d f.toNat 0)).size:ay) 1 8 then k0 ao d e f h else bif decide (((bJ (au d f.toNat 1)).size:ay)>20000)then k0 ao d e f h else bif !qu.v (bS (au d f.toNat (1+1))) 0 ((bJ (au d f.toNat 1)).size:ay)then k0 ao d e f h else bif decide (f>0)then bif decide (0<=bN (f-1))&&decide (bN (f-1)<(h.length:ay))then bif !Op.bytesLess (bJ (au h (bN (f-1)).toNat 0)).toList (bJ (au d f.toNat 0)).toList then k0 ao d e f h else g a d e (bN (f+1)) h else ai else g a d e (bN (f+1)) h else ai else k1 a d e f h
def l2(N:aG)(k0 k1:Cy R):aG->Cy R
 |0=>λ_ _ _ _ _=>ai
 |n+1=>r2 N (l2 N k0 k1 n) k0 k1
def b(N:aG)(kr:aU->aA R)(a:Row):aA R:=l2 N (λd _ _ _ _=>kr d) (λ_ _ _ _ d=>kr (decide ((d.length:ay)<=30))) N ao a (a.length:ay) 0 a
def vo:=b Lib.cR λr0=>ah r0
def c:=λa=>(vo a).isSome
def v:=λa=>(vo a).getD ao
theorem out{x}:∀a,vo a=ah x->c a=aj/\v a=x:=λ_=>Lib.dL
end k9

namespace Nt
def b(kr:aU->aA R)(a:ay)(d e f:aq):aA R:=bif qu.v a 1 4 then bif cu (aC e) (aC ⟨#[]⟩)then bif cu (aC f) (aC ⟨#[]⟩)then kr aj else kr (decide (a=3))else bif decide (a=1)then bif cu (aC f) (aC ⟨#[]⟩)then kr aj else kr (decide (a=3))else kr ao else kr ao
def v(a0:ay)(a1 a2 a3:aq):aU:=bif qu.v a0 1 4 then bif cu (aC a2) (aC {data:= #[]})then bif cu (aC a3) (aC {data:= #[]})then aj else decide (a0=3)else bif decide (a0=1)then bif cu (aC a3) (aC {data:= #[]})then aj else decide (a0=3)else ao else ao
end Nt

namespace C9
def b(kr:Row->aA R)(a:Row):aA R:=bif cF ((aR [Ck.s,Ck.s,Ck.i ar] 0).length+a.length) 40 then kr (aR [Ck.s,Ck.s,Ck.i ar] 0++a)else ai
def vo:=b λr0=>ah r0
def c:=λa=>(vo a).isSome
def v:=λa=>(vo a).getD ([])
theorem out{x}:∀a,vo a=ah x->c a=aj/\v a=x:=λ_=>Lib.dL
end C9

namespace lW
def b(kr:Row->aA R)(a:Row)(d:aq):aA R:=bif C9.c a then bif zg.c (C9.v a) d then kr (zg.v (C9.v a) d)else ai else ai
def vo:=b λr0=>ah r0
def c:=λa d=>(vo a d).isSome
def v:=λa d=>(vo a d).getD ([])
theorem out{x}:∀a d,vo a d=ah x->c a d=aj/\v a d=x:=λ_ _=>Lib.dL
end lW


namespace kM
def r3(N:aG)(g k0:CA R)(a:ay)(d e:aq)(f:ay)(h:Row):aA R:=bif decide (a<(h.length:ay))then bif decide (0<=a)&&decide (a<(h.length:ay))then bif bP (bJ (au h a.toNat 0)).toList (aC d)then g (bN (a+1)) d e f h else k0 a d e f h else ai else k0 a d e f h
def l3(N:aG)(k0:CA R):aG->CA R
 |0=>λ_ _ _ _ _=>ai
 |n+1=>r3 N (l3 N k0 n) k0
def b(N:aG)(kr:Row->aA R)(a:Row)(d e:aq)(f:ay):aA R:=bif lW.c a d then l3 N (λh i j l m=>bif decide (0<=h)&&decide (h<=(m.length:ay))&&cF (m.length+(aF (aR [Ck.s,Ck.s,Ck.i ar] 1) 0 [.s i, .s j, .i .i64 l]).length) 40 then kr (Pu.DC m h.toNat (aF (aR [Ck.s,Ck.s,Ck.i ar] 1) 0 [.s i, .s j, .i .i64 l]))else ai) N 0 d e f (lW.v a d)else ai
def vo:=b Lib.cR λr0=>ah r0
def c:=λa d e f=>(vo a d e f).isSome
def v:=λa d e f=>(vo a d e f).getD ([])
theorem out{x}:∀a d e f,vo a d e f=ah x->c a d e f=aj/\v a d e f=x:=λ_ _ _ _=>Lib.dL
end kM

namespace A_
abbrev h0{R:Type}(kr:A2 R)(a:Row)(d:ay)(e f h:aq):aA R:=bif decide (gm.v a e≥0)then bif decide (0<=gm.v a e)&&decide (gm.v a e<(a.length:ay))then bif decide (d=1)then bif decide ((bJ (au a (gm.v a e).toNat 1)).size+f.size<=4611686018427387904)then bif kM.c a (bJ (au a (gm.v a e).toNat 0)) (bJ (au a (gm.v a e).toNat 1)++f) (bS (au a (gm.v a e).toNat (1+1)))then bif k9.c (kM.v a (bJ (au a (gm.v a e).toNat 0)) (bJ (au a (gm.v a e).toNat 1)++f) (bS (au a (gm.v a e).toNat (1+1))))then bif !k9.v (kM.v a (bJ (au a (gm.v a e).toNat 0)) (bJ (au a (gm.v a e).toNat 1)++f) (bS (au a (gm.v a e).toNat (1+1))))then kr [] ao else kr (kM.v a (bJ (au a (gm.v a e).toNat 0)) (bJ (au a (gm.v a e).toNat 1)++f) (bS (au a (gm.v a e).toNat (1+1)))) aj else ai else ai else ai else bif decide (d=2)then bif kM.c a (bJ (au a (gm.v a e).toNat 0)) (bJ (au a (gm.v a e).toNat 1)) ((bJ (au a (gm.v a e).toNat 1)).size:ay)then bif k9.c (kM.v a (bJ (au a (gm.v a e).toNat 0)) (bJ (au a (gm.v a e).toNat 1)) ((bJ (au a (gm.v a e).toNat 1)).size:ay))then bif !k9.v (kM.v a (bJ (au a (gm.v a e).toNat 0)) (bJ (au a (gm.v a e).toNat 1)) ((bJ (au a (gm.v a e).toNat 1)).size:ay))then kr [] ao else kr (kM.v a (bJ (au a (gm.v a e).toNat 0)) (bJ (au a (gm.v a e).toNat 1)) ((bJ (au a (gm.v a e).toNat 1)).size:ay)) aj else ai else ai else bif decide (d=3)then bif bS (au a (gm.v a e).toNat (1+1)) !=((bJ (au a (gm.v a e).toNat 1)).size:ay)then kr [] ao else bif cu (aC h) (aC e)then kr [] ao else bif lW.c a e then bif kM.c (lW.v a e) h (bJ (au a (gm.v a e).toNat 1)) (bS (au a (gm.v a e).toNat (1+1)))then bif k9.c (kM.v (lW.v a e) h (bJ (au a (gm.v a e).toNat 1)) (bS (au a (gm.v a e).toNat (1+1))))then bif !k9.v (kM.v (lW.v a e) h (bJ (au a (gm.v a e).toNat 1)) (bS (au a (gm.v a e).toNat (1+1))))then kr [] ao else kr (kM.v (lW.v a e) h (bJ (au a (gm.v a e).toNat 1)) (bS (au a (gm.v a e).toNat (1+1)))) aj else ai else ai else ai else bif lW.c a e then bif k9.c (lW.v a e)then bif !k9.v (lW.v a e)then kr [] ao else kr (lW.v a e) aj else ai else ai else ai else bif decide (d=1)then bif decide (bh ⟨#[]⟩+f.size<=4611686018427387904)then bif kM.c a e ({data:= #[]}++f) 0 then bif k9.c (kM.v a e ({data:= #[]}++f) 0)then bif !k9.v (kM.v a e ({data:= #[]}++f) 0)then kr [] ao else kr (kM.v a e ({data:= #[]}++f) 0) aj else ai else ai else ai else bif decide (d=2)then bif kM.c a e ⟨#[]⟩ (bh ⟨#[]⟩:ay)then bif k9.c (kM.v a e ⟨#[]⟩ (bh ⟨#[]⟩:ay))then bif !k9.v (kM.v a e ⟨#[]⟩ (bh ⟨#[]⟩:ay))then kr [] ao else kr (kM.v a e ⟨#[]⟩ (bh ⟨#[]⟩:ay)) aj else ai else ai else bif decide (d=3)then bif cu (aC h) (aC e)then kr [] ao else bif lW.c a e then bif kM.c (lW.v a e) h ⟨#[]⟩ 0 then bif k9.c (kM.v (lW.v a e) h ⟨#[]⟩ 0)then bif !k9.v (kM.v (lW.v a e) h ⟨#[]⟩ 0)then kr [] ao else kr (kM.v (lW.v a e) h ⟨#[]⟩ 0) aj else ai else ai else ai else bif lW.c a e then bif k9.c (lW.v a e)then bif !k9.v (lW.v a e)then kr [] ao else kr (lW.v a e) aj else ai else ai
def b(kr:A2 R)(a:Row)(d:ay)(e f h:aq):aA R:=bif gm.c a e then bif k9.c a then bif !k9.v a then kr [] ao else bif !Nt.v d e f h then kr [] ao else bif decide (gm.v a e<0)then bif d !=1 then kr [] ao else h0 kr a d e f h else h0 kr a d e f h else ai else ai
def vo:=b λr0 r1=>ah (r0,r1)
def c:=λa d e f h=>(vo a d e f h).isSome
def v:=λa d e f h=>(vo a d e f h).getD ([],ao)
theorem out{x}:∀a d e f h,vo a d e f h=ah x->c a d e f h=aj/\v a d e f h=x:=λ_ _ _ _ _=>Lib.dL
end A_

namespace zd
def b(kr:yZ R)(a:Row)(d:aq):aA R:=bif gm.c a d then bif decide (gm.v a d<0)then kr ⟨#[]⟩ ao else bif decide (0<=gm.v a d)&&decide (gm.v a d<(a.length:ay))then kr (bJ (au a (gm.v a d).toNat 1)) aj else ai else ai
def vo:=b λr0 r1=>ah (r0,r1)
def c:=λa d=>(vo a d).isSome
def v:=λa d=>(vo a d).getD (⟨#[]⟩,ao)
theorem out{x}:∀a d,vo a d=ah x->c a d=aj/\v a d=x:=λ_ _=>Lib.dL
end zd

namespace um
def b(kr:Mz R)(a:aq)(d:ay):aA R:=bif !(fJ.v a d).2.2 then kr ⟨#[]⟩ 0 ao else bif decide ((fJ.v a d).1>20000)then kr ⟨#[]⟩ 0 ao else bif decide ((fJ.v a d).1>bN ((a.size:ay)-(fJ.v a d).2.1))then kr ⟨#[]⟩ 0 ao else bif gU (fJ.v a d).2.1 (bN ((fJ.v a d).2.1+(fJ.v a d).1)) (a.size:ay)then kr (bc a (fJ.v a d).2.1.toNat (bN ((fJ.v a d).2.1+(fJ.v a d).1)).toNat) (bN ((fJ.v a d).2.1+(fJ.v a d).1)) aj else ai
def v(dH:aq)(gz:ay):aq×ay×aU:=Lib.gT dH gz
end um

namespace v5
def b(kr:yp R)(a:aq):aA R:=bif !(um.v a 0).2.2 then kr ⟨#[]⟩ 0 0 ⟨#[]⟩ ao else bif !(fJ.v a (um.v a 0).2.1).2.2 then kr ⟨#[]⟩ 0 0 ⟨#[]⟩ ao else bif !(fJ.v a (fJ.v a (um.v a 0).2.1).2.1).2.2 then kr ⟨#[]⟩ 0 0 ⟨#[]⟩ ao else bif gU (fJ.v a (fJ.v a (um.v a 0).2.1).2.1).2.1 (a.size:ay) (a.size:ay)then bif !EA.v (um.v a 0).1 (fJ.v a (um.v a 0).2.1).1 (fJ.v a (fJ.v a (um.v a 0).2.1).2.1).1 (bc a (fJ.v a (fJ.v a (um.v a 0).2.1).2.1).2.1.toNat (a.size:ay).toNat)then kr ⟨#[]⟩ 0 0 ⟨#[]⟩ ao else kr (um.v a 0).1 (fJ.v a (um.v a 0).2.1).1 (fJ.v a (fJ.v a (um.v a 0).2.1).2.1).1 (bc a (fJ.v a (fJ.v a (um.v a 0).2.1).2.1).2.1.toNat (a.size:ay).toNat) aj else ai
def v(t0:aq):aq×ay×ay×aq×aU:=jc.v t0
end v5

namespace C8
def b(kr:Row->aA R)(a:Row):aA R:=bif cF ((aR [Ck.s,Ck.i ar,Ck.i ar,Ck.s] 0).length+a.length) 48 then kr (aR [Ck.s,Ck.i ar,Ck.i ar,Ck.s] 0++a)else ai
def vo:=b λr0=>ah r0
def c:=λa=>(vo a).isSome
def v:=λa=>(vo a).getD ([])
theorem out{x}:∀a,vo a=ah x->c a=aj/\v a=x:=λ_=>Lib.dL
end C8

namespace Ve
def b(kr:Row->aA R)(a:Row)(d:aq):aA R:=bif C8.c a then bif pc.c (C8.v a) d then kr (pc.v (C8.v a) d)else ai else ai
def vo:=b λr0=>ah r0
def c:=λa d=>(vo a d).isSome
def v:=λa d=>(vo a d).getD ([])
theorem out{x}:∀a d,vo a d=ah x->c a d=aj/\v a d=x:=λ_ _=>Lib.dL
end Ve


namespace Ba
def r3(N:aG)(g k0:ue R)(a:ay)(d:aq)(e f:ay)(h:aq)(i:Row):aA R:=bif decide (a<(i.length:ay))then bif decide (0<=a)&&decide (a<(i.length:ay))then bif bP (bJ (au i a.toNat 0)).toList (aC d)then g (bN (a+1)) d e f h i else k0 a d e f h i else ai else k0 a d e f h i
def l3(N:aG)(k0:ue R):aG->ue R
 |0=>λ_ _ _ _ _ _=>ai
 |n+1=>r3 N (l3 N k0 n) k0
def b(N:aG)(kr:Row->aA R)(a:Row)(d:aq)(e f:ay)(h:aq):aA R:=bif Ve.c a d then l3 N (λi j l m o p=>bif decide (0<=i)&&decide (i<=(p.length:ay))&&cF (p.length+(aF (aR [Ck.s,Ck.i ar,Ck.i ar,Ck.s] 1) 0 [.s j, .i .i64 l, .i .i64 m, .s o]).length) 48 then kr (Pu.DC p i.toNat (aF (aR [Ck.s,Ck.i ar,Ck.i ar,Ck.s] 1) 0 [.s j, .i .i64 l, .i .i64 m, .s o]))else ai) N 0 d e f h (Ve.v a d)else ai
def vo:=b Lib.cR λr0=>ah r0
def c:=λa d e f h=>(vo a d e f h).isSome
def v:=λa d e f h=>(vo a d e f h).getD ([])
theorem out{x}:∀a d e f h,vo a d e f h=ah x->c a d e f h=aj/\v a d e f h=x:=λ_ _ _ _ _=>Lib.dL
end Ba

namespace U101
def r7(N:aG)(g k0:GS R)(a d:ay)(e f:Row):aA R:=bif decide (d<a)then bif decide (0<=d)&&decide (d<(f.length:ay))then bif(v5.v (bJ (au f d.toNat 0))).2.2.2.2 then bif Ba.c e (v5.v (bJ (au f d.toNat 0))).1 (v5.v (bJ (au f d.toNat 0))).2.1 (v5.v (bJ (au f d.toNat 0))).2.2.1 (v5.v (bJ (au f d.toNat 0))).2.2.2.1 then g a (bN (d+1)) (Ba.v e (v5.v (bJ (au f d.toNat 0))).1 (v5.v (bJ (au f d.toNat 0))).2.1 (v5.v (bJ (au f d.toNat 0))).2.2.1 (v5.v (bJ (au f d.toNat 0))).2.2.2.1) f else ai else g a (bN (d+1)) e f else ai else k0 a d e f
def l7(N:aG)(k0:GS R):aG->GS R
 |0=>λ_ _ _ _=>ai
 |n+1=>r7 N (l7 N k0 n) k0
def b(N:aG)(kr:Row->aA R)(a:Row):aA R:=bif k9.c a then bif !k9.v a then kr (aR [Ck.s,Ck.i ar,Ck.i ar,Ck.s] 0)else bif zd.c a {data:= #[ak 107,ak 101,ak 112,ak 116]}then bif U152.c (zd.v a {data:= #[ak 107,ak 101,ak 112,ak 116]}).1 then l7 N (λ_ _ d _=>kr d) N ((U152.v (zd.v a {data:= #[ak 107,ak 101,ak 112,ak 116]}).1).1.length:ay) 0 (aR [Ck.s,Ck.i ar,Ck.i ar,Ck.s] 0) (U152.v (zd.v a {data:= #[ak 107,ak 101,ak 112,ak 116]}).1).1 else ai else ai else ai
def vo:=b Lib.cR λr0=>ah r0
def c:=λa=>(vo a).isSome
def v:=λa=>(vo a).getD ([])
theorem out{x}:∀a,vo a=ah x->c a=aj/\v a=x:=λ_=>Lib.dL
end U101

namespace v8
def b(kr:Row->aA R)(a:Row):aA R:=bif cF ((aR [Ck.i ar] 0).length+a.length) 8 then kr (aR [Ck.i ar] 0++a)else ai
def vo:=b λr0=>ah r0
def c:=λa=>(vo a).isSome
def v:=λa=>(vo a).getD ([])
theorem out{x}:∀a,vo a=ah x->c a=aj/\v a=x:=λ_=>Lib.dL
end v8

namespace pd
def r3(N:aG)(g:pN R)(g1:nI R)(k0:pN R)(k1:nI R)(a:Row)(d e f h:ay):aA R:=bif decide (e<d)then bif decide (0<=e)&&decide (e<(a.length:ay))then bif v8.c (kU (au a e.toNat 0))then g1 a d (bN (e+1)) f h ([]++aF (aR [Ck.l 3] 1) 0 [CV.l 3 (v8.v (kU (au a e.toNat 0)))])else ai else ai else k0 a d e f h
def uU(N:aG)(g:pN R)(g1:nI R)(k0:pN R)(k1:nI R)(a:Row)(d e f h:ay)(i:Row):aA R:=bif decide (e<d)then bif decide (0<=e)&&decide (e<(a.length:ay))then bif v8.c (kU (au a e.toNat 0))then bif cF (i.length+(aF (aR [Ck.l 3] 1) 0 [CV.l 3 (v8.v (kU (au a e.toNat 0)))]).length) 24 then g1 a d (bN (e+1)) f h (i++aF (aR [Ck.l 3] 1) 0 [CV.l 3 (v8.v (kU (au a e.toNat 0)))])else ai else ai else ai else k1 a d e f h i
def oa(N:aG)(k0:pN R)(k1:nI R):aG->nI R
 |0=>λ_ _ _ _ _ _=>ai
 |n+1=>uU N (λx0 x1 x2 x3 x4=>ai) (oa N k0 k1 n) k0 k1
def l3(N:aG)(k0:pN R)(k1:nI R):aG->pN R
 |0=>λ_ _ _ _ _=>ai
 |n+1=>r3 N (l3 N k0 k1 n) (oa N k0 k1 n) k0 k1
def b(N:aG)(kr:vD R)(a:Row)(d:ay):aA R:=l3 N (λ_ _ _ _ e=>kr [] e) (λ_ _ _ _ e f=>kr f e) N a (a.length:ay) 0 0 d
def vo:=b Lib.cR λr0 r1=>ah (r0,r1)
def c:=λa d=>(vo a d).isSome
def v:=λa d=>(vo a d).getD ([],0)
theorem out{x}:∀a d,vo a d=ah x->c a d=aj/\v a d=x:=λ_ _=>Lib.dL
end pd

namespace RV
def b(kr:aU->aA R)(a:aq)(d e:ay)(f:aq)(h:ay):aA R:=bif EA.v a d e f then bif G6.v h then kr (qu.v h d (bN (bN (d+e)-1)))else kr ao else kr ao
def v(a0:aq)(a1 a2:ay)(a3:aq)(a4:ay):aU:=bif EA.v a0 a1 a2 a3 then bif G6.v a4 then qu.v a4 a1 (bN (bN (a1+a2)-1))else ao else ao
end RV

namespace RS
def b(kr:BB R)(a:ay)(d:aq)(e:Row):aA R:=bif cF ((aR [Ck.i ar,Ck.i ar] 0).length+e.length) 16 then kr a d (aR [Ck.i ar,Ck.i ar] 0++e)else ai
def v(iA:ay)(gi:aq)(eA:Row):ay×aq×Row:=(iA,gi,eA)
def c(iA:ay)(gi:aq)(eA:Row):aU:=decide (eA.length<=4294967296)
end RS

namespace RT
def r2(N:aG)(g k0 k1:vB R)(a:aU)(d:Row)(e f h:ay)(i:aq)(j:Row):aA R:=bif decide (f<e)then bif decide (0<=f)&&decide (f<(d.length:ay))then bif !qu.v (bS (au d f.toNat 0)) 1 9 then k0 ao d e f h i j else bif !qu.v (bS (au d f.toNat 1)) 0 (i.size:ay)then k0 ao d e f h i j else bif decide (f>0)then bif decide (0<=bN (f-1))&&decide (bN (f-1)<(j.length:ay))then bif decide (bS (au j (bN (f-1)).toNat 0)≥bS (au d f.toNat 0))then k0 ao d e f h i j else g a d e (bN (f+1)) h i j else ai else g a d e (bN (f+1)) h i j else ai else k1 a d e f h i j
def l2(N:aG)(k0 k1:vB R):aG->vB R
 |0=>λ_ _ _ _ _ _ _=>ai
 |n+1=>r2 N (l2 N k0 k1 n) k0 k1
def b(N:aG)(kr:aU->aA R)(a:ay)(d:aq)(e:Row):aA R:=l2 N (λf _ _ _ _ _ _=>kr f) (λ_ _ _ _ f h i=>bif qu.v f 1 3 then bif decide ((h.size:ay)<=400)then kr (decide ((i.length:ay)<=6))else kr ao else kr ao) N ao e (e.length:ay) 0 a d e
def v(iA:ay)(gi:aq)(eA:Row):aU:=(ej eA.length).all (qH.el gi eA)&&qH.rest iA gi eA
end RT

namespace U88
def b(kr:GV R)(a:ay)(d:aq)(e:Row)(f:aq):aA R:=bif RS.c a d e then bif !RT.v a d e then kr a d e ao else bif a !=1 then kr a d e ao else bif !qu.v (f.size:ay) 1 40 then kr a d e ao else bif decide (bN ((d.size:ay)+(f.size:ay))>400)then kr a d e ao else bif decide (d.size+f.size<=4611686018427387904)then kr a (d++f) e aj else ai else ai
def v(iA:ay)(gi:aq)(eA:Row)(iR:aq):ay×aq×Row×aU:=
 if qH.v iA gi eA=aj/\iA=1/\1<=iR.size/\iR.size<=40/\gi.size+iR.size<=400 then(iA,gi++iR,eA,aj)else(iA,gi,eA,ao)
def c(iA:ay)(gi:aq)(eA:Row)(iR:aq):aU:=decide (eA.length<=4294967296)
end U88

end Go.FG
