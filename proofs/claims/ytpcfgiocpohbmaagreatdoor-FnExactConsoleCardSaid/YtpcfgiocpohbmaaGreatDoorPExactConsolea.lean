/- Functions of the program, told as functions of numbers, texts and lists, and what each comes to. No condition but those that each states. -/
import Derived.Test.YtpcfgiocpohbmaaGreatDoorLib
set_option linter.unusedVariables false
set_option linter.unusedSimpArgs false
set_option maxRecDepth 100000
set_option autoImplicit true
set_option relaxedAutoImplicit true
open BitVec renaming toNat->ij,xor->oz,ofInt->di,and->AB
open Bool renaming false->aq,true->ao,cond_eq_ite->cj,false_eq_true->db,true_and->bj,not_true->aZ,and_self->aL,or_true->Ic,and_false->vv,not_false->bG
open ByteArray renaming extract->bx,mk->az,size->bC,toList->aG
open Decidable renaming decide->ah
open Go.IntKind renaming wrap->bF,u8->ba,i64->ak,u32->eg
open Go.Op renaming bytesLess->b7
open Int renaming tmod->cx,tdiv->cK,toNat->aR,fdiv->pe,pow->iP,tmod_eq_emod_of_nonneg->eN,mul_le_mul_of_nonneg_right->Cu,neg->Ij
open List renaming set->aP,beq->cQ,length->bB,range->cT,range'->iA,all_cons->jc,range'_zero->TS,all_nil->Cv,range_eq_range'->TT,length_append->bW,length_singleton->bu,take->gG,drop->mE
open Nat renaming sub_zero->og,lt_irrefl->bk,ble->eS,beq->bK
open Option renaming none->aj,some->ai
open UInt8 renaming ofNat->ar
open _root_ renaming Bool->aY,Option->aA,Int->ay,ByteArray->au,Nat->aN,cond->aD,cond_true->aw,cond_false->ax,of_decide_eq_true->cL,decide_eq_decide->bZ,decide_true->aQ,decide_false->bg,decide_eq_true->aC,if_neg->bh,if_pos->bm,decide_eq_false->aF,List->aE
namespace Go.FG
open _root_.Go.FG.Lib (lj oN ck yo Bc uD b_ c8 GZ Di E_ qZ n8 gm fE ch tJ qm fB ry mY dM gJ yH b0 dm dB Ax gU vb cw)
variable {R:Type}
abbrev uM(R:Type):=Row->aY->aA R
abbrev TH(R:Type):=ay->aY->aA R
abbrev qF(R:Type):=Row->ay->aA R
abbrev w9(R:Type):=ay->Row->aA R
abbrev vC(R:Type):=au->aY->aA R
abbrev TJ(R:Type):=ay->au->aA R
abbrev N_(R:Type):=ay->aY->au->aA R
abbrev k9(R:Type):=ay->ay->ay->aA R
abbrev ux(R:Type):=ay->au->ay->aA R
abbrev AJ(R:Type):=ay->au->Row->aA R
abbrev J5(R:Type):=aY->w9 R
abbrev mC(R:Type):=au->w9 R
abbrev vB(R:Type):=Row->w9 R
abbrev J6(R:Type):=ay->TH R
abbrev J8(R:Type):=au->TH R
abbrev CZ(R:Type):=ay->Row->Row->aA R
abbrev iW(R:Type):=au->ay->w9 R
abbrev iE(R:Type):=ay->ay->w9 R
abbrev sk(R:Type):=Row->Row->qF R
abbrev Ig(R:Type):=Row->au->aY->ay->aA R
abbrev Ie(R:Type):=aY->ay->qF R
abbrev w_(R:Type):=ay->au->ay->ay->aA R
abbrev xA(R:Type):=Row->mC R
abbrev D0(R:Type):=ay->au->uM R
abbrev qG(R:Type):=au->CZ R
abbrev mH(R:Type):=Row->ay->w9 R
abbrev uO(R:Type):=Row->CZ R
abbrev Ih(R:Type):=au->J5 R
abbrev DY(R:Type):=ay->CZ R
abbrev Ii(R:Type):=au->Row->ay->ay->aA R
abbrev zN(R:Type):=au->aY->ay->w9 R
abbrev D6(R:Type):=au->ay->aY->ay->ay->aA R
abbrev DZ(R:Type):=ay->ay->Row->Row->Row->aA R
abbrev qD(R:Type):=ay->Row->k9 R
abbrev DV(R:Type):=aY->ay->ay->qF R
abbrev vD(R:Type):=au->ay->ay->vC R
abbrev nV(R:Type):=ay->iE R
abbrev D7(R:Type):=au->iE R
abbrev D8(R:Type):=au->ay->ay->qF R
abbrev J7(R:Type):=Row->Row->Row->TJ R
abbrev DW(R:Type):=aY->ay->AJ R
abbrev qE(R:Type):=ay->Row->au->au->ay->aA R
abbrev zM(R:Type):=Row->aY->mC R
abbrev zL(R:Type):=ay->mH R
abbrev kB(R:Type):=Row->ay->k9 R
abbrev D4(R:Type):=Row->ay->Row->ay->ay->aA R
abbrev gO(R:Type):=Row->au->k9 R
abbrev D9(R:Type):=au->ay->Row->ay->ay->aA R
abbrev DX(R:Type):=aY->mH R
abbrev D3(R:Type):=ay->au->mC R
abbrev D5(R:Type):=Row->mH R
abbrev Gs(R:Type):=au->aY->DY R
abbrev Gq(R:Type):=Row->aY->ay->ux R
abbrev AH(R:Type):=ay->ay->au->ay->uM R
abbrev oA(R:Type):=ay->Row->iE R
abbrev k_(R:Type):=ay->Row->au->mC R
abbrev Gr(R:Type):=Row->aY->qG R
abbrev AK(R:Type):=Row->aY->ay->k9 R
abbrev oC(R:Type):=Row->nV R
abbrev AF(R:Type):=aY->Row->ay->ay->qF R
abbrev AM(R:Type):=au->nV R
abbrev vA(R:Type):=ay->au->ay->AJ R
abbrev AL(R:Type):=Row->zL R
abbrev AG(R:Type):=aY->au->mH R
abbrev C0(R:Type):=Row->aY->ay->ay->mC R
abbrev w7(R:Type):=aY->ay->Row->Row->vB R
abbrev od(R:Type):=Row->vA R
abbrev w8(R:Type):=aY->Row->ay->ay->AJ R
abbrev xB(R:Type):=au->ay->ay->ay->aY->ay->ay->aA R
abbrev uP(R:Type):=au->ay->ay->ay->aY->k9 R
abbrev uK(R:Type):=aY->ay->ay->Row->Row->vB R
abbrev uL(R:Type):=aN->ay->ay->nV R
abbrev uN(R:Type):=Row->aY->Row->ay->ay->k9 R
abbrev ng(R:Type):=Row->aY->ay->ay->ay->qG R
abbrev dU(R:Type):=ay->Row->Row->Row->Row->ay->Row->qF R
abbrev kC(R:Type):=Row->ay->ay->au->ay->ay->ay->mC R
abbrev vz(R:Type):=ay->Row->Row->Row->Row->ay->Row->Row->ay->ay->aA R
abbrev kA(R:Type):=ay->Row->Row->Row->Row->ay->Row->Row->TH R
abbrev qC(R:Type):=aY->Row->Row->ay->ay->Row->ay->ay->qF R
abbrev gM(R:Type):=aY->ay->dU R
abbrev pF(R:Type):=au->ay->dU R
abbrev iF(R:Type):=Row->aY->aY->ay->ay->ay->au->ay->ay->ux R
abbrev iD(R:Type):=ay->ay->ay->ay->ay->ay->Row->Row->Row->Row->Row->Row->aA R
abbrev jj(R:Type):=ay->Row->Row->Row->Row->ay->Row->Row->ay->Row->Row->Row->aA R
abbrev iC(R:Type):=aY->Row->ay->ay->ay->ay->au->ay->ay->ux R
abbrev g_(R:Type):=Row->aY->aY->ay->ay->ay->au->ay->ay->ay->mC R
abbrev nC(R:Type):=ay->jj R
abbrev rI(R:Type):=ay->Row->Row->Row->Row->ay->Row->Row->ay->Row->Row->uM R
abbrev gZ(R:Type):=aY->Row->ay->ay->ay->ay->au->ay->ay->ay->mC R
abbrev nB(R:Type):=aY->au->Row->ay->ay->ay->ay->au->ay->ay->ux R
abbrev eA(R:Type):=aY->Row->ay->ay->dU R
abbrev iR(R:Type):=ay->iD R
abbrev zo(R:Type):=aY->jj R
abbrev iz(R:Type):=au->ay->ay->ay->ay->Row->Row->Row->Row->Row->Row->Row->Row->Row->aA R
abbrev mc(R:Type):=ay->Row->iR R
abbrev gj(R:Type):=ay->ay->ay->ay->Row->Row->Row->Row->Row->Row->Row->Row->Row->Row->Row->aA R
abbrev mb(R:Type):=ay->ay->ay->ay->ay->Row->Row->Row->Row->Row->Row->Row->Row->Row->Row->aA R
abbrev lH(R:Type):=au->aY->ay->ay->Row->Row->Row->Row->ay->Row->Row->ay->au->ay->TJ R
abbrev lG(R:Type):=ay->Row->ay->iR R
abbrev lF(R:Type):=ay->gj R
abbrev kR(R:Type):=ay->aY->ay->ay->Row->Row->Row->Row->ay->Row->Row->ay->au->au->k9 R
abbrev kS(R:Type):=Row->ay->ay->ay->ay->ay->ay->ay->Row->Row->Row->Row->Row->Row->Row->Row->Row->aA R
abbrev je(R:Type):=ay->ay->ay->ay->ay->au->ay->ay->ay->au->ay->Row->Row->Row->Row->Row->Row->aA R
abbrev j8(R:Type):=Row->ay->ay->ay->ay->ay->ay->ay->ay->Row->Row->Row->Row->Row->Row->Row->Row->Row->aA R
abbrev gD(R:Type):=ay->ay->ay->Row->Row->Row->Row->ay->Row->Row->iR R
abbrev ik(R:Type):=ay->au->gD R
abbrev gd(R:Type):=au->aY->ay->ay->Row->Row->Row->Row->ay->Row->Row->ay->ay->ay->je R
namespace KH
def r4(N:aN)(g h:iW R)(a:au)(d e:ay)(f:Row):aA R:=aD (ah (e<(a.size:ay))) (aD (ah (0<=e)&&ah (e<(a.size:ay))) (aD (ah ((↑(fF a e.toNat):ay)=10)) (aD (fU d e (a.size:ay)) (aD (b8 (f.length+(aP (aT [.s] 1) 0 [.s (bx a d.toNat e.toNat)]).length) 16) (g a (bE (e+1)) (bE (e+1)) (f++aP (aT [.s] 1) 0 [.s (bx a d.toNat e.toNat)])) aj) aj)<|g a d (bE (e+1)) f) aj)<|h a d e f
def l4(N:aN)(a:iW R):aN->iW R
 |0=>λ_ _ _ _=>aj
 |n+1=>r4 N (l4 N a n) a
def b(N:aN)(h:Row->aA R)(a:au):aA R:=l4 N (λd e _ f=>aD (ah (e<(d.size:ay))) (aD (fU e (d.size:ay) (d.size:ay)) (aD (b8 (f.length+(aP (aT [.s] 1) 0 [.s (bx d e.toNat (d.size:ay).toNat)]).length) 16) (h (f++aP (aT [.s] 1) 0 [.s (bx d e.toNat (d.size:ay).toNat)])) aj) aj)<|h f) N a 0 0 (aT [.s] 0)
def vo:=b ck λa=>ai a
def c:=ka vo
def v:=ko vo
theorem out{x}:ki vo c v x:=kL
end KH
namespace mW
def r6(N:aN)(g:zN R)(i:Gs R)(j:zN R)(a:au)(d:aY)(e f:ay)(h:Row):aA R:=aD (ah (f<=(a.size:ay))) (aD (ah (f<(a.size:ay))) (aD (ah (0<=f)&&ah (f<(a.size:ay))) (aD (ah ((↑(fF a f.toNat):ay)<32)) (i a aq e f (aT [.s] 0) h)<|aD (ah (0<=f)&&ah (f<(a.size:ay))) (aD (ah ((↑(fF a f.toNat):ay)>126)) (i a aq e f (aT [.s] 0) h)<|aD (ah (f<(a.size:ay))) (aD (ah (0<=f)&&ah (f<(a.size:ay))) (aD ((↑(fF a f.toNat):ay) !=32) (g a d e (bE (f+1)) h)<|aD (ah (e<f)) (aD (fU e f (a.size:ay)) (aD (b8 (h.length+(aP (aT [.s] 1) 0 [.s (bx a e.toNat f.toNat)]).length) 16) (g a d (bE (f+1)) (bE (f+1)) (h++aP (aT [.s] 1) 0 [.s (bx a e.toNat f.toNat)])) aj) aj)<|g a d (bE (f+1)) (bE (f+1)) h) aj)<|aD (ah (e<f)) (aD (fU e f (a.size:ay)) (aD (b8 (h.length+(aP (aT [.s] 1) 0 [.s (bx a e.toNat f.toNat)]).length) 16) (g a d (bE (f+1)) (bE (f+1)) (h++aP (aT [.s] 1) 0 [.s (bx a e.toNat f.toNat)])) aj) aj)<|g a d (bE (f+1)) (bE (f+1)) h) aj) aj)<|aD (ah (f<(a.size:ay))) (aD (ah (0<=f)&&ah (f<(a.size:ay))) (aD ((↑(fF a f.toNat):ay) !=32) (g a d e (bE (f+1)) h)<|aD (ah (e<f)) (aD (fU e f (a.size:ay)) (aD (b8 (h.length+(aP (aT [.s] 1) 0 [.s (bx a e.toNat f.toNat)]).length) 16) (g a d (bE (f+1)) (bE (f+1)) (h++aP (aT [.s] 1) 0 [.s (bx a e.toNat f.toNat)])) aj) aj)<|g a d (bE (f+1)) (bE (f+1)) h) aj)<|aD (ah (e<f)) (aD (fU e f (a.size:ay)) (aD (b8 (h.length+(aP (aT [.s] 1) 0 [.s (bx a e.toNat f.toNat)]).length) 16) (g a d (bE (f+1)) (bE (f+1)) (h++aP (aT [.s] 1) 0 [.s (bx a e.toNat f.toNat)])) aj) aj)<|g a d (bE (f+1)) (bE (f+1)) h)<|j a d e f h
def l6(N:aN)(a:Gs R)(d:zN R):aN->zN R
 |0=>λ_ _ _ _ _=>aj
 |n+1=>r6 N (l6 N a d n) a d
def b(N:aN)(f:uM R)(a:au):aA R:=aD (ah ((a.size:ay)>600)) (f (aT [.s] 0) aq)<|l6 N (λ_ d _ _ e _=>f e d) (λ_ _ _ _ d=>aD (ah ((d.length:ay)>10)) (f (aT [.s] 0) aq)<|f d ao) N a aq 0 0 (aT [.s] 0)
def vo:=b ck λa r1=>ai (a,r1)
def c:=ka vo
def v:=ko vo
theorem out{x}:ki vo c v x:=kL
end mW
namespace S9
def b(d:ay->aA R)(a:ay):aA R:=aD (ah (a<10)) (d (bF ba (bE (48+a))))<|d (bF ba (bE (bE (97+a)-10)))
def v(a:ay):ay:=aD (ah (a<10)) (bF ba (bE (48+a)))<|bF ba (bE (bE (97+a)-10))
theorem dW(d:ay->aA R)(a:ay):b d a=d (v a):=by first|rfl|(unfold b v;simp only[cj];(repeat' split)<;>rfl)
end S9
namespace zV
def r5(N:aN)(g f:N_ R)(a:ay)(d:aY)(e:au):aA R:=aD (a !=0) (aD (ah (cx a 10<0)) (aD (ah ((bytesOf (aP (aT [Ck.i ba] 1) 0 [CV.i ba (S9.v (bE (0-cx a 10)))])).size+e.size<=4611686018427387904)) (g (bE (cK a 10)) d (bytesOf (aP (aT [Ck.i ba] 1) 0 [CV.i ba (S9.v (bE (0-cx a 10)))])++e)) aj)<|aD (ah ((bytesOf (aP (aT [Ck.i ba] 1) 0 [CV.i ba (S9.v (cx a 10))])).size+e.size<=4611686018427387904)) (g (bE (cK a 10)) d (bytesOf (aP (aT [Ck.i ba] 1) 0 [CV.i ba (S9.v (cx a 10))])++e)) aj)<|f a d e
def l5(N:aN)(a:N_ R):aN->N_ R
 |0=>λ_ _ _=>aj
 |n+1=>r5 N (l5 N a n) a
def b(N:aN)(f:au->aA R)(a:ay):aA R:=aD (ah (a=0)) (f (az #[ar 48]))<|l5 N (λ_ d e=>aD d (aD (ah (bC (az #[ar 45])+e.size<=4611686018427387904)) (f ((az #[ar 45])++e)) aj)<|f e) N a (ah (a<0)) ⟨#[]⟩
def vo:=b ck λa=>ai a
def c:=ka vo
def v:=ko vo
theorem out{x}:ki vo c v x:=kL
end zV
namespace jP
def r5(N:aN)(g i j:D6 R)(a:au)(d:ay)(e:aY)(f h:ay):aA R:=aD (ah (h<(a.size:ay))) (aD (ah (0<=h)&&ah (h<(a.size:ay))) (aD (ah ((↑(fF a h.toNat):ay)<48)) (i a 0 aq f h)<|aD (ah (0<=h)&&ah (h<(a.size:ay))) (aD (ah ((↑(fF a h.toNat):ay)>57)) (i a 0 aq f h)<|aD (ah (0<=h)&&ah (h<(a.size:ay))) (g a d e (bE (bE (bE (10*f)+bE (↑(fF a h.toNat):ay))-48)) (bE (h+1))) aj) aj) aj)<|j a d e f h
def l5(N:aN)(a d:D6 R):aN->D6 R
 |0=>λ_ _ _ _ _=>aj
 |n+1=>r5 N (l5 N a d n) a d
def b(N:aN)(f:TH R)(a:au):aA R:=aD (ah ((a.size:ay)>10)) (f 0 aq)<|l5 N (λ_ d e _ _=>f d e) (λd _ _ e _=>aD (ah (e>1000000000)) (f 0 aq)<|aD (zV.c e) (aD (!List.beq (zV.v e).toList (aG d)) (f 0 aq)<|f e ao) aj) N a 0 aq 0 0
def vo:=b ck λa r1=>ai (a,r1)
def c:=ka vo
def v:=ko vo
theorem out{x}:ki vo c v x:=kL
end jP
namespace oh
def r13(N:aN)(g:iF R)(r:g_ R)(k:iF R)(s:g_ R)(a:Row)(d e:aY)(f h i:ay)(j:au)(l m o:ay)(p:au)(q:ay):aA R:=aD (ah (f<(a.length:ay))) (aD d (aD (ah (0<=f)&&ah (f<(a.length:ay))) (aD (jP.c (br (av a f.toNat 0))) (r a (jP.v (br (av a f.toNat 0))).2 e (bE (f+1)) h i j l m o p q ([]++aP (aT [Ck.i ak] 1) 0 [.i ak (jP.v (br (av a f.toNat 0))).1])) aj) aj)<|k a d e f h i j l m o p q)<|k a d e f h i j l m o p q
def Hy(N:aN)(g:iF R)(s:g_ R)(t:iF R)(k:g_ R)(a:Row)(d e:aY)(f h i:ay)(j:au)(l m o:ay)(p:au)(q:ay)(r:Row):aA R:=aD (ah (f<(a.length:ay))) (aD d (aD (ah (0<=f)&&ah (f<(a.length:ay))) (aD (jP.c (br (av a f.toNat 0))) (aD (b8 (r.length+(aP (aT [Ck.i ak] 1) 0 [.i ak (jP.v (br (av a f.toNat 0))).1]).length) 8) (s a (jP.v (br (av a f.toNat 0))).2 e (bE (f+1)) h i j l m o p q (r++aP (aT [Ck.i ak] 1) 0 [.i ak (jP.v (br (av a f.toNat 0))).1])) aj) aj) aj)<|k a d e f h i j l m o p q r)<|k a d e f h i j l m o p q r
def yA(N:aN)(a:iF R)(d:g_ R):aN->g_ R
 |0=>λ_ _ _ _ _ _ _ _ _ _ _ _ _=>aj
 |n+1=>Hy N (λu e f h i j k m o r s t=>aj) (yA N a d n) a d
def Ys(N:aN)(a:iF R)(d:g_ R):aN->iF R
 |0=>λ_ _ _ _ _ _ _ _ _ _ _ _=>aj
 |n+1=>r13 N (Ys N a d n) (yA N a d n) a d
def r4(N:aN)(g k:ng R)(x:Gq R)(y:C0 R)(k3:ng R)(a:Row)(d:aY)(e f h:ay)(i:au)(j:ay)(l m:Row):aA R:=aD (ah (e<(l.length:ay))) (aD (ah (0<(a.length:ay))) (aD (ah (0<=e)&&ah (e<(l.length:ay))) (aD (!List.beq (br (av a (aR 0) 0)).toList (br (av l e.toNat 0)).toList) (g a d (bE (e+1)) f h i j l m)<|aD (ah (0<=e)&&ah (e<(m.length:ay))) (aD (ah (bN (av m e.toNat 0)>0)) (aD (ah (0<=e)&&ah (e<(m.length:ay))) (aD ((a.length:ay) !=bN (av m e.toNat 0)) (g a d (bE (e+1)) f h i j l m)<|aD (ah (bE (e+1)=1)) (aD (ah (1<(a.length:ay))) (aD (jP.c (br (av a (aR 1) 0))) (aD (ah (2<(a.length:ay))) (aD ((jP.v (br (av a (aR 1) 0))).2) (k a ao e (bE (e+1)) (jP.v (br (av a (aR 1) 0))).1 (br (av a (aR 2) 0)) 0 l m)<|k a aq e (bE (e+1)) (jP.v (br (av a (aR 1) 0))).1 (br (av a (aR 2) 0)) 0 l m) aj) aj) aj)<|aD (ah (bE (e+1)=2)) (aD (ah (1<(a.length:ay))) (aD (jP.c (br (av a (aR 1) 0))) (aD (ah (2<(a.length:ay))) (aD ((jP.v (br (av a (aR 1) 0))).2) (k a ao e (bE (e+1)) (jP.v (br (av a (aR 1) 0))).1 (br (av a (aR 2) 0)) 0 l m)<|k a aq e (bE (e+1)) (jP.v (br (av a (aR 1) 0))).1 (br (av a (aR 2) 0)) 0 l m) aj) aj) aj)<|aD (ah (bE (e+1)=3)) (aD (ah (1<(a.length:ay))) (aD (jP.c (br (av a (aR 1) 0))) (aD (ah (2<(a.length:ay))) (aD (jP.c (br (av a (aR 2) 0))) (aD ((jP.v (br (av a (aR 1) 0))).2) (k a (jP.v (br (av a (aR 2) 0))).2 e (bE (e+1)) (jP.v (br (av a (aR 1) 0))).1 ⟨#[]⟩ (jP.v (br (av a (aR 2) 0))).1 l m)<|k a aq e (bE (e+1)) (jP.v (br (av a (aR 1) 0))).1 ⟨#[]⟩ (jP.v (br (av a (aR 2) 0))).1 l m) aj) aj) aj) aj)<|aD (ah (bE (e+1)=4)) (aD (ah (1<(a.length:ay))) (aD (jP.c (br (av a (aR 1) 0))) (aD ((jP.v (br (av a (aR 1) 0))).2) (k a ao e (bE (e+1)) (jP.v (br (av a (aR 1) 0))).1 ⟨#[]⟩ 0 l m)<|k a aq e (bE (e+1)) (jP.v (br (av a (aR 1) 0))).1 ⟨#[]⟩ 0 l m) aj) aj)<|aD (ah (bE (e+1)=6)) (aD (ah (1<(a.length:ay))) (aD (jP.c (br (av a (aR 1) 0))) (aD ((jP.v (br (av a (aR 1) 0))).2) (k a ao e (bE (e+1)) (jP.v (br (av a (aR 1) 0))).1 ⟨#[]⟩ 0 l m)<|k a aq e (bE (e+1)) (jP.v (br (av a (aR 1) 0))).1 ⟨#[]⟩ 0 l m) aj) aj)<|aD (ah (bE (e+1)=5)) (aD (ah (1<(a.length:ay))) (aD (jP.c (br (av a (aR 1) 0))) (aD ((jP.v (br (av a (aR 1) 0))).2) (k a ao e (bE (e+1)) 0 ⟨#[]⟩ (jP.v (br (av a (aR 1) 0))).1 l m)<|k a aq e (bE (e+1)) 0 ⟨#[]⟩ (jP.v (br (av a (aR 1) 0))).1 l m) aj) aj)<|Ys N (λo p q _ _ _ _ _ r s t u=>aD p (x o q r s t u)<|x o aq r s t u) (λo p q _ _ _ _ _ r s t u w=>aD p (y o q r s t u w)<|y o aq r s t u w) N a ao ao 1 f h i j (bE (e+1)) 0 ⟨#[]⟩ 0) aj)<|aD (ah (bE (e+1)=1)) (aD (ah (1<(a.length:ay))) (aD (jP.c (br (av a (aR 1) 0))) (aD (ah (2<(a.length:ay))) (aD ((jP.v (br (av a (aR 1) 0))).2) (k a ao e (bE (e+1)) (jP.v (br (av a (aR 1) 0))).1 (br (av a (aR 2) 0)) 0 l m)<|k a aq e (bE (e+1)) (jP.v (br (av a (aR 1) 0))).1 (br (av a (aR 2) 0)) 0 l m) aj) aj) aj)<|aD (ah (bE (e+1)=2)) (aD (ah (1<(a.length:ay))) (aD (jP.c (br (av a (aR 1) 0))) (aD (ah (2<(a.length:ay))) (aD ((jP.v (br (av a (aR 1) 0))).2) (k a ao e (bE (e+1)) (jP.v (br (av a (aR 1) 0))).1 (br (av a (aR 2) 0)) 0 l m)<|k a aq e (bE (e+1)) (jP.v (br (av a (aR 1) 0))).1 (br (av a (aR 2) 0)) 0 l m) aj) aj) aj)<|aD (ah (bE (e+1)=3)) (aD (ah (1<(a.length:ay))) (aD (jP.c (br (av a (aR 1) 0))) (aD (ah (2<(a.length:ay))) (aD (jP.c (br (av a (aR 2) 0))) (aD ((jP.v (br (av a (aR 1) 0))).2) (k a (jP.v (br (av a (aR 2) 0))).2 e (bE (e+1)) (jP.v (br (av a (aR 1) 0))).1 ⟨#[]⟩ (jP.v (br (av a (aR 2) 0))).1 l m)<|k a aq e (bE (e+1)) (jP.v (br (av a (aR 1) 0))).1 ⟨#[]⟩ (jP.v (br (av a (aR 2) 0))).1 l m) aj) aj) aj) aj)<|aD (ah (bE (e+1)=4)) (aD (ah (1<(a.length:ay))) (aD (jP.c (br (av a (aR 1) 0))) (aD ((jP.v (br (av a (aR 1) 0))).2) (k a ao e (bE (e+1)) (jP.v (br (av a (aR 1) 0))).1 ⟨#[]⟩ 0 l m)<|k a aq e (bE (e+1)) (jP.v (br (av a (aR 1) 0))).1 ⟨#[]⟩ 0 l m) aj) aj)<|aD (ah (bE (e+1)=6)) (aD (ah (1<(a.length:ay))) (aD (jP.c (br (av a (aR 1) 0))) (aD ((jP.v (br (av a (aR 1) 0))).2) (k a ao e (bE (e+1)) (jP.v (br (av a (aR 1) 0))).1 ⟨#[]⟩ 0 l m)<|k a aq e (bE (e+1)) (jP.v (br (av a (aR 1) 0))).1 ⟨#[]⟩ 0 l m) aj) aj)<|aD (ah (bE (e+1)=5)) (aD (ah (1<(a.length:ay))) (aD (jP.c (br (av a (aR 1) 0))) (aD ((jP.v (br (av a (aR 1) 0))).2) (k a ao e (bE (e+1)) 0 ⟨#[]⟩ (jP.v (br (av a (aR 1) 0))).1 l m)<|k a aq e (bE (e+1)) 0 ⟨#[]⟩ (jP.v (br (av a (aR 1) 0))).1 l m) aj) aj)<|Ys N (λo p q _ _ _ _ _ r s t u=>aD p (x o q r s t u)<|x o aq r s t u) (λo p q _ _ _ _ _ r s t u w=>aD p (y o q r s t u w)<|y o aq r s t u w) N a ao ao 1 f h i j (bE (e+1)) 0 ⟨#[]⟩ 0) aj) aj) aj)<|k3 a d e f h i j l m
def l4(N:aN)(a:ng R)(d:Gq R)(e:C0 R)(k3:ng R):aN->ng R
 |0=>λ_ _ _ _ _ _ _ _ _=>aj
 |n+1=>r4 N (l4 N a d e k3 n) a d e k3
def b(N:aN)(k:AH R)(a:Row):aA R:=l4 N (λ_ d _ e f h i _ _=>k e f h i [] d) (λ_ d e f h i=>k e f h i [] d) (λ_ d e f h i j=>k e f h i j d) (λ_ _ _ _ _ _ _ _ _=>k 0 0 ⟨#[]⟩ 0 [] aq) N a aq 0 0 0 ⟨#[]⟩ 0 (aP (aP (aP (aP (aP (aP (aP (aT [.s] 7) 0 [.s (az #[ar 97,ar 115,ar 107])]) 1 [.s (az #[ar 112,ar 97,ar 114,ar 116])]) 2 [.s (az #[ar 99,ar 108,ar 111,ar 115,ar 101])]) 3 [.s (az #[ar 98,ar 114,ar 101,ar 97,ar 107])]) 4 [.s (az #[ar 112,ar 97,ar 115,ar 115])]) 5 [.s (az #[ar 108,ar 101,ar 97,ar 118,ar 101])]) 6 [.s (az #[ar 102,ar 97,ar 108,ar 108])]) (aP (aP (aP (aP (aP (aP (aP (aT [Ck.i ak] 7) 0 [.i ak 3]) 1 [.i ak 3]) 2 [.i ak 3]) 3 [.i ak 2]) 4 [.i ak 2]) 5 [.i ak 2]) 6 [.i ak 0])
def vo:=b ck λa r1 r2 r3 r4 r5=>ai (a,r1,r2,r3,r4,r5)
def c:=ka vo
def v:=ko vo
theorem out{x}:ki vo c v x:=kL
end oh
namespace jX
def b(f:aY->aA R)(a d e:ay):aA R:=aD (ah (a≥d)) (f (ah (a<=e)))<|f aq
def v(a a1 a2:ay):aY:=aD (ah (a≥a1)) (ah (a<=a2)) aq
theorem dW(d:aY->aA R)(a a1 a2:ay):b d a a1 a2=d (v a a1 a2):=by first|rfl|(unfold b v;simp only[cj];(repeat' split)<;>rfl)
end jX
namespace Xp
def b(i:aY->aA R)(a d:ay)(e:au)(f:ay)(h:Row):aA R:=aD (jX.v a 1 7) (aD (jX.v d 0 30) (aD (ah ((e.size:ay)<=60)) (aD (ah (f≥0)) (i (ah ((h.length:ay)<=4)))<|i aq)<|i aq)<|i aq)<|i aq
def v(a a1:ay)(a2:au)(a3:ay)(a4:Row):aY:=aD (jX.v a 1 7) (aD (jX.v a1 0 30) (aD (ah ((a2.size:ay)<=60)) (aD (ah (a3≥0)) (ah ((a4.length:ay)<=4)) aq) aq) aq) aq
theorem dW(d:aY->aA R)(a a1:ay)(a2:au)(a3:ay)(a4:Row):b d a a1 a2 a3 a4=d (v a a1 a2 a3 a4):=by first|rfl|(unfold b v;simp only[cj];(repeat' split)<;>rfl)
end Xp
namespace NQ
def r7(N:aN)(g j k:DZ R)(a d:ay)(e f h:Row):aA R:=aD (ah (d<(f.length:ay))) (aD (ah (0<=d)&&ah (d<(f.length:ay))) (aD (mW.c (br (av f d.toNat 0))) (aD ((mW.v (br (av f d.toNat 0))).2) (aD (ah (((mW.v (br (av f d.toNat 0))).1.length:ay)=0)) (g a (bE (d+1)) e f h)<|aD (ah (0<((mW.v (br (av f d.toNat 0))).1.length:ay))) (aD (ah (0<((br (av (mW.v (br (av f d.toNat 0))).1 (aR 0) 0)).size:ay))) (aD (ah ((↑(fF (br (av (mW.v (br (av f d.toNat 0))).1 (aR 0) 0)) (aR 0)):ay)=35)) (g a (bE (d+1)) e f h)<|aD (!(mW.v (br (av f d.toNat 0))).2) (j (bE (d+1)) d e f h)<|aD (oh.c (mW.v (br (av f d.toNat 0))).1) (aD (!(oh.v (mW.v (br (av f d.toNat 0))).1).2.2.2.2.2) (j (bE (d+1)) d e f h)<|aD (!Xp.v (oh.v (mW.v (br (av f d.toNat 0))).1).1 (oh.v (mW.v (br (av f d.toNat 0))).1).2.1 (oh.v (mW.v (br (av f d.toNat 0))).1).2.2.1 (oh.v (mW.v (br (av f d.toNat 0))).1).2.2.2.1 (oh.v (mW.v (br (av f d.toNat 0))).1).2.2.2.2.1) (j (bE (d+1)) d e f h)<|aD (ah ((h.length:ay)=70)) (j (bE (d+1)) d e f h)<|aD (b8 (h.length+(aP (aT [Ck.i ak,Ck.i ak,Ck.s,Ck.i ak,Ck.l 3] 1) 0 [.i ak (oh.v (mW.v (br (av f d.toNat 0))).1).1,.i ak (oh.v (mW.v (br (av f d.toNat 0))).1).2.1,.s (oh.v (mW.v (br (av f d.toNat 0))).1).2.2.1,.i ak (oh.v (mW.v (br (av f d.toNat 0))).1).2.2.2.1,CV.l 3 (oh.v (mW.v (br (av f d.toNat 0))).1).2.2.2.2.1]).length) 64) (g a (bE (d+1)) e f (h++aP (aT [Ck.i ak,Ck.i ak,Ck.s,Ck.i ak,Ck.l 3] 1) 0 [.i ak (oh.v (mW.v (br (av f d.toNat 0))).1).1,.i ak (oh.v (mW.v (br (av f d.toNat 0))).1).2.1,.s (oh.v (mW.v (br (av f d.toNat 0))).1).2.2.1,.i ak (oh.v (mW.v (br (av f d.toNat 0))).1).2.2.2.1,CV.l 3 (oh.v (mW.v (br (av f d.toNat 0))).1).2.2.2.2.1])) aj) aj) aj) aj)<|aD (!(mW.v (br (av f d.toNat 0))).2) (j (bE (d+1)) d e f h)<|aD (oh.c (mW.v (br (av f d.toNat 0))).1) (aD (!(oh.v (mW.v (br (av f d.toNat 0))).1).2.2.2.2.2) (j (bE (d+1)) d e f h)<|aD (!Xp.v (oh.v (mW.v (br (av f d.toNat 0))).1).1 (oh.v (mW.v (br (av f d.toNat 0))).1).2.1 (oh.v (mW.v (br (av f d.toNat 0))).1).2.2.1 (oh.v (mW.v (br (av f d.toNat 0))).1).2.2.2.1 (oh.v (mW.v (br (av f d.toNat 0))).1).2.2.2.2.1) (j (bE (d+1)) d e f h)<|aD (ah ((h.length:ay)=70)) (j (bE (d+1)) d e f h)<|aD (b8 (h.length+(aP (aT [Ck.i ak,Ck.i ak,Ck.s,Ck.i ak,Ck.l 3] 1) 0 [.i ak (oh.v (mW.v (br (av f d.toNat 0))).1).1,.i ak (oh.v (mW.v (br (av f d.toNat 0))).1).2.1,.s (oh.v (mW.v (br (av f d.toNat 0))).1).2.2.1,.i ak (oh.v (mW.v (br (av f d.toNat 0))).1).2.2.2.1,CV.l 3 (oh.v (mW.v (br (av f d.toNat 0))).1).2.2.2.2.1]).length) 64) (g a (bE (d+1)) e f (h++aP (aT [Ck.i ak,Ck.i ak,Ck.s,Ck.i ak,Ck.l 3] 1) 0 [.i ak (oh.v (mW.v (br (av f d.toNat 0))).1).1,.i ak (oh.v (mW.v (br (av f d.toNat 0))).1).2.1,.s (oh.v (mW.v (br (av f d.toNat 0))).1).2.2.1,.i ak (oh.v (mW.v (br (av f d.toNat 0))).1).2.2.2.1,CV.l 3 (oh.v (mW.v (br (av f d.toNat 0))).1).2.2.2.2.1])) aj) aj) aj) aj)<|k a d e f h
def l7(N:aN)(a d:DZ R):aN->DZ R
 |0=>λ_ _ _ _ _=>aj
 |n+1=>r7 N (l7 N a d n) a d
def b(N:aN)(f:qF R)(a:au):aA R:=aD (ah ((a.size:ay)>3000)) (f (aT [Ck.i ak,Ck.i ak,Ck.s,Ck.i ak,Ck.l 3] 0) (-1))<|aD (KH.c a) (aD (ah (((KH.v a).length:ay)>90)) (f (aT [Ck.i ak,Ck.i ak,Ck.s,Ck.i ak,Ck.l 3] 0) (-1))<|aD (KH.c a) (l7 N (λd _ e _ _=>f e d) (λ_ _ _ _ d=>f d 0) N 0 0 (aT [Ck.i ak,Ck.i ak,Ck.s,Ck.i ak,Ck.l 3] 0) (KH.v a) (aT [Ck.i ak,Ck.i ak,Ck.s,Ck.i ak,Ck.l 3] 0)) aj) aj
def vo:=b ck λa r1=>ai (a,r1)
def c:=ka vo
def v:=ko vo
theorem out{x}:ki vo c v x:=kL
end NQ
namespace ER
def r3(N:aN)(g:k9 R)(f:iE R)(h:k9 R)(j:iE R)(a d e:ay):aA R:=aD (ah (a<3)) (f (bE (a+1)) d e ([]++aP (aT [Ck.l 3] 1) 0 [CV.l 3 (aT [Ck.i ak] (aR 16))]))<|h a d e
def uw(N:aN)(g:k9 R)(h:iE R)(k:k9 R)(j:iE R)(a d e:ay)(f:Row):aA R:=aD (ah (a<3)) (aD (b8 (f.length+(aP (aT [Ck.l 3] 1) 0 [CV.l 3 (aT [Ck.i ak] (aR 16))]).length) 24) (h (bE (a+1)) d e (f++aP (aT [Ck.l 3] 1) 0 [CV.l 3 (aT [Ck.i ak] (aR 16))])) aj)<|j a d e f
def nT(N:aN)(a:k9 R)(d:iE R):aN->iE R
 |0=>λ_ _ _ _=>aj
 |n+1=>uw N (λe f h=>aj) (nT N a d n) a d
def l3(N:aN)(a:k9 R)(d:iE R):aN->k9 R
 |0=>λ_ _ _=>aj
 |n+1=>r3 N (l3 N a d n) (nT N a d n) a d
def b(N:aN)(e:qF R):aA R:=l3 N (λ_ _ a=>e [] a) (λ_ _ a d=>e d a) N 0 0 0
def vo:=b ck λa r1=>ai (a,r1)
def c:=vo.isSome
def v:=vo.getD ([],0)
end ER
namespace U66
def b(a:sk R):aA R:=a [] [] ([]++aP (aT [Ck.l 3] 1) 0 [CV.l 3 (aT [Ck.i ak] (aR 16))]++aP (aT [Ck.l 3] 1) 0 [CV.l 3 (aT [Ck.i ak] (aR 16))]++aP (aT [Ck.l 3] 1) 0 [CV.l 3 (aT [Ck.i ak] (aR 16))]) 0
def v:Row×Row×Row×ay:=([],[],[]++aP (aT [Ck.l 3] 1) 0 [CV.l 3 (aT [Ck.i ak] (aR 16))]++aP (aT [Ck.l 3] 1) 0 [CV.l 3 (aT [Ck.i ak] (aR 16))]++aP (aT [Ck.l 3] 1) 0 [CV.l 3 (aT [Ck.i ak] (aR 16))],0)
theorem dW(a:sk R):b a=a v.1 v.2.1 v.2.2.1 v.2.2.2:=by first|rfl|(unfold b v;simp only[cj];(repeat' split)<;>rfl)
end U66
namespace U37
def b(a:dU R):aA R:=a 1 [] [] [] ([]++aP (aT [Ck.l 3] 1) 0 [CV.l 3 (aT [Ck.i ak] (aR 16))]++aP (aT [Ck.l 3] 1) 0 [CV.l 3 (aT [Ck.i ak] (aR 16))]++aP (aT [Ck.l 3] 1) 0 [CV.l 3 (aT [Ck.i ak] (aR 16))]) 0 [] [] 0
def v:ay×Row×Row×Row×Row×ay×Row×Row×ay:=(1,[],[],[],[]++aP (aT [Ck.l 3] 1) 0 [CV.l 3 (aT [Ck.i ak] (aR 16))]++aP (aT [Ck.l 3] 1) 0 [CV.l 3 (aT [Ck.i ak] (aR 16))]++aP (aT [Ck.l 3] 1) 0 [CV.l 3 (aT [Ck.i ak] (aR 16))],0,[],[],0)
theorem dW(a:dU R):b a=a v.1 v.2.1 v.2.2.1 v.2.2.2.1 v.2.2.2.2.1 v.2.2.2.2.2.1 v.2.2.2.2.2.2.1 v.2.2.2.2.2.2.2.1 v.2.2.2.2.2.2.2.2:=by first|rfl|(unfold b v;simp only[cj];(repeat' split)<;>rfl)
end U37
namespace nG
def r3(N:aN)(g:qD R)(j:oA R)(k:qD R)(m:oA R)(a:ay)(d:Row)(e f h:ay):aA R:=aD (ah (a<(d.length:ay))) (aD (ah (0<=a)&&ah (a<(d.length:ay))) (aD (b8 ((aT [Ck.i ak] 0).length+(iH (av d a.toNat 0)).length) 8) (j (bE (a+1)) d e f h ([]++aP (aT [Ck.l 3] 1) 0 [CV.l 3 (aT [Ck.i ak] 0++iH (av d a.toNat 0))])) aj) aj)<|k a d e f h
def uw(N:aN)(g:qD R)(j:oA R)(m:qD R)(k:oA R)(a:ay)(d:Row)(e f h:ay)(i:Row):aA R:=aD (ah (a<(d.length:ay))) (aD (ah (0<=a)&&ah (a<(d.length:ay))) (aD (b8 ((aT [Ck.i ak] 0).length+(iH (av d a.toNat 0)).length) 8) (aD (b8 (i.length+(aP (aT [Ck.l 3] 1) 0 [CV.l 3 (aT [Ck.i ak] 0++iH (av d a.toNat 0))]).length) 24) (j (bE (a+1)) d e f h (i++aP (aT [Ck.l 3] 1) 0 [CV.l 3 (aT [Ck.i ak] 0++iH (av d a.toNat 0))])) aj) aj) aj)<|k a d e f h i
def nT(N:aN)(a:qD R)(d:oA R):aN->oA R
 |0=>λ_ _ _ _ _ _=>aj
 |n+1=>uw N (λe f h i j=>aj) (nT N a d n) a d
def l3(N:aN)(a:qD R)(d:oA R):aN->qD R
 |0=>λ_ _ _ _ _=>aj
 |n+1=>r3 N (l3 N a d n) (nT N a d n) a d
def b(N:aN)(h:qF R)(a:Row)(d:ay):aA R:=l3 N (λ_ _ _ _ e=>h [] e) (λ_ _ _ _ e f=>h f e) N 0 a d 0 d
def vo:=b ck λa r1=>ai (a,r1)
def c:=iZ vo
def v:=jb vo
theorem out{x}:i7 vo c v x:=jd
end nG
namespace fQ
def b(h:sk R)(a d e:Row)(f:ay):aA R:=aD (b8 ((aT [.s] 0).length+a.length) 16) (aD (b8 ((aT [.s] 0).length+d.length) 16) (aD (nG.c e f) (h (aT [.s] 0++a) (aT [.s] 0++d) (nG.v e f).1 (nG.v e f).2) aj) aj) aj
def vo:=b λa r1 r2 r3=>ai (a,r1,r2,r3)
def c:=A8 vo
def v:=Ca vo
theorem out{x}:BB vo c v x:=CP
end fQ
namespace kt
def b(k:dU R)(a:ay)(d e f h:Row)(i:ay)(j l:Row)(m:ay):aA R:=aD (b8 ((aT [Ck.s,Ck.i ak,Ck.i ak,Ck.s] 0).length+d.length) 48) (aD (fQ.c e f h i) (aD (b8 ((aT [Ck.s,Ck.s,Ck.i ak,Ck.i ak,Ck.i ak] 0).length+j.length) 56) (aD (b8 ((aT [Ck.i ak,Ck.s,Ck.i ak,Ck.i ak,Ck.i ak,Ck.s,Ck.i ak] 0).length+l.length) 72) (k a (aT [Ck.s,Ck.i ak,Ck.i ak,Ck.s] 0++d) (fQ.v e f h i).1 (fQ.v e f h i).2.1 (fQ.v e f h i).2.2.1 (fQ.v e f h i).2.2.2 (aT [Ck.s,Ck.s,Ck.i ak,Ck.i ak,Ck.i ak] 0++j) (aT [Ck.i ak,Ck.s,Ck.i ak,Ck.i ak,Ck.i ak,Ck.s,Ck.i ak] 0++l) m) aj) aj) aj) aj
def vo:=b λa r1 r2 r3 r4 r5 r6 r7 r8=>ai (a,r1,r2,r3,r4,r5,r6,r7,r8)
def c:=zE vo
def v:=zI vo
theorem out{x}:zH vo c v x:=BH
end kt
namespace sw
def b(d:aY->aA R)(a:au):aA R:=d (jX.v (a.size:ay) 1 30)
def v(a:au):aY:=(jX.v (a.size:ay) 1 30)
theorem dW(d:aY->aA R)(a:au):b d a=d (v a):=by first|rfl|(unfold b v;simp only[cj];(repeat' split)<;>rfl)
end sw
namespace gu
def b(h:aY->aA R)(a:au)(d e:ay)(f:au):aA R:=aD (sw.v a) (aD (jX.v d 0 1000000000) (aD (jX.v e 1 999999) (h (ah ((f.size:ay)<=400)))<|h aq)<|h aq)<|h aq
def v(a:au)(a1 a2:ay)(a3:au):aY:=aD (sw.v a) (aD (jX.v a1 0 1000000000) (aD (jX.v a2 1 999999) (ah ((a3.size:ay)<=400)) aq) aq) aq
theorem dW(d:aY->aA R)(a:au)(a1 a2:ay)(a3:au):b d a a1 a2 a3=d (v a a1 a2 a3):=by first|rfl|(unfold b v;simp only[cj];(repeat' split)<;>rfl)
theorem FN{k:au}{s l:ay}{b:au}(h:v k s l b=ao):(1<=k.size/\k.size<=30)/\(0<=s/\s<=1000000000)/\(1<=l/\l<=999999)/\b.size<=400:=by unfold v at h;cases a:sw.v k<;>rw[a]at h<;>simp only[aw,ax,db]at h;cases d:jX.v s 0 1000000000<;>rw[d]at h<;>simp only[aw,ax,db]at h;cases e:jX.v l 1 999999<;>rw[e]at h<;>simp only[aw,ax,db]at h;simp[sw.v,jX.v]at a d e;have:=cL h;omega
end gu
namespace eV
def r2(N:aN)(g h i:Ig R)(a:Row)(d:au)(e:aY)(f:ay):aA R:=aD (ah (f<(a.length:ay))) (aD (ah (0<=f)&&ah (f<(a.length:ay))) (aD (cQ (br (av a f.toNat 0)).toList (aG d)) (h a d ao f)<|g a d e (bE (f+1))) aj)<|i a d e f
def l2(N:aN)(a d:Ig R):aN->Ig R
 |0=>λ_ _ _ _=>aj
 |n+1=>r2 N (l2 N a d n) a d
def b(N:aN)(f:aY->aA R)(a:Row)(d:au):aA R:=l2 N (λ_ _ e _=>f e) (λ_ _ _ _=>f aq) N a d aq 0
def vo:=b ck λa=>ai a
def c:=iZ vo
def v:=jb vo
theorem out{x}:i7 vo c v x:=jd
end eV
namespace sD
def b(i:aY->aA R)(a d e:Row)(f:ay)(h:au):aA R:=aD (eV.c a h) (aD (eV.v a h) (i ao)<|aD (eV.c d h) (i (eV.v d h)) aj) aj
def vo:=b λa=>ai a
def c:=A9 vo
def v:=Cb vo
theorem out{x}:BC vo c v x:=CQ
end sD
namespace fc
def r9(N:aN)(g i j:DV R)(a:aY)(d e:ay)(f:Row)(h:ay):aA R:=aD (ah (0<=d)&&ah (d<(f.length:ay))) (aD (ah (e<((iH (av f d.toNat 0)).length:ay))) (aD (ah (0<=d)&&ah (d<(f.length:ay))) (aD (ah (0<=e)&&ah (e<((iH (av f d.toNat 0)).length:ay))) (aD (!jX.v (bN (av (iH (av f d.toNat 0)) e.toNat 0)) 0 15) (i aq d e f h)<|g a d (bE (e+1)) f h) aj) aj)<|j a d e f h) aj
def l9(N:aN)(a d:DV R):aN->DV R
 |0=>λ_ _ _ _ _=>aj
 |n+1=>r9 N (l9 N a d n) a d
def r4(N:aN)(g k m:Ie R)(a:aY)(d:ay)(e:Row)(f:ay):aA R:=aD (ah (d<(e.length:ay))) (aD (ah (0<=d)&&ah (d<(e.length:ay))) (aD (((iH (av e d.toNat 0)).length:ay) !=16) (k aq d e f)<|l9 N (λh i _ j l=>k h i j l) (λh i _ j l=>g h (bE (i+1)) j l) N a d 0 e f) aj)<|m a d e f
def l4(N:aN)(a d:Ie R):aN->Ie R
 |0=>λ_ _ _ _=>aj
 |n+1=>r4 N (l4 N a d n) a d
def b(N:aN)(f:aY->aA R)(a:Row)(d:ay):aA R:=aD ((a.length:ay) !=3) (f aq)<|aD (!jX.v d 0 63) (f aq)<|l4 N (λe _ _ _=>f e) (λ_ _ _ _=>f ao) N aq 0 a d
def vo:=b ck λa=>ai a
def c:=iZ vo
def v:=jb vo
theorem out{x}:i7 vo c v x:=jd
end fc
namespace jx
def r3(N:aN)(g k m:w7 R)(a:aY)(d:ay)(e f h:Row)(i:ay)(j:Row):aA R:=aD (ah (d<(j.length:ay))) (aD (ah (0<=d)&&ah (d<(j.length:ay))) (aD (!sw.v (br (av j d.toNat 0))) (k aq d e f h i j)<|aD (fU 0 d (j.length:ay)) (aD (ah (0<=d)&&ah (d<(j.length:ay))) (aD (eV.c (dR j (aR 0) d.toNat) (br (av j d.toNat 0))) (aD (eV.v (dR j (aR 0) d.toNat) (br (av j d.toNat 0))) (k aq d e f h i j)<|g a (bE (d+1)) e f h i j) aj) aj) aj) aj)<|m a d e f h i j
def l3(N:aN)(a d:w7 R):aN->w7 R
 |0=>λ_ _ _ _ _ _ _=>aj
 |n+1=>r3 N (l3 N a d n) a d
def b(N:aN)(k:aY->aA R)(a d e:Row)(f:ay):aA R:=aD (b8 ((aT [.s] 0).length+a.length) 16) (aD (b8 ((aT [.s] 0++a).length+d.length) 16) (l3 N (λh _ _ _ _ _ _=>k h) (λ_ _ h i j l _=>aD (ah ((h.length:ay)<=2)) (aD (ah ((i.length:ay)<=4)) (aD (fc.c j l) (k (fc.v j l)) aj)<|k aq)<|k aq) N aq 0 a d e f (aT [.s] 0++a++d)) aj) aj
def vo:=b ck λa=>ai a
def c:=A8 vo
def v:=Ca vo
theorem out{x}:BB vo c v x:=CP
end jx
namespace nk
def r2(N:aN)(g k r:gM R)(a:aY)(d e:ay)(f h i j:Row)(l:ay)(m o:Row)(p:ay):aA R:=aD (ah (d<(f.length:ay))) (aD (ah (0<=d)&&ah (d<(f.length:ay))) (aD (!gu.v (br (av f d.toNat 0)) (bN (av f d.toNat 1)) (bN (av f d.toNat (1+1))) (br (av f d.toNat (1+1+1)))) (k aq d e f h i j l m o p)<|aD (ah (d>0)) (aD (ah (0<=bE (d-1))&&ah (bE (d-1)<(f.length:ay))) (aD (ah (0<=d)&&ah (d<(f.length:ay))) (aD (!Op.bytesLess (br (av f (bE (d-1)).toNat 0)).toList (br (av f d.toNat 0)).toList) (k aq d e f h i j l m o p)<|aD (ah (0<=d)&&ah (d<(f.length:ay))) (aD (sD.c h i j l (br (av f d.toNat 0))) (aD (!sD.v h i j l (br (av f d.toNat 0))) (k aq d e f h i j l m o p)<|g a (bE (d+1)) e f h i j l m o p) aj) aj) aj) aj)<|aD (ah (0<=d)&&ah (d<(f.length:ay))) (aD (sD.c h i j l (br (av f d.toNat 0))) (aD (!sD.v h i j l (br (av f d.toNat 0))) (k aq d e f h i j l m o p)<|g a (bE (d+1)) e f h i j l m o p) aj) aj) aj)<|r a d e f h i j l m o p
def l2(N:aN)(a d:gM R):aN->gM R
 |0=>λ_ _ _ _ _ _ _ _ _ _ _=>aj
 |n+1=>r2 N (l2 N a d n) a d
def b(N:aN)(k:aY->aA R)(a:ay)(d e f h:Row)(i:ay)(j l:Row)(m:ay):aA R:=l2 N (λo _ _ _ _ _ _ _ _ _ _=>k o) (λ_ _ _ o p q r s _ _ _=>aD (jx.c p q r s) (aD (jx.v p q r s) (k (ah ((o.length:ay)=bE ((p.length:ay)+(q.length:ay)))))<|k aq) aj) N aq 0 a d e f h i j l m
def vo:=b ck λa=>ai a
def c:=zE vo
def v:=zI vo
theorem out{x}:zH vo c v x:=BH
end nk
namespace np
def r5(N:aN)(g k x:kR R)(a:ay)(d:aY)(e f:ay)(h i j l:Row)(m:ay)(o p:Row)(q:ay)(r s:au)(t u w:ay):aA R:=aD (ah (e<a)) (aD (ah (0<=e)&&ah (e<(o.length:ay))) (aD (cQ (br (av o e.toNat 0)).toList (aG r)) (aD (ah (0<=e)&&ah (e<(o.length:ay))) (aD (ah (bN (av o e.toNat 2)=1)) (aD (ah (t=1)) (k a aq e f h i j l m o p q r s t u w)<|g a d (bE (e+1)) f h i j l m o p q r s t u w)<|g a d (bE (e+1)) f h i j l m o p q r s t u w) aj)<|g a d (bE (e+1)) f h i j l m o p q r s t u w) aj)<|x a d e f h i j l m o p q r s t u w
def l5(N:aN)(a d:kR R):aN->kR R
 |0=>λ_ _ _ _ _ _ _ _ _ _ _ _ _ _ _ _ _=>aj
 |n+1=>r5 N (l5 N a d n) a d
def b(N:aN)(k:aY->aA R)(a:ay)(d e f h:Row)(i:ay)(j l:Row)(m o:ay):aA R:=aD (ah (0<=o)&&ah (o<(j.length:ay))) (aD (!sw.v (br (av j o.toNat 0))) (k aq)<|aD (ah (((br (av j o.toNat 1)).size:ay)>400)) (k aq)<|aD (!jX.v (bN (av j o.toNat (1+1))) 1 3) (k aq)<|aD (!jX.v (bN (av j o.toNat (1+1+1))) 0 999999) (k aq)<|aD (!jX.v (bN (av j o.toNat (1+1+1+1))) 0 a) (k aq)<|l5 N (λ_ p _ _ _ _ _ _ _ _ _ _ _ _ _ _ _=>k p) (λ_ _ _ _ _ _ _ _ _ _ _ _ _ _ _ _ _=>k ao) N o aq 0 a d e f h i j l m (br (av j o.toNat 0)) (br (av j o.toNat 1)) (bN (av j o.toNat (1+1))) (bN (av j o.toNat (1+1+1))) (bN (av j o.toNat (1+1+1+1)))) aj
def vo:=b ck λa=>ai a
def c:=pk vo
def v:=pD vo
theorem out{x}:pz vo c v x:=qn
end np
namespace jm
def r9(N:aN)(g k r:gM R)(a:aY)(d e:ay)(f h i j:Row)(l:ay)(m o:Row)(p:ay):aA R:=aD (ah (d<(o.length:ay))) (aD (ah (0<=d)&&ah (d<(o.length:ay))) (aD (!jX.v (bN (av o d.toNat 0)) 1 9) (k aq d e f h i j l m o p)<|aD (ah (d>0)) (aD (ah (0<=bE (d-1))&&ah (bE (d-1)<(o.length:ay))) (aD (ah (bN (av o (bE (d-1)).toNat 0)≥bN (av o d.toNat 0))) (k aq d e f h i j l m o p)<|aD (!sw.v (br (av o d.toNat 1))) (k aq d e f h i j l m o p)<|aD (!jX.v (bN (av o d.toNat (1+1+1+1))) 1 3) (k aq d e f h i j l m o p)<|aD (!jX.v (bN (av o d.toNat (1+1))) 0 (m.length:ay)) (k aq d e f h i j l m o p)<|aD (ah (((br (av o d.toNat (1+1+1+1+1))).size:ay)>400)) (k aq d e f h i j l m o p)<|aD (!jX.v (bN (av o d.toNat (1+1+1))) 0 e) (k aq d e f h i j l m o p)<|aD (ah (bN (av o d.toNat (1+1+1+1+1+1))<0)) (k aq d e f h i j l m o p)<|g a (bE (d+1)) e f h i j l m o p) aj)<|aD (!sw.v (br (av o d.toNat 1))) (k aq d e f h i j l m o p)<|aD (!jX.v (bN (av o d.toNat (1+1+1+1))) 1 3) (k aq d e f h i j l m o p)<|aD (!jX.v (bN (av o d.toNat (1+1))) 0 (m.length:ay)) (k aq d e f h i j l m o p)<|aD (ah (((br (av o d.toNat (1+1+1+1+1))).size:ay)>400)) (k aq d e f h i j l m o p)<|aD (!jX.v (bN (av o d.toNat (1+1+1))) 0 e) (k aq d e f h i j l m o p)<|aD (ah (bN (av o d.toNat (1+1+1+1+1+1))<0)) (k aq d e f h i j l m o p)<|g a (bE (d+1)) e f h i j l m o p) aj)<|r a d e f h i j l m o p
def l9(N:aN)(a d:gM R):aN->gM R
 |0=>λ_ _ _ _ _ _ _ _ _ _ _=>aj
 |n+1=>r9 N (l9 N a d n) a d
def r4(N:aN)(g k r:gM R)(a:aY)(d e:ay)(f h i j:Row)(l:ay)(m o:Row)(p:ay):aA R:=aD (ah (d<(m.length:ay))) (aD (np.c e f h i j l m o p d) (aD (!np.v e f h i j l m o p d) (k aq d e f h i j l m o p)<|g a (bE (d+1)) e f h i j l m o p) aj)<|r a d e f h i j l m o p
def l4(N:aN)(a d:gM R):aN->gM R
 |0=>λ_ _ _ _ _ _ _ _ _ _ _=>aj
 |n+1=>r4 N (l4 N a d n) a d
def b(N:aN)(k:aY->aA R)(a:ay)(d e f h:Row)(i:ay)(j l:Row)(m:ay):aA R:=aD (!jX.v a 1 1000000000) (k aq)<|aD (nk.c a d e f h i j l m) (aD (!nk.v a d e f h i j l m) (k aq)<|aD (ah ((j.length:ay)>20)) (k aq)<|aD (ah ((l.length:ay)>6)) (k aq)<|aD (!jX.v m 0 1000000000) (k aq)<|l4 N (λo _ _ _ _ _ _ _ _ _ _=>k o) (λo _ p q r s t u w y z=>l9 N (λα _ _ _ _ _ _ _ _ _ _=>k α) (λ_ _ _ _ _ _ _ _ _ _ _=>k ao) N o 0 p q r s t u w y z) N aq 0 a d e f h i j l m) aj
def vo:=b ck λa=>ai a
def c:=zE vo
def v:=zI vo
theorem out{x}:zH vo c v x:=BH
end jm
namespace vN
def r2(N:aN)(g k x:lH R)(a:au)(d:aY)(e f:ay)(h i j l:Row)(m:ay)(o p:Row)(q:ay)(r:au)(s t:ay)(u:au):aA R:=aD (ah (e<(h.length:ay))) (aD (ah (0<=e)&&ah (e<(h.length:ay))) (aD (cQ (br (av h e.toNat 0)).toList (aG a)) (aD (ah (0<=e)&&ah (e<(h.length:ay))) (k a ao e f h i j l m o p q (br (av h e.toNat 0)) (bN (av h e.toNat 1)) (bN (av h e.toNat (1+1))) (br (av h e.toNat (1+1+1)))) aj)<|g a d (bE (e+1)) f h i j l m o p q r s t u) aj)<|x a d e f h i j l m o p q r s t u
def l2(N:aN)(a d:lH R):aN->lH R
 |0=>λ_ _ _ _ _ _ _ _ _ _ _ _ _ _ _ _=>aj
 |n+1=>r2 N (l2 N a d n) a d
def b(N:aN)(k:vD R)(a:ay)(d e f h:Row)(i:ay)(j l:Row)(m:ay)(o:au):aA R:=l2 N (λ_ p _ _ _ _ _ _ _ _ _ _ q r s t=>k q r s t p) (λ_ _ _ _ _ _ _ _ _ _ _ _ _ _ _ _=>k ⟨#[]⟩ 0 0 ⟨#[]⟩ aq) N o aq 0 a d e f h i j l m ⟨#[]⟩ 0 0 ⟨#[]⟩
def vo:=b ck λa r1 r2 r3 r4=>ai (a,r1,r2,r3,r4)
def c:=pk vo
def v:=pD vo
theorem out{x}:pz vo c v x:=qn
end vN
namespace ug
def b(i:aY->aA R)(a:au)(d e:ay)(f:au)(h:ay):aA R:=aD (gu.v a d e f) (aD (jX.v h d 1000000000) (i (ah (bE (h-d)<e)))<|i aq)<|i aq
def v(a:au)(a1 a2:ay)(a3:au)(a4:ay):aY:=aD (gu.v a a1 a2 a3) (aD (jX.v a4 a1 1000000000) (ah (bE (a4-a1)<a2)) aq) aq
theorem dW(d:aY->aA R)(a:au)(a1 a2:ay)(a3:au)(a4:ay):b d a a1 a2 a3 a4=d (v a a1 a2 a3 a4):=by first|rfl|(unfold b v;simp only[cj];(repeat' split)<;>rfl)
end ug
namespace jy
def r6(N:aN)(g h:w_ R)(a:ay)(d:au)(e f:ay):aA R:=aD (ah (f<8)) (aD (ah (cx a 2=1)) (g (bF eg (↑(ij (oz (di 32 (bF eg (cK a 2))) (di 32 3558460437))):ay)) d e (bE (f+1)))<|g (bF eg (cK a 2)) d e (bE (f+1)))<|h a d e f
def l6(N:aN)(a:w_ R):aN->w_ R
 |0=>λ_ _ _ _=>aj
 |n+1=>r6 N (l6 N a n) a
def r2(N:aN)(g j:ux R)(a:ay)(d:au)(e:ay):aA R:=aD (ah (e<(d.size:ay))) (aD (ah (0<=e)&&ah (e<(d.size:ay))) (l6 N (λf h i _=>g f h (bE (i+1))) N (bF eg (↑(ij (oz (di 32 a) (di 32 (bF eg (↑(fF d e.toNat):ay))))):ay)) d e 0) aj)<|j a d e
def l2(N:aN)(a:ux R):aN->ux R
 |0=>λ_ _ _=>aj
 |n+1=>r2 N (l2 N a n) a
def b(N:aN)(f:ay->aA R)(a:ay)(d:au):aA R:=l2 N (λe _ _=>f e) N a d 0
def vo:=b ck λa=>ai a
def c:=iZ vo
def v:=jb vo
theorem out{x}:i7 vo c v x:=jd
end jy
namespace u0
def b(d:ay->aA R)(a:au):aA R:=aD (jy.c 4294967295 a) (d (jy.v 4294967295 a)) aj
def vo:=b λa=>ai a
def c:=ka vo
def v:=ko vo
theorem out{x}:ki vo c v x:=kL
end u0
namespace f_
def b(e:ay->aA R)(a:ay)(d:au):aA R:=aD (ah (d.size+(bytesOf (aP (aT [Ck.i ba] 1) 0 [CV.i ba (bF ba a)])).size<=4611686018427387904)) (aD (u0.c (d++bytesOf (aP (aT [Ck.i ba] 1) 0 [CV.i ba (bF ba a)]))) (e (bE (cx (u0.v (d++bytesOf (aP (aT [Ck.i ba] 1) 0 [CV.i ba (bF ba a)]))) 16))) aj) aj
def vo:=b λa=>ai a
def c:=iZ vo
def v:=jb vo
theorem out{x}:i7 vo c v x:=jd
end f_
namespace dp
def r17(N:aN)(g j:nV R)(a d e f:ay)(h:Row):aA R:=aD (ah (0<=a)&&ah (a<(h.length:ay))) (aD (ah (d<((iH (av h a.toNat 0)).length:ay))) (aD (ah (0<=a)&&ah (a<(h.length:ay))) (aD (ah (0<=a)&&ah (a<(h.length:ay))) (aD (ah (0<=d)&&ah (d<((iH (av h a.toNat 0)).length:ay))) (aD (ah (0<=d)&&ah (d<((iH (av h a.toNat 0)).length:ay))) (g a (bE (d+1)) e f (dV h a.toNat 0 [CV.l 3 (dV (iH (av h a.toNat 0)) d.toNat 0 [.i ak (bE (cK (bN (av (iH (av h a.toNat 0)) d.toNat 0)) 2))])])) aj) aj) aj) aj)<|j a d e f h) aj
def l17(N:aN)(a:nV R):aN->nV R
 |0=>λ_ _ _ _ _=>aj
 |n+1=>r17 N (l17 N a n) a
def r14(N:aN)(g k:iE R)(a d e:ay)(f:Row):aA R:=aD (ah (a<(f.length:ay))) (l17 N (λh _ i j l=>g (bE (h+1)) i j l) N a 0 d e f)<|k a d e f
def l14(N:aN)(a:iE R):aN->iE R
 |0=>λ_ _ _ _=>aj
 |n+1=>r14 N (l14 N a n) a
def r5(N:aN)(g j:D7 R)(a:au)(d e f:ay)(h:Row):aA R:=aD (ah (d<(h.length:ay))) (aD (f_.c d a) (aD (ah (0<=d)&&ah (d<(h.length:ay))) (aD (ah (0<=f_.v d a)&&ah (f_.v d a<((iH (av h d.toNat 0)).length:ay))) (aD (ah (bN (av (iH (av h d.toNat 0)) (f_.v d a).toNat 0)<15)) (aD (ah (0<=d)&&ah (d<(h.length:ay))) (aD (ah (0<=f_.v d a)&&ah (f_.v d a<((iH (av h d.toNat 0)).length:ay))) (aD (ah (0<=f_.v d a)&&ah (f_.v d a<((iH (av h d.toNat 0)).length:ay))) (g a (bE (d+1)) e f (dV h d.toNat 0 [CV.l 3 (dV (iH (av h d.toNat 0)) (f_.v d a).toNat 0 [.i ak (bE (bN (av (iH (av h d.toNat 0)) (f_.v d a).toNat 0)+1))])])) aj) aj) aj)<|g a (bE (d+1)) e f h) aj) aj) aj)<|j a d e f h
def l5(N:aN)(a:D7 R):aN->D7 R
 |0=>λ_ _ _ _ _=>aj
 |n+1=>r5 N (l5 N a n) a
def b(N:aN)(k:qF R)(a:Row)(d:ay)(e:au):aA R:=aD (nG.c a d) (aD (fc.c a d) (aD (!fc.v a d) (k (nG.v a d).1 (nG.v a d).2)<|l5 N (λ_ _ f h i=>aD (ah (bE (h+1)=64)) (l14 N (λ_ _ j l=>k l j) N 0 f 0 i)<|k i (bE (h+1))) N e 0 0 (nG.v a d).2 (nG.v a d).1) aj) aj
def vo:=b ck λa r1=>ai (a,r1)
def c:=P4 vo
def v:=SP vo
theorem out{x}:Rm vo c v x:=Wi
end dp
namespace oK
def r3(N:aN)(g h:xA R)(a:Row)(d:au)(e:ay)(f:Row):aA R:=aD (ah (e<(a.length:ay))) (aD (ah (0<=e)&&ah (e<(a.length:ay))) (aD (!List.beq (br (av a e.toNat 0)).toList (aG d)) (aD (ah (0<=e)&&ah (e<(a.length:ay))) (aD (b8 (f.length+(aP (aT [.s] 1) 0 [.s (br (av a e.toNat 0))]).length) 16) (g a d (bE (e+1)) (f++aP (aT [.s] 1) 0 [.s (br (av a e.toNat 0))])) aj) aj)<|g a d (bE (e+1)) f) aj)<|h a d e f
def l3(N:aN)(a:xA R):aN->xA R
 |0=>λ_ _ _ _=>aj
 |n+1=>r3 N (l3 N a n) a
def b(N:aN)(f:Row->aA R)(a:Row)(d:au):aA R:=l3 N (λ_ _ _ e=>f e) N a d 0 (aT [.s] 0)
def vo:=b ck λa=>ai a
def c:=iZ vo
def v:=jb vo
theorem out{x}:i7 vo c v x:=jd
end oK
namespace lY
def r5(N:aN)(g i:D8 R)(a:au)(d e:ay)(f:Row)(h:ay):aA R:=aD (ah (e<(f.length:ay))) (aD (ah (0<=e)&&ah (e<(f.length:ay))) (aD (f_.c e a) (aD (ah (0<=f_.v e a)&&ah (f_.v e a<((iH (av f e.toNat 0)).length:ay))) (aD (ah (bN (av (iH (av f e.toNat 0)) (f_.v e a).toNat 0)<d)) (g a (bN (av (iH (av f e.toNat 0)) (f_.v e a).toNat 0)) (bE (e+1)) f h)<|g a d (bE (e+1)) f h) aj) aj) aj)<|i a d e f h
def l5(N:aN)(a:D8 R):aN->D8 R
 |0=>λ_ _ _ _ _=>aj
 |n+1=>r5 N (l5 N a n) a
def b(N:aN)(h:ay->aA R)(a:Row)(d:ay)(e:au):aA R:=aD (fc.c a d) (aD (!fc.v a d) (h 0)<|l5 N (λ_ f _ _ _=>h f) N e 15 0 a d) aj
def vo:=b ck λa=>ai a
def c:=P4 vo
def v:=SP vo
theorem out{x}:Rm vo c v x:=Wi
end lY
namespace eH
def b(i:J7 R)(a d e:Row)(f:ay)(h:au):aA R:=aD (fQ.c a d e f) (aD (jx.c a d e f) (aD (!jx.v a d e f) (i (fQ.v a d e f).1 (fQ.v a d e f).2.1 (fQ.v a d e f).2.2.1 (fQ.v a d e f).2.2.2 ⟨#[]⟩)<|aD (!sw.v h) (i (fQ.v a d e f).1 (fQ.v a d e f).2.1 (fQ.v a d e f).2.2.1 (fQ.v a d e f).2.2.2 ⟨#[]⟩)<|aD (dp.c e f h) (aD (eV.c a h) (aD (eV.v a h) (aD (oK.c a h) (aD (b8 ((oK.v a h).length+(aP (aT [.s] 1) 0 [.s h]).length) 16) (i (oK.v a h++aP (aT [.s] 1) 0 [.s h]) (fQ.v a d e f).2.1 (dp.v e f h).1 (dp.v e f h).2 ⟨#[]⟩) aj) aj)<|aD (eV.c d h) (aD (eV.v d h) (aD (oK.c d h) (aD (b8 ((oK.v d h).length+(aP (aT [.s] 1) 0 [.s h]).length) 16) (i (fQ.v a d e f).1 (oK.v d h++aP (aT [.s] 1) 0 [.s h]) (dp.v e f h).1 (dp.v e f h).2 ⟨#[]⟩) aj) aj)<|aD (b8 ((fQ.v a d e f).1.length+(aP (aT [.s] 1) 0 [.s h]).length) 16) (aD (ah ((((fQ.v a d e f).1++aP (aT [.s] 1) 0 [.s h]).length:ay)<=2)) (i ((fQ.v a d e f).1++aP (aT [.s] 1) 0 [.s h]) (fQ.v a d e f).2.1 (dp.v e f h).1 (dp.v e f h).2 ⟨#[]⟩)<|aD (ah (0<(((fQ.v a d e f).1++aP (aT [.s] 1) 0 [.s h]).length:ay))) (aD (fU 1 (((fQ.v a d e f).1++aP (aT [.s] 1) 0 [.s h]).length:ay) (((fQ.v a d e f).1++aP (aT [.s] 1) 0 [.s h]).length:ay)) (aD (b8 ((aT [.s] 0).length+(dR ((fQ.v a d e f).1++aP (aT [.s] 1) 0 [.s h]) (aR 1) (((fQ.v a d e f).1++aP (aT [.s] 1) 0 [.s h]).length:ay).toNat).length) 16) (aD (ah (((fQ.v a d e f).2.1.length:ay)<4)) (aD (b8 ((fQ.v a d e f).2.1.length+(aP (aT [.s] 1) 0 [.s (br (av ((fQ.v a d e f).1++aP (aT [.s] 1) 0 [.s h]) (aR 0) 0))]).length) 16) (i (aT [.s] 0++dR ((fQ.v a d e f).1++aP (aT [.s] 1) 0 [.s h]) (aR 1) (((fQ.v a d e f).1++aP (aT [.s] 1) 0 [.s h]).length:ay).toNat) ((fQ.v a d e f).2.1++aP (aT [.s] 1) 0 [.s (br (av ((fQ.v a d e f).1++aP (aT [.s] 1) 0 [.s h]) (aR 0) 0))]) (dp.v e f h).1 (dp.v e f h).2 ⟨#[]⟩) aj)<|aD (lY.c (dp.v e f h).1 (dp.v e f h).2 (br (av ((fQ.v a d e f).1++aP (aT [.s] 1) 0 [.s h]) (aR 0) 0))) (aD (ah (0<((fQ.v a d e f).2.1.length:ay))) (aD (lY.c (dp.v e f h).1 (dp.v e f h).2 (br (av (fQ.v a d e f).2.1 (aR 0) 0))) (aD (ah (lY.v (dp.v e f h).1 (dp.v e f h).2 (br (av ((fQ.v a d e f).1++aP (aT [.s] 1) 0 [.s h]) (aR 0) 0))>lY.v (dp.v e f h).1 (dp.v e f h).2 (br (av (fQ.v a d e f).2.1 (aR 0) 0)))) (aD (ah (0<((fQ.v a d e f).2.1.length:ay))) (aD (fU 1 ((fQ.v a d e f).2.1.length:ay) ((fQ.v a d e f).2.1.length:ay)) (aD (b8 ((aT [.s] 0).length+(dR (fQ.v a d e f).2.1 (aR 1) ((fQ.v a d e f).2.1.length:ay).toNat).length) 16) (aD (b8 ((aT [.s] 0++dR (fQ.v a d e f).2.1 (aR 1) ((fQ.v a d e f).2.1.length:ay).toNat).length+(aP (aT [.s] 1) 0 [.s (br (av ((fQ.v a d e f).1++aP (aT [.s] 1) 0 [.s h]) (aR 0) 0))]).length) 16) (i (aT [.s] 0++dR ((fQ.v a d e f).1++aP (aT [.s] 1) 0 [.s h]) (aR 1) (((fQ.v a d e f).1++aP (aT [.s] 1) 0 [.s h]).length:ay).toNat) (aT [.s] 0++dR (fQ.v a d e f).2.1 (aR 1) ((fQ.v a d e f).2.1.length:ay).toNat++aP (aT [.s] 1) 0 [.s (br (av ((fQ.v a d e f).1++aP (aT [.s] 1) 0 [.s h]) (aR 0) 0))]) (dp.v e f h).1 (dp.v e f h).2 (br (av (fQ.v a d e f).2.1 (aR 0) 0))) aj) aj) aj) aj)<|i (aT [.s] 0++dR ((fQ.v a d e f).1++aP (aT [.s] 1) 0 [.s h]) (aR 1) (((fQ.v a d e f).1++aP (aT [.s] 1) 0 [.s h]).length:ay).toNat) (fQ.v a d e f).2.1 (dp.v e f h).1 (dp.v e f h).2 (br (av ((fQ.v a d e f).1++aP (aT [.s] 1) 0 [.s h]) (aR 0) 0))) aj) aj) aj) aj) aj) aj) aj) aj) aj) aj) aj) aj
def vo:=b λa r1 r2 r3 r4=>ai (a,r1,r2,r3,r4)
def c:=A9 vo
def v:=Cb vo
theorem out{x}:BC vo c v x:=CQ
end eH
namespace lh
def r9(N:aN)(g k:kC R)(a:Row)(d e:ay)(f:au)(h i j:ay)(l:au)(m:ay)(o:Row):aA R:=aD (ah (d<(a.length:ay))) (aD (ah (0<=d)&&ah (d<(a.length:ay))) (aD (ah (bN (av a d.toNat 0)>e)) (aD (ah (0<=d)&&ah (d<(a.length:ay))) (aD (b8 (o.length+(aP (aT [Ck.i ak,Ck.s,Ck.i ak,Ck.i ak,Ck.i ak,Ck.s,Ck.i ak] 1) 0 [.i ak (bN (av a d.toNat 0)),.s (br (av a d.toNat 1)),.i ak (bN (av a d.toNat (1+1))),.i ak (bN (av a d.toNat (1+1+1))),.i ak (bN (av a d.toNat (1+1+1+1))),.s (br (av a d.toNat (1+1+1+1+1))),.i ak (bN (av a d.toNat (1+1+1+1+1+1)))]).length) 72) (g a (bE (d+1)) e f h i j l m (o++aP (aT [Ck.i ak,Ck.s,Ck.i ak,Ck.i ak,Ck.i ak,Ck.s,Ck.i ak] 1) 0 [.i ak (bN (av a d.toNat 0)),.s (br (av a d.toNat 1)),.i ak (bN (av a d.toNat (1+1))),.i ak (bN (av a d.toNat (1+1+1))),.i ak (bN (av a d.toNat (1+1+1+1))),.s (br (av a d.toNat (1+1+1+1+1))),.i ak (bN (av a d.toNat (1+1+1+1+1+1)))])) aj) aj)<|g a (bE (d+1)) e f h i j l m o) aj)<|k a d e f h i j l m o
def l9(N:aN)(a:kC R):aN->kC R
 |0=>λ_ _ _ _ _ _ _ _ _ _=>aj
 |n+1=>r9 N (l9 N a n) a
def r3(N:aN)(g k:kC R)(a:Row)(d e:ay)(f:au)(h i j:ay)(l:au)(m:ay)(o:Row):aA R:=aD (ah (d<(a.length:ay))) (aD (ah (0<=d)&&ah (d<(a.length:ay))) (aD (ah (bN (av a d.toNat 0)<e)) (aD (ah (0<=d)&&ah (d<(a.length:ay))) (aD (b8 (o.length+(aP (aT [Ck.i ak,Ck.s,Ck.i ak,Ck.i ak,Ck.i ak,Ck.s,Ck.i ak] 1) 0 [.i ak (bN (av a d.toNat 0)),.s (br (av a d.toNat 1)),.i ak (bN (av a d.toNat (1+1))),.i ak (bN (av a d.toNat (1+1+1))),.i ak (bN (av a d.toNat (1+1+1+1))),.s (br (av a d.toNat (1+1+1+1+1))),.i ak (bN (av a d.toNat (1+1+1+1+1+1)))]).length) 72) (g a (bE (d+1)) e f h i j l m (o++aP (aT [Ck.i ak,Ck.s,Ck.i ak,Ck.i ak,Ck.i ak,Ck.s,Ck.i ak] 1) 0 [.i ak (bN (av a d.toNat 0)),.s (br (av a d.toNat 1)),.i ak (bN (av a d.toNat (1+1))),.i ak (bN (av a d.toNat (1+1+1))),.i ak (bN (av a d.toNat (1+1+1+1))),.s (br (av a d.toNat (1+1+1+1+1))),.i ak (bN (av a d.toNat (1+1+1+1+1+1)))])) aj) aj)<|g a (bE (d+1)) e f h i j l m o) aj)<|k a d e f h i j l m o
def l3(N:aN)(a:kC R):aN->kC R
 |0=>λ_ _ _ _ _ _ _ _ _ _=>aj
 |n+1=>r3 N (l3 N a n) a
def b(N:aN)(k:Row->aA R)(a:Row)(d:ay)(e:au)(f h i:ay)(j:au)(l:ay):aA R:=l3 N (λm _ o p q r s t u w=>aD (b8 (w.length+(aP (aT [Ck.i ak,Ck.s,Ck.i ak,Ck.i ak,Ck.i ak,Ck.s,Ck.i ak] 1) 0 [.i ak o,.s p,.i ak q,.i ak r,.i ak s,.s t,.i ak u]).length) 72) (l9 N (λ_ _ _ _ _ _ _ _ _ y=>k y) N m 0 o p q r s t u (w++aP (aT [Ck.i ak,Ck.s,Ck.i ak,Ck.i ak,Ck.i ak,Ck.s,Ck.i ak] 1) 0 [.i ak o,.s p,.i ak q,.i ak r,.i ak s,.s t,.i ak u])) aj) N a 0 d e f h i j l (aT [Ck.i ak,Ck.s,Ck.i ak,Ck.i ak,Ck.i ak,Ck.s,Ck.i ak] 0)
def vo:=b ck λa=>ai a
def c:=aeA vo
def v:=ahM vo
theorem out{x}:agK vo c v x:=ak2
end lh
namespace pL
def r3(N:aN)(g h:xA R)(a:Row)(d:au)(e:ay)(f:Row):aA R:=aD (ah (e<(a.length:ay))) (aD (ah (0<=e)&&ah (e<(a.length:ay))) (aD (!List.beq (br (av a e.toNat 0)).toList (aG d)) (aD (ah (0<=e)&&ah (e<(a.length:ay))) (aD (b8 (f.length+(aP (aT [Ck.s,Ck.i ak,Ck.i ak,Ck.s] 1) 0 [.s (br (av a e.toNat 0)),.i ak (bN (av a e.toNat 1)),.i ak (bN (av a e.toNat (1+1))),.s (br (av a e.toNat (1+1+1)))]).length) 48) (g a d (bE (e+1)) (f++aP (aT [Ck.s,Ck.i ak,Ck.i ak,Ck.s] 1) 0 [.s (br (av a e.toNat 0)),.i ak (bN (av a e.toNat 1)),.i ak (bN (av a e.toNat (1+1))),.s (br (av a e.toNat (1+1+1)))])) aj) aj)<|g a d (bE (e+1)) f) aj)<|h a d e f
def l3(N:aN)(a:xA R):aN->xA R
 |0=>λ_ _ _ _=>aj
 |n+1=>r3 N (l3 N a n) a
def b(N:aN)(f:Row->aA R)(a:Row)(d:au):aA R:=l3 N (λ_ _ _ e=>f e) N a d 0 (aT [Ck.s,Ck.i ak,Ck.i ak,Ck.s] 0)
def vo:=b ck λa=>ai a
def c:=iZ vo
def v:=jb vo
theorem out{x}:i7 vo c v x:=jd
end pL
namespace uh
def b(i:sk R)(a d e:Row)(f:ay)(h:au):aA R:=aD (oK.c a h) (aD (oK.c d h) (aD (nG.c e f) (i (oK.v a h) (oK.v d h) (nG.v e f).1 (nG.v e f).2) aj) aj) aj
def vo:=b λa r1 r2 r3=>ai (a,r1,r2,r3)
def c:=A9 vo
def v:=Cb vo
theorem out{x}:BC vo c v x:=CQ
end uh
namespace vJ
def r22(N:aN)(g Q:gd R)(a:au)(d:aY)(e f:ay)(h i j l:Row)(m:ay)(o p:Row)(q r s t u w y z:ay)(α:au)(O k x:ay)(P:au)(A:ay)(B C H I K M:Row):aA R:=aD (ah (e<(o.length:ay))) (aD (ah (0<=e)&&ah (e<(o.length:ay))) (aD (cQ (br (av o e.toNat 0)).toList (aG a)) (aD (ah (0<=e)&&ah (e<(o.length:ay))) (aD (ah (bN (av o e.toNat 2)=1)) (aD (ah (0<=e)&&ah (e<(o.length:ay))) (g a d (bE (e+1)) f h i j l m o p q r s t u w y z α (bE (e+1)) k x (br (av o e.toNat 1)) A B C H I K M) aj)<|g a d (bE (e+1)) f h i j l m o p q r s t u w y z α O k x P A B C H I K M) aj)<|g a d (bE (e+1)) f h i j l m o p q r s t u w y z α O k x P A B C H I K M) aj)<|Q a d e f h i j l m o p q r s t u w y z α O k x P A B C H I K M
def UO(N:aN)(a:gd R):aN->gd R
 |0=>λ_ _ _ _ _ _ _ _ _ _ _ _ _ _ _ _ _ _ _ _ _ _ _ _ _ _ _ _ _ _ _=>aj
 |n+1=>r22 N (UO N a n) a
def r5(N:aN)(g H I:ik R)(a:ay)(d:au)(e f h:ay)(i j l m:Row)(o:ay)(p q:Row)(r s t u w y z:ay)(α k x A B C:Row):aA R:=aD (ah (f<(q.length:ay))) (aD (ah (0<=f)&&ah (f<(q.length:ay))) (aD (ah (bN (av q f.toNat 0)=a)) (H a d 1 f h i j l m o p q r w y z w y z α k x A B C)<|g a d e (bE (f+1)) h i j l m o p q r s t u w y z α k x A B C) aj)<|I a d e f h i j l m o p q r s t u w y z α k x A B C
def l5(N:aN)(a d:ik R):aN->ik R
 |0=>λ_ _ _ _ _ _ _ _ _ _ _ _ _ _ _ _ _ _ _ _ _ _ _ _ _=>aj
 |n+1=>r5 N (l5 N a d n) a d
def b(N:aN)(M:vz R)(a:ay)(d e f h:Row)(i:ay)(j l:Row)(m o:ay)(p:au):aA R:=aD (kt.c a d e f h i j l m) (ch (kt.v a d e f h i j l m) λq=>aD (jm.c a d e f h i j l m) (ch (jm.v a d e f h i j l m) λr=>aD (!r) (M q.1 q.2.1 q.2.2.1 q.2.2.2.1 q.2.2.2.2.1 q.2.2.2.2.2.1 q.2.2.2.2.2.2.1 q.2.2.2.2.2.2.2.1 q.2.2.2.2.2.2.2.2 1)<|aD (!jX.v o 1 9) (M q.1 q.2.1 q.2.2.1 q.2.2.2.1 q.2.2.2.2.1 q.2.2.2.2.2.1 q.2.2.2.2.2.2.1 q.2.2.2.2.2.2.2.1 q.2.2.2.2.2.2.2.2 1)<|aD (!sw.v p) (M q.1 q.2.1 q.2.2.1 q.2.2.2.1 q.2.2.2.2.1 q.2.2.2.2.2.1 q.2.2.2.2.2.2.1 q.2.2.2.2.2.2.2.1 q.2.2.2.2.2.2.2.2 1)<|aD (ah ((l.length:ay)≥6)) (M q.1 q.2.1 q.2.2.1 q.2.2.2.1 q.2.2.2.2.1 q.2.2.2.2.2.1 q.2.2.2.2.2.2.1 q.2.2.2.2.2.2.2.1 q.2.2.2.2.2.2.2.2 1)<|l5 N (λ_ _ s _ _ _ _ _ _ _ _ _ _ t u w _ _ _ y z α xa xb xc=>M t y z α xa u xb xc w s) (λs t _ _ u w y z α xa xb xc xd xe xf xg xh xi xj xk xl xm xn xo xp=>aD (vN.c u w y z α xa xb xc xd t) (ch (vN.v u w y z α xa xb xc xd t) λB=>aD B.2.2.2.2 (aD (ug.v B.1 B.2.1 B.2.2.1 B.2.2.2.1 u) (aD (eH.c y z α xa t) (ch (eH.v y z α xa t) λk=>aD (ah (xj<1000000000)) (aD (lh.c xp s t 0 B.2.1 2 B.2.2.2.1 (bE (u-B.2.1))) (ch (lh.v xp s t 0 B.2.1 2 B.2.2.2.1 (bE (u-B.2.1))) λxs=>M xh xk k.1 k.2.1 k.2.2.1 k.2.2.2.1 xo xs (bE (xj+1)) 0) aj)<|aD (lh.c xp s t 0 B.2.1 2 B.2.2.2.1 (bE (u-B.2.1))) (ch (lh.v xp s t 0 B.2.1 2 B.2.2.2.1 (bE (u-B.2.1))) λxs=>M xh xk k.1 k.2.1 k.2.2.1 k.2.2.2.1 xo xs xj 0) aj) aj)<|UO N (λk xs _ _ _ _ _ _ _ xt _ _ _ _ _ xu C xw O P xz Q S U V X Y yg H A I=>aD (ah (xz=0)) (aD (ah ((xt.length:ay)≥20)) (M xu X Y yg H C A I xw 2)<|aD (b8 (A.length+(aP (aT [Ck.s,Ck.s,Ck.i ak,Ck.i ak,Ck.i ak] 1) 0 [.s k,.s ⟨#[]⟩,.i ak 1,.i ak 0,.i ak 0]).length) 56) (aD xs (aD (pL.c X k) (ch (pL.v X k) λK=>aD (uh.c Y yg H C k) (ch (uh.v Y yg H C k) λx=>aD (dp.c x.2.2.1 x.2.2.2 k) (ch (dp.v x.2.2.1 x.2.2.2 k) λym=>aD (lh.c I O P ((A++aP (aT [Ck.s,Ck.s,Ck.i ak,Ck.i ak,Ck.i ak] 1) 0 [.s k,.s ⟨#[]⟩,.i ak 1,.i ak 0,.i ak 0]).length:ay) Q S U V) (ch (lh.v I O P ((A++aP (aT [Ck.s,Ck.s,Ck.i ak,Ck.i ak,Ck.i ak] 1) 0 [.s k,.s ⟨#[]⟩,.i ak 1,.i ak 0,.i ak 0]).length:ay) Q S U V) λyn=>M xu K x.1 x.2.1 ym.1 ym.2 (A++aP (aT [Ck.s,Ck.s,Ck.i ak,Ck.i ak,Ck.i ak] 1) 0 [.s k,.s ⟨#[]⟩,.i ak 1,.i ak 0,.i ak 0]) yn xw 0) aj) aj) aj) aj)<|aD (dp.c H C k) (ch (dp.v H C k) λK=>aD (lh.c I O P ((A++aP (aT [Ck.s,Ck.s,Ck.i ak,Ck.i ak,Ck.i ak] 1) 0 [.s k,.s ⟨#[]⟩,.i ak 1,.i ak 0,.i ak 0]).length:ay) Q S U V) (ch (lh.v I O P ((A++aP (aT [Ck.s,Ck.s,Ck.i ak,Ck.i ak,Ck.i ak] 1) 0 [.s k,.s ⟨#[]⟩,.i ak 1,.i ak 0,.i ak 0]).length:ay) Q S U V) λx=>M xu X Y yg K.1 K.2 (A++aP (aT [Ck.s,Ck.s,Ck.i ak,Ck.i ak,Ck.i ak] 1) 0 [.s k,.s ⟨#[]⟩,.i ak 1,.i ak 0,.i ak 0]) x xw 0) aj) aj) aj)<|aD xs (aD (pL.c X k) (ch (pL.v X k) λK=>aD (uh.c Y yg H C k) (ch (uh.v Y yg H C k) λx=>aD (dp.c x.2.2.1 x.2.2.2 k) (ch (dp.v x.2.2.1 x.2.2.2 k) λym=>aD (lh.c I O P xz Q S U V) (ch (lh.v I O P xz Q S U V) λyn=>M xu K x.1 x.2.1 ym.1 ym.2 A yn xw 0) aj) aj) aj) aj)<|aD (dp.c H C k) (ch (dp.v H C k) λK=>aD (lh.c I O P xz Q S U V) (ch (lh.v I O P xz Q S U V) λx=>M xu X Y yg K.1 K.2 A x xw 0) aj) aj) N t B.2.2.2.2 0 u w y z α xa xb xc xd xe xf xg xh xi xj s t 0 0 1 ⟨#[]⟩ 0 xk xl xm xn xo xp)<|UO N (λk xs _ _ _ _ _ _ _ xt _ _ _ _ _ xu C xw O P xz Q S U V X Y yg H A I=>aD (ah (xz=0)) (aD (ah ((xt.length:ay)≥20)) (M xu X Y yg H C A I xw 2)<|aD (b8 (A.length+(aP (aT [Ck.s,Ck.s,Ck.i ak,Ck.i ak,Ck.i ak] 1) 0 [.s k,.s ⟨#[]⟩,.i ak 1,.i ak 0,.i ak 0]).length) 56) (aD xs (aD (pL.c X k) (ch (pL.v X k) λK=>aD (uh.c Y yg H C k) (ch (uh.v Y yg H C k) λx=>aD (dp.c x.2.2.1 x.2.2.2 k) (ch (dp.v x.2.2.1 x.2.2.2 k) λym=>aD (lh.c I O P ((A++aP (aT [Ck.s,Ck.s,Ck.i ak,Ck.i ak,Ck.i ak] 1) 0 [.s k,.s ⟨#[]⟩,.i ak 1,.i ak 0,.i ak 0]).length:ay) Q S U V) (ch (lh.v I O P ((A++aP (aT [Ck.s,Ck.s,Ck.i ak,Ck.i ak,Ck.i ak] 1) 0 [.s k,.s ⟨#[]⟩,.i ak 1,.i ak 0,.i ak 0]).length:ay) Q S U V) λyn=>M xu K x.1 x.2.1 ym.1 ym.2 (A++aP (aT [Ck.s,Ck.s,Ck.i ak,Ck.i ak,Ck.i ak] 1) 0 [.s k,.s ⟨#[]⟩,.i ak 1,.i ak 0,.i ak 0]) yn xw 0) aj) aj) aj) aj)<|aD (dp.c H C k) (ch (dp.v H C k) λK=>aD (lh.c I O P ((A++aP (aT [Ck.s,Ck.s,Ck.i ak,Ck.i ak,Ck.i ak] 1) 0 [.s k,.s ⟨#[]⟩,.i ak 1,.i ak 0,.i ak 0]).length:ay) Q S U V) (ch (lh.v I O P ((A++aP (aT [Ck.s,Ck.s,Ck.i ak,Ck.i ak,Ck.i ak] 1) 0 [.s k,.s ⟨#[]⟩,.i ak 1,.i ak 0,.i ak 0]).length:ay) Q S U V) λx=>M xu X Y yg K.1 K.2 (A++aP (aT [Ck.s,Ck.s,Ck.i ak,Ck.i ak,Ck.i ak] 1) 0 [.s k,.s ⟨#[]⟩,.i ak 1,.i ak 0,.i ak 0]) x xw 0) aj) aj) aj)<|aD xs (aD (pL.c X k) (ch (pL.v X k) λK=>aD (uh.c Y yg H C k) (ch (uh.v Y yg H C k) λx=>aD (dp.c x.2.2.1 x.2.2.2 k) (ch (dp.v x.2.2.1 x.2.2.2 k) λym=>aD (lh.c I O P xz Q S U V) (ch (lh.v I O P xz Q S U V) λyn=>M xu K x.1 x.2.1 ym.1 ym.2 A yn xw 0) aj) aj) aj) aj)<|aD (dp.c H C k) (ch (dp.v H C k) λK=>aD (lh.c I O P xz Q S U V) (ch (lh.v I O P xz Q S U V) λx=>M xu X Y yg K.1 K.2 A x xw 0) aj) aj) N t B.2.2.2.2 0 u w y z α xa xb xc xd xe xf xg xh xi xj s t 0 0 1 ⟨#[]⟩ 0 xk xl xm xn xo xp) aj) N o p 0 0 a d e f h i j l m 0 0 0 q.1 q.2.2.2.2.2.1 q.2.2.2.2.2.2.2.2 q.2.1 q.2.2.1 q.2.2.2.1 q.2.2.2.2.1 q.2.2.2.2.2.2.1 q.2.2.2.2.2.2.2.1) aj) aj
def vo:=b ck λa r1 r2 r3 r4 r5 r6 r7 r8 r9=>ai (a,r1,r2,r3,r4,r5,r6,r7,r8,r9)
def c:=vZ vo
def v:=wR vo
theorem out{x}:wx vo c v x:=zg
end vJ
namespace ui
def b(k:aY->aA R)(a:ay)(d e f h:Row)(i:ay)(j l:Row)(m o:ay):aA R:=aD (jm.c a d e f h i j l m) (aD (jm.v a d e f h i j l m) (aD (jX.v o 0 (bE ((j.length:ay)-1))) (aD (ah (0<=o)&&ah (o<(j.length:ay))) (k (ah (bN (av j o.toNat 2)=1))) aj)<|k aq)<|k aq) aj
def vo:=b λa=>ai a
def c:=pk vo
def v:=pD vo
theorem out{x}:pz vo c v x:=qn
end ui
namespace Iq
def b(f:AJ R)(a:ay)(d:au)(e:Row):aA R:=aD (b8 ((aT [Ck.i ak,Ck.i ak] 0).length+e.length) 16) (f a d (aT [Ck.i ak,Ck.i ak] 0++e)) aj
def v(a:ay)(d:au)(e:Row):ay×au×Row:=(a,d,e)
def c(d:ay)(e:au)(a:Row):aY:=ah (a.length<=4294967296)
theorem dW(f:AJ R)(d:ay)(e:au)(a:Row)(j:c d e a=ao):b f d e a=f (v d e a).1 (v d e a).2.1 (v d e a).2.2:=by have h:a.length<=4294967296:=cL j;unfold b;rw[show bB (aT [Ck.i ak,Ck.i ak] 0)+a.length=a.length by simp[aT],b0 (by omega) (by omega)];rfl
end Iq
namespace kW
def r2(N:aN)(g i j:DW R)(a:aY)(d e:ay)(f:au)(h:Row):aA R:=aD (ah (d<(h.length:ay))) (aD (ah (0<=d)&&ah (d<(h.length:ay))) (aD (!jX.v (bN (av h d.toNat 0)) 1 9) (i aq d e f h)<|aD (ah (d>0)) (aD (ah (0<=bE (d-1))&&ah (bE (d-1)<(h.length:ay))) (aD (ah (bN (av h (bE (d-1)).toNat 0)≥bN (av h d.toNat 0))) (i aq d e f h)<|aD (!jX.v (bN (av h d.toNat 1)) 0 (f.size:ay)) (i aq d e f h)<|g a (bE (d+1)) e f h) aj)<|aD (!jX.v (bN (av h d.toNat 1)) 0 (f.size:ay)) (i aq d e f h)<|g a (bE (d+1)) e f h) aj)<|j a d e f h
def l2(N:aN)(a d:DW R):aN->DW R
 |0=>λ_ _ _ _ _=>aj
 |n+1=>r2 N (l2 N a d n) a d
def b(N:aN)(j:aY->aA R)(a:ay)(d:au)(e:Row):aA R:=l2 N (λf _ _ _ _=>j f) (λ_ _ f h i=>aD (jX.v f 1 3) (aD (ah ((h.size:ay)<=400)) (j (ah ((i.length:ay)<=6)))<|j aq)<|j aq) N aq 0 a d e
def el(t:au)(rs:Row)(i:aN):aY:=ah (1<=bN (av rs i 0)/\bN (av rs i 0)<=9)&&(ah (0<=bN (av rs i 1)/\bN (av rs i 1)<=t.size)&&(i==0||decide (bN (av rs (i-1) 0)<bN (av rs i 0))))
def rest(st:ay)(t:au)(rs:Row):aY:=ah (1<=st/\st<=3)&&(ah (t.size<=400)&&ah (rs.length<=6))
def v(e:ay)(d:au)(a:Row):aY:=(cT a.length).all (el d a)&&rest e d a
theorem mq(n a b:ay):jX.v n a b=ah (a<=n/\n<=b):=by unfold jX.v;by_cases h:a<=n<;>by_cases d:n<=b<;>simp[h,d]
theorem LI(st:ay)(t:au)(rs:Row){R:Type}(a:aY->aA R):(bif jX.v st 1 3 then bif ah ((t.size:ay)<=400)then a (ah ((rs.length:ay)<=6))else a aq else a aq)=a (rest st t rs):=by
 unfold rest;rw[mq];have d:ah ((t.size:ay)<=400)=ah (t.size<=400):=by rw[bZ];omega
 have e:ah ((rs.length:ay)<=6)=ah (rs.length<=6):=by rw[bZ];omega
 rw[d,e];cases ah (1<=st/\st<=3)<;>cases ah (t.size<=400)<;>rfl
theorem Cc{i:aN}(h:0<i)(a:i<=9223372036854775807):bE ((i:ay)-1)=((i-1:aN):ay):=by rw[hZ (by omega) (by omega)];omega
theorem GK(p:aN->aY){i n:aN}(h:i<n):(iA i (n-i)).all p=(p i&&(iA (i+1) (n-(i+1))).all p):=by rw[show n-i=(n-(i+1))+1 by omega,List.range'_succ,jc]
theorem dW(j:aY->aA R)(e:ay)(d:au)(a:Row)(H:Co d)(x:AO a):∃N,b N j e d a=j (v e d a):=by
 refine⟨a.length+1,?_⟩
 unfold b;simp only[LI]
 have:=fE (λn (i:aN)=>l2 (a.length+1) (λC I K M O=>j C) (λA B s t u=>j (rest s t u)) n aq i e d a) (λi=>a.length-i) (λi=>i<=a.length)
  (λi=>j ((iA i (a.length-i)).all (el d a)&&rest e d a)) (λn i hi=>by
  simp only[l2,r2,c8,b_,dB,bj,mq]
  by_cases h:i<a.length
  ·rw[GK _ h];simp only[h,aQ,aw,cw h x.1];cases m:ah (1<=bN (av a i 0)/\bN (av a i 0)<=9)with
   |false=>left;simp[el,m]
   |true=>
    simp only[aZ,ax];by_cases r:0<i
    ·have z:ah ((i:ay)>0)=true:=by simp;omega
     have hp:i-1<a.length:=by omega
     have o:(i==0)=false:=by simp;omega
     simp only[z,aw,Cc r (by have:=x.1;omega),b_,c8,dB,hp,aQ,aL];cases y:ah (bN (av a (i-1) 0)≥bN (av a i 0))with
     |true=>
      left;have k:ah (bN (av a (i-1) 0)<bN (av a i 0))=false:=by simp at y⊢;omega
      simp[el,k,o]
     |false=>
      have k:ah (bN (av a (i-1) 0)<bN (av a i 0))=true:=by simp at y⊢;omega
      cases f:ah (0<=bN (av a i 1)/\bN (av a i 1)<=d.size)with
      |false=>left;simp[el,f]
      |true=>right;exact⟨i+1,h,by omega,by simp only[el,m,f,k,Ic,bj],rfl⟩
    ·have r:i=0:=by omega
     subst r;simp only[show ah (((0:aN):ay)>0)=aq from rfl,ax];cases f:ah (0<=bN (av a 0 1)/\bN (av a 0 1)<=d.size)with
     |false=>left;simp[el,f]
     |true=>right;exact⟨1,h,by omega,by simp only[el,m,f,bj];rfl,rfl⟩
  ·left;have h0:a.length-i=0:=by omega
   simp only[h,bg,ax,h0,TS,Cv,bj]) (a.length+1) 0 (by omega) (by omega)
 refine this.trans ?_;unfold v;rw[og,<-TT]
end kW
namespace ES
def b(h:D0 R)(a:ay)(d:au)(e:Row)(f:au):aA R:=aD (Iq.c a d e) (aD (!kW.v a d e) (h a d e aq)<|aD (a !=1) (h a d e aq)<|aD (!jX.v (f.size:ay) 1 40) (h a d e aq)<|aD (ah (bE ((d.size:ay)+(f.size:ay))>400)) (h a d e aq)<|aD (ah (d.size+f.size<=4611686018427387904)) (h a (d++f) e ao) aj) aj
def v(d:ay)(e:au)(f:Row)(a:au):ay×au×Row×aY:=
 if kW.v d e f=ao/\d=1/\1<=a.size/\a.size<=40/\e.size+a.size<=400 then(d,e++a,f,ao)else(d,e,f,aq)
def c(e:ay)(f:au)(a:Row)(d:au):aY:=ah (a.length<=4294967296)
theorem dW(o:D0 R)(f:ay)(e:au)(h:Row)(d:au)(z:c f e h d=ao)(x:Co e)(C:AO h)(y:Co d):b o f e h d=o (v f e h d).1 (v f e h d).2.1 (v f e h d).2.2.1 (v f e h d).2.2.2:=by
 have A:e.size<=4611686018427387904:=x;have B:d.size<=4611686018427387904:=y;have r:Iq.c f e h=true:=z;have s:∀a b c,kW.v a b c=kW.v a b c:=λ_ _ _=>rfl;have t:∀n a b,jX.v n a b=ah (a<=n/\n<=b):=kW.mq;unfold b v;rw[r,s,t,aw];cases H:kW.v f e h with
 |false=>simp
 |true=>
  by_cases i:f=1
  ·by_cases k:1<=(d.size:ay)/\(d.size:ay)<=40
   ·have u:bE ((e.size:ay)+(d.size:ay))=e.size+d.size:=hZ (by omega) (by omega);rw[u,aC k];by_cases m:(e.size:ay)+(d.size:ay)>400
    ·rw[uD m,bh (by omega)];simp[i]
    ·rw[Bc m,bm (by refine⟨rfl,i,?_,?_,?_⟩<;>omega),uD (show e.size+d.size<=4611686018427387904 by omega)];simp[i]
   ·rw[aF k,bh (by omega)];simp
  ·have j:(f !=1)=true:=bne_iff_ne.mpr i;rw[bh (by simp[i]),j];rfl
end ES
namespace rT
def r1(N:aN)(g k:iD R)(a d e f h i:ay)(j l m o p q:Row):aA R:=aD (ah (e<(q.length:ay))) (aD (ah (0<=e)&&ah (e<(q.length:ay))) (aD (ah (bN (av q e.toNat 2)=bE (a+1))) (aD (ah (0<=e)&&ah (e<(q.length:ay))) (aD (ah (bN (av q e.toNat 4)=1)) (aD (ah (0<=a)&&ah (a<(p.length:ay))) (aD (ah (0<=e)&&ah (e<(q.length:ay))) (aD (ah (0<=e)&&ah (e<((dV q e.toNat 5 [.s (br (av p a.toNat 1))]).length:ay))) (g a d (bE (e+1)) f h i j l m o p (dV (dV q e.toNat 5 [.s (br (av p a.toNat 1))]) e.toNat 4 [.i ak d])) aj) aj) aj)<|g a d (bE (e+1)) f h i j l m o p q) aj)<|g a d (bE (e+1)) f h i j l m o p q) aj)<|k a d e f h i j l m o p q
def l1(N:aN)(a:iD R):aN->iD R
 |0=>λ_ _ _ _ _ _ _ _ _ _ _ _=>aj
 |n+1=>r1 N (l1 N a n) a
def b(N:aN)(k:dU R)(a:ay)(d e f h:Row)(i:ay)(j l:Row)(m o p:ay):aA R:=l1 N (λ_ _ _ q r s t u w y z α=>k q t u w y r z α s) N o p 0 a i m d e f h j l
def vo:=b ck λa r1 r2 r3 r4 r5 r6 r7 r8=>ai (a,r1,r2,r3,r4,r5,r6,r7,r8)
def c:=vZ vo
def v:=wR vo
theorem out{x}:wx vo c v x:=zg
end rT
namespace Cx
def b(k:kA R)(a:ay)(d e f h:Row)(i:ay)(j l:Row)(m o:ay)(p:au):aA R:=aD (kt.c a d e f h i j l m) (ch (kt.v a d e f h i j l m) λq=>aD (ui.c a d e f h i j l m o) (ch (ui.v a d e f h i j l m o) λr=>aD (!r) (k q.1 q.2.1 q.2.2.1 q.2.2.2.1 q.2.2.2.2.1 q.2.2.2.2.2.1 q.2.2.2.2.2.2.1 q.2.2.2.2.2.2.2.1 q.2.2.2.2.2.2.2.2 aq)<|aD (ah (0<=o)&&ah (o<(j.length:ay))) (aD (!(ES.v 1 (br (av j o.toNat 1)) [] p).2.2.2) (k q.1 q.2.1 q.2.2.1 q.2.2.2.1 q.2.2.2.2.1 q.2.2.2.2.2.1 q.2.2.2.2.2.2.1 q.2.2.2.2.2.2.2.1 q.2.2.2.2.2.2.2.2 aq)<|aD (ah (0<=o)&&ah (o<(q.2.2.2.2.2.2.1.length:ay))) (aD (rT.c q.1 q.2.1 q.2.2.1 q.2.2.2.1 q.2.2.2.2.1 q.2.2.2.2.2.1 (dV q.2.2.2.2.2.2.1 o.toNat 1 [.s (ES.v 1 (br (av j o.toNat 1)) [] p).2.1]) q.2.2.2.2.2.2.2.1 q.2.2.2.2.2.2.2.2 o 1) (ch (rT.v q.1 q.2.1 q.2.2.1 q.2.2.2.1 q.2.2.2.2.1 q.2.2.2.2.2.1 (dV q.2.2.2.2.2.2.1 o.toNat 1 [.s (ES.v 1 (br (av j o.toNat 1)) [] p).2.1]) q.2.2.2.2.2.2.2.1 q.2.2.2.2.2.2.2.2 o 1) λs=>k s.1 s.2.1 s.2.2.1 s.2.2.2.1 s.2.2.2.2.1 s.2.2.2.2.2.1 s.2.2.2.2.2.2.1 s.2.2.2.2.2.2.2.1 s.2.2.2.2.2.2.2.2 ao) aj) aj) aj) aj) aj
def vo:=b λa r1 r2 r3 r4 r5 r6 r7 r8 r9=>ai (a,r1,r2,r3,r4,r5,r6,r7,r8,r9)
def c:=vZ vo
def v:=wR vo
theorem out{x}:wx vo c v x:=zg
end Cx
namespace fK
def r9(N:aN)(g k:od R)(a:Row)(d:ay)(e:au)(f h:ay)(i:au)(j:Row):aA R:=aD (ah (d<(a.length:ay))) (aD (ah (0<=d)&&ah (d<(a.length:ay))) (aD (!(b7 (br (av a d.toNat 0)).toList (aG e)||List.beq (br (av a d.toNat 0)).toList (aG e))) (aD (ah (0<=d)&&ah (d<(a.length:ay))) (aD (b8 (j.length+(aP (aT [Ck.s,Ck.i ak,Ck.i ak,Ck.s] 1) 0 [.s (br (av a d.toNat 0)),.i ak (bN (av a d.toNat 1)),.i ak (bN (av a d.toNat (1+1))),.s (br (av a d.toNat (1+1+1)))]).length) 48) (g a (bE (d+1)) e f h i (j++aP (aT [Ck.s,Ck.i ak,Ck.i ak,Ck.s] 1) 0 [.s (br (av a d.toNat 0)),.i ak (bN (av a d.toNat 1)),.i ak (bN (av a d.toNat (1+1))),.s (br (av a d.toNat (1+1+1)))])) aj) aj)<|g a (bE (d+1)) e f h i j) aj)<|k a d e f h i j
def l9(N:aN)(a:od R):aN->od R
 |0=>λ_ _ _ _ _ _ _=>aj
 |n+1=>r9 N (l9 N a n) a
def r3(N:aN)(g k:od R)(a:Row)(d:ay)(e:au)(f h:ay)(i:au)(j:Row):aA R:=aD (ah (d<(a.length:ay))) (aD (ah (0<=d)&&ah (d<(a.length:ay))) (aD (b7 (br (av a d.toNat 0)).toList (aG e)) (aD (ah (0<=d)&&ah (d<(a.length:ay))) (aD (b8 (j.length+(aP (aT [Ck.s,Ck.i ak,Ck.i ak,Ck.s] 1) 0 [.s (br (av a d.toNat 0)),.i ak (bN (av a d.toNat 1)),.i ak (bN (av a d.toNat (1+1))),.s (br (av a d.toNat (1+1+1)))]).length) 48) (g a (bE (d+1)) e f h i (j++aP (aT [Ck.s,Ck.i ak,Ck.i ak,Ck.s] 1) 0 [.s (br (av a d.toNat 0)),.i ak (bN (av a d.toNat 1)),.i ak (bN (av a d.toNat (1+1))),.s (br (av a d.toNat (1+1+1)))])) aj) aj)<|g a (bE (d+1)) e f h i j) aj)<|k a d e f h i j
def l3(N:aN)(a:od R):aN->od R
 |0=>λ_ _ _ _ _ _ _=>aj
 |n+1=>r3 N (l3 N a n) a
def b(N:aN)(k:Row->aA R)(a:Row)(d:au)(e f:ay)(h:au):aA R:=l3 N (λi _ j l m o p=>aD (b8 (p.length+(aP (aT [Ck.s,Ck.i ak,Ck.i ak,Ck.s] 1) 0 [.s j,.i ak l,.i ak m,.s o]).length) 48) (l9 N (λ_ _ _ _ _ _ q=>k q) N i 0 j l m o (p++aP (aT [Ck.s,Ck.i ak,Ck.i ak,Ck.s] 1) 0 [.s j,.i ak l,.i ak m,.s o])) aj) N a 0 d e f h (aT [Ck.s,Ck.i ak,Ck.i ak,Ck.s] 0)
def vo:=b ck λa=>ai a
def c:=A9 vo
def v:=Cb vo
theorem out{x}:BC vo c v x:=CQ
end fK
namespace yi
def b(k:dU R)(a:ay)(d e f h:Row)(i:ay)(j l:Row)(m:ay)(o:au)(p q:ay)(r:au):aA R:=aD (eH.c e f h i o) (ch (eH.v e f h i o) λs=>aD (!List.beq (aG s.2.2.2.2) (aG ⟨#[]⟩)) (aD (pL.c d s.2.2.2.2) (ch (pL.v d s.2.2.2.2) λt=>aD (sD.c s.1 s.2.1 s.2.2.1 s.2.2.2.1 o) (ch (sD.v s.1 s.2.1 s.2.2.1 s.2.2.2.1 o) λu=>aD u (aD (fK.c t o p q r) (ch (fK.v t o p q r) λw=>k a w s.1 s.2.1 s.2.2.1 s.2.2.2.1 j l m) aj)<|k a t s.1 s.2.1 s.2.2.1 s.2.2.2.1 j l m) aj) aj)<|aD (sD.c s.1 s.2.1 s.2.2.1 s.2.2.2.1 o) (ch (sD.v s.1 s.2.1 s.2.2.1 s.2.2.2.1 o) λt=>aD t (aD (fK.c d o p q r) (ch (fK.v d o p q r) λu=>k a u s.1 s.2.1 s.2.2.1 s.2.2.2.1 j l m) aj)<|k a d s.1 s.2.1 s.2.2.1 s.2.2.2.1 j l m) aj) aj
def vo:=b λa r1 r2 r3 r4 r5 r6 r7 r8=>ai (a,r1,r2,r3,r4,r5,r6,r7,r8)
def c:=KV vo
def v:=L8 vo
theorem out{x}:LD vo c v x:=Rw
end yi
namespace CA
def b(k:kA R)(a:ay)(d e f h:Row)(i:ay)(j l:Row)(m o p:ay):aA R:=aD (kt.c a d e f h i j l m) (ch (kt.v a d e f h i j l m) λq=>aD (ui.c a d e f h i j l m o) (ch (ui.v a d e f h i j l m o) λr=>aD (!r) (k q.1 q.2.1 q.2.2.1 q.2.2.2.1 q.2.2.2.2.1 q.2.2.2.2.2.1 q.2.2.2.2.2.2.1 q.2.2.2.2.2.2.2.1 q.2.2.2.2.2.2.2.2 aq)<|aD (!jX.v p 0 999999) (k q.1 q.2.1 q.2.2.1 q.2.2.2.1 q.2.2.2.2.1 q.2.2.2.2.2.1 q.2.2.2.2.2.2.1 q.2.2.2.2.2.2.2.1 q.2.2.2.2.2.2.2.2 aq)<|aD (ah (0<=o)&&ah (o<(j.length:ay))) (aD (ah (0<=o)&&ah (o<(q.2.2.2.2.2.2.1.length:ay))) (aD (rT.c q.1 q.2.1 q.2.2.1 q.2.2.2.1 q.2.2.2.2.1 q.2.2.2.2.2.1 (dV q.2.2.2.2.2.2.1 o.toNat 0 [.s (br (av j o.toNat 0)),.s (br (av j o.toNat 1)),.i ak 2,.i ak p,.i ak a]) q.2.2.2.2.2.2.2.1 q.2.2.2.2.2.2.2.2 o 2) (ch (rT.v q.1 q.2.1 q.2.2.1 q.2.2.2.1 q.2.2.2.2.1 q.2.2.2.2.2.1 (dV q.2.2.2.2.2.2.1 o.toNat 0 [.s (br (av j o.toNat 0)),.s (br (av j o.toNat 1)),.i ak 2,.i ak p,.i ak a]) q.2.2.2.2.2.2.2.1 q.2.2.2.2.2.2.2.2 o 2) λs=>aD (ah (p>0)) (aD (yi.c s.1 s.2.1 s.2.2.1 s.2.2.2.1 s.2.2.2.2.1 s.2.2.2.2.2.1 s.2.2.2.2.2.2.1 s.2.2.2.2.2.2.2.1 s.2.2.2.2.2.2.2.2 (br (av j o.toNat 0)) a p (br (av j o.toNat 1))) (ch (yi.v s.1 s.2.1 s.2.2.1 s.2.2.2.1 s.2.2.2.2.1 s.2.2.2.2.2.1 s.2.2.2.2.2.2.1 s.2.2.2.2.2.2.2.1 s.2.2.2.2.2.2.2.2 (br (av j o.toNat 0)) a p (br (av j o.toNat 1))) λt=>k t.1 t.2.1 t.2.2.1 t.2.2.2.1 t.2.2.2.2.1 t.2.2.2.2.2.1 t.2.2.2.2.2.2.1 t.2.2.2.2.2.2.2.1 t.2.2.2.2.2.2.2.2 ao) aj)<|k s.1 s.2.1 s.2.2.1 s.2.2.2.1 s.2.2.2.2.1 s.2.2.2.2.2.1 s.2.2.2.2.2.2.1 s.2.2.2.2.2.2.2.1 s.2.2.2.2.2.2.2.2 ao) aj) aj) aj) aj) aj
def vo:=b λa r1 r2 r3 r4 r5 r6 r7 r8 r9=>ai (a,r1,r2,r3,r4,r5,r6,r7,r8,r9)
def c:=vZ vo
def v:=wR vo
theorem out{x}:wx vo c v x:=zg
end CA
namespace jZ
def r2(N:aN)(g e:w9 R)(a:ay)(d:Row):aA R:=aD (ah (a>127)) (aD (b8 (d.length+(aP (aT [Ck.i ba] 1) 0 [CV.i ba (bF ba (bE (cx a 128+128)))]).length) 1) (g (bE (cK a 128)) (d++aP (aT [Ck.i ba] 1) 0 [CV.i ba (bF ba (bE (cx a 128+128)))])) aj)<|e a d
def l2(N:aN)(a:w9 R):aN->w9 R
 |0=>λ_ _=>aj
 |n+1=>r2 N (l2 N a n) a
def b(N:aN)(f:au->aA R)(a:ay):aA R:=l2 N (λd e=>aD (b8 (e.length+(aP (aT [Ck.i ba] 1) 0 [CV.i ba (bF ba d)]).length) 1) (aD (ah ((e++aP (aT [Ck.i ba] 1) 0 [CV.i ba (bF ba d)]).length<=4611686018427387904)) (f (bytesOf (e++aP (aT [Ck.i ba] 1) 0 [CV.i ba (bF ba d)]))) aj) aj) N a (aT [Ck.i ba] 0)
def v(a:ay):au:=bytesOf (vb a)
def c(a:ay):aY:=ah (a<=9223372036854775807)
theorem dW(d:au->aA R)(a:ay)(e:c a=ao):∃N,b N d a=d (v a):=by
 refine⟨a.toNat+1,?_⟩
 refine Ax (λn x acc=>l2 (a.toNat+1) _ n x acc) d (λn x acc h hl=> ?_) (λn x acc h hl=> ?_) a (cL e)
 ·simp only[l2,r2,h,aQ,aw,gm,show acc.length+bB [[CV.i ba (bF ba (bE (cx x 128+128)))]]=acc.length+1 from rfl,yH (show acc.length+1<=140737488355328 by omega),show ah ((128:ay)=0)=aq from rfl,vv,bG]
 ·simp only[l2,r2,h,bg,ax,gm,show acc.length+bB [[CV.i ba (bF ba x)]]=acc.length+1 from rfl,yH (show acc.length+1<=140737488355328 by omega),aw];exact oN (uD (by rw[bW,bu];omega))
end jZ
namespace jr
def b(h:vC R)(a:au)(d e:ay)(f:au):aA R:=aD (!gu.v a d e f) (h ⟨#[]⟩ aq)<|aD (jZ.c (a.size:ay)) (aD (ah ((jZ.v (a.size:ay)).size+a.size<=4611686018427387904)) (aD (jZ.c d) (aD (ah ((jZ.v (a.size:ay)++a).size+(jZ.v d).size<=4611686018427387904)) (aD (jZ.c e) (aD (ah ((jZ.v (a.size:ay)++a++jZ.v d).size+(jZ.v e).size<=4611686018427387904)) (aD (ah ((jZ.v (a.size:ay)++a++jZ.v d++jZ.v e).size+f.size<=4611686018427387904)) (h (jZ.v (a.size:ay)++a++jZ.v d++jZ.v e++f) ao) aj) aj) aj) aj) aj) aj) aj
def sa(k:au)(s l:ay)(b:au):au:=bytesOf (vb k.size)++k++bytesOf (vb s)++bytesOf (vb l)++b
def v(a:au)(d:ay)(e:ay)(f:au):au×aY:=if gu.v a d e f=ao then(sa a d e f,ao)else(⟨#[]⟩,aq)
theorem dW(j:vC R)(a:au)(d:ay)(e:ay)(f:au):b j a d e f=j (v a d e f).1 (v a d e f).2:=by
 unfold b v;cases h:gu.v a d e f with
 |false=>rfl
 |true=>have m:=gu.FN h;have i:∀x:ay,x<=9223372036854775807->jZ.c x=true:=λx k=>aC k;have o:(jZ.v (a.size:ay)).size<=64:=gU (x:=(a.size:ay)) (by omega);have r:(jZ.v d).size<=64:=gU (x:=d) (by omega);have s:(jZ.v e).size<=64:=gU (x:=e) (by omega);simp(disch:=omega) only[aZ,ax,i _ (show(a.size:ay)<=9223372036854775807 by omega),i d (by omega),i e (by omega),aw,if_true,dm,E_];rfl
end jr
namespace oL
def b(d:au->aA R)(a:ay):aA R:=d (bytesOf (aP (aP (aP (aP (aT [Ck.i ba] 4) 0 [CV.i ba (bF ba (pe a (iP 2 (if aR 24<=32 then aR 24 else 32))))]) 1 [CV.i ba (bF ba (pe a (iP 2 (if aR 16<=32 then aR 16 else 32))))]) 2 [CV.i ba (bF ba (pe a (iP 2 (if aR 8<=32 then aR 8 else 32))))]) 3 [CV.i ba (bF ba a)]))
def v(a:ay):au:=(bytesOf (aP (aP (aP (aP (aT [Ck.i ba] 4) 0 [CV.i ba (bF ba (pe a (iP 2 (if aR 24<=32 then aR 24 else 32))))]) 1 [CV.i ba (bF ba (pe a (iP 2 (if aR 16<=32 then aR 16 else 32))))]) 2 [CV.i ba (bF ba (pe a (iP 2 (if aR 8<=32 then aR 8 else 32))))]) 3 [CV.i ba (bF ba a)]))
theorem dW(d:au->aA R)(a:ay):b d a=d (v a):=by first|rfl|(unfold b v;simp only[cj];(repeat' split)<;>rfl)
end oL
namespace fj
def b(d:vC R)(a:au):aA R:=aD (!jX.v (a.size:ay) 1 9000) (d ⟨#[]⟩ aq)<|aD (jZ.c (a.size:ay)) (aD (u0.c a) (aD (ah ((jZ.v (a.size:ay)).size+(oL.v (u0.v a)).size<=4611686018427387904)) (aD (ah ((jZ.v (a.size:ay)++oL.v (u0.v a)).size+a.size<=4611686018427387904)) (d (jZ.v (a.size:ay)++oL.v (u0.v a)++a) ao) aj) aj) aj) aj
def vo:=b λa r1=>ai (a,r1)
def c:=ka vo
def v:=ko vo
theorem out{x}:ki vo c v x:=kL
end fj
namespace CB
def b(h:uM R)(a:au)(d e:ay)(f:au):aA R:=aD (fj.c (jr.v a d e f).1) (aD (!(jr.v a d e f).2) (h (aT [Ck.i ak,Ck.s,Ck.s,Ck.s] 0) aq)<|aD (!(fj.v (jr.v a d e f).1).2) (h (aT [Ck.i ak,Ck.s,Ck.s,Ck.s] 0) aq)<|h (aP (aP (aT [Ck.i ak,Ck.s,Ck.s,Ck.s] 2) 0 [.i ak 1,.s (az #[ar 107,ar 101,ar 112,ar 116]),.s (fj.v (jr.v a d e f).1).1,.s ⟨#[]⟩]) 1 [.i ak 2,.s (az #[ar 107,ar 101,ar 112,ar 116]),.s ⟨#[]⟩,.s ⟨#[]⟩]) ao) aj
def vo:=b λa r1=>ai (a,r1)
def c:=A8 vo
def v:=Ca vo
theorem out{x}:BB vo c v x:=CP
end CB
namespace u5
def b(d:aY->aA R)(a:au):aA R:=d (jX.v (a.size:ay) 1 8)
def v(a:au):aY:=(jX.v (a.size:ay) 1 8)
theorem dW(d:aY->aA R)(a:au):b d a=d (v a):=by first|rfl|(unfold b v;simp only[cj];(repeat' split)<;>rfl)
end u5
namespace fD
def r4(N:aN)(g f h:J5 R)(a:aY)(d:ay)(e:Row):aA R:=aD (ah (d<(e.length:ay))) (aD (ah (0<=d)&&ah (d<(e.length:ay))) (aD (!u5.v (br (av e d.toNat 0))) (f aq d e)<|aD (ah (((br (av e d.toNat 1)).size:ay)>20000)) (f aq d e)<|aD (!jX.v (bN (av e d.toNat (1+1))) 0 ((br (av e d.toNat 1)).size:ay)) (f aq d e)<|aD (ah (d>0)) (aD (ah (0<=bE (d-1))&&ah (bE (d-1)<(e.length:ay))) (aD (!Op.bytesLess (br (av e (bE (d-1)).toNat 0)).toList (br (av e d.toNat 0)).toList) (f aq d e)<|g a (bE (d+1)) e) aj)<|g a (bE (d+1)) e) aj)<|h a d e
def l4(N:aN)(a d:J5 R):aN->J5 R
 |0=>λ_ _ _=>aj
 |n+1=>r4 N (l4 N a d n) a d
def b(N:aN)(e:aY->aA R)(a:Row):aA R:=aD (ah ((a.length:ay)>30)) (e aq)<|l4 N (λd _ _=>e d) (λ_ _ _=>e ao) N aq 0 a
def vo:=b ck λa=>ai a
def c:=ka vo
def v:=ko vo
theorem out{x}:ki vo c v x:=kL
end fD
namespace j0
def r2(N:aN)(g h i:iW R)(a:au)(d e:ay)(f:Row):aA R:=aD (ah (e<(f.length:ay))) (aD (ah (0<=e)&&ah (e<(f.length:ay))) (aD (cQ (br (av f e.toNat 0)).toList (aG a)) (h a e e f)<|g a d (bE (e+1)) f) aj)<|i a d e f
def l2(N:aN)(a d:iW R):aN->iW R
 |0=>λ_ _ _ _=>aj
 |n+1=>r2 N (l2 N a d n) a d
def b(N:aN)(f:ay->aA R)(a:Row)(d:au):aA R:=l2 N (λ_ e _ _=>f e) (λ_ _ _ _=>f (-1)) N d 0 0 a
def vo:=b ck λa=>ai a
def c:=iZ vo
def v:=jb vo
theorem out{x}:i7 vo c v x:=jd
end j0
namespace kG
def r9(N:aN)(g j:k_ R)(a:ay)(d:Row)(e f:au)(h:ay)(i:Row):aA R:=aD (ah (a<(d.length:ay))) (aD (ah (0<=a)&&ah (a<(d.length:ay))) (aD (!(b7 (br (av d a.toNat 0)).toList (aG e)||List.beq (br (av d a.toNat 0)).toList (aG e))) (aD (ah (0<=a)&&ah (a<(d.length:ay))) (aD (b8 (i.length+(aP (aT [Ck.s,Ck.s,Ck.i ak] 1) 0 [.s (br (av d a.toNat 0)),.s (br (av d a.toNat 1)),.i ak (bN (av d a.toNat (1+1)))]).length) 40) (g (bE (a+1)) d e f h (i++aP (aT [Ck.s,Ck.s,Ck.i ak] 1) 0 [.s (br (av d a.toNat 0)),.s (br (av d a.toNat 1)),.i ak (bN (av d a.toNat (1+1)))])) aj) aj)<|g (bE (a+1)) d e f h i) aj)<|j a d e f h i
def l9(N:aN)(a:k_ R):aN->k_ R
 |0=>λ_ _ _ _ _ _=>aj
 |n+1=>r9 N (l9 N a n) a
def r3(N:aN)(g:qE R)(j:k_ R)(k:qE R)(m:k_ R)(a:ay)(d:Row)(e f:au)(h:ay):aA R:=aD (ah (a<(d.length:ay))) (aD (ah (0<=a)&&ah (a<(d.length:ay))) (aD (b7 (br (av d a.toNat 0)).toList (aG e)) (aD (ah (0<=a)&&ah (a<(d.length:ay))) (j (bE (a+1)) d e f h ([]++aP (aT [Ck.s,Ck.s,Ck.i ak] 1) 0 [.s (br (av d a.toNat 0)),.s (br (av d a.toNat 1)),.i ak (bN (av d a.toNat (1+1)))])) aj)<|g (bE (a+1)) d e f h) aj)<|k a d e f h
def uw(N:aN)(g:qE R)(j:k_ R)(m:qE R)(k:k_ R)(a:ay)(d:Row)(e f:au)(h:ay)(i:Row):aA R:=aD (ah (a<(d.length:ay))) (aD (ah (0<=a)&&ah (a<(d.length:ay))) (aD (b7 (br (av d a.toNat 0)).toList (aG e)) (aD (ah (0<=a)&&ah (a<(d.length:ay))) (aD (b8 (i.length+(aP (aT [Ck.s,Ck.s,Ck.i ak] 1) 0 [.s (br (av d a.toNat 0)),.s (br (av d a.toNat 1)),.i ak (bN (av d a.toNat (1+1)))]).length) 40) (j (bE (a+1)) d e f h (i++aP (aT [Ck.s,Ck.s,Ck.i ak] 1) 0 [.s (br (av d a.toNat 0)),.s (br (av d a.toNat 1)),.i ak (bN (av d a.toNat (1+1)))])) aj) aj)<|j (bE (a+1)) d e f h i) aj)<|k a d e f h i
def nT(N:aN)(a:qE R)(d:k_ R):aN->k_ R
 |0=>λ_ _ _ _ _ _=>aj
 |n+1=>uw N (λe f h i j=>aj) (nT N a d n) a d
def l3(N:aN)(a:qE R)(d:k_ R):aN->qE R
 |0=>λ_ _ _ _ _=>aj
 |n+1=>r3 N (l3 N a d n) (nT N a d n) a d
def b(N:aN)(k:Row->aA R)(a:Row)(d e:au)(f:ay):aA R:=l3 N (λ_ h i j l=>l9 N (λ_ _ _ _ _ m=>k m) N 0 h i j l ([]++aP (aT [Ck.s,Ck.s,Ck.i ak] 1) 0 [.s i,.s j,.i ak l])) (λ_ h i j l m=>aD (b8 (m.length+(aP (aT [Ck.s,Ck.s,Ck.i ak] 1) 0 [.s i,.s j,.i ak l]).length) 40) (l9 N (λ_ _ _ _ _ o=>k o) N 0 h i j l (m++aP (aT [Ck.s,Ck.s,Ck.i ak] 1) 0 [.s i,.s j,.i ak l])) aj) N 0 a d e f
def vo:=b ck λa=>ai a
def c:=A8 vo
def v:=Ca vo
theorem out{x}:BB vo c v x:=CP
end kG
namespace lZ
def r3(N:aN)(g:mC R)(f:qG R)(h:mC R)(j:qG R)(a:au)(d:ay)(e:Row):aA R:=aD (ah (d<(e.length:ay))) (aD (ah (0<=d)&&ah (d<(e.length:ay))) (aD (!List.beq (br (av e d.toNat 0)).toList (aG a)) (aD (ah (0<=d)&&ah (d<(e.length:ay))) (f a (bE (d+1)) e ([]++aP (aT [Ck.s,Ck.s,Ck.i ak] 1) 0 [.s (br (av e d.toNat 0)),.s (br (av e d.toNat 1)),.i ak (bN (av e d.toNat (1+1)))])) aj)<|g a (bE (d+1)) e) aj)<|h a d e
def uw(N:aN)(g:mC R)(h:qG R)(k:mC R)(j:qG R)(a:au)(d:ay)(e f:Row):aA R:=aD (ah (d<(e.length:ay))) (aD (ah (0<=d)&&ah (d<(e.length:ay))) (aD (!List.beq (br (av e d.toNat 0)).toList (aG a)) (aD (ah (0<=d)&&ah (d<(e.length:ay))) (aD (b8 (f.length+(aP (aT [Ck.s,Ck.s,Ck.i ak] 1) 0 [.s (br (av e d.toNat 0)),.s (br (av e d.toNat 1)),.i ak (bN (av e d.toNat (1+1)))]).length) 40) (h a (bE (d+1)) e (f++aP (aT [Ck.s,Ck.s,Ck.i ak] 1) 0 [.s (br (av e d.toNat 0)),.s (br (av e d.toNat 1)),.i ak (bN (av e d.toNat (1+1)))])) aj) aj)<|h a (bE (d+1)) e f) aj)<|j a d e f
def nT(N:aN)(a:mC R)(d:qG R):aN->qG R
 |0=>λ_ _ _ _=>aj
 |n+1=>uw N (λe f h=>aj) (nT N a d n) a d
def l3(N:aN)(a:mC R)(d:qG R):aN->mC R
 |0=>λ_ _ _=>aj
 |n+1=>r3 N (l3 N a d n) (nT N a d n) a d
def b(N:aN)(f:Row->aA R)(a:Row)(d:au):aA R:=l3 N (λ_ _ _=>f []) (λ_ _ _ e=>f e) N d 0 a
def vo:=b ck λa=>ai a
def c:=iZ vo
def v:=jb vo
theorem out{x}:i7 vo c v x:=jd
end lZ
namespace AX
abbrev h0{R:Type}(k:uM R)(a:Row)(d:ay)(e f h:au):aA R:=aD (j0.c a e) (ch (j0.v a e) λi=>aD (ah (i≥0)) (aD (ah (0<=i)&&ah (i<(a.length:ay))) (aD (ah (d=1)) (aD (ah ((br (av a i.toNat 1)).size+f.size<=4611686018427387904)) (aD (kG.c a (br (av a i.toNat 0)) (br (av a i.toNat 1)++f) (bN (av a i.toNat (1+1)))) (ch (kG.v a (br (av a i.toNat 0)) (br (av a i.toNat 1)++f) (bN (av a i.toNat (1+1)))) λj=>aD (fD.c j) (aD (!fD.v j) (k [] aq)<|k j ao) aj) aj) aj)<|aD (ah (i<0)) (k [] aq)<|aD (ah (d=2)) (aD (kG.c a (br (av a i.toNat 0)) (br (av a i.toNat 1)) ((br (av a i.toNat 1)).size:ay)) (ch (kG.v a (br (av a i.toNat 0)) (br (av a i.toNat 1)) ((br (av a i.toNat 1)).size:ay)) λj=>aD (fD.c j) (aD (!fD.v j) (k [] aq)<|k j ao) aj) aj)<|aD (ah (d=3)) (aD (ah (bN (av a i.toNat (1+1))<((br (av a i.toNat 1)).size:ay))) (k [] aq)<|aD (cQ (aG h) (aG e)) (k [] aq)<|aD (!u5.v h) (k [] aq)<|aD (lZ.c a e) (aD (kG.c (lZ.v a e) h (br (av a i.toNat 1)) (bN (av a i.toNat (1+1)))) (aD (fD.c (kG.v (lZ.v a e) h (br (av a i.toNat 1)) (bN (av a i.toNat (1+1))))) (aD (!fD.v (kG.v (lZ.v a e) h (br (av a i.toNat 1)) (bN (av a i.toNat (1+1))))) (k [] aq)<|k (kG.v (lZ.v a e) h (br (av a i.toNat 1)) (bN (av a i.toNat (1+1)))) ao) aj) aj) aj)<|aD (ah (d=4)) (aD (lZ.c a e) (aD (fD.c (lZ.v a e)) (aD (!fD.v (lZ.v a e)) (k [] aq)<|k (lZ.v a e) ao) aj) aj)<|k [] aq) aj)<|aD (ah (d=1)) (aD (ah (bC ⟨#[]⟩+f.size<=4611686018427387904)) (aD (kG.c a e ((az #[])++f) 0) (aD (fD.c (kG.v a e ((az #[])++f) 0)) (aD (!fD.v (kG.v a e ((az #[])++f) 0)) (k [] aq)<|k (kG.v a e ((az #[])++f) 0) ao) aj) aj) aj)<|aD (ah (i<0)) (k [] aq)<|aD (ah (d=2)) (aD (kG.c a e ⟨#[]⟩ (bC ⟨#[]⟩:ay)) (aD (fD.c (kG.v a e ⟨#[]⟩ (bC ⟨#[]⟩:ay))) (aD (!fD.v (kG.v a e ⟨#[]⟩ (bC ⟨#[]⟩:ay))) (k [] aq)<|k (kG.v a e ⟨#[]⟩ (bC ⟨#[]⟩:ay)) ao) aj) aj)<|aD (ah (d=3)) (aD (cQ (aG h) (aG e)) (k [] aq)<|aD (!u5.v h) (k [] aq)<|aD (lZ.c a e) (aD (kG.c (lZ.v a e) h ⟨#[]⟩ 0) (aD (fD.c (kG.v (lZ.v a e) h ⟨#[]⟩ 0)) (aD (!fD.v (kG.v (lZ.v a e) h ⟨#[]⟩ 0)) (k [] aq)<|k (kG.v (lZ.v a e) h ⟨#[]⟩ 0) ao) aj) aj) aj)<|aD (ah (d=4)) (aD (lZ.c a e) (aD (fD.c (lZ.v a e)) (aD (!fD.v (lZ.v a e)) (k [] aq)<|k (lZ.v a e) ao) aj) aj)<|k [] aq) aj
def b(i:uM R)(a:Row)(d:ay)(e f h:au):aA R:=aD (fD.c a) (aD (!fD.v a) (i [] aq)<|aD (!u5.v e) (i [] aq)<|aD (d !=3) (aD (!List.beq (aG h) (aG ⟨#[]⟩)) (i [] aq)<|aD (d !=1) (aD (!List.beq (aG f) (aG ⟨#[]⟩)) (i [] aq)<|h0 i a d e f h)<|h0 i a d e f h)<|aD (d !=1) (aD (!List.beq (aG f) (aG ⟨#[]⟩)) (i [] aq)<|h0 i a d e f h)<|h0 i a d e f h) aj
def vo:=b λa r1=>ai (a,r1)
def c:=A9 vo
def v:=Cb vo
theorem out{x}:BC vo c v x:=CQ
end AX
namespace pM
def r3(N:aN)(g h i:mH R)(a:Row)(d e:ay)(f:Row):aA R:=aD (ah (e<(a.length:ay))) (aD (ah (0<=e)&&ah (e<(a.length:ay))) (aD (AX.c f (bN (av a e.toNat 0)) (br (av a e.toNat 1)) (br (av a e.toNat (1+1))) (br (av a e.toNat (1+1+1)))) (aD (!(AX.v f (bN (av a e.toNat 0)) (br (av a e.toNat 1)) (br (av a e.toNat (1+1))) (br (av a e.toNat (1+1+1)))).2) (h a e e f)<|g a d (bE (e+1)) (AX.v f (bN (av a e.toNat 0)) (br (av a e.toNat 1)) (br (av a e.toNat (1+1))) (br (av a e.toNat (1+1+1)))).1) aj) aj)<|i a d e f
def l3(N:aN)(a d:mH R):aN->mH R
 |0=>λ_ _ _ _=>aj
 |n+1=>r3 N (l3 N a d n) a d
def b(N:aN)(h:qF R)(a d:Row):aA R:=aD (b8 ((aT [Ck.s,Ck.s,Ck.i ak] 0).length+a.length) 40) (l3 N (λ_ e _ f=>h f e) (λe _ _ f=>h f (e.length:ay)) N d 0 0 (aT [Ck.s,Ck.s,Ck.i ak] 0++a)) aj
def vo:=b ck λa r1=>ai (a,r1)
def c:=iZ vo
def v:=jb vo
theorem out{x}:i7 vo c v x:=jd
end pM
namespace zv
def b(d:ay->aA R)(a:aY):aA R:=aD a (d 0)<|d 1
def v(a:aY):ay:=aD a 0 1
theorem dW(d:ay->aA R)(a:aY):b d a=d (v a):=by first|rfl|(unfold b v;simp only[cj];(repeat' split)<;>rfl)
end zv
namespace Cy
def b(k:nC R)(a:ay)(d e f h:Row)(i:ay)(j l:Row)(m:ay)(o p q:Row)(r s:ay)(t:au)(u:ay)(w:Row):aA R:=aD (CA.c a d e f h i j l m s (cx u 1000000)) (ch (CA.v a d e f h i j l m s (cx u 1000000)) λy=>aD y.2.2.2.2.2.2.2.2.2 (aD (ah (cx u 1000000>0)) (aD (ah (0<=s)&&ah (s<(y.2.2.2.2.2.2.1.length:ay))) (aD (b8 ((aT [Ck.s,Ck.i ak,Ck.i ak,Ck.s] 0).length+q.length) 48) (aD (b8 ((aT [Ck.s,Ck.i ak,Ck.i ak,Ck.s] 0++q).length+(aP (aT [Ck.s,Ck.i ak,Ck.i ak,Ck.s] 1) 0 [.s (br (av y.2.2.2.2.2.2.1 s.toNat 0)),.i ak (bN (av y.2.2.2.2.2.2.1 s.toNat (1+1+1+1))),.i ak (bN (av y.2.2.2.2.2.2.1 s.toNat (1+1+1))),.s (br (av y.2.2.2.2.2.2.1 s.toNat 1))]).length) 48) (aD (CB.c (br (av y.2.2.2.2.2.2.1 s.toNat 0)) (bN (av y.2.2.2.2.2.2.1 s.toNat (1+1+1+1))) (bN (av y.2.2.2.2.2.2.1 s.toNat (1+1+1))) (br (av y.2.2.2.2.2.2.1 s.toNat 1))) (ch (CB.v (br (av y.2.2.2.2.2.2.1 s.toNat 0)) (bN (av y.2.2.2.2.2.2.1 s.toNat (1+1+1+1))) (bN (av y.2.2.2.2.2.2.1 s.toNat (1+1+1))) (br (av y.2.2.2.2.2.2.1 s.toNat 1))) λz=>aD z.2 (aD (pM.c o z.1) (ch (pM.v o z.1) λα=>k (zv.v y.2.2.2.2.2.2.2.2.2) y.1 y.2.1 y.2.2.1 y.2.2.2.1 y.2.2.2.2.1 y.2.2.2.2.2.1 y.2.2.2.2.2.2.1 y.2.2.2.2.2.2.2.1 y.2.2.2.2.2.2.2.2.1 α.1 p (aT [Ck.s,Ck.i ak,Ck.i ak,Ck.s] 0++q++aP (aT [Ck.s,Ck.i ak,Ck.i ak,Ck.s] 1) 0 [.s (br (av y.2.2.2.2.2.2.1 s.toNat 0)),.i ak (bN (av y.2.2.2.2.2.2.1 s.toNat (1+1+1+1))),.i ak (bN (av y.2.2.2.2.2.2.1 s.toNat (1+1+1))),.s (br (av y.2.2.2.2.2.2.1 s.toNat 1))])) aj)<|k (zv.v y.2.2.2.2.2.2.2.2.2) y.1 y.2.1 y.2.2.1 y.2.2.2.1 y.2.2.2.2.1 y.2.2.2.2.2.1 y.2.2.2.2.2.2.1 y.2.2.2.2.2.2.2.1 y.2.2.2.2.2.2.2.2.1 o p (aT [Ck.s,Ck.i ak,Ck.i ak,Ck.s] 0++q++aP (aT [Ck.s,Ck.i ak,Ck.i ak,Ck.s] 1) 0 [.s (br (av y.2.2.2.2.2.2.1 s.toNat 0)),.i ak (bN (av y.2.2.2.2.2.2.1 s.toNat (1+1+1+1))),.i ak (bN (av y.2.2.2.2.2.2.1 s.toNat (1+1+1))),.s (br (av y.2.2.2.2.2.2.1 s.toNat 1))])) aj) aj) aj) aj)<|k (zv.v y.2.2.2.2.2.2.2.2.2) y.1 y.2.1 y.2.2.1 y.2.2.2.1 y.2.2.2.2.1 y.2.2.2.2.2.1 y.2.2.2.2.2.2.1 y.2.2.2.2.2.2.2.1 y.2.2.2.2.2.2.2.2.1 o p q)<|k (zv.v y.2.2.2.2.2.2.2.2.2) y.1 y.2.1 y.2.2.1 y.2.2.2.1 y.2.2.2.2.1 y.2.2.2.2.2.1 y.2.2.2.2.2.2.1 y.2.2.2.2.2.2.2.1 y.2.2.2.2.2.2.2.2.1 o p q) aj
def vo:=b λd r1 r2 r3 r4 r5 r6 r7 r8 r9 wA wZ a=>ai (d,r1,r2,r3,r4,r5,r6,r7,r8,r9,wA,wZ,a)
def c:=Df vo
def v:=DQ vo
theorem out{x}:DE vo c v x:=Hs
end Cy
namespace Cz
def b(k:kA R)(a:ay)(d e f h:Row)(i:ay)(j l:Row)(m o:ay):aA R:=aD (kt.c a d e f h i j l m) (ch (kt.v a d e f h i j l m) λp=>aD (ui.c a d e f h i j l m o) (ch (ui.v a d e f h i j l m o) λq=>aD (!q) (k p.1 p.2.1 p.2.2.1 p.2.2.2.1 p.2.2.2.2.1 p.2.2.2.2.2.1 p.2.2.2.2.2.2.1 p.2.2.2.2.2.2.2.1 p.2.2.2.2.2.2.2.2 aq)<|aD (ah (0<=o)&&ah (o<(p.2.2.2.2.2.2.1.length:ay))) (aD (rT.c p.1 p.2.1 p.2.2.1 p.2.2.2.1 p.2.2.2.2.1 p.2.2.2.2.2.1 (dV p.2.2.2.2.2.2.1 o.toNat 2 [.i ak 3]) p.2.2.2.2.2.2.2.1 p.2.2.2.2.2.2.2.2 o 3) (ch (rT.v p.1 p.2.1 p.2.2.1 p.2.2.2.1 p.2.2.2.2.1 p.2.2.2.2.2.1 (dV p.2.2.2.2.2.2.1 o.toNat 2 [.i ak 3]) p.2.2.2.2.2.2.2.1 p.2.2.2.2.2.2.2.2 o 3) λr=>k r.1 r.2.1 r.2.2.1 r.2.2.2.1 r.2.2.2.2.1 r.2.2.2.2.2.1 r.2.2.2.2.2.2.1 r.2.2.2.2.2.2.2.1 r.2.2.2.2.2.2.2.2 ao) aj) aj) aj) aj
def vo:=b λa r1 r2 r3 r4 r5 r6 r7 r8 r9=>ai (a,r1,r2,r3,r4,r5,r6,r7,r8,r9)
def c:=pk vo
def v:=pD vo
theorem out{x}:pz vo c v x:=qn
end Cz
namespace rR
def b(k:dU R)(a:ay)(d e f h:Row)(i:ay)(j l:Row)(m o:ay):aA R:=aD (kt.c a d e f h i j l m) (aD (ah (cx o 1000<0)) (aD (ah ((kt.v a d e f h i j l m).1>bE (1000000000-bE (cx o 1000+1000)))) (k 1000000000 (kt.v a d e f h i j l m).2.1 (kt.v a d e f h i j l m).2.2.1 (kt.v a d e f h i j l m).2.2.2.1 (kt.v a d e f h i j l m).2.2.2.2.1 (kt.v a d e f h i j l m).2.2.2.2.2.1 (kt.v a d e f h i j l m).2.2.2.2.2.2.1 (kt.v a d e f h i j l m).2.2.2.2.2.2.2.1 (kt.v a d e f h i j l m).2.2.2.2.2.2.2.2)<|k (bE ((kt.v a d e f h i j l m).1+bE (cx o 1000+1000))) (kt.v a d e f h i j l m).2.1 (kt.v a d e f h i j l m).2.2.1 (kt.v a d e f h i j l m).2.2.2.1 (kt.v a d e f h i j l m).2.2.2.2.1 (kt.v a d e f h i j l m).2.2.2.2.2.1 (kt.v a d e f h i j l m).2.2.2.2.2.2.1 (kt.v a d e f h i j l m).2.2.2.2.2.2.2.1 (kt.v a d e f h i j l m).2.2.2.2.2.2.2.2)<|aD (ah ((kt.v a d e f h i j l m).1>bE (1000000000-cx o 1000))) (k 1000000000 (kt.v a d e f h i j l m).2.1 (kt.v a d e f h i j l m).2.2.1 (kt.v a d e f h i j l m).2.2.2.1 (kt.v a d e f h i j l m).2.2.2.2.1 (kt.v a d e f h i j l m).2.2.2.2.2.1 (kt.v a d e f h i j l m).2.2.2.2.2.2.1 (kt.v a d e f h i j l m).2.2.2.2.2.2.2.1 (kt.v a d e f h i j l m).2.2.2.2.2.2.2.2)<|k (bE ((kt.v a d e f h i j l m).1+cx o 1000)) (kt.v a d e f h i j l m).2.1 (kt.v a d e f h i j l m).2.2.1 (kt.v a d e f h i j l m).2.2.2.1 (kt.v a d e f h i j l m).2.2.2.2.1 (kt.v a d e f h i j l m).2.2.2.2.2.1 (kt.v a d e f h i j l m).2.2.2.2.2.2.1 (kt.v a d e f h i j l m).2.2.2.2.2.2.2.1 (kt.v a d e f h i j l m).2.2.2.2.2.2.2.2) aj
def vo:=b λa r1 r2 r3 r4 r5 r6 r7 r8=>ai (a,r1,r2,r3,r4,r5,r6,r7,r8)
def c:=pk vo
def v:=pD vo
theorem out{x}:pz vo c v x:=qn
end rR
namespace ud
def r4(N:aN)(g B:gD R)(a d e:ay)(f h i j:Row)(l:ay)(m o:Row)(p q r s t u w:ay)(y z α x A k:Row):aA R:=aD (ah (d<(o.length:ay))) (aD (ah (0<=d)&&ah (d<(o.length:ay))) (aD (bN (av o d.toNat 0) !=a) (aD (ah (0<=d)&&ah (d<(o.length:ay))) (aD (b8 (k.length+(aP (aT [Ck.i ak,Ck.s,Ck.i ak,Ck.i ak,Ck.i ak,Ck.s,Ck.i ak] 1) 0 [.i ak (bN (av o d.toNat 0)),.s (br (av o d.toNat 1)),.i ak (bN (av o d.toNat (1+1))),.i ak (bN (av o d.toNat (1+1+1))),.i ak (bN (av o d.toNat (1+1+1+1))),.s (br (av o d.toNat (1+1+1+1+1))),.i ak (bN (av o d.toNat (1+1+1+1+1+1)))]).length) 72) (g a (bE (d+1)) e f h i j l m o p q r s t u w y z α x A (k++aP (aT [Ck.i ak,Ck.s,Ck.i ak,Ck.i ak,Ck.i ak,Ck.s,Ck.i ak] 1) 0 [.i ak (bN (av o d.toNat 0)),.s (br (av o d.toNat 1)),.i ak (bN (av o d.toNat (1+1))),.i ak (bN (av o d.toNat (1+1+1))),.i ak (bN (av o d.toNat (1+1+1+1))),.s (br (av o d.toNat (1+1+1+1+1))),.i ak (bN (av o d.toNat (1+1+1+1+1+1)))])) aj) aj)<|g a (bE (d+1)) e f h i j l m o p q r s t u w y z α x A k) aj)<|B a d e f h i j l m o p q r s t u w y z α x A k
def l4(N:aN)(a:gD R):aN->gD R
 |0=>λ_ _ _ _ _ _ _ _ _ _ _ _ _ _ _ _ _ _ _ _ _ _ _=>aj
 |n+1=>r4 N (l4 N a n) a
def b(N:aN)(k:dU R)(a:ay)(d e f h:Row)(i:ay)(j l:Row)(m o:ay):aA R:=aD (kt.c a d e f h i j l m) (l4 N (λ_ _ _ _ _ _ _ _ _ _ _ _ _ _ p q r s t u w y z=>k p s t u w q y z r) N o 0 a d e f h i j l m 0 0 0 (kt.v a d e f h i j l m).1 (kt.v a d e f h i j l m).2.2.2.2.2.1 (kt.v a d e f h i j l m).2.2.2.2.2.2.2.2 (kt.v a d e f h i j l m).2.1 (kt.v a d e f h i j l m).2.2.1 (kt.v a d e f h i j l m).2.2.2.1 (kt.v a d e f h i j l m).2.2.2.2.1 (kt.v a d e f h i j l m).2.2.2.2.2.2.1 (aT [Ck.i ak,Ck.s,Ck.i ak,Ck.i ak,Ck.i ak,Ck.s,Ck.i ak] 0)) aj
def vo:=b ck λa r1 r2 r3 r4 r5 r6 r7 r8=>ai (a,r1,r2,r3,r4,r5,r6,r7,r8)
def c:=pk vo
def v:=pD vo
theorem out{x}:pz vo c v x:=qn
end ud
namespace vO
def r5(N:aN)(g:vB R)(f:uO R)(h:vB R)(j:uO R)(a:Row)(d:ay)(e:Row):aA R:=aD (ah (d<(e.length:ay))) (aD (ah (0<=d)&&ah (d<(e.length:ay))) (aD (ah (d<(a.length:ay))) (aD (ah (0<=d)&&ah (d<(a.length:ay))) (aD (ah (bN (av a d.toNat 0)>((br (av e d.toNat 1)).size:ay))) (aD (ah (((br (av e d.toNat 1)).size:ay)<bN (av e d.toNat (1+1)))) (aD (fU 0 (bN (av e d.toNat (1+1))) ((br (av e d.toNat 1)).size:ay)) (f a (bE (d+1)) e ([]++aP (aT [Ck.s,Ck.s,Ck.i ak] 1) 0 [.s (br (av e d.toNat 0)),.s (bx (br (av e d.toNat 1)) (aR 0) (bN (av e d.toNat (1+1))).toNat),.i ak (bN (av e d.toNat (1+1)))])) aj)<|aD (fU 0 ((br (av e d.toNat 1)).size:ay) ((br (av e d.toNat 1)).size:ay)) (f a (bE (d+1)) e ([]++aP (aT [Ck.s,Ck.s,Ck.i ak] 1) 0 [.s (br (av e d.toNat 0)),.s (bx (br (av e d.toNat 1)) (aR 0) ((br (av e d.toNat 1)).size:ay).toNat),.i ak ((br (av e d.toNat 1)).size:ay)])) aj)<|aD (ah (bN (av a d.toNat 0)<bN (av e d.toNat (1+1)))) (aD (fU 0 (bN (av e d.toNat (1+1))) ((br (av e d.toNat 1)).size:ay)) (f a (bE (d+1)) e ([]++aP (aT [Ck.s,Ck.s,Ck.i ak] 1) 0 [.s (br (av e d.toNat 0)),.s (bx (br (av e d.toNat 1)) (aR 0) (bN (av e d.toNat (1+1))).toNat),.i ak (bN (av e d.toNat (1+1)))])) aj)<|aD (fU 0 (bN (av a d.toNat 0)) ((br (av e d.toNat 1)).size:ay)) (f a (bE (d+1)) e ([]++aP (aT [Ck.s,Ck.s,Ck.i ak] 1) 0 [.s (br (av e d.toNat 0)),.s (bx (br (av e d.toNat 1)) (aR 0) (bN (av a d.toNat 0)).toNat),.i ak (bN (av a d.toNat 0))])) aj) aj)<|aD (ah (0<bN (av e d.toNat (1+1)))) (aD (fU 0 (bN (av e d.toNat (1+1))) ((br (av e d.toNat 1)).size:ay)) (f a (bE (d+1)) e ([]++aP (aT [Ck.s,Ck.s,Ck.i ak] 1) 0 [.s (br (av e d.toNat 0)),.s (bx (br (av e d.toNat 1)) (aR 0) (bN (av e d.toNat (1+1))).toNat),.i ak (bN (av e d.toNat (1+1)))])) aj)<|f a (bE (d+1)) e ([]++aP (aT [Ck.s,Ck.s,Ck.i ak] 1) 0 [.s (br (av e d.toNat 0)),.s (bx (br (av e d.toNat 1)) (aR 0) (aR 0)),.i ak 0])) aj)<|h a d e
def r5a(N:aN)(g:vB R)(h:uO R)(k:vB R)(j:uO R)(a:Row)(d:ay)(e f:Row):aA R:=aD (ah (d<(e.length:ay))) (aD (ah (0<=d)&&ah (d<(e.length:ay))) (aD (ah (d<(a.length:ay))) (aD (ah (0<=d)&&ah (d<(a.length:ay))) (aD (ah (bN (av a d.toNat 0)>((br (av e d.toNat 1)).size:ay))) (aD (ah (((br (av e d.toNat 1)).size:ay)<bN (av e d.toNat (1+1)))) (aD (fU 0 (bN (av e d.toNat (1+1))) ((br (av e d.toNat 1)).size:ay)) (aD (b8 (f.length+(aP (aT [Ck.s,Ck.s,Ck.i ak] 1) 0 [.s (br (av e d.toNat 0)),.s (bx (br (av e d.toNat 1)) (aR 0) (bN (av e d.toNat (1+1))).toNat),.i ak (bN (av e d.toNat (1+1)))]).length) 40) (h a (bE (d+1)) e (f++aP (aT [Ck.s,Ck.s,Ck.i ak] 1) 0 [.s (br (av e d.toNat 0)),.s (bx (br (av e d.toNat 1)) (aR 0) (bN (av e d.toNat (1+1))).toNat),.i ak (bN (av e d.toNat (1+1)))])) aj) aj)<|aD (fU 0 ((br (av e d.toNat 1)).size:ay) ((br (av e d.toNat 1)).size:ay)) (aD (b8 (f.length+(aP (aT [Ck.s,Ck.s,Ck.i ak] 1) 0 [.s (br (av e d.toNat 0)),.s (bx (br (av e d.toNat 1)) (aR 0) ((br (av e d.toNat 1)).size:ay).toNat),.i ak ((br (av e d.toNat 1)).size:ay)]).length) 40) (h a (bE (d+1)) e (f++aP (aT [Ck.s,Ck.s,Ck.i ak] 1) 0 [.s (br (av e d.toNat 0)),.s (bx (br (av e d.toNat 1)) (aR 0) ((br (av e d.toNat 1)).size:ay).toNat),.i ak ((br (av e d.toNat 1)).size:ay)])) aj) aj)<|aD (ah (bN (av a d.toNat 0)<bN (av e d.toNat (1+1)))) (aD (fU 0 (bN (av e d.toNat (1+1))) ((br (av e d.toNat 1)).size:ay)) (aD (b8 (f.length+(aP (aT [Ck.s,Ck.s,Ck.i ak] 1) 0 [.s (br (av e d.toNat 0)),.s (bx (br (av e d.toNat 1)) (aR 0) (bN (av e d.toNat (1+1))).toNat),.i ak (bN (av e d.toNat (1+1)))]).length) 40) (h a (bE (d+1)) e (f++aP (aT [Ck.s,Ck.s,Ck.i ak] 1) 0 [.s (br (av e d.toNat 0)),.s (bx (br (av e d.toNat 1)) (aR 0) (bN (av e d.toNat (1+1))).toNat),.i ak (bN (av e d.toNat (1+1)))])) aj) aj)<|aD (fU 0 (bN (av a d.toNat 0)) ((br (av e d.toNat 1)).size:ay)) (aD (b8 (f.length+(aP (aT [Ck.s,Ck.s,Ck.i ak] 1) 0 [.s (br (av e d.toNat 0)),.s (bx (br (av e d.toNat 1)) (aR 0) (bN (av a d.toNat 0)).toNat),.i ak (bN (av a d.toNat 0))]).length) 40) (h a (bE (d+1)) e (f++aP (aT [Ck.s,Ck.s,Ck.i ak] 1) 0 [.s (br (av e d.toNat 0)),.s (bx (br (av e d.toNat 1)) (aR 0) (bN (av a d.toNat 0)).toNat),.i ak (bN (av a d.toNat 0))])) aj) aj) aj)<|aD (ah (0<bN (av e d.toNat (1+1)))) (aD (fU 0 (bN (av e d.toNat (1+1))) ((br (av e d.toNat 1)).size:ay)) (aD (b8 (f.length+(aP (aT [Ck.s,Ck.s,Ck.i ak] 1) 0 [.s (br (av e d.toNat 0)),.s (bx (br (av e d.toNat 1)) (aR 0) (bN (av e d.toNat (1+1))).toNat),.i ak (bN (av e d.toNat (1+1)))]).length) 40) (h a (bE (d+1)) e (f++aP (aT [Ck.s,Ck.s,Ck.i ak] 1) 0 [.s (br (av e d.toNat 0)),.s (bx (br (av e d.toNat 1)) (aR 0) (bN (av e d.toNat (1+1))).toNat),.i ak (bN (av e d.toNat (1+1)))])) aj) aj)<|aD (b8 (f.length+(aP (aT [Ck.s,Ck.s,Ck.i ak] 1) 0 [.s (br (av e d.toNat 0)),.s (bx (br (av e d.toNat 1)) (aR 0) (aR 0)),.i ak 0]).length) 40) (h a (bE (d+1)) e (f++aP (aT [Ck.s,Ck.s,Ck.i ak] 1) 0 [.s (br (av e d.toNat 0)),.s (bx (br (av e d.toNat 1)) (aR 0) (aR 0)),.i ak 0])) aj) aj)<|j a d e f
def l5a(N:aN)(a:vB R)(d:uO R):aN->uO R
 |0=>λ_ _ _ _=>aj
 |n+1=>r5a N (λe f h=>aj) (l5a N a d n) a d
def l5(N:aN)(a:vB R)(d:uO R):aN->vB R
 |0=>λ_ _ _=>aj
 |n+1=>r5 N (l5 N a d n) (l5a N a d n) a d
def b(N:aN)(f:uM R)(a d:Row):aA R:=aD (fD.c a) (aD (!fD.v a) (f [] aq)<|l5 N (λ_ _ _=>f [] ao) (λ_ _ _ e=>f e ao) N d 0 a) aj
def vo:=b ck λa r1=>ai (a,r1)
def c:=iZ vo
def v:=jb vo
theorem out{x}:i7 vo c v x:=jd
end vO
namespace lI
def b(e:vC R)(a:Row)(d:au):aA R:=aD (j0.c a d) (aD (ah (j0.v a d<0)) (e ⟨#[]⟩ aq)<|aD (ah (0<=j0.v a d)&&ah (j0.v a d<(a.length:ay))) (e (br (av a (j0.v a d).toNat 1)) ao) aj) aj
def vo:=b λa r1=>ai (a,r1)
def c:=iZ vo
def v:=jb vo
theorem out{x}:i7 vo c v x:=jd
end lI
namespace fG
def r6(N:aN)(g k m:uP R)(a:au)(d e f:ay)(h:aY)(i j l:ay):aA R:=aD (ah (l<(a.size:ay))) (aD (ah (l<bE (d+5))) (aD (ah (0<=l)&&ah (l<(a.size:ay))) (aD (ah (0<=l)&&ah (l<(a.size:ay))) (aD (ah ((↑(fF a l.toNat):ay)<128)) (aD (ah (bE (i+bE (cx (bE (↑(fF a l.toNat):ay)) 128*j))>1000000000)) (k a d 0 0 aq (bE (i+bE (cx (bE (↑(fF a l.toNat):ay)) 128*j))) (bE (j*128)) l)<|aD (jZ.c (bE (i+bE (cx (bE (↑(fF a l.toNat):ay)) 128*j)))) (aD (fU d (bE (l+1)) (a.size:ay)) (aD (!List.beq (jZ.v (bE (i+bE (cx (bE (↑(fF a l.toNat):ay)) 128*j)))).toList (bx a d.toNat (bE (l+1)).toNat).toList) (k a d 0 0 aq (bE (i+bE (cx (bE (↑(fF a l.toNat):ay)) 128*j))) (bE (j*128)) l)<|k a d (bE (i+bE (cx (bE (↑(fF a l.toNat):ay)) 128*j))) (bE (l+1)) ao (bE (i+bE (cx (bE (↑(fF a l.toNat):ay)) 128*j))) (bE (j*128)) l) aj) aj)<|g a d e f h (bE (i+bE (cx (bE (↑(fF a l.toNat):ay)) 128*j))) (bE (j*128)) (bE (l+1))) aj) aj)<|m a d e f h i j l)<|m a d e f h i j l
def l6(N:aN)(a d:uP R):aN->uP R
 |0=>λ_ _ _ _ _ _ _ _=>aj
 |n+1=>r6 N (l6 N a d n) a d
def b(N:aN)(i:J6 R)(a:au)(d:ay):aA R:=aD (!jX.v d 0 (a.size:ay)) (i 0 0 aq)<|l6 N (λ_ _ e f h _ _ _=>i e f h) (λ_ _ _ _ _ _ _ _=>i 0 0 aq) N a d 0 0 aq 0 1 d
def v(a:au)(d:ay):ay×ay×aY:=if 0<=d/\d<=a.size then Lib.rv a d.toNat 5 0 0 else(0,0,aq)
theorem dW(z:J6 R)(d:au)(f:ay)(f0:Co d):∃N,b N z d f=z (v d f).1 (v d f).2.1 (v d f).2.2:=by
 refine⟨6,?_⟩
 unfold b v;by_cases P:0<=f/\f<=d.size
 ·have e:jX.v f 0 (d.size:ay)=true:=by simp[jX.v,P]
  obtain⟨a,rfl⟩:∃a:aN,f=(a:ay):=⟨f.toNat,by omega⟩
  have ha:a<=d.size:=by omega
  rw[e,bm P,dB];have hs:d.size<=4611686018427387904:=f0;simp only[aZ,ax]
  have:=fE (λm (s:aN×ay)=>l6 6 (λy8 y9 V X Y h1 h2 h3=>z V X Y) (λh4 h5 h6 h7 h8 h9 he hf=>z 0 0 aq) m d a 0 0 aq s.2 (128^s.1) ((a+s.1:aN):ay)) (λs=>5-s.1) (λs=>s.1<=5/\s.2=Lib.num d a s.1/\∀i,i<s.1->128<=fF d (a+i))
   (λs=>z (Lib.rv d a (5-s.1) s.1 s.2).1 (Lib.rv d a (5-s.1) s.1 s.2).2.1 (Lib.rv d a (5-s.1) s.1 s.2).2.2) (λm s S=>by
   obtain⟨j,n⟩:=s
   obtain⟨hj,o,u⟩:=S
   dsimp only at hj o u⊢
   have hb:=yo d (a+j)
   have e5:bE ((a:ay)+5)=((a+5:aN):ay):=by rw[hZ (by omega) (by omega)];omega
   by_cases k:a+j<d.size
   ·by_cases O:j<5
    ·have eb:bE (fF d (a+j):ay)=(fF d (a+j):ay):=hZ (by omega) (by omega);have em:cx (fF d (a+j):ay) 128=(fF d (a+j):ay)%128:=eN (by omega);have hp:(128:ay)^j<=268435456/\(1:ay)<=128^j/\(128:ay)^(j+1)=128^j*128:=by
      obtain rfl|rfl|rfl|rfl|rfl:j=0\/j=1\/j=2\/j=3\/j=4:=by omega
      all_goals decide
     have Q:=tJ d j a;rw[<-o]at Q;have y:0<=(fF d (a+j):ay)%128/\(fF d (a+j):ay)%128<=127:=by omega
     have hq:0<=(fF d (a+j):ay)%128*128^j/\(fF d (a+j):ay)%128*128^j<=127*128^j:=
      ⟨Int.mul_nonneg y.1 (by omega),Cu y.2 (by omega)⟩
     have C:bE ((fF d (a+j):ay)%128*128^j)=(fF d (a+j):ay)%128*128^j:=hZ (by omega) (by omega);have H:bE (n+(fF d (a+j):ay)%128*128^j)=n+(fF d (a+j):ay)%128*128^j:=hZ (by omega) (by omega);have I:bE ((128:ay)^j*128)=128^(j+1):=by rw[hp.2.2];exact hZ (by omega) (by omega)
     have A:5-j=(5-(j+1))+1:=by omega
     have t:n+(fF d (a+j):ay)%128*128^j=Lib.num d a (j+1):=by rw[qm,<-o]
     have en:bE (((a+j:aN):ay)+1)=((a+(j+1):aN):ay):=cw k (by omega);have c2:ah (((a+j:aN):ay)<((a+5:aN):ay))=true:=Di (by omega)
     have r:Lib.rv d a (5-j) j n=(if(fF d (a+j):ay)>127 then Lib.rv d a (5-(j+1)) (j+1) (n+(fF d (a+j):ay)%128*128^j)
       else if(j>0/\fF d (a+j)=0)\/n+(fF d (a+j):ay)%128*128^j>1000000000 then(0,0,aq)
       else(n+(fF d (a+j):ay)%128*128^j,((a+j+1:aN):ay),ao)):=by
      rw[A];simp only[Lib.rv];rw[bm k]
     simp only[l6,r6,Di k,e5,c2,b_,dB,eb,em,C,H,I,en,aw,aL];by_cases hc:(fF d (a+j):ay)<128
     ·left;rw[aC hc,aw,r,bh (by omega)];by_cases h:n+(fF d (a+j):ay)%128*128^j>1000000000
      ·rw[aC h,bm (.inr h)];rfl
      ·have ec:jZ.c (n+(fF d (a+j):ay)%128*128^j)=true:=aC (by omega);have B:fU (a:ay) ((a+(j+1):aN):ay) (d.size:ay)=true:=by simp[fU];omega
       rw[aF h,ax,ec,aw,B,aw,t];have x:=Lib.canon d j a (by omega) u (by omega) (by rw[<-t];omega);unfold jZ.v;rw[x];by_cases U:j>0/\fF d (a+j)=0
       ·rw[aC U,bm (.inl U)];rfl
       ·rw[aF U,bh (by rw[t]at h;omega)];rfl
     ·right;rw[aF hc];refine⟨(j+1,n+(fF d (a+j):ay)%128*128^j),⟨by dsimp only;omega,t,λi hi=> ?_⟩,by dsimp only;omega,by dsimp only;rw[r,bm (by omega)],rfl⟩
      by_cases K:i<j
      ·exact u i K
      ·have:i=j:=by dsimp only at hi;omega
       subst this;omega
    ·left;have M:j=5:=by omega
     subst M;simp only[l6,r6,Di k,e5,GZ (bk (a+5)),aw,ax];rfl
   ·left;have r:Lib.rv d a (5-j) j n=(0,0,aq):=by
     by_cases O:j<5
     ·have A:5-j=(5-(j+1))+1:=by omega
      rw[A];simp only[Lib.rv];rw[bh k]
     ·rw[show 5-j=0 by omega];rfl
    simp only[l6,r6,GZ k,ax,r]) 6 (0,0) ⟨by dsimp only;omega,rfl,λi hi=>by dsimp only at hi;omega⟩ (by dsimp only;omega)
  exact this
 ·have e:jX.v f 0 (d.size:ay)=false:=by simp[jX.v];omega
  rw[e,bh P];rfl
end fG
namespace rV
def r5(N:aN)(g h i:iW R)(a:au)(d e:ay)(f:Row):aA R:=aD (ah (e<(a.size:ay))) (aD (!(fG.v a e).2.2) (h a e e f)<|aD (ah ((fG.v a e).1>bE (bE ((a.size:ay)-(fG.v a e).2.1)-4))) (h a e e f)<|aD (fU (bE ((fG.v a e).2.1+4)) (bE (bE ((fG.v a e).2.1+4)+(fG.v a e).1)) (a.size:ay)) (aD (fj.c (bx a (bE ((fG.v a e).2.1+4)).toNat (bE (bE ((fG.v a e).2.1+4)+(fG.v a e).1)).toNat)) (aD (!(fj.v (bx a (bE ((fG.v a e).2.1+4)).toNat (bE (bE ((fG.v a e).2.1+4)+(fG.v a e).1)).toNat)).2) (h a e e f)<|aD (fU e (bE (bE ((fG.v a e).2.1+4)+(fG.v a e).1)) (a.size:ay)) (aD (!List.beq (fj.v (bx a (bE ((fG.v a e).2.1+4)).toNat (bE (bE ((fG.v a e).2.1+4)+(fG.v a e).1)).toNat)).1.toList (bx a e.toNat (bE (bE ((fG.v a e).2.1+4)+(fG.v a e).1)).toNat).toList) (h a e e f)<|aD (b8 (f.length+(aP (aT [.s] 1) 0 [.s (bx a (bE ((fG.v a e).2.1+4)).toNat (bE (bE ((fG.v a e).2.1+4)+(fG.v a e).1)).toNat)]).length) 16) (g a d (bE (bE ((fG.v a e).2.1+4)+(fG.v a e).1)) (f++aP (aT [.s] 1) 0 [.s (bx a (bE ((fG.v a e).2.1+4)).toNat (bE (bE ((fG.v a e).2.1+4)+(fG.v a e).1)).toNat)])) aj) aj) aj) aj)<|i a d e f
def l5(N:aN)(a d:iW R):aN->iW R
 |0=>λ_ _ _ _=>aj
 |n+1=>r5 N (l5 N a d n) a d
def b(N:aN)(f:qF R)(a:au):aA R:=aD (ah ((a.size:ay)>20000)) (f (aT [.s] 0) 0)<|l5 N (λ_ d _ e=>f e d) (λ_ _ d e=>f e d) N a 0 0 (aT [.s] 0)
def vo:=b ck λa r1=>ai (a,r1)
def c:=ka vo
def v:=ko vo
theorem out{x}:ki vo c v x:=kL
end rV
namespace pN
def b(e:J8 R)(a:au)(d:ay):aA R:=aD (!(fG.v a d).2.2) (e ⟨#[]⟩ 0 aq)<|aD (ah ((fG.v a d).1>20000)) (e ⟨#[]⟩ 0 aq)<|aD (ah ((fG.v a d).1>bE ((a.size:ay)-(fG.v a d).2.1))) (e ⟨#[]⟩ 0 aq)<|aD (fU (fG.v a d).2.1 (bE ((fG.v a d).2.1+(fG.v a d).1)) (a.size:ay)) (e (bx a (fG.v a d).2.1.toNat (bE ((fG.v a d).2.1+(fG.v a d).1)).toNat) (bE ((fG.v a d).2.1+(fG.v a d).1)) ao) aj
def v(a:au)(d:ay):au×ay×aY:=fB a d
theorem dW(e:J8 R)(a:au)(d:ay)(f:Co a):b e a d=e (v a d).1 (v a d).2.1 (v a d).2.2:=mY f d e
end pN
namespace jD
def b(d:vD R)(a:au):aA R:=aD (!(pN.v a 0).2.2) (d ⟨#[]⟩ 0 0 ⟨#[]⟩ aq)<|aD (!(fG.v a (pN.v a 0).2.1).2.2) (d ⟨#[]⟩ 0 0 ⟨#[]⟩ aq)<|aD (!(fG.v a (fG.v a (pN.v a 0).2.1).2.1).2.2) (d ⟨#[]⟩ 0 0 ⟨#[]⟩ aq)<|aD (fU (fG.v a (fG.v a (pN.v a 0).2.1).2.1).2.1 (a.size:ay) (a.size:ay)) (aD (!(jr.v (pN.v a 0).1 (fG.v a (pN.v a 0).2.1).1 (fG.v a (fG.v a (pN.v a 0).2.1).2.1).1 (bx a (fG.v a (fG.v a (pN.v a 0).2.1).2.1).2.1.toNat (a.size:ay).toNat)).2) (d ⟨#[]⟩ 0 0 ⟨#[]⟩ aq)<|aD (!List.beq (jr.v (pN.v a 0).1 (fG.v a (pN.v a 0).2.1).1 (fG.v a (fG.v a (pN.v a 0).2.1).2.1).1 (bx a (fG.v a (fG.v a (pN.v a 0).2.1).2.1).2.1.toNat (a.size:ay).toNat)).1.toList (aG a)) (d ⟨#[]⟩ 0 0 ⟨#[]⟩ aq)<|d (pN.v a 0).1 (fG.v a (pN.v a 0).2.1).1 (fG.v a (fG.v a (pN.v a 0).2.1).2.1).1 (bx a (fG.v a (fG.v a (pN.v a 0).2.1).2.1).2.1.toNat (a.size:ay).toNat) ao) aj
def no:au×ay×ay×au×aY:=(⟨#[]⟩,0,0,⟨#[]⟩,aq)
def v(d:au):au×ay×ay×au×aY:=
 match fB d 0 with
 |(k,a,ao)=>(match dM d a with
  |(s,x,ao)=>(match dM d x with
   |(l,y,ao)=>if gu.v k s l (d.extract y.toNat d.size)=ao then(k,s,l,d.extract y.toNat d.size,ao)else no
   |_=>no)
  |_=>no)
 |_=>no
theorem dW(f:vD R)(d:au)(z:Co d):b f d=f (v d).1 (v d).2.1 (v d).2.2.1 (v d).2.2.2.1 (v d).2.2.2.2:=by
 have h:pN.v=fB:=rfl;have i:fG.v=dM:=rfl;unfold b v;simp only[h,i,dB];cases j:fB d 0 with
 |mk k r1=>
  obtain⟨a,ok1⟩:=r1;cases ok1 with
  |false=>rfl
  |true=>
   dsimp only;cases m:dM d a with
   |mk s r2=>
    obtain⟨x,e⟩:=r2;cases e with
    |false=>rfl
    |true=>
     dsimp only;cases o:dM d x with
     |mk l r3=>
      obtain⟨y,ok3⟩:=r3;cases ok3 with
      |false=>rfl
      |true=>
       obtain⟨A,B,C,H,t⟩:=ry j;obtain⟨I,K,M,N,O,u⟩:=gJ m;obtain⟨r1,r2,r3,r4,r5,r6⟩:=gJ o;dsimp only;simp only[aZ,ax];rw[oN (show fU y (d.size:ay) (d.size:ay)=ao by simp[fU];omega)];unfold jr.v;cases hE:gu.v k s l (d.extract y.toNat d.size)with
       |false=>rfl
       |true=>
        have r:jr.sa k s l (d.extract y.toNat d.size)=d:=by unfold jr.sa;rw[t,u,n8 d (by omega) (by omega),r6,n8 d (by omega) (by omega),n8 d (by omega) (by omega)];exact qZ d
        simp only[if_true,aZ,ax,r,lj]
end jD
namespace rU
def r7(N:aN)(g f:CZ R)(a:ay)(d e:Row):aA R:=aD (ah (a<(e.length:ay))) (aD (ah (0<=a)&&ah (a<(e.length:ay))) (aD ((jD.v (br (av e a.toNat 0))).2.2.2.2) (aD (fK.c d (jD.v (br (av e a.toNat 0))).1 (jD.v (br (av e a.toNat 0))).2.1 (jD.v (br (av e a.toNat 0))).2.2.1 (jD.v (br (av e a.toNat 0))).2.2.2.1) (g (bE (a+1)) (fK.v d (jD.v (br (av e a.toNat 0))).1 (jD.v (br (av e a.toNat 0))).2.1 (jD.v (br (av e a.toNat 0))).2.2.1 (jD.v (br (av e a.toNat 0))).2.2.2.1) e) aj)<|g (bE (a+1)) d e) aj)<|f a d e
def l7(N:aN)(a:CZ R):aN->CZ R
 |0=>λ_ _ _=>aj
 |n+1=>r7 N (l7 N a n) a
def b(N:aN)(e:Row->aA R)(a:Row):aA R:=aD (fD.c a) (aD (!fD.v a) (e (aT [Ck.s,Ck.i ak,Ck.i ak,Ck.s] 0))<|aD (lI.c a (az #[ar 107,ar 101,ar 112,ar 116])) (aD (rV.c (lI.v a (az #[ar 107,ar 101,ar 112,ar 116])).1) (l7 N (λ_ d _=>e d) N 0 (aT [Ck.s,Ck.i ak,Ck.i ak,Ck.s] 0) (rV.v (lI.v a (az #[ar 107,ar 101,ar 112,ar 116])).1).1) aj) aj) aj
def vo:=b ck λa=>ai a
def c:=ka vo
def v:=ko vo
theorem out{x}:ki vo c v x:=kL
end rU
namespace jq
def r9(N:aN)(g:zM R)(j:Gr R)(k:zM R)(a:Row)(d:aY)(e:au)(f:ay)(h:Row):aA R:=aD (ah (f<(a.length:ay))) (aD (ah (0<=f)&&ah (f<(a.length:ay))) (aD (fj.c (jr.v (br (av a f.toNat 0)) (bN (av a f.toNat 1)) (bN (av a f.toNat (1+1))) (br (av a f.toNat (1+1+1)))).1) (aD (!(jr.v (br (av a f.toNat 0)) (bN (av a f.toNat 1)) (bN (av a f.toNat (1+1))) (br (av a f.toNat (1+1+1)))).2) (j a aq e f (aT [Ck.i ak,Ck.s,Ck.s,Ck.s] 0) h)<|aD (!(fj.v (jr.v (br (av a f.toNat 0)) (bN (av a f.toNat 1)) (bN (av a f.toNat (1+1))) (br (av a f.toNat (1+1+1)))).1).2) (j a aq e f (aT [Ck.i ak,Ck.s,Ck.s,Ck.s] 0) h)<|aD (ah (e.size+(fj.v (jr.v (br (av a f.toNat 0)) (bN (av a f.toNat 1)) (bN (av a f.toNat (1+1))) (br (av a f.toNat (1+1+1)))).1).1.size<=4611686018427387904)) (g a d (e++(fj.v (jr.v (br (av a f.toNat 0)) (bN (av a f.toNat 1)) (bN (av a f.toNat (1+1))) (br (av a f.toNat (1+1+1)))).1).1) (bE (f+1)) h) aj) aj) aj)<|k a d e f h
def l9(N:aN)(a:Gr R)(d:zM R):aN->zM R
 |0=>λ_ _ _ _ _=>aj
 |n+1=>r9 N (l9 N a d n) a d
def b(N:aN)(h:uM R)(a d:Row):aA R:=aD (fD.c a) (aD (!fD.v a) (h (aT [Ck.i ak,Ck.s,Ck.s,Ck.s] 0) aq)<|aD (lI.c a (az #[ar 110,ar 101,ar 119])) (aD ((lI.v a (az #[ar 110,ar 101,ar 119])).2) (l9 N (λ_ e _ _ f _=>h f e) (λ_ _ e _ f=>aD (b8 (f.length+(aP (aP (aP (aT [Ck.i ak,Ck.s,Ck.s,Ck.s] 3) 0 [.i ak 1,.s (az #[ar 110,ar 101,ar 119]),.s e,.s ⟨#[]⟩]) 1 [.i ak 2,.s (az #[ar 110,ar 101,ar 119]),.s ⟨#[]⟩,.s ⟨#[]⟩]) 2 [.i ak 3,.s (az #[ar 110,ar 101,ar 119]),.s ⟨#[]⟩,.s (az #[ar 107,ar 101,ar 112,ar 116])]).length) 56) (h (f++aP (aP (aP (aT [Ck.i ak,Ck.s,Ck.s,Ck.s] 3) 0 [.i ak 1,.s (az #[ar 110,ar 101,ar 119]),.s e,.s ⟨#[]⟩]) 1 [.i ak 2,.s (az #[ar 110,ar 101,ar 119]),.s ⟨#[]⟩,.s ⟨#[]⟩]) 2 [.i ak 3,.s (az #[ar 110,ar 101,ar 119]),.s ⟨#[]⟩,.s (az #[ar 107,ar 101,ar 112,ar 116])]) ao) aj) N d aq ⟨#[]⟩ 0 (aT [Ck.i ak,Ck.s,Ck.s,Ck.s] 0++aP (aT [Ck.i ak,Ck.s,Ck.s,Ck.s] 1) 0 [.i ak 4,.s (az #[ar 110,ar 101,ar 119]),.s ⟨#[]⟩,.s ⟨#[]⟩]))<|l9 N (λ_ e _ _ f _=>h f e) (λ_ _ e _ f=>aD (b8 (f.length+(aP (aP (aP (aT [Ck.i ak,Ck.s,Ck.s,Ck.s] 3) 0 [.i ak 1,.s (az #[ar 110,ar 101,ar 119]),.s e,.s ⟨#[]⟩]) 1 [.i ak 2,.s (az #[ar 110,ar 101,ar 119]),.s ⟨#[]⟩,.s ⟨#[]⟩]) 2 [.i ak 3,.s (az #[ar 110,ar 101,ar 119]),.s ⟨#[]⟩,.s (az #[ar 107,ar 101,ar 112,ar 116])]).length) 56) (h (f++aP (aP (aP (aT [Ck.i ak,Ck.s,Ck.s,Ck.s] 3) 0 [.i ak 1,.s (az #[ar 110,ar 101,ar 119]),.s e,.s ⟨#[]⟩]) 1 [.i ak 2,.s (az #[ar 110,ar 101,ar 119]),.s ⟨#[]⟩,.s ⟨#[]⟩]) 2 [.i ak 3,.s (az #[ar 110,ar 101,ar 119]),.s ⟨#[]⟩,.s (az #[ar 107,ar 101,ar 112,ar 116])]) ao) aj) N d aq ⟨#[]⟩ 0 (aT [Ck.i ak,Ck.s,Ck.s,Ck.s] 0)) aj) aj
def vo:=b ck λa r1=>ai (a,r1)
def c:=iZ vo
def v:=jb vo
theorem out{x}:i7 vo c v x:=jd
end jq
namespace ni
def r4(N:aN)(g k:mc R)(a:ay)(d:Row)(e f h i j l m:ay)(o p q r s t:Row):aA R:=aD (ah (e<(d.length:ay))) (aD (ah (0<=e)&&ah (e<(d.length:ay))) (aD (gu.v (br (av d e.toNat 0)) (bN (av d e.toNat 1)) (bN (av d e.toNat (1+1))) (br (av d e.toNat (1+1+1)))) (aD (ah (0<=e)&&ah (e<(d.length:ay))) (aD (ug.v (br (av d e.toNat 0)) (bN (av d e.toNat 1)) (bN (av d e.toNat (1+1))) (br (av d e.toNat (1+1+1))) a) (aD (ah (0<=e)&&ah (e<(d.length:ay))) (aD (yi.c j o p q r l s t m (br (av d e.toNat 0)) (bN (av d e.toNat 1)) (bN (av d e.toNat (1+1))) (br (av d e.toNat (1+1+1)))) (ch (yi.v j o p q r l s t m (br (av d e.toNat 0)) (bN (av d e.toNat 1)) (bN (av d e.toNat (1+1))) (br (av d e.toNat (1+1+1)))) λu=>g a d (bE (e+1)) f h i u.1 u.2.2.2.2.2.1 u.2.2.2.2.2.2.2.2 u.2.1 u.2.2.1 u.2.2.2.1 u.2.2.2.2.1 u.2.2.2.2.2.2.1 u.2.2.2.2.2.2.2.1) aj) aj)<|g a d (bE (e+1)) f h i j l m o p q r s t) aj)<|g a d (bE (e+1)) f h i j l m o p q r s t) aj)<|k a d e f h i j l m o p q r s t
def l4(N:aN)(a:mc R):aN->mc R
 |0=>λ_ _ _ _ _ _ _ _ _ _ _ _ _ _ _=>aj
 |n+1=>r4 N (l4 N a n) a
def b(N:aN)(k:dU R)(a:ay)(d:Row):aA R:=l4 N (λ_ _ _ _ _ _ e f h i j l m o p=>k e i j l m f o p h) N a d 0 0 0 0 a 0 0 [] [] [] ([]++aP (aT [Ck.l 3] 1) 0 [CV.l 3 (aT [Ck.i ak] (aR 16))]++aP (aT [Ck.l 3] 1) 0 [CV.l 3 (aT [Ck.i ak] (aR 16))]++aP (aT [Ck.l 3] 1) 0 [CV.l 3 (aT [Ck.i ak] (aR 16))]) [] []
def vo:=b ck λa r1 r2 r3 r4 r5 r6 r7 r8=>ai (a,r1,r2,r3,r4,r5,r6,r7,r8)
def c:=iZ vo
def v:=jb vo
theorem out{x}:i7 vo c v x:=jd
end ni
namespace vK
def r7(N:aN)(g u k x:gj R)(a d e f:ay)(h i j l m o p q r s t:Row):aA R:=aD (ah (a<(h.length:ay))) (aD (ah (0<=a)&&ah (a<(h.length:ay))) (aD (ug.v (br (av h a.toNat 0)) (bN (av h a.toNat 1)) (bN (av h a.toNat (1+1))) (br (av h a.toNat (1+1+1))) d) (aD (ah (0<=a)&&ah (a<(h.length:ay))) (aD (b8 (i.length+(aP (aT [Ck.s,Ck.i ak,Ck.i ak,Ck.s] 1) 0 [.s (br (av h a.toNat 0)),.i ak (bN (av h a.toNat 1)),.i ak (bN (av h a.toNat (1+1))),.s (br (av h a.toNat (1+1+1)))]).length) 48) (g (bE (a+1)) d e f h (i++aP (aT [Ck.s,Ck.i ak,Ck.i ak,Ck.s] 1) 0 [.s (br (av h a.toNat 0)),.i ak (bN (av h a.toNat 1)),.i ak (bN (av h a.toNat (1+1))),.s (br (av h a.toNat (1+1+1)))]) j l m o p q r s t) aj) aj)<|g (bE (a+1)) d e f h i j l m o p q r s t) aj)<|k a d e f h i j l m o p q r s t
def r7a(N:aN)(g k x u:gj R)(a d e f:ay)(h i j l m o p q r s t:Row):aA R:=aD (ah (a<(h.length:ay))) (aD (ah (0<=a)&&ah (a<(h.length:ay))) (aD (ug.v (br (av h a.toNat 0)) (bN (av h a.toNat 1)) (bN (av h a.toNat (1+1))) (br (av h a.toNat (1+1+1))) d) (aD (ah (0<=a)&&ah (a<(h.length:ay))) (aD (b8 (i.length+(aP (aT [Ck.s,Ck.i ak,Ck.i ak,Ck.s] 1) 0 [.s (br (av h a.toNat 0)),.i ak (bN (av h a.toNat 1)),.i ak (bN (av h a.toNat (1+1))),.s (br (av h a.toNat (1+1+1)))]).length) 48) (k (bE (a+1)) d e f h (i++aP (aT [Ck.s,Ck.i ak,Ck.i ak,Ck.s] 1) 0 [.s (br (av h a.toNat 0)),.i ak (bN (av h a.toNat 1)),.i ak (bN (av h a.toNat (1+1))),.s (br (av h a.toNat (1+1+1)))]) j l m o p q r s t) aj) aj)<|k (bE (a+1)) d e f h i j l m o p q r s t) aj)<|u a d e f h i j l m o p q r s t
def l7a(N:aN)(a d:gj R):aN->gj R
 |0=>λ_ _ _ _ _ _ _ _ _ _ _ _ _ _ _=>aj
 |n+1=>r7a N (λo r s t u x y z e f h i j k m=>aj) (l7a N a d n) a d
def l7(N:aN)(a d:gj R):aN->gj R
 |0=>λ_ _ _ _ _ _ _ _ _ _ _ _ _ _ _=>aj
 |n+1=>r7 N (l7 N a d n) (l7a N a d n) a d
def b(N:aN)(K:jj R)(a:ay)(d e f h:Row)(i:ay)(j l:Row)(m:ay)(o p q:Row)(r s:ay)(t:au)(u:ay)(w:Row):aA R:=aD (vO.c o w) (ch (vO.v o w) λy=>aD y.2 (aD (rU.c y.1) (ch (rU.v y.1) λz=>l7 N (λ_ α _ _ _ A _ _ _ _ _ _ B H I=>aD (jq.c B A) (ch (jq.v B A) λC=>aD C.2 (aD (pM.c B C.1) (ch (pM.v B C.1) λk=>aD (ni.c α A) (ch (ni.v α A) λx=>K x.1 x.2.1 x.2.2.1 x.2.2.2.1 x.2.2.2.2.1 x.2.2.2.2.2.1 x.2.2.2.2.2.2.1 x.2.2.2.2.2.2.2.1 x.2.2.2.2.2.2.2.2 k.1 H I) aj) aj)<|aD (ni.c α A) (ch (ni.v α A) λk=>K k.1 k.2.1 k.2.2.1 k.2.2.2.1 k.2.2.2.2.1 k.2.2.2.2.2.1 k.2.2.2.2.2.2.1 k.2.2.2.2.2.2.2.1 k.2.2.2.2.2.2.2.2 B H I) aj) aj) (λ_ α _ _ _ A _ _ _ _ _ _ B H I=>aD (jq.c B A) (ch (jq.v B A) λC=>aD C.2 (aD (pM.c B C.1) (ch (pM.v B C.1) λk=>aD (ni.c α A) (ch (ni.v α A) λx=>K x.1 x.2.1 x.2.2.1 x.2.2.2.1 x.2.2.2.2.1 x.2.2.2.2.2.1 x.2.2.2.2.2.2.1 x.2.2.2.2.2.2.2.1 x.2.2.2.2.2.2.2.2 k.1 H I) aj) aj)<|aD (ni.c α A) (ch (ni.v α A) λk=>K k.1 k.2.1 k.2.2.1 k.2.2.2.1 k.2.2.2.2.1 k.2.2.2.2.2.1 k.2.2.2.2.2.2.1 k.2.2.2.2.2.2.2.1 k.2.2.2.2.2.2.2.2 B H I) aj) aj) N 0 a i m z (aT [Ck.s,Ck.i ak,Ck.i ak,Ck.s] 0) d e f h j l y.1 p q) aj)<|aD (rU.c o) (ch (rU.v o) λz=>l7a N (λ_ α _ _ _ A _ _ _ _ _ _ B H I=>aD (jq.c B A) (ch (jq.v B A) λC=>aD C.2 (aD (pM.c B C.1) (ch (pM.v B C.1) λk=>aD (ni.c α A) (ch (ni.v α A) λx=>K x.1 x.2.1 x.2.2.1 x.2.2.2.1 x.2.2.2.2.1 x.2.2.2.2.2.1 x.2.2.2.2.2.2.1 x.2.2.2.2.2.2.2.1 x.2.2.2.2.2.2.2.2 k.1 H I) aj) aj)<|aD (ni.c α A) (ch (ni.v α A) λk=>K k.1 k.2.1 k.2.2.1 k.2.2.2.1 k.2.2.2.2.1 k.2.2.2.2.2.1 k.2.2.2.2.2.2.1 k.2.2.2.2.2.2.2.1 k.2.2.2.2.2.2.2.2 B H I) aj) aj) (λ_ α _ _ _ A _ _ _ _ _ _ B H I=>aD (jq.c B A) (ch (jq.v B A) λC=>aD C.2 (aD (pM.c B C.1) (ch (pM.v B C.1) λk=>aD (ni.c α A) (ch (ni.v α A) λx=>K x.1 x.2.1 x.2.2.1 x.2.2.2.1 x.2.2.2.2.1 x.2.2.2.2.2.1 x.2.2.2.2.2.2.1 x.2.2.2.2.2.2.2.1 x.2.2.2.2.2.2.2.2 k.1 H I) aj) aj)<|aD (ni.c α A) (ch (ni.v α A) λk=>K k.1 k.2.1 k.2.2.1 k.2.2.2.1 k.2.2.2.2.1 k.2.2.2.2.2.1 k.2.2.2.2.2.2.1 k.2.2.2.2.2.2.2.1 k.2.2.2.2.2.2.2.2 B H I) aj) aj) N 0 a i m z (aT [Ck.s,Ck.i ak,Ck.i ak,Ck.s] 0) d e f h j l o p q) aj) aj
def vo:=b ck λa r1 r2 r3 r4 r5 r6 r7 r8 r9 wA wZ=>ai (a,r1,r2,r3,r4,r5,r6,r7,r8,r9,wA,wZ)
def c:=Df vo
def v:=DQ vo
theorem out{x}:DE vo c v x:=Hs
end vK
namespace Tg
def b(k:nC R)(a:ay)(d e f h:Row)(i:ay)(j l:Row)(m:ay)(o p q:Row)(r s:ay)(t:au)(u:ay)(w:Row):aA R:=aD (ah (r=1)) (aD (vJ.c a d e f h i j l m s t) (ch (vJ.v a d e f h i j l m s t) λy=>k y.2.2.2.2.2.2.2.2.2 y.1 y.2.1 y.2.2.1 y.2.2.2.1 y.2.2.2.2.1 y.2.2.2.2.2.1 y.2.2.2.2.2.2.1 y.2.2.2.2.2.2.2.1 y.2.2.2.2.2.2.2.2.1 o p q) aj)<|aD (ah (r=2)) (aD (Cx.c a d e f h i j l m s t) (ch (Cx.v a d e f h i j l m s t) λy=>k (zv.v y.2.2.2.2.2.2.2.2.2) y.1 y.2.1 y.2.2.1 y.2.2.2.1 y.2.2.2.2.1 y.2.2.2.2.2.1 y.2.2.2.2.2.2.1 y.2.2.2.2.2.2.2.1 y.2.2.2.2.2.2.2.2.1 o p q) aj)<|aD (ah (r=3)) (aD (Cy.c a d e f h i j l m o p q r s t u w) (ch (Cy.v a d e f h i j l m o p q r s t u w) λy=>k y.1 y.2.1 y.2.2.1 y.2.2.2.1 y.2.2.2.2.1 y.2.2.2.2.2.1 y.2.2.2.2.2.2.1 y.2.2.2.2.2.2.2.1 y.2.2.2.2.2.2.2.2.1 y.2.2.2.2.2.2.2.2.2.1 y.2.2.2.2.2.2.2.2.2.2.1 y.2.2.2.2.2.2.2.2.2.2.2.1 y.2.2.2.2.2.2.2.2.2.2.2.2) aj)<|aD (ah (r=4)) (aD (Cz.c a d e f h i j l m s) (ch (Cz.v a d e f h i j l m s) λy=>k (zv.v y.2.2.2.2.2.2.2.2.2) y.1 y.2.1 y.2.2.1 y.2.2.2.1 y.2.2.2.2.1 y.2.2.2.2.2.1 y.2.2.2.2.2.2.1 y.2.2.2.2.2.2.2.1 y.2.2.2.2.2.2.2.2.1 o p q) aj)<|aD (ah (r=5)) (aD (rR.c a d e f h i j l m u) (ch (rR.v a d e f h i j l m u) λy=>k 0 y.1 y.2.1 y.2.2.1 y.2.2.2.1 y.2.2.2.2.1 y.2.2.2.2.2.1 y.2.2.2.2.2.2.1 y.2.2.2.2.2.2.2.1 y.2.2.2.2.2.2.2.2 o p q) aj)<|aD (ah (r=6)) (aD (ud.c a d e f h i j l m s) (ch (ud.v a d e f h i j l m s) λy=>k (zv.v (ah ((y.2.2.2.2.2.2.2.1.length:ay)<(l.length:ay)))) y.1 y.2.1 y.2.2.1 y.2.2.2.1 y.2.2.2.2.1 y.2.2.2.2.2.1 y.2.2.2.2.2.2.1 y.2.2.2.2.2.2.2.1 y.2.2.2.2.2.2.2.2 o p q) aj)<|aD (ah (r=7)) (aD (vK.c a d e f h i j l m o p q r s t u w) (ch (vK.v a d e f h i j l m o p q r s t u w) λy=>k 0 y.1 y.2.1 y.2.2.1 y.2.2.2.1 y.2.2.2.2.1 y.2.2.2.2.2.1 y.2.2.2.2.2.2.1 y.2.2.2.2.2.2.2.1 y.2.2.2.2.2.2.2.2.1 y.2.2.2.2.2.2.2.2.2.1 y.2.2.2.2.2.2.2.2.2.2.1 y.2.2.2.2.2.2.2.2.2.2.2) aj)<|k 0 a d e f h i j l m o p q
def vo:=b λd r1 r2 r3 r4 r5 r6 r7 r8 r9 wA wZ a=>ai (d,r1,r2,r3,r4,r5,r6,r7,r8,r9,wA,wZ,a)
def c:=Df vo
def v:=DQ vo
theorem out{x}:DE vo c v x:=Hs
end Tg
namespace PK
def b(k:jj R)(a:ay)(d e f h:Row)(i:ay)(j l:Row)(m:ay)(o p q:Row)(r s:ay)(t:au)(u:ay)(w:Row):aA R:=aD (Tg.c a d e f h i j l m o p q r s t u w) (ch (Tg.v a d e f h i j l m o p q r s t u w) λy=>aD (b8 ((aT [Ck.i ak] 0).length+y.2.2.2.2.2.2.2.2.2.2.2.1.length) 8) (aD (b8 ((aT [Ck.i ak] 0++y.2.2.2.2.2.2.2.2.2.2.2.1).length+(aP (aT [Ck.i ak] 1) 0 [.i ak y.1]).length) 8) (k y.2.1 y.2.2.1 y.2.2.2.1 y.2.2.2.2.1 y.2.2.2.2.2.1 y.2.2.2.2.2.2.1 y.2.2.2.2.2.2.2.1 y.2.2.2.2.2.2.2.2.1 y.2.2.2.2.2.2.2.2.2.1 y.2.2.2.2.2.2.2.2.2.2.1 (aT [Ck.i ak] 0++y.2.2.2.2.2.2.2.2.2.2.2.1++aP (aT [Ck.i ak] 1) 0 [.i ak y.1]) y.2.2.2.2.2.2.2.2.2.2.2.2) aj) aj) aj
def vo:=b λa r1 r2 r3 r4 r5 r6 r7 r8 r9 wA wZ=>ai (a,r1,r2,r3,r4,r5,r6,r7,r8,r9,wA,wZ)
def c:=Df vo
def v:=DQ vo
theorem out{x}:DE vo c v x:=Hs
end PK
namespace S'
def b(k:jj R)(a:ay)(d e f h:Row)(i:ay)(j l:Row)(m:ay)(o p q:Row):aA R:=aD (kt.c a d e f h i j l m) (ch (kt.v a d e f h i j l m) λr=>aD (b8 ((aT [Ck.s,Ck.s,Ck.i ak] 0).length+o.length) 40) (aD (b8 ((aT [Ck.i ak] 0).length+p.length) 8) (aD (b8 ((aT [Ck.s,Ck.i ak,Ck.i ak,Ck.s] 0).length+q.length) 48) (k r.1 r.2.1 r.2.2.1 r.2.2.2.1 r.2.2.2.2.1 r.2.2.2.2.2.1 r.2.2.2.2.2.2.1 r.2.2.2.2.2.2.2.1 r.2.2.2.2.2.2.2.2 (aT [Ck.s,Ck.s,Ck.i ak] 0++o) (aT [Ck.i ak] 0++p) (aT [Ck.s,Ck.i ak,Ck.i ak,Ck.s] 0++q)) aj) aj) aj) aj
def vo:=b λa r1 r2 r3 r4 r5 r6 r7 r8 r9 wA wZ=>ai (a,r1,r2,r3,r4,r5,r6,r7,r8,r9,wA,wZ)
def c:=Xv vo
def v:=aak vo
theorem out{x}:Y6 vo c v x:=agM
end S'
namespace KG
def wA(N:aN)(g k:kS R)(a:Row)(d e f h i j l:ay)(m o p q r s t u w:Row):aA R:=aD (ah (d<(a.length:ay))) (aD (ah (0<=d)&&ah (d<(a.length:ay))) (aD (PK.c i m o p q j r s l t u w (bN (av a d.toNat 0)) (bN (av a d.toNat 1)) (br (av a d.toNat (1+1))) (bN (av a d.toNat (1+1+1))) (iH (av a d.toNat (1+1+1+1)))) (ch (PK.v i m o p q j r s l t u w (bN (av a d.toNat 0)) (bN (av a d.toNat 1)) (br (av a d.toNat (1+1))) (bN (av a d.toNat (1+1+1))) (iH (av a d.toNat (1+1+1+1)))) λy=>g a (bE (d+1)) e f h y.1 y.2.2.2.2.2.1 y.2.2.2.2.2.2.2.2.1 y.2.1 y.2.2.1 y.2.2.2.1 y.2.2.2.2.1 y.2.2.2.2.2.2.1 y.2.2.2.2.2.2.2.1 y.2.2.2.2.2.2.2.2.2.1 y.2.2.2.2.2.2.2.2.2.2.1 y.2.2.2.2.2.2.2.2.2.2.2) aj) aj)<|k a d e f h i j l m o p q r s t u w
def l10(N:aN)(a:kS R):aN->kS R
 |0=>λ_ _ _ _ _ _ _ _ _ _ _ _ _ _ _ _ _=>aj
 |n+1=>wA N (l10 N a n) a
def r3(N:aN)(g j:AK R)(a:Row)(d:aY)(e f h i:ay):aA R:=aD (ah (e<(a.length:ay))) (aD d (aD (ah (0<=e)&&ah (e<(a.length:ay))) (g a (Xp.v (bN (av a e.toNat 0)) (bN (av a e.toNat 1)) (br (av a e.toNat (1+1))) (bN (av a e.toNat (1+1+1))) (iH (av a e.toNat (1+1+1+1)))) (bE (e+1)) f h i) aj)<|j a d e f h i)<|j a d e f h i
def l3(N:aN)(a:AK R):aN->AK R
 |0=>λ_ _ _ _ _ _=>aj
 |n+1=>r3 N (l3 N a n) a
def b(N:aN)(k:rI R)(a:Row):aA R:=l3 N (λd e _ f h i=>aD (!e) (k 0 [] [] [] [] 0 [] [] 0 [] [] [] aq)<|l10 N (λ_ _ _ _ _ j l m o p q r s t u w y=>aD (S'.c j o p q r l s t m u w y) (ch (S'.v j o p q r l s t m u w y) λz=>k z.1 z.2.1 z.2.2.1 z.2.2.2.1 z.2.2.2.2.1 z.2.2.2.2.2.1 z.2.2.2.2.2.2.1 z.2.2.2.2.2.2.2.1 z.2.2.2.2.2.2.2.2.1 z.2.2.2.2.2.2.2.2.2.1 z.2.2.2.2.2.2.2.2.2.2.1 z.2.2.2.2.2.2.2.2.2.2.2 ao) aj) N d 0 f h i 1 0 0 [] [] [] ([]++aP (aT [Ck.l 3] 1) 0 [CV.l 3 (aT [Ck.i ak] (aR 16))]++aP (aT [Ck.l 3] 1) 0 [CV.l 3 (aT [Ck.i ak] (aR 16))]++aP (aT [Ck.l 3] 1) 0 [CV.l 3 (aT [Ck.i ak] (aR 16))]) [] [] [] [] []) N a (ah ((a.length:ay)<=70)) 0 0 0 0
def vo:=b ck λd r1 r2 r3 r4 r5 r6 r7 r8 r9 wA wZ a=>ai (d,r1,r2,r3,r4,r5,r6,r7,r8,r9,wA,wZ,a)
def c:=ka vo
def v:=ko vo
theorem out{x}:ki vo c v x:=kL
end KG
namespace yW
def b(d:au->aA R)(a:ay):aA R:=aD (ah (a<0)) (d (az #[ar 48]))<|aD (zV.c a) (d (zV.v a)) aj
def vo:=b λa=>ai a
def c:=ka vo
def v:=ko vo
theorem out{x}:ki vo c v x:=kL
end yW
namespace Io
def r3(N:aN)(g k:pF R)(a:au)(d e:ay)(f h i j:Row)(l:ay)(m o:Row)(p:ay):aA R:=aD (ah (d<(o.length:ay))) (aD (ah (0<=d)&&ah (d<(o.length:ay))) (aD (ah (bN (av o d.toNat (1+1+1+1))=1)) (aD (ah (bN (av o d.toNat (1+1+1+1))=2)) (aD (yW.c (bN (av o d.toNat 0))) (ch (yW.v (bN (av o d.toNat 0))) λq=>aD (ah (a.size+q.size<=4611686018427387904)) (aD (ah ((a++q).size+bC (az #[ar 32])<=4611686018427387904)) (aD (ah ((a++q++(az #[ar 32])).size+bC (az #[ar 100,ar 111,ar 110,ar 101])<=4611686018427387904)) (aD (ah ((a++q++(az #[ar 32])++(az #[ar 100,ar 111,ar 110,ar 101])).size+bC (az #[ar 32])<=4611686018427387904)) (aD (yW.c (bN (av o d.toNat (1+1+1+1+1+1)))) (ch (yW.v (bN (av o d.toNat (1+1+1+1+1+1)))) λr=>aD (ah ((a++q++(az #[ar 32])++(az #[ar 100,ar 111,ar 110,ar 101])++(az #[ar 32])).size+r.size<=4611686018427387904)) (aD (ah ((a++q++(az #[ar 32])++(az #[ar 100,ar 111,ar 110,ar 101])++(az #[ar 32])++r).size+bC (az #[ar 32])<=4611686018427387904)) (aD (ah ((a++q++(az #[ar 32])++(az #[ar 100,ar 111,ar 110,ar 101])++(az #[ar 32])++r++(az #[ar 32])).size+(br (av o d.toNat (1+1+1+1+1))).size<=4611686018427387904)) (aD (ah ((a++q++(az #[ar 32])++(az #[ar 100,ar 111,ar 110,ar 101])++(az #[ar 32])++r++(az #[ar 32])++br (av o d.toNat (1+1+1+1+1))).size+bC (az #[ar 10])<=4611686018427387904)) (g (a++q++(az #[ar 32])++(az #[ar 100,ar 111,ar 110,ar 101])++(az #[ar 32])++r++(az #[ar 32])++br (av o d.toNat (1+1+1+1+1))++(az #[ar 10])) (bE (d+1)) e f h i j l m o p) aj) aj) aj) aj) aj) aj) aj) aj) aj) aj)<|aD (yW.c (bN (av o d.toNat 0))) (ch (yW.v (bN (av o d.toNat 0))) λq=>aD (ah (a.size+q.size<=4611686018427387904)) (aD (ah ((a++q).size+bC (az #[ar 32])<=4611686018427387904)) (aD (ah ((a++q++(az #[ar 32])).size+bC (az #[ar 119,ar 97,ar 105,ar 116,ar 115])<=4611686018427387904)) (aD (ah ((a++q++(az #[ar 32])++(az #[ar 119,ar 97,ar 105,ar 116,ar 115])).size+bC (az #[ar 32])<=4611686018427387904)) (aD (yW.c (bN (av o d.toNat (1+1+1+1+1+1)))) (ch (yW.v (bN (av o d.toNat (1+1+1+1+1+1)))) λr=>aD (ah ((a++q++(az #[ar 32])++(az #[ar 119,ar 97,ar 105,ar 116,ar 115])++(az #[ar 32])).size+r.size<=4611686018427387904)) (aD (ah ((a++q++(az #[ar 32])++(az #[ar 119,ar 97,ar 105,ar 116,ar 115])++(az #[ar 32])++r).size+bC (az #[ar 32])<=4611686018427387904)) (aD (ah ((a++q++(az #[ar 32])++(az #[ar 119,ar 97,ar 105,ar 116,ar 115])++(az #[ar 32])++r++(az #[ar 32])).size+(br (av o d.toNat (1+1+1+1+1))).size<=4611686018427387904)) (aD (ah ((a++q++(az #[ar 32])++(az #[ar 119,ar 97,ar 105,ar 116,ar 115])++(az #[ar 32])++r++(az #[ar 32])++br (av o d.toNat (1+1+1+1+1))).size+bC (az #[ar 10])<=4611686018427387904)) (g (a++q++(az #[ar 32])++(az #[ar 119,ar 97,ar 105,ar 116,ar 115])++(az #[ar 32])++r++(az #[ar 32])++br (av o d.toNat (1+1+1+1+1))++(az #[ar 10])) (bE (d+1)) e f h i j l m o p) aj) aj) aj) aj) aj) aj) aj) aj) aj) aj)<|aD (ah (bN (av o d.toNat (1+1+1+1))=2)) (aD (yW.c (bN (av o d.toNat 0))) (ch (yW.v (bN (av o d.toNat 0))) λq=>aD (ah (a.size+q.size<=4611686018427387904)) (aD (ah ((a++q).size+bC (az #[ar 32])<=4611686018427387904)) (aD (ah ((a++q++(az #[ar 32])).size+bC (az #[ar 100,ar 111,ar 110,ar 101])<=4611686018427387904)) (aD (ah ((a++q++(az #[ar 32])++(az #[ar 100,ar 111,ar 110,ar 101])).size+bC (az #[ar 32])<=4611686018427387904)) (aD (yW.c (bN (av o d.toNat (1+1+1+1+1+1)))) (ch (yW.v (bN (av o d.toNat (1+1+1+1+1+1)))) λr=>aD (ah ((a++q++(az #[ar 32])++(az #[ar 100,ar 111,ar 110,ar 101])++(az #[ar 32])).size+r.size<=4611686018427387904)) (aD (ah ((a++q++(az #[ar 32])++(az #[ar 100,ar 111,ar 110,ar 101])++(az #[ar 32])++r).size+bC (az #[ar 32])<=4611686018427387904)) (aD (ah ((a++q++(az #[ar 32])++(az #[ar 100,ar 111,ar 110,ar 101])++(az #[ar 32])++r++(az #[ar 32])).size+(br (av o d.toNat (1+1+1+1+1))).size<=4611686018427387904)) (aD (ah ((a++q++(az #[ar 32])++(az #[ar 100,ar 111,ar 110,ar 101])++(az #[ar 32])++r++(az #[ar 32])++br (av o d.toNat (1+1+1+1+1))).size+bC (az #[ar 10])<=4611686018427387904)) (g (a++q++(az #[ar 32])++(az #[ar 100,ar 111,ar 110,ar 101])++(az #[ar 32])++r++(az #[ar 32])++br (av o d.toNat (1+1+1+1+1))++(az #[ar 10])) (bE (d+1)) e f h i j l m o p) aj) aj) aj) aj) aj) aj) aj) aj) aj) aj)<|aD (yW.c (bN (av o d.toNat 0))) (ch (yW.v (bN (av o d.toNat 0))) λq=>aD (ah (a.size+q.size<=4611686018427387904)) (aD (ah ((a++q).size+bC (az #[ar 32])<=4611686018427387904)) (aD (ah ((a++q++(az #[ar 32])).size+bC (az #[ar 102,ar 97,ar 105,ar 108,ar 101,ar 100])<=4611686018427387904)) (aD (ah ((a++q++(az #[ar 32])++(az #[ar 102,ar 97,ar 105,ar 108,ar 101,ar 100])).size+bC (az #[ar 32])<=4611686018427387904)) (aD (yW.c (bN (av o d.toNat (1+1+1+1+1+1)))) (ch (yW.v (bN (av o d.toNat (1+1+1+1+1+1)))) λr=>aD (ah ((a++q++(az #[ar 32])++(az #[ar 102,ar 97,ar 105,ar 108,ar 101,ar 100])++(az #[ar 32])).size+r.size<=4611686018427387904)) (aD (ah ((a++q++(az #[ar 32])++(az #[ar 102,ar 97,ar 105,ar 108,ar 101,ar 100])++(az #[ar 32])++r).size+bC (az #[ar 32])<=4611686018427387904)) (aD (ah ((a++q++(az #[ar 32])++(az #[ar 102,ar 97,ar 105,ar 108,ar 101,ar 100])++(az #[ar 32])++r++(az #[ar 32])).size+(br (av o d.toNat (1+1+1+1+1))).size<=4611686018427387904)) (aD (ah ((a++q++(az #[ar 32])++(az #[ar 102,ar 97,ar 105,ar 108,ar 101,ar 100])++(az #[ar 32])++r++(az #[ar 32])++br (av o d.toNat (1+1+1+1+1))).size+bC (az #[ar 10])<=4611686018427387904)) (g (a++q++(az #[ar 32])++(az #[ar 102,ar 97,ar 105,ar 108,ar 101,ar 100])++(az #[ar 32])++r++(az #[ar 32])++br (av o d.toNat (1+1+1+1+1))++(az #[ar 10])) (bE (d+1)) e f h i j l m o p) aj) aj) aj) aj) aj) aj) aj) aj) aj) aj) aj)<|k a d e f h i j l m o p
def l3(N:aN)(a:pF R):aN->pF R
 |0=>λ_ _ _ _ _ _ _ _ _ _ _=>aj
 |n+1=>r3 N (l3 N a n) a
def b(N:aN)(k:au->aA R)(a:ay)(d e f h:Row)(i:ay)(j l:Row)(m:ay):aA R:=l3 N (λo _ _ _ _ _ _ _ _ _ _=>k o) N ⟨#[]⟩ 0 a d e f h i j l m
def vo:=b ck λa=>ai a
def c:=zE vo
def v:=zI vo
theorem out{x}:zH vo c v x:=BH
end Io
namespace U6
def Ns(N:aN)(g k:iz R)(a:au)(d e f h:ay)(i j l m o p q r s:Row):aA R:=aD (ah (d<(i.length:ay))) (aD (ah (a.size+bC (az #[ar 32])<=4611686018427387904)) (aD (ah (0<=d)&&ah (d<(i.length:ay))) (aD (ah ((a++(az #[ar 32])).size+(br (av i d.toNat 0)).size<=4611686018427387904)) (g (a++(az #[ar 32])++br (av i d.toNat 0)) (bE (d+1)) e f h i j l m o p q r s) aj) aj) aj)<|k a d e f h i j l m o p q r s
def CN(N:aN)(a:iz R):aN->iz R
 |0=>λ_ _ _ _ _ _ _ _ _ _ _ _ _ _=>aj
 |n+1=>Ns N (CN N a n) a
def r7(N:aN)(g k:iz R)(a:au)(d e f h:ay)(i j l m o p q r s:Row):aA R:=aD (ah (d<(r.length:ay))) (aD (ah (d>0)) (aD (ah (a.size+bC (az #[ar 32])<=4611686018427387904)) (aD (ah (0<=d)&&ah (d<(r.length:ay))) (aD (zV.c (bN (av r d.toNat 0))) (ch (zV.v (bN (av r d.toNat 0))) λt=>aD (ah ((a++(az #[ar 32])).size+t.size<=4611686018427387904)) (g (a++(az #[ar 32])++t) (bE (d+1)) e f h i j l m o p q r s) aj) aj) aj) aj)<|aD (ah (0<=d)&&ah (d<(r.length:ay))) (aD (zV.c (bN (av r d.toNat 0))) (ch (zV.v (bN (av r d.toNat 0))) λt=>aD (ah (a.size+t.size<=4611686018427387904)) (g (a++t) (bE (d+1)) e f h i j l m o p q r s) aj) aj) aj)<|k a d e f h i j l m o p q r s
def l7(N:aN)(a:iz R):aN->iz R
 |0=>λ_ _ _ _ _ _ _ _ _ _ _ _ _ _=>aj
 |n+1=>r7 N (l7 N a n) a
def b(N:aN)(k:au->aA R)(a:au):aA R:=aD (NQ.c a) (ch (NQ.v a) λd=>aD (d.2 !=0) (aD (zV.c d.2) (ch (zV.v d.2) λe=>aD (ah (bC (az #[ar 102,ar 97,ar 117,ar 108,ar 116,ar 32])+e.size<=4611686018427387904)) (aD (ah (((az #[ar 102,ar 97,ar 117,ar 108,ar 116,ar 32])++e).size+bC (az #[ar 10])<=4611686018427387904)) (k ((az #[ar 102,ar 97,ar 117,ar 108,ar 116,ar 32])++e++(az #[ar 10]))) aj) aj) aj)<|aD (KG.c d.1) (ch (KG.v d.1) λe=>l7 N (λf _ h i j l m o p q r s t u=>aD (ah ((t.length:ay)>0)) (aD (ah (f.size+bC (az #[ar 10])<=4611686018427387904)) (aD (Io.c h l m o p i q r j) (ch (Io.v h l m o p i q r j) λw=>aD (ah ((f++(az #[ar 10])).size+w.size<=4611686018427387904)) (aD (ah ((f++(az #[ar 10])++w).size+bC (az #[ar 104,ar 105,ar 116,ar 115,ar 32])<=4611686018427387904)) (aD (zV.c j) (ch (zV.v j) λy=>aD (ah ((f++(az #[ar 10])++w++(az #[ar 104,ar 105,ar 116,ar 115,ar 32])).size+y.size<=4611686018427387904)) (aD (ah ((f++(az #[ar 10])++w++(az #[ar 104,ar 105,ar 116,ar 115,ar 32])++y).size+bC (az #[ar 32,ar 107,ar 101,ar 112,ar 116])<=4611686018427387904)) (CN N (λz _ _ _ _ _ _ _ _ _ _ _ _ _=>aD (ah (z.size+bC (az #[ar 10])<=4611686018427387904)) (k (z++(az #[ar 10]))) aj) N (f++(az #[ar 10])++w++(az #[ar 104,ar 105,ar 116,ar 115,ar 32])++y++(az #[ar 32,ar 107,ar 101,ar 112,ar 116])) 0 h i j l m o p q r s t u) aj) aj) aj) aj) aj) aj) aj)<|aD (Io.c h l m o p i q r j) (ch (Io.v h l m o p i q r j) λw=>aD (ah (f.size+w.size<=4611686018427387904)) (aD (ah ((f++w).size+bC (az #[ar 104,ar 105,ar 116,ar 115,ar 32])<=4611686018427387904)) (aD (zV.c j) (ch (zV.v j) λy=>aD (ah ((f++w++(az #[ar 104,ar 105,ar 116,ar 115,ar 32])).size+y.size<=4611686018427387904)) (aD (ah ((f++w++(az #[ar 104,ar 105,ar 116,ar 115,ar 32])++y).size+bC (az #[ar 32,ar 107,ar 101,ar 112,ar 116])<=4611686018427387904)) (CN N (λz _ _ _ _ _ _ _ _ _ _ _ _ _=>aD (ah (z.size+bC (az #[ar 10])<=4611686018427387904)) (k (z++(az #[ar 10]))) aj) N (f++w++(az #[ar 104,ar 105,ar 116,ar 115,ar 32])++y++(az #[ar 32,ar 107,ar 101,ar 112,ar 116])) 0 h i j l m o p q r s t u) aj) aj) aj) aj) aj) aj) N ⟨#[]⟩ 0 e.1 e.2.2.2.2.2.1 e.2.2.2.2.2.2.2.2.1 e.2.1 e.2.2.1 e.2.2.2.1 e.2.2.2.2.1 e.2.2.2.2.2.2.1 e.2.2.2.2.2.2.2.1 e.2.2.2.2.2.2.2.2.2.1 e.2.2.2.2.2.2.2.2.2.2.1 e.2.2.2.2.2.2.2.2.2.2.2.1) aj) aj
def vo:=b ck λa=>ai a
def c:=ka vo
def v:=ko vo
theorem out{x}:ki vo c v x:=kL
end U6
namespace yj
def c(s t:au):aY:=eS s.size 4000000000&&bK t.size 1
def v(s t:au):Row:=(_root_.Go.Lib.splitB t 0 (_root_.Go.Lib.countB s t) s).map λx=>[CV.s x]
end yj
namespace j4
def b(f:aY->aA R)(a d e:ay):aA R:=aD (ah (a≥d)) (f (ah (a<=e)))<|f aq
def v(a a1 a2:ay):aY:=aD (ah (a≥a1)) (ah (a<=a2)) aq
theorem dW(d:aY->aA R)(a a1 a2:ay):b d a a1 a2=d (v a a1 a2):=by first|rfl|(unfold b v;simp only[cj];(repeat' split)<;>rfl)
end j4
namespace o7
def wA(N:aN)(g h:mH R)(a:Row)(d e:ay)(f:Row):aA R:=aD (ah (e<d)) (aD (ah (0<=e)&&ah (e<(a.length:ay))) (aD (!List.beq (br (av a e.toNat 0)).toList (aG ⟨#[]⟩)) (aD (b8 (f.length+(aP (aT [.s] 1) 0 [.s (br (av a e.toNat 0))]).length) 16) (g a d (bE (e+1)) (f++aP (aT [.s] 1) 0 [.s (br (av a e.toNat 0))])) aj)<|g a d (bE (e+1)) f) aj)<|h a d e f
def l10(N:aN)(a:mH R):aN->mH R
 |0=>λ_ _ _ _=>aj
 |n+1=>wA N (l10 N a n) a
def r5(N:aN)(g h i:Ih R)(a:au)(d:aY)(e:ay)(f:Row):aA R:=aD (ah (e<(a.size:ay))) (aD (ah (0<=e)&&ah (e<(a.size:ay))) (aD (!j4.v (bE (↑(fF a e.toNat):ay)) 32 126) (h a aq e f)<|g a d (bE (e+1)) f) aj)<|i a d e f
def l5(N:aN)(a d:Ih R):aN->Ih R
 |0=>λ_ _ _ _=>aj
 |n+1=>r5 N (l5 N a d n) a d
def b(N:aN)(h:uM R)(a:au):aA R:=aD (ah ((a.size:ay)>600)) (h [] aq)<|l5 N (λ_ d _ _=>h [] d) (λd _ _ e=>aD (yj.c d (az #[ar 32])) (l10 N (λ_ _ _ f=>aD (ah ((f.length:ay)>10)) (h [] aq)<|h f ao) N (yj.v d (az #[ar 32])) ((yj.v d (az #[ar 32])).length:ay) 0 e) aj) N a aq 0 (aT [.s] 0)
def vo:=b ck λa r1=>ai (a,r1)
def c:=ka vo
def v:=ko vo
theorem out{x}:ki vo c v x:=kL
end o7
namespace H2
def b(d:TJ R)(a:au):aA R:=aD (cQ (aG a) (aG (az #[ar 97,ar 115,ar 107]))) (d 1 (az #[ar 105,ar 116]))<|aD (cQ (aG a) (aG (az #[ar 112,ar 97,ar 114,ar 116]))) (d 2 (az #[ar 105,ar 116]))<|aD (cQ (aG a) (aG (az #[ar 99,ar 108,ar 111,ar 115,ar 101]))) (d 3 (az #[ar 105,ar 110]))<|aD (cQ (aG a) (aG (az #[ar 98,ar 114,ar 101,ar 97,ar 107]))) (d 4 (az #[ar 105]))<|aD (cQ (aG a) (aG (az #[ar 112,ar 97,ar 115,ar 115]))) (d 5 (az #[ar 110]))<|aD (cQ (aG a) (aG (az #[ar 108,ar 101,ar 97,ar 118,ar 101]))) (d 6 (az #[ar 105]))<|aD (cQ (aG a) (aG (az #[ar 102,ar 97,ar 108,ar 108]))) (d 7 ⟨#[]⟩)<|d 0 ⟨#[]⟩
def v(a:au):ay×au:=aD (cQ (aG a) (aG (az #[ar 97,ar 115,ar 107]))) (1,(az #[ar 105,ar 116]))<|aD (cQ (aG a) (aG (az #[ar 112,ar 97,ar 114,ar 116]))) (2,(az #[ar 105,ar 116]))<|aD (cQ (aG a) (aG (az #[ar 99,ar 108,ar 111,ar 115,ar 101]))) (3,(az #[ar 105,ar 110]))<|aD (cQ (aG a) (aG (az #[ar 98,ar 114,ar 101,ar 97,ar 107]))) (4,(az #[ar 105]))<|aD (cQ (aG a) (aG (az #[ar 112,ar 97,ar 115,ar 115]))) (5,(az #[ar 110]))<|aD (cQ (aG a) (aG (az #[ar 108,ar 101,ar 97,ar 118,ar 101]))) (6,(az #[ar 105]))<|aD (cQ (aG a) (aG (az #[ar 102,ar 97,ar 108,ar 108]))) (7,(az #[])) (0,(az #[]))
theorem dW(d:TJ R)(a:au):b d a=d ((v a).1) ((v a).2):=by first|rfl|(unfold b v;simp only[cj];(repeat' split)<;>rfl)
end H2
namespace wY
def c(s:au):aY:=eS s.size 140737488355328
def v(s:au):ay×aY:=
 match _root_.Go.Lib.atoiAll s.data.toList with
 |.ok n=>bif ah (0<=n)&&ah (n<=1000000000)&&(_root_.Go.Lib.itoa n==s.data.toList)then(n,ao)else(0,aq)
 |_=>(0,aq)
end wY
namespace KI
def b(i:aY->aA R)(a d:ay)(e:au)(f:ay)(h:Row):aA R:=aD (j4.v a 1 7) (aD (j4.v d 0 30) (aD (ah ((e.size:ay)<=60)) (aD (ah (f≥0)) (i (ah ((h.length:ay)<=4)))<|i aq)<|i aq)<|i aq)<|i aq
def v(a a1:ay)(a2:au)(a3:ay)(a4:Row):aY:=aD (j4.v a 1 7) (aD (j4.v a1 0 30) (aD (ah ((a2.size:ay)<=60)) (aD (ah (a3≥0)) (ah ((a4.length:ay)<=4)) aq) aq) aq) aq
theorem dW(d:aY->aA R)(a a1:ay)(a2:au)(a3:ay)(a4:Row):b d a a1 a2 a3 a4=d (v a a1 a2 a3 a4):=by first|rfl|(unfold b v;simp only[cj];(repeat' split)<;>rfl)
end KI
namespace C'
def r3(N:aN)(g:iC R)(k:gZ R)(r s:iC R)(t k3:gZ R)(a:aY)(d:Row)(e f h i:ay)(j:au)(l m o:ay)(p:au)(q:ay):aA R:=aD (ah (f<e)) (aD (ah (0<=f)&&ah (f<(d.length:ay))) (aD (wY.c (br (av d f.toNat 0))) (aD (!(wY.v (br (av d f.toNat 0))).2) (r aq d e f m o p q m o p q)<|k a d e (bE (f+1)) h i j l m o p q ([]++aP (aT [Ck.i ak] 1) 0 [.i ak (wY.v (br (av d f.toNat 0))).1])) aj) aj)<|s a d e f h i j l m o p q
def uw(N:aN)(g:iC R)(k:gZ R)(t u:iC R)(s k3:gZ R)(a:aY)(d:Row)(e f h i:ay)(j:au)(l m o:ay)(p:au)(q:ay)(r:Row):aA R:=aD (ah (f<e)) (aD (ah (0<=f)&&ah (f<(d.length:ay))) (aD (wY.c (br (av d f.toNat 0))) (aD (!(wY.v (br (av d f.toNat 0))).2) (s aq d e f m o p q m o p q r)<|aD (b8 (r.length+(aP (aT [Ck.i ak] 1) 0 [.i ak (wY.v (br (av d f.toNat 0))).1]).length) 8) (k a d e (bE (f+1)) h i j l m o p q (r++aP (aT [Ck.i ak] 1) 0 [.i ak (wY.v (br (av d f.toNat 0))).1])) aj) aj) aj)<|k3 a d e f h i j l m o p q r
def nT(N:aN)(a d:iC R)(e k3:gZ R):aN->gZ R
 |0=>λ_ _ _ _ _ _ _ _ _ _ _ _ _=>aj
 |n+1=>uw N (λi j k m o r s t u x f h=>aj) (nT N a d e k3 n) a d e k3
def l3(N:aN)(a d:iC R)(e k3:gZ R):aN->iC R
 |0=>λ_ _ _ _ _ _ _ _ _ _ _ _=>aj
 |n+1=>r3 N (l3 N a d e k3 n) (nT N a d e k3 n) a d e k3
def b(N:aN)(k:AH R)(a:Row):aA R:=l3 N (λd _ _ _ e f h i _ _ _ _=>k e f h i [] d) (λ_ _ _ _ _ _ _ _ d e f h=>k d e f h [] (KI.v d e f h [])) (λd _ _ _ e f h i _ _ _ _ j=>k e f h i j d) (λ_ _ _ _ _ _ _ _ d e f h i=>k d e f h i (KI.v d e f h i)) N aq a (a.length:ay) 0 0 0 ⟨#[]⟩ 0 7 0 ⟨#[]⟩ 0
def vo:=b ck λa r1 r2 r3 r4 r5=>ai (a,r1,r2,r3,r4,r5)
def c:=ka vo
def v:=ko vo
theorem out{x}:ki vo c v x:=kL
end C'
namespace sE
def r8(N:aN)(g k s:nB R)(a:aY)(d:au)(e:Row)(f h i j:ay)(l:au)(m o p:ay)(q:au)(r:ay):aA R:=aD (ah (h<f)) (aD (ah (0<=h)&&ah (h<(e.length:ay))) (aD (wY.c (br (av e h.toNat 0))) (aD (ah (0<=h)&&ah (h<(d.size:ay))) (aD (ah ((↑(fF d h.toNat):ay)=105)) (aD (!(wY.v (br (av e h.toNat 0))).2) (k aq d e f h o (wY.v (br (av e h.toNat 0))).1 q r o (wY.v (br (av e h.toNat 0))).1 q r)<|g a d e f (bE (h+1)) i j l m o (wY.v (br (av e h.toNat 0))).1 q r)<|aD (ah ((↑(fF d h.toNat):ay)=110)) (aD (!(wY.v (br (av e h.toNat 0))).2) (k aq d e f h o p q (wY.v (br (av e h.toNat 0))).1 o p q (wY.v (br (av e h.toNat 0))).1)<|g a d e f (bE (h+1)) i j l m o p q (wY.v (br (av e h.toNat 0))).1)<|g a d e f (bE (h+1)) i j l m o p (br (av e h.toNat 0)) r) aj) aj) aj)<|s a d e f h i j l m o p q r
def l8(N:aN)(a d:nB R):aN->nB R
 |0=>λ_ _ _ _ _ _ _ _ _ _ _ _ _=>aj
 |n+1=>r8 N (l8 N a d n) a d
def b(N:aN)(j:AH R)(a:Row):aA R:=aD (ah (0<(a.length:ay))) (aD (ah ((H2.v (br (av a (aR 0) 0))).1=7)) (aD (fU 1 (a.length:ay) (a.length:ay)) (aD (C'.c (dR a (aR 1) (a.length:ay).toNat)) (j (C'.v (dR a (aR 1) (a.length:ay).toNat)).1 (C'.v (dR a (aR 1) (a.length:ay).toNat)).2.1 (C'.v (dR a (aR 1) (a.length:ay).toNat)).2.2.1 (C'.v (dR a (aR 1) (a.length:ay).toNat)).2.2.2.1 (C'.v (dR a (aR 1) (a.length:ay).toNat)).2.2.2.2.1 (C'.v (dR a (aR 1) (a.length:ay).toNat)).2.2.2.2.2) aj) aj)<|aD (ah ((H2.v (br (av a (aR 0) 0))).1=0)) (j (H2.v (br (av a (aR 0) 0))).1 0 ⟨#[]⟩ 0 [] aq)<|aD ((a.length:ay) !=bE (((H2.v (br (av a (aR 0) 0))).2.size:ay)+1)) (j (H2.v (br (av a (aR 0) 0))).1 0 ⟨#[]⟩ 0 [] aq)<|aD (fU 1 (a.length:ay) (a.length:ay)) (l8 N (λd _ _ _ _ e f h i _ _ _ _=>j e f h i [] d) (λ_ _ _ _ _ _ _ _ _ d e f h=>j d e f h [] (KI.v d e f h [])) N aq (H2.v (br (av a (aR 0) 0))).2 (dR a (aR 1) (a.length:ay).toNat) ((dR a (aR 1) (a.length:ay).toNat).length:ay) 0 0 0 ⟨#[]⟩ 0 (H2.v (br (av a (aR 0) 0))).1 0 ⟨#[]⟩ 0) aj) aj
def vo:=b ck λa r1 r2 r3 r4 r5=>ai (a,r1,r2,r3,r4,r5)
def c:=ka vo
def v:=ko vo
theorem out{x}:ki vo c v x:=kL
end sE
namespace NR
def r8(N:aN)(g j k:zL R)(a:ay)(d:Row)(e f:ay)(h:Row):aA R:=aD (ah (f<e)) (aD (ah (0<=f)&&ah (f<(d.length:ay))) (aD (o7.c (br (av d f.toNat 0))) (aD ((o7.v (br (av d f.toNat 0))).2) (aD (ah (((o7.v (br (av d f.toNat 0))).1.length:ay)=0)) (g a d e (bE (f+1)) h)<|aD (ah (0<((o7.v (br (av d f.toNat 0))).1.length:ay))) (aD (ah (0<((br (av (o7.v (br (av d f.toNat 0))).1 (aR 0) 0)).size:ay))) (aD (ah ((↑(fF (br (av (o7.v (br (av d f.toNat 0))).1 (aR 0) 0)) (aR 0)):ay)=35)) (g a d e (bE (f+1)) h)<|aD (!(o7.v (br (av d f.toNat 0))).2) (j (bE (f+1)) d e f h)<|aD (sE.c (o7.v (br (av d f.toNat 0))).1) (aD (!(sE.v (o7.v (br (av d f.toNat 0))).1).2.2.2.2.2) (j (bE (f+1)) d e f h)<|aD (ah ((h.length:ay)=70)) (j (bE (f+1)) d e f h)<|aD (b8 (h.length+(aP (aT [Ck.i ak,Ck.i ak,Ck.s,Ck.i ak,Ck.l 3] 1) 0 [.i ak (sE.v (o7.v (br (av d f.toNat 0))).1).1,.i ak (sE.v (o7.v (br (av d f.toNat 0))).1).2.1,.s (sE.v (o7.v (br (av d f.toNat 0))).1).2.2.1,.i ak (sE.v (o7.v (br (av d f.toNat 0))).1).2.2.2.1,CV.l 3 (sE.v (o7.v (br (av d f.toNat 0))).1).2.2.2.2.1]).length) 64) (g a d e (bE (f+1)) (h++aP (aT [Ck.i ak,Ck.i ak,Ck.s,Ck.i ak,Ck.l 3] 1) 0 [.i ak (sE.v (o7.v (br (av d f.toNat 0))).1).1,.i ak (sE.v (o7.v (br (av d f.toNat 0))).1).2.1,.s (sE.v (o7.v (br (av d f.toNat 0))).1).2.2.1,.i ak (sE.v (o7.v (br (av d f.toNat 0))).1).2.2.2.1,CV.l 3 (sE.v (o7.v (br (av d f.toNat 0))).1).2.2.2.2.1])) aj) aj) aj) aj)<|aD (!(o7.v (br (av d f.toNat 0))).2) (j (bE (f+1)) d e f h)<|aD (sE.c (o7.v (br (av d f.toNat 0))).1) (aD (!(sE.v (o7.v (br (av d f.toNat 0))).1).2.2.2.2.2) (j (bE (f+1)) d e f h)<|aD (ah ((h.length:ay)=70)) (j (bE (f+1)) d e f h)<|aD (b8 (h.length+(aP (aT [Ck.i ak,Ck.i ak,Ck.s,Ck.i ak,Ck.l 3] 1) 0 [.i ak (sE.v (o7.v (br (av d f.toNat 0))).1).1,.i ak (sE.v (o7.v (br (av d f.toNat 0))).1).2.1,.s (sE.v (o7.v (br (av d f.toNat 0))).1).2.2.1,.i ak (sE.v (o7.v (br (av d f.toNat 0))).1).2.2.2.1,CV.l 3 (sE.v (o7.v (br (av d f.toNat 0))).1).2.2.2.2.1]).length) 64) (g a d e (bE (f+1)) (h++aP (aT [Ck.i ak,Ck.i ak,Ck.s,Ck.i ak,Ck.l 3] 1) 0 [.i ak (sE.v (o7.v (br (av d f.toNat 0))).1).1,.i ak (sE.v (o7.v (br (av d f.toNat 0))).1).2.1,.s (sE.v (o7.v (br (av d f.toNat 0))).1).2.2.1,.i ak (sE.v (o7.v (br (av d f.toNat 0))).1).2.2.2.1,CV.l 3 (sE.v (o7.v (br (av d f.toNat 0))).1).2.2.2.2.1])) aj) aj) aj) aj)<|k a d e f h
def l8(N:aN)(a d:zL R):aN->zL R
 |0=>λ_ _ _ _ _=>aj
 |n+1=>r8 N (l8 N a d n) a d
def b(N:aN)(e:qF R)(a:au):aA R:=aD (yj.c a (az #[ar 10])) (aD (ah (0<=bE (((yj.v a (az #[ar 10])).length:ay)-1))&&ah (bE (((yj.v a (az #[ar 10])).length:ay)-1)<((yj.v a (az #[ar 10])).length:ay))) (aD (cQ (br (av (yj.v a (az #[ar 10])) (bE (((yj.v a (az #[ar 10])).length:ay)-1)).toNat 0)).toList (aG ⟨#[]⟩)) (aD (fU 0 (bE (((yj.v a (az #[ar 10])).length:ay)-1)) ((yj.v a (az #[ar 10])).length:ay)) (aD (ah ((a.size:ay)>3000)) (e [] (-1))<|aD (ah (((dR (yj.v a (az #[ar 10])) (aR 0) (bE (((yj.v a (az #[ar 10])).length:ay)-1)).toNat).length:ay)>90)) (e [] (-1))<|l8 N (λd _ _ _ _=>e [] d) (λ_ _ _ _ d=>e d 0) N 0 (dR (yj.v a (az #[ar 10])) (aR 0) (bE (((yj.v a (az #[ar 10])).length:ay)-1)).toNat) ((dR (yj.v a (az #[ar 10])) (aR 0) (bE (((yj.v a (az #[ar 10])).length:ay)-1)).toNat).length:ay) 0 (aT [Ck.i ak,Ck.i ak,Ck.s,Ck.i ak,Ck.l 3] 0)) aj)<|aD (ah ((a.size:ay)>3000)) (e [] (-1))<|aD (ah (((yj.v a (az #[ar 10])).length:ay)>90)) (e [] (-1))<|l8 N (λd _ _ _ _=>e [] d) (λ_ _ _ _ d=>e d 0) N 0 (yj.v a (az #[ar 10])) ((yj.v a (az #[ar 10])).length:ay) 0 (aT [Ck.i ak,Ck.i ak,Ck.s,Ck.i ak,Ck.l 3] 0)) aj) aj
def vo:=b ck λa r1=>ai (a,r1)
def c:=ka vo
def v:=ko vo
theorem out{x}:ki vo c v x:=kL
end NR
namespace U40
def c(n:ay):aY:=ah (-9223372036854775808<=n)&&ah (n<=9223372036854775807)
def v(n:ay):au:=⟨(_root_.Go.Lib.itoa n).toArray⟩
end U40
namespace sB
def b(d:au->aA R)(a:ay):aA R:=aD (U40.c a) (d (U40.v a)) aj
def vo:=b λa=>ai a
def c:=ka vo
def v:=ko vo
theorem out{x}:ki vo c v x:=kL
end sB
namespace TX
def r3(N:aN)(g:k9 R)(f:iE R)(h:k9 R)(j:iE R)(a d e:ay):aA R:=aD (ah (a<3)) (f (bE (a+1)) d e ([]++aP (aT [Ck.l 3] 1) 0 [CV.l 3 (aT [Ck.i ak] (aR 16))]))<|h a d e
def uw(N:aN)(g:k9 R)(h:iE R)(k:k9 R)(j:iE R)(a d e:ay)(f:Row):aA R:=aD (ah (a<3)) (aD (b8 (f.length+(aP (aT [Ck.l 3] 1) 0 [CV.l 3 (aT [Ck.i ak] (aR 16))]).length) 24) (h (bE (a+1)) d e (f++aP (aT [Ck.l 3] 1) 0 [CV.l 3 (aT [Ck.i ak] (aR 16))])) aj)<|j a d e f
def nT(N:aN)(a:k9 R)(d:iE R):aN->iE R
 |0=>λ_ _ _ _=>aj
 |n+1=>uw N (λe f h=>aj) (nT N a d n) a d
def l3(N:aN)(a:k9 R)(d:iE R):aN->k9 R
 |0=>λ_ _ _=>aj
 |n+1=>r3 N (l3 N a d n) (nT N a d n) a d
def b(N:aN)(e:qF R):aA R:=l3 N (λ_ _ a=>e [] a) (λ_ _ a d=>e d a) N 0 0 0
def vo:=b ck λa r1=>ai (a,r1)
def c:=vo.isSome
def v:=vo.getD ([],0)
end TX
namespace U51
def b(a:sk R):aA R:=a [] [] ([]++aP (aT [Ck.l 3] 1) 0 [CV.l 3 (aT [Ck.i ak] (aR 16))]++aP (aT [Ck.l 3] 1) 0 [CV.l 3 (aT [Ck.i ak] (aR 16))]++aP (aT [Ck.l 3] 1) 0 [CV.l 3 (aT [Ck.i ak] (aR 16))]) 0
def v:Row×Row×Row×ay:=([],[],[]++aP (aT [Ck.l 3] 1) 0 [CV.l 3 (aT [Ck.i ak] (aR 16))]++aP (aT [Ck.l 3] 1) 0 [CV.l 3 (aT [Ck.i ak] (aR 16))]++aP (aT [Ck.l 3] 1) 0 [CV.l 3 (aT [Ck.i ak] (aR 16))],0)
theorem dW(a:sk R):b a=a v.1 v.2.1 v.2.2.1 v.2.2.2:=by first|rfl|(unfold b v;simp only[cj];(repeat' split)<;>rfl)
end U51
namespace U28
def b(a:dU R):aA R:=a 1 [] [] [] ([]++aP (aT [Ck.l 3] 1) 0 [CV.l 3 (aT [Ck.i ak] (aR 16))]++aP (aT [Ck.l 3] 1) 0 [CV.l 3 (aT [Ck.i ak] (aR 16))]++aP (aT [Ck.l 3] 1) 0 [CV.l 3 (aT [Ck.i ak] (aR 16))]) 0 [] [] 0
def v:ay×Row×Row×Row×Row×ay×Row×Row×ay:=(1,[],[],[],[]++aP (aT [Ck.l 3] 1) 0 [CV.l 3 (aT [Ck.i ak] (aR 16))]++aP (aT [Ck.l 3] 1) 0 [CV.l 3 (aT [Ck.i ak] (aR 16))]++aP (aT [Ck.l 3] 1) 0 [CV.l 3 (aT [Ck.i ak] (aR 16))],0,[],[],0)
theorem dW(a:dU R):b a=a v.1 v.2.1 v.2.2.1 v.2.2.2.1 v.2.2.2.2.1 v.2.2.2.2.2.1 v.2.2.2.2.2.2.1 v.2.2.2.2.2.2.2.1 v.2.2.2.2.2.2.2.2:=by first|rfl|(unfold b v;simp only[cj];(repeat' split)<;>rfl)
end U28
namespace vL
def b(d:Row->aA R)(a:Row):aA R:=aD (b8 ((aT [Ck.s,Ck.i ak,Ck.i ak,Ck.s] 0).length+a.length) 48) (d (aT [Ck.s,Ck.i ak,Ck.i ak,Ck.s] 0++a)) aj
def vo:=b λa=>ai a
def c:=ka vo
def v:=ko vo
theorem out{x}:ki vo c v x:=kL
end vL
namespace sA
def b(d:Row->aA R)(a:Row):aA R:=aD (b8 ((aT [.s] 0).length+a.length) 16) (d (aT [.s] 0++a)) aj
def vo:=b λa=>ai a
def c:=ka vo
def v:=ko vo
theorem out{x}:ki vo c v x:=kL
end sA
namespace uZ
def b(d:Row->aA R)(a:Row):aA R:=aD (b8 ((aT [Ck.i ak] 0).length+a.length) 8) (d (aT [Ck.i ak] 0++a)) aj
def vo:=b λa=>ai a
def c:=ka vo
def v:=ko vo
theorem out{x}:ki vo c v x:=kL
end uZ
namespace iV
def r3(N:aN)(g:kB R)(i:oC R)(j:kB R)(k:oC R)(a:Row)(d e f h:ay):aA R:=aD (ah (e<d)) (aD (ah (0<=e)&&ah (e<(a.length:ay))) (aD (uZ.c (iH (av a e.toNat 0))) (i a d (bE (e+1)) f h ([]++aP (aT [Ck.l 3] 1) 0 [CV.l 3 (uZ.v (iH (av a e.toNat 0)))])) aj) aj)<|j a d e f h
def uw(N:aN)(g:kB R)(j:oC R)(m:kB R)(k:oC R)(a:Row)(d e f h:ay)(i:Row):aA R:=aD (ah (e<d)) (aD (ah (0<=e)&&ah (e<(a.length:ay))) (aD (uZ.c (iH (av a e.toNat 0))) (aD (b8 (i.length+(aP (aT [Ck.l 3] 1) 0 [CV.l 3 (uZ.v (iH (av a e.toNat 0)))]).length) 24) (j a d (bE (e+1)) f h (i++aP (aT [Ck.l 3] 1) 0 [CV.l 3 (uZ.v (iH (av a e.toNat 0)))])) aj) aj) aj)<|k a d e f h i
def nT(N:aN)(a:kB R)(d:oC R):aN->oC R
 |0=>λ_ _ _ _ _ _=>aj
 |n+1=>uw N (λe f h i j=>aj) (nT N a d n) a d
def l3(N:aN)(a:kB R)(d:oC R):aN->kB R
 |0=>λ_ _ _ _ _=>aj
 |n+1=>r3 N (l3 N a d n) (nT N a d n) a d
def b(N:aN)(h:qF R)(a:Row)(d:ay):aA R:=l3 N (λ_ _ _ _ e=>h [] e) (λ_ _ _ _ e f=>h f e) N a (a.length:ay) 0 0 d
def vo:=b ck λa r1=>ai (a,r1)
def c:=iZ vo
def v:=jb vo
theorem out{x}:i7 vo c v x:=jd
end iV
namespace iY
def b(h:sk R)(a d e:Row)(f:ay):aA R:=aD (sA.c a) (aD (sA.c d) (aD (iV.c e f) (h (sA.v a) (sA.v d) (iV.v e f).1 (iV.v e f).2) aj) aj) aj
def vo:=b λa r1 r2 r3=>ai (a,r1,r2,r3)
def c:=A8 vo
def v:=Ca vo
theorem out{x}:BB vo c v x:=CP
end iY
namespace n7
def b(k:dU R)(a:ay)(d e f h:Row)(i:ay)(j l:Row)(m:ay):aA R:=aD (vL.c d) (aD (iY.c e f h i) (aD (b8 ((aT [Ck.s,Ck.s,Ck.i ak,Ck.i ak,Ck.i ak] 0).length+j.length) 56) (aD (b8 ((aT [Ck.i ak,Ck.s,Ck.i ak,Ck.i ak,Ck.i ak,Ck.s,Ck.i ak] 0).length+l.length) 72) (k a (vL.v d) (iY.v e f h i).1 (iY.v e f h i).2.1 (iY.v e f h i).2.2.1 (iY.v e f h i).2.2.2 (aT [Ck.s,Ck.s,Ck.i ak,Ck.i ak,Ck.i ak] 0++j) (aT [Ck.i ak,Ck.s,Ck.i ak,Ck.i ak,Ck.i ak,Ck.s,Ck.i ak] 0++l) m) aj) aj) aj) aj
def vo:=b λa r1 r2 r3 r4 r5 r6 r7 r8=>ai (a,r1,r2,r3,r4,r5,r6,r7,r8)
def c:=zE vo
def v:=zI vo
theorem out{x}:zH vo c v x:=BH
end n7
namespace My
def b(d:aY->aA R)(a:au):aA R:=d (j4.v (a.size:ay) 1 30)
def v(a:au):aY:=(j4.v (a.size:ay) 1 30)
theorem dW(d:aY->aA R)(a:au):b d a=d (v a):=by first|rfl|(unfold b v;simp only[cj];(repeat' split)<;>rfl)
end My
namespace AU
def b(d:aY->aA R)(a:ay):aA R:=d (j4.v a 0 1000000000)
def v(a:ay):aY:=(j4.v a 0 1000000000)
theorem dW(d:aY->aA R)(a:ay):b d a=d (v a):=by first|rfl|(unfold b v;simp only[cj];(repeat' split)<;>rfl)
end AU
namespace vM
def b(h:aY->aA R)(a:au)(d e:ay)(f:au):aA R:=aD (My.v a) (aD (AU.v d) (aD (j4.v e 1 999999) (h (ah ((f.size:ay)<=400)))<|h aq)<|h aq)<|h aq
def v(a:au)(a1 a2:ay)(a3:au):aY:=aD (My.v a) (aD (AU.v a1) (aD (j4.v a2 1 999999) (ah ((a3.size:ay)<=400)) aq) aq) aq
theorem dW(d:aY->aA R)(a:au)(a1 a2:ay)(a3:au):b d a a1 a2 a3=d (v a a1 a2 a3):=by first|rfl|(unfold b v;simp only[cj];(repeat' split)<;>rfl)
end vM
namespace CE
def b(d:Row->aA R)(a:ay):aA R:=aD (ah (a<0)) aj<|aD (ah (bE (a-bE (0-0))>0)) (aD (ah (0<=bE (a-bE (0-0)))&&b8 (([]:Row).length+(bE (a-bE (0-0))).toNat) 16&&ah (bE (a-bE (0-0))<=9223372036854775807)) (d (dR ([]++aT [.s] (bE (a-bE (0-0))).toNat) (aR 0) (aR 0))) aj)<|d []
def vo:=b λa=>ai a
def c:=ka vo
def v:=ko vo
theorem out{x}:ki vo c v x:=kL
end CE
namespace vR
def wZ(N:aN)(g h:mH R)(a:Row)(d e:ay)(f:Row):aA R:=aD (ah (e<d)) (aD (ah (0<=e)&&ah (e<(a.length:ay))) (aD (b8 (f.length+(iH (av a e.toNat 0)).length) 16) (g a d (bE (e+1)) (f++iH (av a e.toNat 0))) aj) aj)<|h a d e f
def M4(N:aN)(a:mH R):aN->mH R
 |0=>λ_ _ _ _=>aj
 |n+1=>wZ N (M4 N a n) a
def r3(N:aN)(g i:D4 R)(a:Row)(d:ay)(e:Row)(f h:ay):aA R:=aD (ah (h<f)) (aD (ah (0<=h)&&ah (h<(e.length:ay))) (aD (ah (bE (d+((iH (av e h.toNat 0)).length:ay))<0)) aj<|g a (bE (d+((iH (av e h.toNat 0)).length:ay))) e f (bE (h+1))) aj)<|i a d e f h
def l3(N:aN)(a:D4 R):aN->D4 R
 |0=>λ_ _ _ _ _=>aj
 |n+1=>r3 N (l3 N a n) a
def b(N:aN)(h:Row->aA R)(a:Row):aA R:=l3 N (λd e _ _ _=>aD (CE.c e) (M4 N (λ_ _ _ f=>h f) N d (d.length:ay) 0 (CE.v e)) aj) N a 0 a (a.length:ay) 0
def vo:=b ck λa=>ai a
def c:=ka vo
def v:=ko vo
theorem out{x}:ki vo c v x:=kL
end vR
namespace qb
def b(h:Row->aA R)(a d e:Row)(f:ay):aA R:=aD (vR.c (aP (aP (aT [Ck.l 9] 2) 0 [CV.l 9 a]) 1 [CV.l 9 d])) (h (vR.v (aP (aP (aT [Ck.l 9] 2) 0 [CV.l 9 a]) 1 [CV.l 9 d]))) aj
def vo:=b λa=>ai a
def c:=A8 vo
def v:=Ca vo
theorem out{x}:BB vo c v x:=CP
end qb
namespace zA
def r2(N:aN)(g i j:gO R)(a:Row)(d:au)(e f h:ay):aA R:=aD (ah (h<f)) (aD (ah (0<=h)&&ah (h<(a.length:ay))) (aD (cQ (aG d) (br (av a h.toNat 0)).toList) (i a d h f h)<|g a d e f (bE (h+1))) aj)<|j a d e f h
def l2(N:aN)(a d:gO R):aN->gO R
 |0=>λ_ _ _ _ _=>aj
 |n+1=>r2 N (l2 N a d n) a d
def b(N:aN)(f:ay->aA R)(a:Row)(d:au):aA R:=l2 N (λ_ _ e _ _=>f e) (λ_ _ _ _ _=>f (-1)) N a d 0 (a.length:ay) 0
def vo:=b ck λa=>ai a
def c:=iZ vo
def v:=jb vo
theorem out{x}:i7 vo c v x:=jd
end zA
namespace rS
def b(e:aY->aA R)(a:Row)(d:au):aA R:=aD (zA.c a d) (e (ah (zA.v a d≥0))) aj
def vo:=b λa=>ai a
def c:=iZ vo
def v:=jb vo
theorem out{x}:i7 vo c v x:=jd
end rS
namespace Gi
def b(i:aY->aA R)(a d e:Row)(f:ay)(h:au):aA R:=aD (qb.c a d e f) (aD (rS.c (qb.v a d e f) h) (i (rS.v (qb.v a d e f) h)) aj) aj
def vo:=b λa=>ai a
def c:=A9 vo
def v:=Cb vo
theorem out{x}:BC vo c v x:=CQ
end Gi
namespace pb
def r5(N:aN)(g k r:qC R)(a:aY)(d e:Row)(f h:ay)(i:Row)(j l:ay)(m:Row)(o:ay):aA R:=aD (ah (l<j)) (aD (ah (0<=l)&&ah (l<(i.length:ay))) (aD (!j4.v (bN (av i l.toNat 0)) 0 15) (k aq d e f h i j l m o)<|g a d e f h i j (bE (l+1)) m o) aj)<|r a d e f h i j l m o
def l5(N:aN)(a d:qC R):aN->qC R
 |0=>λ_ _ _ _ _ _ _ _ _ _=>aj
 |n+1=>r5 N (l5 N a d n) a d
def r2(N:aN)(g k s:AF R)(a:aY)(d:Row)(e f:ay)(h:Row)(i:ay):aA R:=aD (ah (f<e)) (aD (ah (0<=f)&&ah (f<(d.length:ay))) (l5 N (λj _ l m o _ _ _ p q=>k j l m o p q) (λj l m o p _ _ _ q r=>aD ((l.length:ay) !=16) (k aq m o p q r)<|g j m o (bE (p+1)) q r) N a (iH (av d f.toNat 0)) d e f (iH (av d f.toNat 0)) ((iH (av d f.toNat 0)).length:ay) 0 h i) aj)<|s a d e f h i
def l2(N:aN)(a d:AF R):aN->AF R
 |0=>λ_ _ _ _ _ _=>aj
 |n+1=>r2 N (l2 N a d n) a d
def b(N:aN)(h:aY->aA R)(a:Row)(d:ay):aA R:=l2 N (λe _ _ _ _ _=>h e) (λ_ _ _ _ e f=>aD (ah ((e.length:ay)=3)) (h (j4.v f 0 63))<|h aq) N aq a (a.length:ay) 0 a d
def vo:=b ck λa=>ai a
def c:=iZ vo
def v:=jb vo
theorem out{x}:i7 vo c v x:=jd
end pb
namespace oI
def r3(N:aN)(g k m:uK R)(a:aY)(d e:ay)(f h i:Row)(j:ay)(l:Row):aA R:=aD (ah (e<d)) (aD (ah (0<=e)&&ah (e<(l.length:ay))) (aD (!My.v (br (av l e.toNat 0))) (k aq d e f h i j l)<|aD (fU 0 e (l.length:ay)) (aD (rS.c (dR l (aR 0) e.toNat) (br (av l e.toNat 0))) (aD (rS.v (dR l (aR 0) e.toNat) (br (av l e.toNat 0))) (k aq d e f h i j l)<|g a d (bE (e+1)) f h i j l) aj) aj) aj)<|m a d e f h i j l
def l3(N:aN)(a d:uK R):aN->uK R
 |0=>λ_ _ _ _ _ _ _ _=>aj
 |n+1=>r3 N (l3 N a d n) a d
def b(N:aN)(k:aY->aA R)(a d e:Row)(f:ay):aA R:=aD (qb.c a d e f) (l3 N (λh _ _ _ _ _ _ _=>k h) (λ_ _ _ h i j l _=>aD (ah ((h.length:ay)<=2)) (aD (ah ((i.length:ay)<=4)) (aD (pb.c j l) (k (pb.v j l)) aj)<|k aq)<|k aq) N aq ((qb.v a d e f).length:ay) 0 a d e f (qb.v a d e f)) aj
def vo:=b ck λa=>ai a
def c:=A8 vo
def v:=Ca vo
theorem out{x}:BB vo c v x:=CP
end oI
namespace zw
def r2(N:aN)(g k s:eA R)(a:aY)(d:Row)(e f h:ay)(i j l m:Row)(o:ay)(p q:Row)(r:ay):aA R:=aD (ah (f<e)) (aD (ah (0<=f)&&ah (f<(d.length:ay))) (aD (!vM.v (br (av d f.toNat 0)) (bN (av d f.toNat 1)) (bN (av d f.toNat (1+1))) (br (av d f.toNat (1+1+1)))) (k aq d e f h i j l m o p q r)<|aD (ah (f>0)) (aD (ah (0<=bE (f-1))&&ah (bE (f-1)<(i.length:ay))) (aD (!Op.bytesLess (br (av i (bE (f-1)).toNat 0)).toList (br (av d f.toNat 0)).toList) (k aq d e f h i j l m o p q r)<|aD (Gi.c j l m o (br (av d f.toNat 0))) (aD (!Gi.v j l m o (br (av d f.toNat 0))) (k aq d e f h i j l m o p q r)<|g a d e (bE (f+1)) h i j l m o p q r) aj) aj)<|aD (Gi.c j l m o (br (av d f.toNat 0))) (aD (!Gi.v j l m o (br (av d f.toNat 0))) (k aq d e f h i j l m o p q r)<|g a d e (bE (f+1)) h i j l m o p q r) aj) aj)<|s a d e f h i j l m o p q r
def l2(N:aN)(a d:eA R):aN->eA R
 |0=>λ_ _ _ _ _ _ _ _ _ _ _ _ _=>aj
 |n+1=>r2 N (l2 N a d n) a d
def b(N:aN)(k:aY->aA R)(a:ay)(d e f h:Row)(i:ay)(j l:Row)(m:ay):aA R:=l2 N (λo _ _ _ _ _ _ _ _ _ _ _ _=>k o) (λ_ _ _ _ _ o p q r s _ _ _=>aD (oI.c p q r s) (aD (oI.v p q r s) (aD (qb.c p q r s) (k (ah (((qb.v p q r s).length:ay)=(o.length:ay)))) aj)<|k aq) aj) N aq d (d.length:ay) 0 a d e f h i j l m
def vo:=b ck λa=>ai a
def c:=zE vo
def v:=zI vo
theorem out{x}:zH vo c v x:=BH
end zw
namespace GC
def b(j:aY->aA R)(a d:au)(e f h:ay)(i:au):aA R:=aD (cQ (aG a) (aG i)) (j (ah (e=1)))<|j aq
def v(d a1:au)(a2 a3 a4:ay)(a:au):aY:=aD (cQ (aG d) (aG a)) (ah (a2=1)) aq
theorem dW(e:aY->aA R)(d a1:au)(a2 a3 a4:ay)(a:au):b e d a1 a2 a3 a4 a=e (v d a1 a2 a3 a4 a):=by first|rfl|(unfold b v;simp only[cj];(repeat' split)<;>rfl)
end GC
namespace p_
def r2(N:aN)(g i j:gO R)(a:Row)(d:au)(e f h:ay):aA R:=aD (ah (h<f)) (aD (ah (0<=h)&&ah (h<(a.length:ay))) (aD (GC.v (br (av a h.toNat 0)) (br (av a h.toNat 1)) (bN (av a h.toNat (1+1))) (bN (av a h.toNat (1+1+1))) (bN (av a h.toNat (1+1+1+1))) d) (i a d h f h)<|g a d e f (bE (h+1))) aj)<|j a d e f h
def l2(N:aN)(a d:gO R):aN->gO R
 |0=>λ_ _ _ _ _=>aj
 |n+1=>r2 N (l2 N a d n) a d
def b(N:aN)(f:ay->aA R)(a:Row)(e:au):aA R:=l2 N (λ_ _ d _ _=>f d) (λ_ _ _ _ _=>f (-1)) N a e 0 (a.length:ay) 0
def vo:=b ck λa=>ai a
def c:=iZ vo
def v:=jb vo
theorem out{x}:i7 vo c v x:=jd
end p_
namespace Is
def b(k:ay->aA R)(a:ay)(d e f h:Row)(i:ay)(j l:Row)(m:ay)(o:au):aA R:=aD (p_.c j o) (k (p_.v j o)) aj
def vo:=b λa=>ai a
def c:=pk vo
def v:=pD vo
theorem out{x}:pz vo c v x:=qn
end Is
namespace vP
def r2(N:aN)(g k s:eA R)(a:aY)(d:Row)(e f h:ay)(i j l m:Row)(o:ay)(p q:Row)(r:ay):aA R:=aD (ah (f<e)) (aD (ah (0<=f)&&ah (f<(d.length:ay))) (aD (ah (bN (av d f.toNat (1+1))=1)) (aD (Is.c h i j l m o p q r (br (av d f.toNat 0))) (aD (Is.v h i j l m o p q r (br (av d f.toNat 0)) !=f) (k aq d e f h i j l m o p q r)<|g a d e (bE (f+1)) h i j l m o p q r) aj)<|g a d e (bE (f+1)) h i j l m o p q r) aj)<|s a d e f h i j l m o p q r
def l2(N:aN)(a d:eA R):aN->eA R
 |0=>λ_ _ _ _ _ _ _ _ _ _ _ _ _=>aj
 |n+1=>r2 N (l2 N a d n) a d
def b(N:aN)(k:aY->aA R)(a:ay)(d e f h:Row)(i:ay)(j l:Row)(m:ay):aA R:=l2 N (λo _ _ _ _ _ _ _ _ _ _ _ _=>k o) (λ_ _ _ _ _ _ _ _ _ _ _ _ _=>k ao) N aq j (j.length:ay) 0 a d e f h i j l m
def vo:=b ck λa=>ai a
def c:=zE vo
def v:=zI vo
theorem out{x}:zH vo c v x:=BH
end vP
namespace yf
def r2(N:aN)(g k s:eA R)(a:aY)(d:Row)(e f h:ay)(i j l m:Row)(o:ay)(p q:Row)(r:ay):aA R:=aD (ah (f<e)) (aD (ah (0<=f)&&ah (f<(d.length:ay))) (aD (!My.v (br (av d f.toNat 0))) (k aq d e f h i j l m o p q r)<|aD (ah (((br (av d f.toNat 1)).size:ay)>400)) (k aq d e f h i j l m o p q r)<|aD (!j4.v (bN (av d f.toNat (1+1))) 1 3) (k aq d e f h i j l m o p q r)<|aD (!j4.v (bN (av d f.toNat (1+1+1))) 0 999999) (k aq d e f h i j l m o p q r)<|aD (!j4.v (bN (av d f.toNat (1+1+1+1))) 0 h) (k aq d e f h i j l m o p q r)<|g a d e (bE (f+1)) h i j l m o p q r) aj)<|s a d e f h i j l m o p q r
def l2(N:aN)(a d:eA R):aN->eA R
 |0=>λ_ _ _ _ _ _ _ _ _ _ _ _ _=>aj
 |n+1=>r2 N (l2 N a d n) a d
def b(N:aN)(k:aY->aA R)(a:ay)(d e f h:Row)(i:ay)(j l:Row)(m:ay):aA R:=l2 N (λo _ _ _ _ _ _ _ _ _ _ _ _=>k o) (λ_ _ _ _ o p q r s t u w y=>aD (ah ((u.length:ay)<=20)) (aD (vP.c o p q r s t u w y) (k (vP.v o p q r s t u w y)) aj)<|k aq) N aq j (j.length:ay) 0 a d e f h i j l m
def vo:=b ck λa=>ai a
def c:=zE vo
def v:=zI vo
theorem out{x}:zH vo c v x:=BH
end yf
namespace zx
def r2(N:aN)(g k s:eA R)(a:aY)(d:Row)(e f h:ay)(i j l m:Row)(o:ay)(p q:Row)(r:ay):aA R:=aD (ah (f<e)) (aD (ah (0<=f)&&ah (f<(d.length:ay))) (aD (!j4.v (bN (av d f.toNat 0)) 1 9) (k aq d e f h i j l m o p q r)<|aD (ah (f>0)) (aD (ah (0<=bE (f-1))&&ah (bE (f-1)<(q.length:ay))) (aD (ah (bN (av q (bE (f-1)).toNat 0)≥bN (av d f.toNat 0))) (k aq d e f h i j l m o p q r)<|aD (!My.v (br (av d f.toNat 1))) (k aq d e f h i j l m o p q r)<|aD (!j4.v (bN (av d f.toNat (1+1+1+1))) 1 3) (k aq d e f h i j l m o p q r)<|aD (!j4.v (bN (av d f.toNat (1+1))) 0 (p.length:ay)) (k aq d e f h i j l m o p q r)<|aD (ah (((br (av d f.toNat (1+1+1+1+1))).size:ay)>400)) (k aq d e f h i j l m o p q r)<|aD (!j4.v (bN (av d f.toNat (1+1+1))) 0 h) (k aq d e f h i j l m o p q r)<|aD (ah (bN (av d f.toNat (1+1+1+1+1+1))<0)) (k aq d e f h i j l m o p q r)<|g a d e (bE (f+1)) h i j l m o p q r) aj)<|aD (!My.v (br (av d f.toNat 1))) (k aq d e f h i j l m o p q r)<|aD (!j4.v (bN (av d f.toNat (1+1+1+1))) 1 3) (k aq d e f h i j l m o p q r)<|aD (!j4.v (bN (av d f.toNat (1+1))) 0 (p.length:ay)) (k aq d e f h i j l m o p q r)<|aD (ah (((br (av d f.toNat (1+1+1+1+1))).size:ay)>400)) (k aq d e f h i j l m o p q r)<|aD (!j4.v (bN (av d f.toNat (1+1+1))) 0 h) (k aq d e f h i j l m o p q r)<|aD (ah (bN (av d f.toNat (1+1+1+1+1+1))<0)) (k aq d e f h i j l m o p q r)<|g a d e (bE (f+1)) h i j l m o p q r) aj)<|s a d e f h i j l m o p q r
def l2(N:aN)(a d:eA R):aN->eA R
 |0=>λ_ _ _ _ _ _ _ _ _ _ _ _ _=>aj
 |n+1=>r2 N (l2 N a d n) a d
def b(N:aN)(k:aY->aA R)(a:ay)(d e f h:Row)(i:ay)(j l:Row)(m:ay):aA R:=l2 N (λo _ _ _ _ _ _ _ _ _ _ _ _=>k o) (λ_ _ _ _ _ _ _ _ _ _ _ o _=>k (ah ((o.length:ay)<=6))) N aq l (l.length:ay) 0 a d e f h i j l m
def vo:=b ck λa=>ai a
def c:=zE vo
def v:=zI vo
theorem out{x}:zH vo c v x:=BH
end zx
namespace Mx
def b(k:aY->aA R)(a:ay)(d e f h:Row)(i:ay)(j l:Row)(m:ay):aA R:=aD (j4.v a 1 1000000000) (aD (zw.c a d e f h i j l m) (aD (zw.v a d e f h i j l m) (aD (yf.c a d e f h i j l m) (aD (yf.v a d e f h i j l m) (aD (zx.c a d e f h i j l m) (aD (zx.v a d e f h i j l m) (k (AU.v m))<|k aq) aj)<|k aq) aj)<|k aq) aj)<|k aq
def vo:=b λa=>ai a
def c:=zE vo
def v:=zI vo
theorem out{x}:zH vo c v x:=BH
end Mx
namespace U97
def b(m:aY->aA R)(a:ay)(d:au)(e f h:ay)(i:au)(j k:ay):aA R:=m (ah (a=k))
def v(d:ay)(a1:au)(a2 a3 a4:ay)(a5:au)(e a:ay):aY:=(ah (d=a))
theorem dW(f:aY->aA R)(d:ay)(a1:au)(a2 a3 a4:ay)(a5:au)(e a:ay):b f d a1 a2 a3 a4 a5 e a=f (v d a1 a2 a3 a4 a5 e a):=by first|rfl|(unfold b v;simp only[cj];(repeat' split)<;>rfl)
end U97
namespace yk
def r2(N:aN)(g i j:kB R)(a:Row)(d e f h:ay):aA R:=aD (ah (h<f)) (aD (ah (0<=h)&&ah (h<(a.length:ay))) (aD (U97.v (bN (av a h.toNat 0)) (br (av a h.toNat 1)) (bN (av a h.toNat (1+1))) (bN (av a h.toNat (1+1+1))) (bN (av a h.toNat (1+1+1+1))) (br (av a h.toNat (1+1+1+1+1))) (bN (av a h.toNat (1+1+1+1+1+1))) d) (i a d h f h)<|g a d e f (bE (h+1))) aj)<|j a d e f h
def l2(N:aN)(a d:kB R):aN->kB R
 |0=>λ_ _ _ _ _=>aj
 |n+1=>r2 N (l2 N a d n) a d
def b(N:aN)(f:ay->aA R)(a:Row)(e:ay):aA R:=l2 N (λ_ _ d _ _=>f d) (λ_ _ _ _ _=>f (-1)) N a e 0 (a.length:ay) 0
def vo:=b ck λa=>ai a
def c:=iZ vo
def v:=jb vo
theorem out{x}:i7 vo c v x:=jd
end yk
namespace NV
def b(m:aY->aA R)(a:ay)(d:au)(e f h:ay)(i:au)(j k:ay):aA R:=m (ah (a=k))
def v(d:ay)(a1:au)(a2 a3 a4:ay)(a5:au)(e a:ay):aY:=(ah (d=a))
theorem dW(f:aY->aA R)(d:ay)(a1:au)(a2 a3 a4:ay)(a5:au)(e a:ay):b f d a1 a2 a3 a4 a5 e a=f (v d a1 a2 a3 a4 a5 e a):=by first|rfl|(unfold b v;simp only[cj];(repeat' split)<;>rfl)
end NV
namespace rY
def r2(N:aN)(g i j:kB R)(a:Row)(d e f h:ay):aA R:=aD (ah (h<f)) (aD (ah (0<=h)&&ah (h<(a.length:ay))) (aD (NV.v (bN (av a h.toNat 0)) (br (av a h.toNat 1)) (bN (av a h.toNat (1+1))) (bN (av a h.toNat (1+1+1))) (bN (av a h.toNat (1+1+1+1))) (br (av a h.toNat (1+1+1+1+1))) (bN (av a h.toNat (1+1+1+1+1+1))) d) (i a d h f h)<|g a d e f (bE (h+1))) aj)<|j a d e f h
def l2(N:aN)(a d:kB R):aN->kB R
 |0=>λ_ _ _ _ _=>aj
 |n+1=>r2 N (l2 N a d n) a d
def b(N:aN)(f:ay->aA R)(a:Row)(e:ay):aA R:=l2 N (λ_ _ d _ _=>f d) (λ_ _ _ _ _=>f (-1)) N a e 0 (a.length:ay) 0
def vo:=b ck λa=>ai a
def c:=iZ vo
def v:=jb vo
theorem out{x}:i7 vo c v x:=jd
end rY
namespace Mw
def b(k:ay->aA R)(a:ay)(d e f h:Row)(i:ay)(j l:Row)(m o:ay):aA R:=aD (yk.c l o) (k (yk.v l o)) aj
def vo:=b λa=>ai a
def c:=pk vo
def v:=pD vo
theorem out{x}:pz vo c v x:=qn
end Mw
namespace U79
def b(i:aY->aA R)(a:au)(d e:ay)(f h:au):aA R:=i (cQ (aG a) (aG h))
def v(d:au)(a1 a2:ay)(a3 a:au):aY:=(cQ (aG d) (aG a))
theorem dW(e:aY->aA R)(d:au)(a1 a2:ay)(a3 a:au):b e d a1 a2 a3 a=e (v d a1 a2 a3 a):=by first|rfl|(unfold b v;simp only[cj];(repeat' split)<;>rfl)
end U79
namespace vU
def r2(N:aN)(g i j:gO R)(a:Row)(d:au)(e f h:ay):aA R:=aD (ah (h<f)) (aD (ah (0<=h)&&ah (h<(a.length:ay))) (aD (U79.v (br (av a h.toNat 0)) (bN (av a h.toNat 1)) (bN (av a h.toNat (1+1))) (br (av a h.toNat (1+1+1))) d) (i a d h f h)<|g a d e f (bE (h+1))) aj)<|j a d e f h
def l2(N:aN)(a d:gO R):aN->gO R
 |0=>λ_ _ _ _ _=>aj
 |n+1=>r2 N (l2 N a d n) a d
def b(N:aN)(f:ay->aA R)(a:Row)(e:au):aA R:=l2 N (λ_ _ d _ _=>f d) (λ_ _ _ _ _=>f (-1)) N a e 0 (a.length:ay) 0
def vo:=b ck λa=>ai a
def c:=iZ vo
def v:=jb vo
theorem out{x}:i7 vo c v x:=jd
end vU
namespace zy
def b(i:aY->aA R)(a:au)(d e:ay)(f h:au):aA R:=i (cQ (aG a) (aG h))
def v(d:au)(a1 a2:ay)(a3 a:au):aY:=(cQ (aG d) (aG a))
theorem dW(e:aY->aA R)(d:au)(a1 a2:ay)(a3 a:au):b e d a1 a2 a3 a=e (v d a1 a2 a3 a):=by first|rfl|(unfold b v;simp only[cj];(repeat' split)<;>rfl)
end zy
namespace rX
def r2(N:aN)(g i j:gO R)(a:Row)(d:au)(e f h:ay):aA R:=aD (ah (h<f)) (aD (ah (0<=h)&&ah (h<(a.length:ay))) (aD (zy.v (br (av a h.toNat 0)) (bN (av a h.toNat 1)) (bN (av a h.toNat (1+1))) (br (av a h.toNat (1+1+1))) d) (i a d h f h)<|g a d e f (bE (h+1))) aj)<|j a d e f h
def l2(N:aN)(a d:gO R):aN->gO R
 |0=>λ_ _ _ _ _=>aj
 |n+1=>r2 N (l2 N a d n) a d
def b(N:aN)(f:ay->aA R)(a:Row)(e:au):aA R:=l2 N (λ_ _ d _ _=>f d) (λ_ _ _ _ _=>f (-1)) N a e 0 (a.length:ay) 0
def vo:=b ck λa=>ai a
def c:=iZ vo
def v:=jb vo
theorem out{x}:i7 vo c v x:=jd
end rX
namespace Da
def b(i:aY->aA R)(a:au)(d e:ay)(f:au)(h:ay):aA R:=aD (vM.v a d e f) (aD (AU.v h) (i (j4.v h d (bE (bE (d+e)-1))))<|i aq)<|i aq
def v(a:au)(a1 a2:ay)(a3:au)(a4:ay):aY:=aD (vM.v a a1 a2 a3) (aD (AU.v a4) (j4.v a4 a1 (bE (bE (a1+a2)-1))) aq) aq
theorem dW(d:aY->aA R)(a:au)(a1 a2:ay)(a3:au)(a4:ay):b d a a1 a2 a3 a4=d (v a a1 a2 a3 a4):=by first|rfl|(unfold b v;simp only[cj];(repeat' split)<;>rfl)
end Da
namespace vS
def r6(N:aN)(g h:w_ R)(a:ay)(d:au)(e f:ay):aA R:=aD (ah (f<8)) (aD (ah (cx a 2=1)) (g (bF eg (↑(ij (oz (di 32 (bF eg (cK a 2))) (di 32 3558460437))):ay)) d e (bE (f+1)))<|g (bF eg (cK a 2)) d e (bE (f+1)))<|h a d e f
def l6(N:aN)(a:w_ R):aN->w_ R
 |0=>λ_ _ _ _=>aj
 |n+1=>r6 N (l6 N a n) a
def r2(N:aN)(g j:ux R)(a:ay)(d:au)(e:ay):aA R:=aD (ah (e<(d.size:ay))) (aD (ah (0<=e)&&ah (e<(d.size:ay))) (l6 N (λf h i _=>g f h (bE (i+1))) N (bF eg (↑(ij (oz (di 32 a) (di 32 (bF eg (↑(fF d e.toNat):ay))))):ay)) d e 0) aj)<|j a d e
def l2(N:aN)(a:ux R):aN->ux R
 |0=>λ_ _ _=>aj
 |n+1=>r2 N (l2 N a n) a
def b(N:aN)(f:ay->aA R)(a:ay)(d:au):aA R:=l2 N (λe _ _=>f e) N a d 0
def vo:=b ck λa=>ai a
def c:=iZ vo
def v:=jb vo
theorem out{x}:i7 vo c v x:=jd
end vS
namespace uj
def b(d:ay->aA R)(a:au):aA R:=aD (vS.c 4294967295 a) (d (vS.v 4294967295 a)) aj
def vo:=b λa=>ai a
def c:=ka vo
def v:=ko vo
theorem out{x}:ki vo c v x:=kL
end uj
namespace qa
def b(e:ay->aA R)(a:ay)(d:au):aA R:=aD (ah (d.size+(bytesOf (aP (aT [Ck.i ba] 1) 0 [CV.i ba (bF ba (bE (↑(ij (AB (di 64 a) (di 64 255))):ay)))])).size<=4611686018427387904)) (aD (uj.c (d++bytesOf (aP (aT [Ck.i ba] 1) 0 [CV.i ba (bF ba (bE (↑(ij (AB (di 64 a) (di 64 255))):ay)))]))) (e (cx (bE (uj.v (d++bytesOf (aP (aT [Ck.i ba] 1) 0 [CV.i ba (bF ba (bE (↑(ij (AB (di 64 a) (di 64 255))):ay)))])))) 16)) aj) aj
def vo:=b λa=>ai a
def c:=iZ vo
def v:=jb vo
theorem out{x}:i7 vo c v x:=jd
end qa
namespace nQ
def r18(N:aN)(g k:uL R)(a:aN)(d e f h i j:ay)(l:Row):aA R:=aD (ah (h<f)) (aD (ah (0<=h)&&ah (h<((iH (av l a 0)).length:ay))) (aD (ah (0<=h)&&ah (h<((iH (av l a 0)).length:ay))) (g a d e f (bE (h+1)) i j (dV l a 0 [CV.l 3 (dV (iH (av l a 0)) h.toNat 0 [.i ak (bE (cK (bN (av (iH (av l a 0)) h.toNat 0)) 2))])])) aj) aj)<|k a d e f h i j l
def l18(N:aN)(a:uL R):aN->uL R
 |0=>λ_ _ _ _ _ _ _ _=>aj
 |n+1=>r18 N (l18 N a n) a
def r15(N:aN)(g k:nV R)(a d e f:ay)(h:Row):aA R:=aD (ah (d<a)) (aD (ah (0<=d)&&ah (d<(h.length:ay))) (l18 N (λ_ i j _ _ l m o=>g i (bE (j+1)) l m o) N d.toNat a d ((iH (av h d.toNat 0)).length:ay) 0 e f h) aj)<|k a d e f h
def l15(N:aN)(a:nV R):aN->nV R
 |0=>λ_ _ _ _ _=>aj
 |n+1=>r15 N (l15 N a n) a
def r5(N:aN)(g j:AM R)(a:au)(d e f h:ay)(i:Row):aA R:=aD (ah (e<d)) (aD (ah (0<=e)&&ah (e<(i.length:ay))) (aD (qa.c e a) (aD (ah (0<=qa.v e a)&&ah (qa.v e a<((iH (av i e.toNat 0)).length:ay))) (aD (ah (0<=qa.v e a)&&ah (qa.v e a<((iH (av i e.toNat 0)).length:ay))) (g a d (bE (e+1)) f h (dV i e.toNat 0 [CV.l 3 (dV (iH (av i e.toNat 0)) (qa.v e a).toNat 0 [.i ak (ea aq (bE (bN (av (iH (av i e.toNat 0)) (qa.v e a).toNat 0)+1)) 15)])])) aj) aj) aj) aj)<|j a d e f h i
def l5(N:aN)(a:AM R):aN->AM R
 |0=>λ_ _ _ _ _ _=>aj
 |n+1=>r5 N (l5 N a n) a
def b(N:aN)(k:qF R)(a:Row)(d:ay)(e:au):aA R:=aD (iV.c a d) (aD (pb.c a d) (aD (!pb.v a d) (k (iV.v a d).1 (iV.v a d).2)<|l5 N (λ_ _ _ f h i=>aD (ah (bE (h+1)<64)) (k i (bE (h+1)))<|l15 N (λ_ _ _ j l=>k l j) N (i.length:ay) 0 f 0 i) N e ((iV.v a d).1.length:ay) 0 0 (iV.v a d).2 (iV.v a d).1) aj) aj
def vo:=b ck λa r1=>ai (a,r1)
def c:=P4 vo
def v:=SP vo
theorem out{x}:Rm vo c v x:=Wi
end nQ
namespace zC
def b(e:aY->aA R)(a d:au):aA R:=e (cQ (aG a) (aG d))
def v(d a:au):aY:=(cQ (aG d) (aG a))
theorem dW(e:aY->aA R)(d a:au):b e d a=e (v d a):=by first|rfl|(unfold b v;simp only[cj];(repeat' split)<;>rfl)
end zC
namespace rW
def r2(N:aN)(g i j:gO R)(a:Row)(d:au)(e f h:ay):aA R:=aD (ah (h<f)) (aD (ah (0<=h)&&ah (h<(a.length:ay))) (aD (zC.v (br (av a h.toNat 0)) d) (i a d h f h)<|g a d e f (bE (h+1))) aj)<|j a d e f h
def l2(N:aN)(a d:gO R):aN->gO R
 |0=>λ_ _ _ _ _=>aj
 |n+1=>r2 N (l2 N a d n) a d
def b(N:aN)(f:ay->aA R)(a:Row)(e:au):aA R:=l2 N (λ_ _ d _ _=>f d) (λ_ _ _ _ _=>f (-1)) N a e 0 (a.length:ay) 0
def vo:=b ck λa=>ai a
def c:=iZ vo
def v:=jb vo
theorem out{x}:i7 vo c v x:=jd
end rW
namespace vQ
def r5(N:aN)(g h:iW R)(a:au)(d e:ay)(f:Row):aA R:=aD (ah (e<(f.length:ay))) (aD (ah (0<=e)&&ah (e<(f.length:ay))) (aD (!zC.v (br (av f e.toNat 0)) a) (aD (ah (0<=d)&&ah (d<(f.length:ay))) (g a (bE (d+1)) (bE (e+1)) (dV f d.toNat 0 [.s (br (av f e.toNat 0))])) aj)<|g a d (bE (e+1)) f) aj)<|h a d e f
def l5(N:aN)(a:iW R):aN->iW R
 |0=>λ_ _ _ _=>aj
 |n+1=>r5 N (l5 N a n) a
def b(N:aN)(h:Row->aA R)(a:Row)(f:au):aA R:=aD (rW.c a f) (aD (ah (rW.v a f=Ij 1)) (h a)<|l5 N (λ_ d _ e=>aD (fU d (e.length:ay) (e.length:ay)) (aD (fU 0 d ((gG d.toNat e++aT [.s] ((e.length:ay).toNat-d.toNat)++mE (e.length:ay).toNat e).length:ay)) (h (dR (gG d.toNat e++aT [.s] ((e.length:ay).toNat-d.toNat)++mE (e.length:ay).toNat e) (aR 0) d.toNat)) aj) aj) N f (rW.v a f) (bE (rW.v a f+1)) a) aj
def vo:=b ck λa=>ai a
def c:=iZ vo
def v:=jb vo
theorem out{x}:i7 vo c v x:=jd
end vQ
namespace jN
def b(e:Row->aA R)(a:Row)(d:au):aA R:=aD (sA.c a) (aD (vQ.c (sA.v a) d) (e (vQ.v (sA.v a) d)) aj) aj
def vo:=b λa=>ai a
def c:=iZ vo
def v:=jb vo
theorem out{x}:i7 vo c v x:=jd
end jN
namespace uX
def r5(N:aN)(g i:D9 R)(a:au)(d:ay)(e:Row)(f h:ay):aA R:=aD (ah (h<f)) (aD (ah (0<=h)&&ah (h<(e.length:ay))) (aD (qa.c h a) (aD (ah (0<=qa.v h a)&&ah (qa.v h a<((iH (av e h.toNat 0)).length:ay))) (g a (ea aq d (bN (av (iH (av e h.toNat 0)) (qa.v h a).toNat 0))) e f (bE (h+1))) aj) aj) aj)<|i a d e f h
def l5(N:aN)(a:D9 R):aN->D9 R
 |0=>λ_ _ _ _ _=>aj
 |n+1=>r5 N (l5 N a n) a
def b(N:aN)(h:ay->aA R)(a:Row)(d:ay)(e:au):aA R:=aD (pb.c a d) (aD (!pb.v a d) (h 0)<|l5 N (λ_ f _ _ _=>h f) N e 15 a (a.length:ay) 0) aj
def vo:=b ck λa=>ai a
def c:=P4 vo
def v:=SP vo
theorem out{x}:Rm vo c v x:=Wi
end uX
namespace Mz
def b(i:J7 R)(a d e:Row)(f:ay)(h:au):aA R:=aD (iY.c a d e f) (aD (oI.c a d e f) (aD (!oI.v a d e f) (i (iY.v a d e f).1 (iY.v a d e f).2.1 (iY.v a d e f).2.2.1 (iY.v a d e f).2.2.2 ⟨#[]⟩)<|aD (!My.v h) (i (iY.v a d e f).1 (iY.v a d e f).2.1 (iY.v a d e f).2.2.1 (iY.v a d e f).2.2.2 ⟨#[]⟩)<|aD (nQ.c e f h) (aD (rS.c d h) (aD (rS.v d h) (aD (jN.c d h) (aD (b8 ((jN.v d h).length+(aP (aT [.s] 1) 0 [.s h]).length) 16) (i (iY.v a d e f).1 (jN.v d h++aP (aT [.s] 1) 0 [.s h]) (nQ.v e f h).1 (nQ.v e f h).2 ⟨#[]⟩) aj) aj)<|aD (jN.c a h) (aD (b8 ((jN.v a h).length+(aP (aT [.s] 1) 0 [.s h]).length) 16) (aD (ah (((jN.v a h++aP (aT [.s] 1) 0 [.s h]).length:ay)<=2)) (i (jN.v a h++aP (aT [.s] 1) 0 [.s h]) (iY.v a d e f).2.1 (nQ.v e f h).1 (nQ.v e f h).2 ⟨#[]⟩)<|aD (ah (0<((jN.v a h++aP (aT [.s] 1) 0 [.s h]).length:ay))) (aD (fU 1 ((jN.v a h++aP (aT [.s] 1) 0 [.s h]).length:ay) ((jN.v a h++aP (aT [.s] 1) 0 [.s h]).length:ay)) (aD (ah (((iY.v a d e f).2.1.length:ay)<4)) (aD (b8 ((iY.v a d e f).2.1.length+(aP (aT [.s] 1) 0 [.s (br (av (jN.v a h++aP (aT [.s] 1) 0 [.s h]) (aR 0) 0))]).length) 16) (i (dR (jN.v a h++aP (aT [.s] 1) 0 [.s h]) (aR 1) ((jN.v a h++aP (aT [.s] 1) 0 [.s h]).length:ay).toNat) ((iY.v a d e f).2.1++aP (aT [.s] 1) 0 [.s (br (av (jN.v a h++aP (aT [.s] 1) 0 [.s h]) (aR 0) 0))]) (nQ.v e f h).1 (nQ.v e f h).2 ⟨#[]⟩) aj)<|aD (ah (0<((iY.v a d e f).2.1.length:ay))) (aD (uX.c (nQ.v e f h).1 (nQ.v e f h).2 (br (av (jN.v a h++aP (aT [.s] 1) 0 [.s h]) (aR 0) 0))) (aD (uX.c (nQ.v e f h).1 (nQ.v e f h).2 (br (av (iY.v a d e f).2.1 (aR 0) 0))) (aD (ah (uX.v (nQ.v e f h).1 (nQ.v e f h).2 (br (av (jN.v a h++aP (aT [.s] 1) 0 [.s h]) (aR 0) 0))>uX.v (nQ.v e f h).1 (nQ.v e f h).2 (br (av (iY.v a d e f).2.1 (aR 0) 0)))) (aD (fU 1 ((iY.v a d e f).2.1.length:ay) ((iY.v a d e f).2.1.length:ay)) (aD (b8 ((dR (iY.v a d e f).2.1 (aR 1) ((iY.v a d e f).2.1.length:ay).toNat).length+(aP (aT [.s] 1) 0 [.s (br (av (jN.v a h++aP (aT [.s] 1) 0 [.s h]) (aR 0) 0))]).length) 16) (i (dR (jN.v a h++aP (aT [.s] 1) 0 [.s h]) (aR 1) ((jN.v a h++aP (aT [.s] 1) 0 [.s h]).length:ay).toNat) (dR (iY.v a d e f).2.1 (aR 1) ((iY.v a d e f).2.1.length:ay).toNat++aP (aT [.s] 1) 0 [.s (br (av (jN.v a h++aP (aT [.s] 1) 0 [.s h]) (aR 0) 0))]) (nQ.v e f h).1 (nQ.v e f h).2 (br (av (iY.v a d e f).2.1 (aR 0) 0))) aj) aj)<|i (dR (jN.v a h++aP (aT [.s] 1) 0 [.s h]) (aR 1) ((jN.v a h++aP (aT [.s] 1) 0 [.s h]).length:ay).toNat) (iY.v a d e f).2.1 (nQ.v e f h).1 (nQ.v e f h).2 (br (av (jN.v a h++aP (aT [.s] 1) 0 [.s h]) (aR 0) 0))) aj) aj) aj) aj) aj) aj) aj) aj) aj) aj) aj
def vo:=b λa r1 r2 r3 r4=>ai (a,r1,r2,r3,r4)
def c:=A9 vo
def v:=Cb vo
theorem out{x}:BC vo c v x:=CQ
end Mz
namespace pj
def r2(N:aN)(g k:je R)(a d e f h:ay)(i:au)(j l m:ay)(o:au)(p:ay)(q r s t u w:Row):aA R:=aD (ah (a<(w.length:ay))) (aD (ah (0<=a)&&ah (a<(w.length:ay))) (aD (ah (bN (av w a.toNat 0)<h)) (g (bE (a+1)) d e f h i j l m o p q r s t u w)<|k a d e f h i j l m o p q r s t u w) aj)<|k a d e f h i j l m o p q r s t u w
def l2(N:aN)(a:je R):aN->je R
 |0=>λ_ _ _ _ _ _ _ _ _ _ _ _ _ _ _ _ _=>aj
 |n+1=>r2 N (l2 N a n) a
def b(N:aN)(M:dU R)(a:ay)(d e f h:Row)(i:ay)(j l:Row)(m o:ay)(p:au)(q r s:ay)(t:au)(u:ay):aA R:=l2 N (λw y z α x A B C H I K O P Q S U k=>aD (ah (0<=w)&&ah (w<=(k.length:ay))&&b8 (k.length+(aP (aT [Ck.i ak,Ck.s,Ck.i ak,Ck.i ak,Ck.i ak,Ck.s,Ck.i ak] 1) 0 [.i ak x,.s A,.i ak B,.i ak C,.i ak H,.s I,.i ak K]).length) 72) (M y O P Q S z U (Pu.sR k w.toNat (aP (aT [Ck.i ak,Ck.s,Ck.i ak,Ck.i ak,Ck.i ak,Ck.s,Ck.i ak] 1) 0 [.i ak x,.s A,.i ak B,.i ak C,.i ak H,.s I,.i ak K])) α) aj) N 0 a i m o p q r s t u d e f h j l
def vo:=b ck λa r1 r2 r3 r4 r5 r6 r7 r8=>ai (a,r1,r2,r3,r4,r5,r6,r7,r8)
def c:=Xx vo
def v:=aam vo
theorem out{x}:Y8 vo c v x:=agO
end pj
namespace oJ
def r5(N:aN)(g h:iW R)(a:au)(d e:ay)(f:Row):aA R:=aD (ah (e<(f.length:ay))) (aD (ah (0<=e)&&ah (e<(f.length:ay))) (aD (!zy.v (br (av f e.toNat 0)) (bN (av f e.toNat 1)) (bN (av f e.toNat (1+1))) (br (av f e.toNat (1+1+1))) a) (aD (ah (0<=d)&&ah (d<(f.length:ay))) (g a (bE (d+1)) (bE (e+1)) (dV f d.toNat 0 [.s (br (av f e.toNat 0)),.i ak (bN (av f e.toNat 1)),.i ak (bN (av f e.toNat (1+1))),.s (br (av f e.toNat (1+1+1)))])) aj)<|g a d (bE (e+1)) f) aj)<|h a d e f
def l5(N:aN)(a:iW R):aN->iW R
 |0=>λ_ _ _ _=>aj
 |n+1=>r5 N (l5 N a n) a
def b(N:aN)(h:Row->aA R)(a:Row)(f:au):aA R:=aD (rX.c a f) (aD (ah (rX.v a f=Ij 1)) (h a)<|l5 N (λ_ d _ e=>aD (fU d (e.length:ay) (e.length:ay)) (aD (fU 0 d ((gG d.toNat e++aT [Ck.s,Ck.i ak,Ck.i ak,Ck.s] ((e.length:ay).toNat-d.toNat)++mE (e.length:ay).toNat e).length:ay)) (h (dR (gG d.toNat e++aT [Ck.s,Ck.i ak,Ck.i ak,Ck.s] ((e.length:ay).toNat-d.toNat)++mE (e.length:ay).toNat e) (aR 0) d.toNat)) aj) aj) N f (rX.v a f) (bE (rX.v a f+1)) a) aj
def vo:=b ck λa=>ai a
def c:=iZ vo
def v:=jb vo
theorem out{x}:i7 vo c v x:=jd
end oJ
namespace Cj
def b(e:Row->aA R)(a:Row)(d:au):aA R:=aD (vL.c a) (aD (oJ.c (vL.v a) d) (e (oJ.v (vL.v a) d)) aj) aj
def vo:=b λa=>ai a
def c:=iZ vo
def v:=jb vo
theorem out{x}:i7 vo c v x:=jd
end Cj
namespace H3
def b(i:sk R)(a d e:Row)(f:ay)(h:au):aA R:=aD (iY.c a d e f) (aD (jN.c a h) (aD (jN.c d h) (i (jN.v a h) (jN.v d h) (iY.v a d e f).2.2.1 (iY.v a d e f).2.2.2) aj) aj) aj
def vo:=b λa r1 r2 r3=>ai (a,r1,r2,r3)
def c:=A9 vo
def v:=Cb vo
theorem out{x}:BC vo c v x:=CQ
end H3
namespace PM
def b(k:vz R)(a:ay)(d e f h:Row)(i:ay)(j l:Row)(m o:ay)(p:au):aA R:=aD (n7.c a d e f h i j l m) (ch (n7.v a d e f h i j l m) λq=>aD (Mx.c a d e f h i j l m) (ch (Mx.v a d e f h i j l m) λr=>aD (!r) (k q.1 q.2.1 q.2.2.1 q.2.2.2.1 q.2.2.2.2.1 q.2.2.2.2.2.1 q.2.2.2.2.2.2.1 q.2.2.2.2.2.2.2.1 q.2.2.2.2.2.2.2.2 1)<|aD (!j4.v o 1 9) (k q.1 q.2.1 q.2.2.1 q.2.2.2.1 q.2.2.2.2.1 q.2.2.2.2.2.1 q.2.2.2.2.2.2.1 q.2.2.2.2.2.2.2.1 q.2.2.2.2.2.2.2.2 1)<|aD (!My.v p) (k q.1 q.2.1 q.2.2.1 q.2.2.2.1 q.2.2.2.2.1 q.2.2.2.2.2.1 q.2.2.2.2.2.2.1 q.2.2.2.2.2.2.2.1 q.2.2.2.2.2.2.2.2 1)<|aD (Mw.c a d e f h i j l m o) (ch (Mw.v a d e f h i j l m o) λs=>aD (ah (s≥0)) (k q.1 q.2.1 q.2.2.1 q.2.2.2.1 q.2.2.2.2.1 q.2.2.2.2.2.1 q.2.2.2.2.2.2.1 q.2.2.2.2.2.2.2.1 q.2.2.2.2.2.2.2.2 1)<|aD (ah ((l.length:ay)=6)) (k q.1 q.2.1 q.2.2.1 q.2.2.2.1 q.2.2.2.2.1 q.2.2.2.2.2.1 q.2.2.2.2.2.2.1 q.2.2.2.2.2.2.2.1 q.2.2.2.2.2.2.2.2 1)<|aD (vU.c d p) (ch (vU.v d p) λt=>aD (ah (t≥0)) (aD (ah (0<=t)&&ah (t<(d.length:ay))) (aD (Da.v (br (av d t.toNat 0)) (bN (av d t.toNat 1)) (bN (av d t.toNat (1+1))) (br (av d t.toNat (1+1+1))) a) (aD (ah (0<=t)&&ah (t<(d.length:ay))) (aD (Mz.c e f h i p) (ch (Mz.v e f h i p) λu=>aD (pj.c q.1 q.2.1 u.1 u.2.1 u.2.2.1 u.2.2.2.1 q.2.2.2.2.2.2.1 q.2.2.2.2.2.2.2.1 q.2.2.2.2.2.2.2.2 o p 0 (bN (av d t.toNat 1)) 2 (br (av d t.toNat (1+1+1))) (bE (a-bN (av d t.toNat 1)))) (ch (pj.v q.1 q.2.1 u.1 u.2.1 u.2.2.1 u.2.2.2.1 q.2.2.2.2.2.2.1 q.2.2.2.2.2.2.2.1 q.2.2.2.2.2.2.2.2 o p 0 (bN (av d t.toNat 1)) 2 (br (av d t.toNat (1+1+1))) (bE (a-bN (av d t.toNat 1)))) λw=>k w.1 w.2.1 w.2.2.1 w.2.2.2.1 w.2.2.2.2.1 w.2.2.2.2.2.1 w.2.2.2.2.2.2.1 w.2.2.2.2.2.2.2.1 (ea aq (bE (m+1)) 1000000000) 0) aj) aj) aj)<|aD (Is.c a d e f h i j l m p) (ch (Is.v a d e f h i j l m p) λu=>aD (ah (u<0)) (aD (ah ((j.length:ay)=20)) (k q.1 q.2.1 q.2.2.1 q.2.2.2.1 q.2.2.2.2.1 q.2.2.2.2.2.1 q.2.2.2.2.2.2.1 q.2.2.2.2.2.2.2.1 q.2.2.2.2.2.2.2.2 2)<|aD (ah (t≥0)) (aD (Cj.c d p) (ch (Cj.v d p) λw=>aD (H3.c e f h i p) (ch (H3.v e f h i p) λy=>aD (nQ.c h i p) (ch (nQ.v h i p) λz=>aD (ah (u<0)) (aD (b8 (q.2.2.2.2.2.2.1.length+(aP (aT [Ck.s,Ck.s,Ck.i ak,Ck.i ak,Ck.i ak] 1) 0 [.s p,.s ⟨#[]⟩,.i ak 1,.i ak 0,.i ak 0]).length) 56) (aD (ah ((j.length:ay)<((q.2.2.2.2.2.2.1++aP (aT [Ck.s,Ck.s,Ck.i ak,Ck.i ak,Ck.i ak] 1) 0 [.s p,.s ⟨#[]⟩,.i ak 1,.i ak 0,.i ak 0]).length:ay))) (aD (pj.c q.1 w y.1 y.2.1 z.1 z.2 (q.2.2.2.2.2.2.1++aP (aT [Ck.s,Ck.s,Ck.i ak,Ck.i ak,Ck.i ak] 1) 0 [.s p,.s ⟨#[]⟩,.i ak 1,.i ak 0,.i ak 0]) q.2.2.2.2.2.2.2.1 q.2.2.2.2.2.2.2.2 o p (bE ((j.length:ay)+1)) 0 1 (br (av (q.2.2.2.2.2.2.1++aP (aT [Ck.s,Ck.s,Ck.i ak,Ck.i ak,Ck.i ak] 1) 0 [.s p,.s ⟨#[]⟩,.i ak 1,.i ak 0,.i ak 0]) (j.length:ay).toNat 1)) 0) (ch (pj.v q.1 w y.1 y.2.1 z.1 z.2 (q.2.2.2.2.2.2.1++aP (aT [Ck.s,Ck.s,Ck.i ak,Ck.i ak,Ck.i ak] 1) 0 [.s p,.s ⟨#[]⟩,.i ak 1,.i ak 0,.i ak 0]) q.2.2.2.2.2.2.2.1 q.2.2.2.2.2.2.2.2 o p (bE ((j.length:ay)+1)) 0 1 (br (av (q.2.2.2.2.2.2.1++aP (aT [Ck.s,Ck.s,Ck.i ak,Ck.i ak,Ck.i ak] 1) 0 [.s p,.s ⟨#[]⟩,.i ak 1,.i ak 0,.i ak 0]) (j.length:ay).toNat 1)) 0) λα=>k α.1 α.2.1 α.2.2.1 α.2.2.2.1 α.2.2.2.2.1 α.2.2.2.2.2.1 α.2.2.2.2.2.2.1 α.2.2.2.2.2.2.2.1 α.2.2.2.2.2.2.2.2 0) aj) aj) aj)<|aD (ah (0<=u)&&ah (u<(q.2.2.2.2.2.2.1.length:ay))) (aD (pj.c q.1 w y.1 y.2.1 z.1 z.2 q.2.2.2.2.2.2.1 q.2.2.2.2.2.2.2.1 q.2.2.2.2.2.2.2.2 o p (bE (u+1)) 0 1 (br (av q.2.2.2.2.2.2.1 u.toNat 1)) 0) (ch (pj.v q.1 w y.1 y.2.1 z.1 z.2 q.2.2.2.2.2.2.1 q.2.2.2.2.2.2.2.1 q.2.2.2.2.2.2.2.2 o p (bE (u+1)) 0 1 (br (av q.2.2.2.2.2.2.1 u.toNat 1)) 0) λα=>k α.1 α.2.1 α.2.2.1 α.2.2.2.1 α.2.2.2.2.1 α.2.2.2.2.2.1 α.2.2.2.2.2.2.1 α.2.2.2.2.2.2.2.1 α.2.2.2.2.2.2.2.2 0) aj) aj) aj) aj) aj)<|aD (nQ.c h i p) (ch (nQ.v h i p) λw=>aD (ah (u<0)) (aD (b8 (q.2.2.2.2.2.2.1.length+(aP (aT [Ck.s,Ck.s,Ck.i ak,Ck.i ak,Ck.i ak] 1) 0 [.s p,.s ⟨#[]⟩,.i ak 1,.i ak 0,.i ak 0]).length) 56) (aD (ah ((j.length:ay)<((q.2.2.2.2.2.2.1++aP (aT [Ck.s,Ck.s,Ck.i ak,Ck.i ak,Ck.i ak] 1) 0 [.s p,.s ⟨#[]⟩,.i ak 1,.i ak 0,.i ak 0]).length:ay))) (aD (pj.c q.1 q.2.1 q.2.2.1 q.2.2.2.1 w.1 w.2 (q.2.2.2.2.2.2.1++aP (aT [Ck.s,Ck.s,Ck.i ak,Ck.i ak,Ck.i ak] 1) 0 [.s p,.s ⟨#[]⟩,.i ak 1,.i ak 0,.i ak 0]) q.2.2.2.2.2.2.2.1 q.2.2.2.2.2.2.2.2 o p (bE ((j.length:ay)+1)) 0 1 (br (av (q.2.2.2.2.2.2.1++aP (aT [Ck.s,Ck.s,Ck.i ak,Ck.i ak,Ck.i ak] 1) 0 [.s p,.s ⟨#[]⟩,.i ak 1,.i ak 0,.i ak 0]) (j.length:ay).toNat 1)) 0) (ch (pj.v q.1 q.2.1 q.2.2.1 q.2.2.2.1 w.1 w.2 (q.2.2.2.2.2.2.1++aP (aT [Ck.s,Ck.s,Ck.i ak,Ck.i ak,Ck.i ak] 1) 0 [.s p,.s ⟨#[]⟩,.i ak 1,.i ak 0,.i ak 0]) q.2.2.2.2.2.2.2.1 q.2.2.2.2.2.2.2.2 o p (bE ((j.length:ay)+1)) 0 1 (br (av (q.2.2.2.2.2.2.1++aP (aT [Ck.s,Ck.s,Ck.i ak,Ck.i ak,Ck.i ak] 1) 0 [.s p,.s ⟨#[]⟩,.i ak 1,.i ak 0,.i ak 0]) (j.length:ay).toNat 1)) 0) λy=>k y.1 y.2.1 y.2.2.1 y.2.2.2.1 y.2.2.2.2.1 y.2.2.2.2.2.1 y.2.2.2.2.2.2.1 y.2.2.2.2.2.2.2.1 y.2.2.2.2.2.2.2.2 0) aj) aj) aj)<|aD (ah (0<=u)&&ah (u<(q.2.2.2.2.2.2.1.length:ay))) (aD (pj.c q.1 q.2.1 q.2.2.1 q.2.2.2.1 w.1 w.2 q.2.2.2.2.2.2.1 q.2.2.2.2.2.2.2.1 q.2.2.2.2.2.2.2.2 o p (bE (u+1)) 0 1 (br (av q.2.2.2.2.2.2.1 u.toNat 1)) 0) (ch (pj.v q.1 q.2.1 q.2.2.1 q.2.2.2.1 w.1 w.2 q.2.2.2.2.2.2.1 q.2.2.2.2.2.2.2.1 q.2.2.2.2.2.2.2.2 o p (bE (u+1)) 0 1 (br (av q.2.2.2.2.2.2.1 u.toNat 1)) 0) λy=>k y.1 y.2.1 y.2.2.1 y.2.2.2.1 y.2.2.2.2.1 y.2.2.2.2.2.1 y.2.2.2.2.2.2.1 y.2.2.2.2.2.2.2.1 y.2.2.2.2.2.2.2.2 0) aj) aj) aj)<|aD (ah (t≥0)) (aD (Cj.c d p) (ch (Cj.v d p) λw=>aD (H3.c e f h i p) (ch (H3.v e f h i p) λy=>aD (nQ.c h i p) (ch (nQ.v h i p) λz=>aD (ah (u<0)) (aD (b8 (q.2.2.2.2.2.2.1.length+(aP (aT [Ck.s,Ck.s,Ck.i ak,Ck.i ak,Ck.i ak] 1) 0 [.s p,.s ⟨#[]⟩,.i ak 1,.i ak 0,.i ak 0]).length) 56) (aD (ah ((j.length:ay)<((q.2.2.2.2.2.2.1++aP (aT [Ck.s,Ck.s,Ck.i ak,Ck.i ak,Ck.i ak] 1) 0 [.s p,.s ⟨#[]⟩,.i ak 1,.i ak 0,.i ak 0]).length:ay))) (aD (pj.c q.1 w y.1 y.2.1 z.1 z.2 (q.2.2.2.2.2.2.1++aP (aT [Ck.s,Ck.s,Ck.i ak,Ck.i ak,Ck.i ak] 1) 0 [.s p,.s ⟨#[]⟩,.i ak 1,.i ak 0,.i ak 0]) q.2.2.2.2.2.2.2.1 q.2.2.2.2.2.2.2.2 o p (bE ((j.length:ay)+1)) 0 1 (br (av (q.2.2.2.2.2.2.1++aP (aT [Ck.s,Ck.s,Ck.i ak,Ck.i ak,Ck.i ak] 1) 0 [.s p,.s ⟨#[]⟩,.i ak 1,.i ak 0,.i ak 0]) (j.length:ay).toNat 1)) 0) (ch (pj.v q.1 w y.1 y.2.1 z.1 z.2 (q.2.2.2.2.2.2.1++aP (aT [Ck.s,Ck.s,Ck.i ak,Ck.i ak,Ck.i ak] 1) 0 [.s p,.s ⟨#[]⟩,.i ak 1,.i ak 0,.i ak 0]) q.2.2.2.2.2.2.2.1 q.2.2.2.2.2.2.2.2 o p (bE ((j.length:ay)+1)) 0 1 (br (av (q.2.2.2.2.2.2.1++aP (aT [Ck.s,Ck.s,Ck.i ak,Ck.i ak,Ck.i ak] 1) 0 [.s p,.s ⟨#[]⟩,.i ak 1,.i ak 0,.i ak 0]) (j.length:ay).toNat 1)) 0) λα=>k α.1 α.2.1 α.2.2.1 α.2.2.2.1 α.2.2.2.2.1 α.2.2.2.2.2.1 α.2.2.2.2.2.2.1 α.2.2.2.2.2.2.2.1 α.2.2.2.2.2.2.2.2 0) aj) aj) aj)<|aD (ah (0<=u)&&ah (u<(q.2.2.2.2.2.2.1.length:ay))) (aD (pj.c q.1 w y.1 y.2.1 z.1 z.2 q.2.2.2.2.2.2.1 q.2.2.2.2.2.2.2.1 q.2.2.2.2.2.2.2.2 o p (bE (u+1)) 0 1 (br (av q.2.2.2.2.2.2.1 u.toNat 1)) 0) (ch (pj.v q.1 w y.1 y.2.1 z.1 z.2 q.2.2.2.2.2.2.1 q.2.2.2.2.2.2.2.1 q.2.2.2.2.2.2.2.2 o p (bE (u+1)) 0 1 (br (av q.2.2.2.2.2.2.1 u.toNat 1)) 0) λα=>k α.1 α.2.1 α.2.2.1 α.2.2.2.1 α.2.2.2.2.1 α.2.2.2.2.2.1 α.2.2.2.2.2.2.1 α.2.2.2.2.2.2.2.1 α.2.2.2.2.2.2.2.2 0) aj) aj) aj) aj) aj)<|aD (nQ.c h i p) (ch (nQ.v h i p) λw=>aD (ah (u<0)) (aD (b8 (q.2.2.2.2.2.2.1.length+(aP (aT [Ck.s,Ck.s,Ck.i ak,Ck.i ak,Ck.i ak] 1) 0 [.s p,.s ⟨#[]⟩,.i ak 1,.i ak 0,.i ak 0]).length) 56) (aD (ah ((j.length:ay)<((q.2.2.2.2.2.2.1++aP (aT [Ck.s,Ck.s,Ck.i ak,Ck.i ak,Ck.i ak] 1) 0 [.s p,.s ⟨#[]⟩,.i ak 1,.i ak 0,.i ak 0]).length:ay))) (aD (pj.c q.1 q.2.1 q.2.2.1 q.2.2.2.1 w.1 w.2 (q.2.2.2.2.2.2.1++aP (aT [Ck.s,Ck.s,Ck.i ak,Ck.i ak,Ck.i ak] 1) 0 [.s p,.s ⟨#[]⟩,.i ak 1,.i ak 0,.i ak 0]) q.2.2.2.2.2.2.2.1 q.2.2.2.2.2.2.2.2 o p (bE ((j.length:ay)+1)) 0 1 (br (av (q.2.2.2.2.2.2.1++aP (aT [Ck.s,Ck.s,Ck.i ak,Ck.i ak,Ck.i ak] 1) 0 [.s p,.s ⟨#[]⟩,.i ak 1,.i ak 0,.i ak 0]) (j.length:ay).toNat 1)) 0) (ch (pj.v q.1 q.2.1 q.2.2.1 q.2.2.2.1 w.1 w.2 (q.2.2.2.2.2.2.1++aP (aT [Ck.s,Ck.s,Ck.i ak,Ck.i ak,Ck.i ak] 1) 0 [.s p,.s ⟨#[]⟩,.i ak 1,.i ak 0,.i ak 0]) q.2.2.2.2.2.2.2.1 q.2.2.2.2.2.2.2.2 o p (bE ((j.length:ay)+1)) 0 1 (br (av (q.2.2.2.2.2.2.1++aP (aT [Ck.s,Ck.s,Ck.i ak,Ck.i ak,Ck.i ak] 1) 0 [.s p,.s ⟨#[]⟩,.i ak 1,.i ak 0,.i ak 0]) (j.length:ay).toNat 1)) 0) λy=>k y.1 y.2.1 y.2.2.1 y.2.2.2.1 y.2.2.2.2.1 y.2.2.2.2.2.1 y.2.2.2.2.2.2.1 y.2.2.2.2.2.2.2.1 y.2.2.2.2.2.2.2.2 0) aj) aj) aj)<|aD (ah (0<=u)&&ah (u<(q.2.2.2.2.2.2.1.length:ay))) (aD (pj.c q.1 q.2.1 q.2.2.1 q.2.2.2.1 w.1 w.2 q.2.2.2.2.2.2.1 q.2.2.2.2.2.2.2.1 q.2.2.2.2.2.2.2.2 o p (bE (u+1)) 0 1 (br (av q.2.2.2.2.2.2.1 u.toNat 1)) 0) (ch (pj.v q.1 q.2.1 q.2.2.1 q.2.2.2.1 w.1 w.2 q.2.2.2.2.2.2.1 q.2.2.2.2.2.2.2.1 q.2.2.2.2.2.2.2.2 o p (bE (u+1)) 0 1 (br (av q.2.2.2.2.2.2.1 u.toNat 1)) 0) λy=>k y.1 y.2.1 y.2.2.1 y.2.2.2.1 y.2.2.2.2.1 y.2.2.2.2.2.1 y.2.2.2.2.2.2.1 y.2.2.2.2.2.2.2.1 y.2.2.2.2.2.2.2.2 0) aj) aj) aj) aj) aj)<|aD (Is.c a d e f h i j l m p) (ch (Is.v a d e f h i j l m p) λu=>aD (ah (u<0)) (aD (ah ((j.length:ay)=20)) (k q.1 q.2.1 q.2.2.1 q.2.2.2.1 q.2.2.2.2.1 q.2.2.2.2.2.1 q.2.2.2.2.2.2.1 q.2.2.2.2.2.2.2.1 q.2.2.2.2.2.2.2.2 2)<|aD (ah (t≥0)) (aD (Cj.c d p) (ch (Cj.v d p) λw=>aD (H3.c e f h i p) (ch (H3.v e f h i p) λy=>aD (nQ.c h i p) (ch (nQ.v h i p) λz=>aD (ah (u<0)) (aD (b8 (q.2.2.2.2.2.2.1.length+(aP (aT [Ck.s,Ck.s,Ck.i ak,Ck.i ak,Ck.i ak] 1) 0 [.s p,.s ⟨#[]⟩,.i ak 1,.i ak 0,.i ak 0]).length) 56) (aD (ah ((j.length:ay)<((q.2.2.2.2.2.2.1++aP (aT [Ck.s,Ck.s,Ck.i ak,Ck.i ak,Ck.i ak] 1) 0 [.s p,.s ⟨#[]⟩,.i ak 1,.i ak 0,.i ak 0]).length:ay))) (aD (pj.c q.1 w y.1 y.2.1 z.1 z.2 (q.2.2.2.2.2.2.1++aP (aT [Ck.s,Ck.s,Ck.i ak,Ck.i ak,Ck.i ak] 1) 0 [.s p,.s ⟨#[]⟩,.i ak 1,.i ak 0,.i ak 0]) q.2.2.2.2.2.2.2.1 q.2.2.2.2.2.2.2.2 o p (bE ((j.length:ay)+1)) 0 1 (br (av (q.2.2.2.2.2.2.1++aP (aT [Ck.s,Ck.s,Ck.i ak,Ck.i ak,Ck.i ak] 1) 0 [.s p,.s ⟨#[]⟩,.i ak 1,.i ak 0,.i ak 0]) (j.length:ay).toNat 1)) 0) (ch (pj.v q.1 w y.1 y.2.1 z.1 z.2 (q.2.2.2.2.2.2.1++aP (aT [Ck.s,Ck.s,Ck.i ak,Ck.i ak,Ck.i ak] 1) 0 [.s p,.s ⟨#[]⟩,.i ak 1,.i ak 0,.i ak 0]) q.2.2.2.2.2.2.2.1 q.2.2.2.2.2.2.2.2 o p (bE ((j.length:ay)+1)) 0 1 (br (av (q.2.2.2.2.2.2.1++aP (aT [Ck.s,Ck.s,Ck.i ak,Ck.i ak,Ck.i ak] 1) 0 [.s p,.s ⟨#[]⟩,.i ak 1,.i ak 0,.i ak 0]) (j.length:ay).toNat 1)) 0) λα=>k α.1 α.2.1 α.2.2.1 α.2.2.2.1 α.2.2.2.2.1 α.2.2.2.2.2.1 α.2.2.2.2.2.2.1 α.2.2.2.2.2.2.2.1 α.2.2.2.2.2.2.2.2 0) aj) aj) aj)<|aD (ah (0<=u)&&ah (u<(q.2.2.2.2.2.2.1.length:ay))) (aD (pj.c q.1 w y.1 y.2.1 z.1 z.2 q.2.2.2.2.2.2.1 q.2.2.2.2.2.2.2.1 q.2.2.2.2.2.2.2.2 o p (bE (u+1)) 0 1 (br (av q.2.2.2.2.2.2.1 u.toNat 1)) 0) (ch (pj.v q.1 w y.1 y.2.1 z.1 z.2 q.2.2.2.2.2.2.1 q.2.2.2.2.2.2.2.1 q.2.2.2.2.2.2.2.2 o p (bE (u+1)) 0 1 (br (av q.2.2.2.2.2.2.1 u.toNat 1)) 0) λα=>k α.1 α.2.1 α.2.2.1 α.2.2.2.1 α.2.2.2.2.1 α.2.2.2.2.2.1 α.2.2.2.2.2.2.1 α.2.2.2.2.2.2.2.1 α.2.2.2.2.2.2.2.2 0) aj) aj) aj) aj) aj)<|aD (nQ.c h i p) (ch (nQ.v h i p) λw=>aD (ah (u<0)) (aD (b8 (q.2.2.2.2.2.2.1.length+(aP (aT [Ck.s,Ck.s,Ck.i ak,Ck.i ak,Ck.i ak] 1) 0 [.s p,.s ⟨#[]⟩,.i ak 1,.i ak 0,.i ak 0]).length) 56) (aD (ah ((j.length:ay)<((q.2.2.2.2.2.2.1++aP (aT [Ck.s,Ck.s,Ck.i ak,Ck.i ak,Ck.i ak] 1) 0 [.s p,.s ⟨#[]⟩,.i ak 1,.i ak 0,.i ak 0]).length:ay))) (aD (pj.c q.1 q.2.1 q.2.2.1 q.2.2.2.1 w.1 w.2 (q.2.2.2.2.2.2.1++aP (aT [Ck.s,Ck.s,Ck.i ak,Ck.i ak,Ck.i ak] 1) 0 [.s p,.s ⟨#[]⟩,.i ak 1,.i ak 0,.i ak 0]) q.2.2.2.2.2.2.2.1 q.2.2.2.2.2.2.2.2 o p (bE ((j.length:ay)+1)) 0 1 (br (av (q.2.2.2.2.2.2.1++aP (aT [Ck.s,Ck.s,Ck.i ak,Ck.i ak,Ck.i ak] 1) 0 [.s p,.s ⟨#[]⟩,.i ak 1,.i ak 0,.i ak 0]) (j.length:ay).toNat 1)) 0) (ch (pj.v q.1 q.2.1 q.2.2.1 q.2.2.2.1 w.1 w.2 (q.2.2.2.2.2.2.1++aP (aT [Ck.s,Ck.s,Ck.i ak,Ck.i ak,Ck.i ak] 1) 0 [.s p,.s ⟨#[]⟩,.i ak 1,.i ak 0,.i ak 0]) q.2.2.2.2.2.2.2.1 q.2.2.2.2.2.2.2.2 o p (bE ((j.length:ay)+1)) 0 1 (br (av (q.2.2.2.2.2.2.1++aP (aT [Ck.s,Ck.s,Ck.i ak,Ck.i ak,Ck.i ak] 1) 0 [.s p,.s ⟨#[]⟩,.i ak 1,.i ak 0,.i ak 0]) (j.length:ay).toNat 1)) 0) λy=>k y.1 y.2.1 y.2.2.1 y.2.2.2.1 y.2.2.2.2.1 y.2.2.2.2.2.1 y.2.2.2.2.2.2.1 y.2.2.2.2.2.2.2.1 y.2.2.2.2.2.2.2.2 0) aj) aj) aj)<|aD (ah (0<=u)&&ah (u<(q.2.2.2.2.2.2.1.length:ay))) (aD (pj.c q.1 q.2.1 q.2.2.1 q.2.2.2.1 w.1 w.2 q.2.2.2.2.2.2.1 q.2.2.2.2.2.2.2.1 q.2.2.2.2.2.2.2.2 o p (bE (u+1)) 0 1 (br (av q.2.2.2.2.2.2.1 u.toNat 1)) 0) (ch (pj.v q.1 q.2.1 q.2.2.1 q.2.2.2.1 w.1 w.2 q.2.2.2.2.2.2.1 q.2.2.2.2.2.2.2.1 q.2.2.2.2.2.2.2.2 o p (bE (u+1)) 0 1 (br (av q.2.2.2.2.2.2.1 u.toNat 1)) 0) λy=>k y.1 y.2.1 y.2.2.1 y.2.2.2.1 y.2.2.2.2.1 y.2.2.2.2.2.1 y.2.2.2.2.2.2.1 y.2.2.2.2.2.2.2.1 y.2.2.2.2.2.2.2.2 0) aj) aj) aj)<|aD (ah (t≥0)) (aD (Cj.c d p) (ch (Cj.v d p) λw=>aD (H3.c e f h i p) (ch (H3.v e f h i p) λy=>aD (nQ.c h i p) (ch (nQ.v h i p) λz=>aD (ah (u<0)) (aD (b8 (q.2.2.2.2.2.2.1.length+(aP (aT [Ck.s,Ck.s,Ck.i ak,Ck.i ak,Ck.i ak] 1) 0 [.s p,.s ⟨#[]⟩,.i ak 1,.i ak 0,.i ak 0]).length) 56) (aD (ah ((j.length:ay)<((q.2.2.2.2.2.2.1++aP (aT [Ck.s,Ck.s,Ck.i ak,Ck.i ak,Ck.i ak] 1) 0 [.s p,.s ⟨#[]⟩,.i ak 1,.i ak 0,.i ak 0]).length:ay))) (aD (pj.c q.1 w y.1 y.2.1 z.1 z.2 (q.2.2.2.2.2.2.1++aP (aT [Ck.s,Ck.s,Ck.i ak,Ck.i ak,Ck.i ak] 1) 0 [.s p,.s ⟨#[]⟩,.i ak 1,.i ak 0,.i ak 0]) q.2.2.2.2.2.2.2.1 q.2.2.2.2.2.2.2.2 o p (bE ((j.length:ay)+1)) 0 1 (br (av (q.2.2.2.2.2.2.1++aP (aT [Ck.s,Ck.s,Ck.i ak,Ck.i ak,Ck.i ak] 1) 0 [.s p,.s ⟨#[]⟩,.i ak 1,.i ak 0,.i ak 0]) (j.length:ay).toNat 1)) 0) (ch (pj.v q.1 w y.1 y.2.1 z.1 z.2 (q.2.2.2.2.2.2.1++aP (aT [Ck.s,Ck.s,Ck.i ak,Ck.i ak,Ck.i ak] 1) 0 [.s p,.s ⟨#[]⟩,.i ak 1,.i ak 0,.i ak 0]) q.2.2.2.2.2.2.2.1 q.2.2.2.2.2.2.2.2 o p (bE ((j.length:ay)+1)) 0 1 (br (av (q.2.2.2.2.2.2.1++aP (aT [Ck.s,Ck.s,Ck.i ak,Ck.i ak,Ck.i ak] 1) 0 [.s p,.s ⟨#[]⟩,.i ak 1,.i ak 0,.i ak 0]) (j.length:ay).toNat 1)) 0) λα=>k α.1 α.2.1 α.2.2.1 α.2.2.2.1 α.2.2.2.2.1 α.2.2.2.2.2.1 α.2.2.2.2.2.2.1 α.2.2.2.2.2.2.2.1 α.2.2.2.2.2.2.2.2 0) aj) aj) aj)<|aD (ah (0<=u)&&ah (u<(q.2.2.2.2.2.2.1.length:ay))) (aD (pj.c q.1 w y.1 y.2.1 z.1 z.2 q.2.2.2.2.2.2.1 q.2.2.2.2.2.2.2.1 q.2.2.2.2.2.2.2.2 o p (bE (u+1)) 0 1 (br (av q.2.2.2.2.2.2.1 u.toNat 1)) 0) (ch (pj.v q.1 w y.1 y.2.1 z.1 z.2 q.2.2.2.2.2.2.1 q.2.2.2.2.2.2.2.1 q.2.2.2.2.2.2.2.2 o p (bE (u+1)) 0 1 (br (av q.2.2.2.2.2.2.1 u.toNat 1)) 0) λα=>k α.1 α.2.1 α.2.2.1 α.2.2.2.1 α.2.2.2.2.1 α.2.2.2.2.2.1 α.2.2.2.2.2.2.1 α.2.2.2.2.2.2.2.1 α.2.2.2.2.2.2.2.2 0) aj) aj) aj) aj) aj)<|aD (nQ.c h i p) (ch (nQ.v h i p) λw=>aD (ah (u<0)) (aD (b8 (q.2.2.2.2.2.2.1.length+(aP (aT [Ck.s,Ck.s,Ck.i ak,Ck.i ak,Ck.i ak] 1) 0 [.s p,.s ⟨#[]⟩,.i ak 1,.i ak 0,.i ak 0]).length) 56) (aD (ah ((j.length:ay)<((q.2.2.2.2.2.2.1++aP (aT [Ck.s,Ck.s,Ck.i ak,Ck.i ak,Ck.i ak] 1) 0 [.s p,.s ⟨#[]⟩,.i ak 1,.i ak 0,.i ak 0]).length:ay))) (aD (pj.c q.1 q.2.1 q.2.2.1 q.2.2.2.1 w.1 w.2 (q.2.2.2.2.2.2.1++aP (aT [Ck.s,Ck.s,Ck.i ak,Ck.i ak,Ck.i ak] 1) 0 [.s p,.s ⟨#[]⟩,.i ak 1,.i ak 0,.i ak 0]) q.2.2.2.2.2.2.2.1 q.2.2.2.2.2.2.2.2 o p (bE ((j.length:ay)+1)) 0 1 (br (av (q.2.2.2.2.2.2.1++aP (aT [Ck.s,Ck.s,Ck.i ak,Ck.i ak,Ck.i ak] 1) 0 [.s p,.s ⟨#[]⟩,.i ak 1,.i ak 0,.i ak 0]) (j.length:ay).toNat 1)) 0) (ch (pj.v q.1 q.2.1 q.2.2.1 q.2.2.2.1 w.1 w.2 (q.2.2.2.2.2.2.1++aP (aT [Ck.s,Ck.s,Ck.i ak,Ck.i ak,Ck.i ak] 1) 0 [.s p,.s ⟨#[]⟩,.i ak 1,.i ak 0,.i ak 0]) q.2.2.2.2.2.2.2.1 q.2.2.2.2.2.2.2.2 o p (bE ((j.length:ay)+1)) 0 1 (br (av (q.2.2.2.2.2.2.1++aP (aT [Ck.s,Ck.s,Ck.i ak,Ck.i ak,Ck.i ak] 1) 0 [.s p,.s ⟨#[]⟩,.i ak 1,.i ak 0,.i ak 0]) (j.length:ay).toNat 1)) 0) λy=>k y.1 y.2.1 y.2.2.1 y.2.2.2.1 y.2.2.2.2.1 y.2.2.2.2.2.1 y.2.2.2.2.2.2.1 y.2.2.2.2.2.2.2.1 y.2.2.2.2.2.2.2.2 0) aj) aj) aj)<|aD (ah (0<=u)&&ah (u<(q.2.2.2.2.2.2.1.length:ay))) (aD (pj.c q.1 q.2.1 q.2.2.1 q.2.2.2.1 w.1 w.2 q.2.2.2.2.2.2.1 q.2.2.2.2.2.2.2.1 q.2.2.2.2.2.2.2.2 o p (bE (u+1)) 0 1 (br (av q.2.2.2.2.2.2.1 u.toNat 1)) 0) (ch (pj.v q.1 q.2.1 q.2.2.1 q.2.2.2.1 w.1 w.2 q.2.2.2.2.2.2.1 q.2.2.2.2.2.2.2.1 q.2.2.2.2.2.2.2.2 o p (bE (u+1)) 0 1 (br (av q.2.2.2.2.2.2.1 u.toNat 1)) 0) λy=>k y.1 y.2.1 y.2.2.1 y.2.2.2.1 y.2.2.2.2.1 y.2.2.2.2.2.1 y.2.2.2.2.2.2.1 y.2.2.2.2.2.2.2.1 y.2.2.2.2.2.2.2.2 0) aj) aj) aj) aj) aj) aj) aj) aj
def vo:=b λa r1 r2 r3 r4 r5 r6 r7 r8 r9=>ai (a,r1,r2,r3,r4,r5,r6,r7,r8,r9)
def c:=vZ vo
def v:=wR vo
theorem out{x}:wx vo c v x:=zg
end PM
namespace H4
def b(k:aY->aA R)(a:ay)(d e f h:Row)(i:ay)(j l:Row)(m o:ay):aA R:=aD (Mx.c a d e f h i j l m) (aD (Mx.v a d e f h i j l m) (k (j4.v o 0 (bE ((j.length:ay)-1))))<|k aq) aj
def vo:=b λa=>ai a
def c:=pk vo
def v:=pD vo
theorem out{x}:pz vo c v x:=qn
end H4
namespace Im
def b(f:AJ R)(a:ay)(d:au)(e:Row):aA R:=aD (b8 ((aT [Ck.i ak,Ck.i ak] 0).length+e.length) 16) (f a d (aT [Ck.i ak,Ck.i ak] 0++e)) aj
def v(a:ay)(d:au)(e:Row):ay×au×Row:=(a,d,e)
def c(d:ay)(e:au)(a:Row):aY:=ah (a.length<=4294967296)
theorem dW(f:AJ R)(d:ay)(e:au)(a:Row)(j:c d e a=ao):b f d e a=f (v d e a).1 (v d e a).2.1 (v d e a).2.2:=by have h:a.length<=4294967296:=cL j;unfold b;rw[show bB (aT [Ck.i ak,Ck.i ak] 0)+a.length=a.length by simp[aT],b0 (by omega) (by omega)];rfl
end Im
namespace GD
def r2(N:aN)(g k m:w8 R)(a:aY)(d:Row)(e f h:ay)(i:au)(j:Row):aA R:=aD (ah (f<e)) (aD (ah (0<=f)&&ah (f<(d.length:ay))) (aD (!j4.v (bN (av d f.toNat 0)) 1 9) (k aq d e f h i j)<|aD (!j4.v (bN (av d f.toNat 1)) 0 (i.size:ay)) (k aq d e f h i j)<|aD (ah (f>0)) (aD (ah (0<=bE (f-1))&&ah (bE (f-1)<(j.length:ay))) (aD (ah (bN (av j (bE (f-1)).toNat 0)≥bN (av d f.toNat 0))) (k aq d e f h i j)<|g a d e (bE (f+1)) h i j) aj)<|g a d e (bE (f+1)) h i j) aj)<|m a d e f h i j
def l2(N:aN)(a d:w8 R):aN->w8 R
 |0=>λ_ _ _ _ _ _ _=>aj
 |n+1=>r2 N (l2 N a d n) a d
def b(N:aN)(j:aY->aA R)(a:ay)(d:au)(e:Row):aA R:=l2 N (λf _ _ _ _ _ _=>j f) (λ_ _ _ _ f h i=>aD (j4.v f 1 3) (aD (ah ((h.size:ay)<=400)) (j (ah ((i.length:ay)<=6)))<|j aq)<|j aq) N aq e (e.length:ay) 0 a d e
def v(e:ay)(d:au)(a:Row):aY:=(cT a.length).all (kW.el d a)&&kW.rest e d a
theorem dW(f:aY->aA R)(e:ay)(d:au)(a:Row)(S:Co d)(y:AO a):∃N,b N f e d a=f (v e d a):=by
 refine⟨a.length+1,?_⟩
 unfold b;have x:j4.v=jX.v:=rfl;simp only[x,kW.LI]
 have:=fE (λn (i:aN)=>l2 (a.length+1) (λQ U V B C H I=>f Q) (λK M O P s t u=>f (kW.rest s t u)) n aq a a.length i e d a) (λi=>a.length-i) (λi=>i<=a.length)
  (λi=>f ((iA i (a.length-i)).all (kW.el d a)&&kW.rest e d a)) (λn i hi=>by
  simp only[l2,r2,x,c8,b_,dB,bj,kW.mq]
  by_cases h:i<a.length
  ·rw[kW.GK _ h];simp only[h,aQ,aw,cw h y.1];cases k:ah (1<=bN (av a i 0)/\bN (av a i 0)<=9)with
   |false=>left;simp[kW.el,k]
   |true=>
    simp only[aZ,ax];cases m:ah (0<=bN (av a i 1)/\bN (av a i 1)<=d.size)with
    |false=>left;simp[kW.el,m]
    |true=>
     simp only[aZ,ax];by_cases r:0<i
     ·have A:ah ((i:ay)>0)=true:=by simp;omega
      have hp:i-1<a.length:=by omega
      have o:(i==0)=false:=by simp;omega
      simp only[A,aw,kW.Cc r (by have:=y.1;omega),b_,c8,dB,hp,aQ,aL];cases z:ah (bN (av a (i-1) 0)≥bN (av a i 0))with
      |true=>
       left;have j:ah (bN (av a (i-1) 0)<bN (av a i 0))=false:=by simp at z⊢;omega
       simp[kW.el,j,o]
      |false=>
       have j:ah (bN (av a (i-1) 0)<bN (av a i 0))=true:=by simp at z⊢;omega
       right;exact⟨i+1,h,by omega,by simp only[kW.el,k,m,j,Ic,bj],rfl⟩
     ·have r:i=0:=by omega
      subst r;simp only[show ah (((0:aN):ay)>0)=aq from rfl,ax];right;exact⟨1,h,by omega,by simp only[kW.el,k,m,bj];rfl,rfl⟩
  ·left;have h0:a.length-i=0:=by omega
   simp only[h,bg,ax,h0,TS,Cv,bj]) (a.length+1) 0 (by omega) (by omega)
 refine this.trans ?_;unfold v;rw[og,<-TT]
end GD
namespace Th
def b(h:D0 R)(a:ay)(d:au)(e:Row)(f:au):aA R:=aD (Im.c a d e) (aD (!GD.v a d e) (h a d e aq)<|aD (a !=1) (h a d e aq)<|aD (!j4.v (f.size:ay) 1 40) (h a d e aq)<|aD (ah (bE ((d.size:ay)+(f.size:ay))>400)) (h a d e aq)<|aD (ah (d.size+f.size<=4611686018427387904)) (h a (d++f) e ao) aj) aj
def v(d:ay)(e:au)(f:Row)(a:au):ay×au×Row×aY:=
 if kW.v d e f=ao/\d=1/\1<=a.size/\a.size<=40/\e.size+a.size<=400 then(d,e++a,f,ao)else(d,e,f,aq)
def c(e:ay)(f:au)(a:Row)(d:au):aY:=ah (a.length<=4294967296)
theorem dW(o:D0 R)(f:ay)(e:au)(h:Row)(d:au)(z:c f e h d=ao)(x:Co e)(C:AO h)(y:Co d):b o f e h d=o (v f e h d).1 (v f e h d).2.1 (v f e h d).2.2.1 (v f e h d).2.2.2:=by
 have A:e.size<=4611686018427387904:=x;have B:d.size<=4611686018427387904:=y;have r:Im.c f e h=true:=z;have s:∀a b c,GD.v a b c=kW.v a b c:=λ_ _ _=>rfl;have t:∀n a b,j4.v n a b=ah (a<=n/\n<=b):=kW.mq;unfold b v;rw[r,s,t,aw];cases H:kW.v f e h with
 |false=>simp
 |true=>
  by_cases i:f=1
  ·by_cases k:1<=(d.size:ay)/\(d.size:ay)<=40
   ·have u:bE ((e.size:ay)+(d.size:ay))=e.size+d.size:=hZ (by omega) (by omega);rw[u,aC k];by_cases m:(e.size:ay)+(d.size:ay)>400
    ·rw[uD m,bh (by omega)];simp[i]
    ·rw[Bc m,bm (by refine⟨rfl,i,?_,?_,?_⟩<;>omega),uD (show e.size+d.size<=4611686018427387904 by omega)];simp[i]
   ·rw[aF k,bh (by omega)];simp
  ·have j:(f !=1)=true:=bne_iff_ne.mpr i;rw[bh (by simp[i]),j];rfl
end Th
namespace NT
def r1(N:aN)(g k:iD R)(a d e f h i:ay)(j l m o p q:Row):aA R:=aD (ah (e<d)) (aD (ah (0<=e)&&ah (e<(j.length:ay))) (aD (ah (bN (av j e.toNat (1+1))=bE (a+1))) (aD (ah (bN (av j e.toNat (1+1+1+1))=1)) (aD (ah (0<=a)&&ah (a<(q.length:ay))) (aD (ah (0<=e)&&ah (e<(j.length:ay))) (g a d (bE (e+1)) f h i (dV j e.toNat 5 [.s (br (av q a.toNat 1))]) l m o p q) aj) aj)<|g a d (bE (e+1)) f h i j l m o p q)<|g a d (bE (e+1)) f h i j l m o p q) aj)<|k a d e f h i j l m o p q
def l1(N:aN)(a:iD R):aN->iD R
 |0=>λ_ _ _ _ _ _ _ _ _ _ _ _=>aj
 |n+1=>r1 N (l1 N a n) a
def b(N:aN)(k:dU R)(a:ay)(d e f h:Row)(i:ay)(j l:Row)(m o:ay):aA R:=l1 N (λ_ _ _ p q r s t u w y z=>k p t u w y q z s r) N o (l.length:ay) 0 a i m l d e f h j
def vo:=b ck λa r1 r2 r3 r4 r5 r6 r7 r8=>ai (a,r1,r2,r3,r4,r5,r6,r7,r8)
def c:=pk vo
def v:=pD vo
theorem out{x}:pz vo c v x:=qn
end NT
namespace Ta
def b(k:kA R)(a:ay)(d e f h:Row)(i:ay)(j l:Row)(m o:ay)(p:au):aA R:=aD (n7.c a d e f h i j l m) (ch (n7.v a d e f h i j l m) λq=>aD (H4.c a d e f h i j l m o) (ch (H4.v a d e f h i j l m o) λr=>aD (!r) (k q.1 q.2.1 q.2.2.1 q.2.2.2.1 q.2.2.2.2.1 q.2.2.2.2.2.1 q.2.2.2.2.2.2.1 q.2.2.2.2.2.2.2.1 q.2.2.2.2.2.2.2.2 aq)<|aD (ah (0<=o)&&ah (o<(j.length:ay))) (aD (ah (0<=o)&&ah (o<(j.length:ay))) (aD (!(Th.v (bN (av j o.toNat 2)) (br (av j o.toNat 1)) [] p).2.2.2) (k q.1 q.2.1 q.2.2.1 q.2.2.2.1 q.2.2.2.2.1 q.2.2.2.2.2.1 q.2.2.2.2.2.2.1 q.2.2.2.2.2.2.2.1 q.2.2.2.2.2.2.2.2 aq)<|aD (ah (0<=o)&&ah (o<(q.2.2.2.2.2.2.1.length:ay))) (aD (NT.c q.1 q.2.1 q.2.2.1 q.2.2.2.1 q.2.2.2.2.1 q.2.2.2.2.2.1 (dV q.2.2.2.2.2.2.1 o.toNat 1 [.s (Th.v (bN (av j o.toNat 2)) (br (av j o.toNat 1)) [] p).2.1]) q.2.2.2.2.2.2.2.1 q.2.2.2.2.2.2.2.2 o) (ch (NT.v q.1 q.2.1 q.2.2.1 q.2.2.2.1 q.2.2.2.2.1 q.2.2.2.2.2.1 (dV q.2.2.2.2.2.2.1 o.toNat 1 [.s (Th.v (bN (av j o.toNat 2)) (br (av j o.toNat 1)) [] p).2.1]) q.2.2.2.2.2.2.2.1 q.2.2.2.2.2.2.2.2 o) λs=>k s.1 s.2.1 s.2.2.1 s.2.2.2.1 s.2.2.2.2.1 s.2.2.2.2.2.1 s.2.2.2.2.2.2.1 s.2.2.2.2.2.2.2.1 s.2.2.2.2.2.2.2.2 ao) aj) aj) aj) aj) aj) aj
def vo:=b λa r1 r2 r3 r4 r5 r6 r7 r8 r9=>ai (a,r1,r2,r3,r4,r5,r6,r7,r8,r9)
def c:=vZ vo
def v:=wR vo
theorem out{x}:wx vo c v x:=zg
end Ta
namespace Iv
def r1(N:aN)(g k:iR R)(a d e f h i j:ay)(l m o p q r:Row):aA R:=aD (ah (f<e)) (aD (ah (0<=f)&&ah (f<(l.length:ay))) (aD (ah (bN (av l f.toNat (1+1))=bE (a+1))) (aD (ah (bN (av l f.toNat (1+1+1+1))=1)) (aD (ah (0<=a)&&ah (a<(r.length:ay))) (aD (ah (0<=f)&&ah (f<(l.length:ay))) (aD (ah (0<=f)&&ah (f<((dV l f.toNat 4 [.i ak d]).length:ay))) (g a d e (bE (f+1)) h i j (dV (dV l f.toNat 4 [.i ak d]) f.toNat 5 [.s (br (av r a.toNat 1))]) m o p q r) aj) aj) aj)<|g a d e (bE (f+1)) h i j l m o p q r)<|g a d e (bE (f+1)) h i j l m o p q r) aj)<|k a d e f h i j l m o p q r
def l1(N:aN)(a:iR R):aN->iR R
 |0=>λ_ _ _ _ _ _ _ _ _ _ _ _ _=>aj
 |n+1=>r1 N (l1 N a n) a
def b(N:aN)(k:dU R)(a:ay)(d e f h:Row)(i:ay)(j l:Row)(m o p:ay):aA R:=l1 N (λ_ _ _ _ q r s t u w y z α=>k q u w y z r α t s) N o p (l.length:ay) 0 a i m l d e f h j
def vo:=b ck λa r1 r2 r3 r4 r5 r6 r7 r8=>ai (a,r1,r2,r3,r4,r5,r6,r7,r8)
def c:=vZ vo
def v:=wR vo
theorem out{x}:wx vo c v x:=zg
end Iv
namespace uf
def r3(N:aN)(g j:vA R)(a:ay)(d:au)(e f:ay)(h:au)(i:Row):aA R:=aD (ah (a<(i.length:ay))) (aD (ah (0<=a)&&ah (a<(i.length:ay))) (aD (b7 (br (av i a.toNat 0)).toList (aG d)) (g (bE (a+1)) d e f h i)<|j a d e f h i) aj)<|j a d e f h i
def l3(N:aN)(a:vA R):aN->vA R
 |0=>λ_ _ _ _ _ _=>aj
 |n+1=>r3 N (l3 N a n) a
def b(N:aN)(k:Row->aA R)(a:Row)(d:au)(e f:ay)(h:au):aA R:=aD (Cj.c a d) (l3 N (λi j l m o p=>aD (ah (0<=i)&&ah (i<=(p.length:ay))&&b8 (p.length+(aP (aT [Ck.s,Ck.i ak,Ck.i ak,Ck.s] 1) 0 [.s j,.i ak l,.i ak m,.s o]).length) 48) (k (Pu.sR p i.toNat (aP (aT [Ck.s,Ck.i ak,Ck.i ak,Ck.s] 1) 0 [.s j,.i ak l,.i ak m,.s o]))) aj) N 0 d e f h (Cj.v a d)) aj
def vo:=b ck λa=>ai a
def c:=A9 vo
def v:=Cb vo
theorem out{x}:BC vo c v x:=CQ
end uf
namespace yh
def b(k:dU R)(a:ay)(d e f h:Row)(i:ay)(j l:Row)(m:ay)(o:au)(p q:ay)(r:au):aA R:=aD (Mz.c e f h i o) (ch (Mz.v e f h i o) λs=>aD (Cj.c d s.2.2.2.2) (ch (Cj.v d s.2.2.2.2) λt=>aD (Gi.c s.1 s.2.1 s.2.2.1 s.2.2.2.1 o) (ch (Gi.v s.1 s.2.1 s.2.2.1 s.2.2.2.1 o) λu=>aD u (aD (uf.c t o p q r) (ch (uf.v t o p q r) λw=>k a w s.1 s.2.1 s.2.2.1 s.2.2.2.1 j l m) aj)<|k a t s.1 s.2.1 s.2.2.1 s.2.2.2.1 j l m) aj) aj) aj
def vo:=b λa r1 r2 r3 r4 r5 r6 r7 r8=>ai (a,r1,r2,r3,r4,r5,r6,r7,r8)
def c:=KV vo
def v:=L8 vo
theorem out{x}:LD vo c v x:=Rw
end yh
namespace Ti
def b(k:kA R)(a:ay)(d e f h:Row)(i:ay)(j l:Row)(m o p:ay):aA R:=aD (n7.c a d e f h i j l m) (ch (n7.v a d e f h i j l m) λq=>aD (H4.c a d e f h i j l m o) (ch (H4.v a d e f h i j l m o) λr=>aD (!r) (k q.1 q.2.1 q.2.2.1 q.2.2.2.1 q.2.2.2.2.1 q.2.2.2.2.2.1 q.2.2.2.2.2.2.1 q.2.2.2.2.2.2.2.1 q.2.2.2.2.2.2.2.2 aq)<|aD (ah (0<=o)&&ah (o<(j.length:ay))) (aD (bN (av j o.toNat 2) !=1) (k q.1 q.2.1 q.2.2.1 q.2.2.2.1 q.2.2.2.2.1 q.2.2.2.2.2.1 q.2.2.2.2.2.2.1 q.2.2.2.2.2.2.2.1 q.2.2.2.2.2.2.2.2 aq)<|aD (!j4.v p 0 999999) (k q.1 q.2.1 q.2.2.1 q.2.2.2.1 q.2.2.2.2.1 q.2.2.2.2.2.1 q.2.2.2.2.2.2.1 q.2.2.2.2.2.2.2.1 q.2.2.2.2.2.2.2.2 aq)<|aD (ah (0<=o)&&ah (o<(q.2.2.2.2.2.2.1.length:ay))) (aD (Iv.c q.1 q.2.1 q.2.2.1 q.2.2.2.1 q.2.2.2.2.1 q.2.2.2.2.2.1 (dV (dV (dV q.2.2.2.2.2.2.1 o.toNat 2 [.i ak 2]) o.toNat 3 [.i ak p]) o.toNat 4 [.i ak a]) q.2.2.2.2.2.2.2.1 q.2.2.2.2.2.2.2.2 o 2) (ch (Iv.v q.1 q.2.1 q.2.2.1 q.2.2.2.1 q.2.2.2.2.1 q.2.2.2.2.2.1 (dV (dV (dV q.2.2.2.2.2.2.1 o.toNat 2 [.i ak 2]) o.toNat 3 [.i ak p]) o.toNat 4 [.i ak a]) q.2.2.2.2.2.2.2.1 q.2.2.2.2.2.2.2.2 o 2) λs=>aD (ah (p>0)) (aD (yh.c s.1 s.2.1 s.2.2.1 s.2.2.2.1 s.2.2.2.2.1 s.2.2.2.2.2.1 s.2.2.2.2.2.2.1 s.2.2.2.2.2.2.2.1 s.2.2.2.2.2.2.2.2 (br (av s.2.2.2.2.2.2.1 o.toNat 0)) a p (br (av s.2.2.2.2.2.2.1 o.toNat 1))) (ch (yh.v s.1 s.2.1 s.2.2.1 s.2.2.2.1 s.2.2.2.2.1 s.2.2.2.2.2.1 s.2.2.2.2.2.2.1 s.2.2.2.2.2.2.2.1 s.2.2.2.2.2.2.2.2 (br (av s.2.2.2.2.2.2.1 o.toNat 0)) a p (br (av s.2.2.2.2.2.2.1 o.toNat 1))) λt=>k t.1 t.2.1 t.2.2.1 t.2.2.2.1 t.2.2.2.2.1 t.2.2.2.2.2.1 t.2.2.2.2.2.2.1 t.2.2.2.2.2.2.2.1 t.2.2.2.2.2.2.2.2 ao) aj)<|k s.1 s.2.1 s.2.2.1 s.2.2.2.1 s.2.2.2.2.1 s.2.2.2.2.2.1 s.2.2.2.2.2.2.1 s.2.2.2.2.2.2.2.1 s.2.2.2.2.2.2.2.2 ao) aj) aj) aj) aj) aj
def vo:=b λa r1 r2 r3 r4 r5 r6 r7 r8 r9=>ai (a,r1,r2,r3,r4,r5,r6,r7,r8,r9)
def c:=vZ vo
def v:=wR vo
theorem out{x}:wx vo c v x:=zg
end Ti
namespace nq
def r4(N:aN)(g e:w9 R)(a:ay)(d:Row):aA R:=aD (ah (a>127)) (aD (b8 (d.length+(aP (aT [Ck.i ba] 1) 0 [CV.i ba (bF ba (bE (cx a 128+128)))]).length) 1) (g (bE (cK a 128)) (d++aP (aT [Ck.i ba] 1) 0 [CV.i ba (bF ba (bE (cx a 128+128)))])) aj)<|e a d
def l4(N:aN)(a:w9 R):aN->w9 R
 |0=>λ_ _=>aj
 |n+1=>r4 N (l4 N a n) a
def b(N:aN)(f:vC R)(a:ay):aA R:=aD (!j4.v a 0 1000000000) (f ⟨#[]⟩ aq)<|l4 N (λd e=>aD (b8 (e.length+(aP (aT [Ck.i ba] 1) 0 [CV.i ba (bF ba d)]).length) 1) (aD (ah ((e++aP (aT [Ck.i ba] 1) 0 [CV.i ba (bF ba d)]).length<=4611686018427387904)) (f (bytesOf (e++aP (aT [Ck.i ba] 1) 0 [CV.i ba (bF ba d)])) ao) aj) aj) N a (aT [Ck.i ba] 0)
def v(a:ay):au×aY:=if 0<=a/\a<=1000000000 then(bytesOf (vb a),ao)else(⟨#[]⟩,aq)
theorem dW(f:vC R)(a:ay):∃N,b N f a=f (v a).1 (v a).2:=by
 refine⟨a.toNat+1,?_⟩
 unfold b v;by_cases d:0<=a/\a<=1000000000
 ·have e:j4.v a 0 1000000000=true:=by simp[j4.v,d]
  rw[e,bm d];refine Ax (λn x acc=>l4 (a.toNat+1) _ n x acc) (λy=>f y ao) (λn x acc h hl=> ?_) (λn x acc h hl=> ?_) a (by omega)
  ·simp only[l4,r4,h,aQ,aw,gm,show acc.length+bB [[CV.i ba (bF ba (bE (cx x 128+128)))]]=acc.length+1 from rfl,yH (show acc.length+1<=140737488355328 by omega),show ah ((128:ay)=0)=aq from rfl,vv,bG]
  ·simp only[l4,r4,h,bg,ax,gm,show acc.length+bB [[CV.i ba (bF ba x)]]=acc.length+1 from rfl,yH (show acc.length+1<=140737488355328 by omega),aw];exact oN (uD (by rw[bW,bu];omega))
 ·have e:j4.v a 0 1000000000=false:=by simp[j4.v];omega
  rw[e,bh d];rfl
end nq
namespace CF
def b(d:vC R)(a:au):aA R:=aD (ah ((a.size:ay)>20000)) (d ⟨#[]⟩ aq)<|aD (ah ((nq.v (a.size:ay)).1.size+a.size<=4611686018427387904)) (d ((nq.v (a.size:ay)).1++a) ao) aj
def v(a:au):au×aY:=if a.size>20000 then(⟨#[]⟩,aq)else(bytesOf (vb a.size)++a,ao)
theorem dW(d:vC R)(a:au):b d a=d (v a).1 (v a).2:=by
 unfold b v;by_cases h:a.size>20000
 ·rw[bm h,show ah ((a.size:ay)>20000)=ao by simp;omega];rfl
 ·rw[bh h,show ah ((a.size:ay)>20000)=aq by simp;omega];have e:nq.v (a.size:ay)=(bytesOf (vb a.size),ao):=by unfold nq.v;rw[bm (by omega)]
  have:=gU (x:=(a.size:ay)) (by omega);rw[e,ax];simp(disch:=omega) only[E_,aw]
end CF
namespace CC
def b(h:vC R)(a:au)(d e:ay)(f:au):aA R:=aD (!vM.v a d e f) (h ⟨#[]⟩ aq)<|aD (ah ((CF.v a).1.size+(nq.v d).1.size<=4611686018427387904)) (aD (ah (((CF.v a).1++(nq.v d).1).size+(nq.v e).1.size<=4611686018427387904)) (aD (ah (((CF.v a).1++(nq.v d).1++(nq.v e).1).size+f.size<=4611686018427387904)) (h ((CF.v a).1++(nq.v d).1++(nq.v e).1++f) ao) aj) aj) aj
def v(a:au)(d:ay)(e:ay)(f:au):au×aY:=jr.v a d e f
theorem dW(i:vC R)(a:au)(d:ay)(e:ay)(f:au):b i a d e f=i (v a d e f).1 (v a d e f).2:=by
 have o:vM.v a d e f=gu.v a d e f:=rfl;unfold b v jr.v;rw[o];cases h:gu.v a d e f with
 |false=>rfl
 |true=>
  have r:=gu.FN h;have s:(bytesOf (vb (a.size:ay))).size<=64:=gU (x:=(a.size:ay)) (by omega);have t:(bytesOf (vb d)).size<=64:=gU (x:=d) (by omega);have u:(bytesOf (vb e)).size<=64:=gU (x:=e) (by omega);have j:CF.v a=(bytesOf (vb a.size)++a,ao):=by unfold CF.v;rw[bh (by omega)]
  have k:nq.v d=(bytesOf (vb d),ao):=by unfold nq.v;rw[bm (by omega)]
  have m:nq.v e=(bytesOf (vb e),ao):=by unfold nq.v;rw[bm (by omega)]
  rw[j,k,m];simp(disch:=omega) only[aZ,ax,aw,if_true,dm,E_];rfl
end CC
namespace uk
def b(d:au->aA R)(a:au):aA R:=aD (uj.c a) (d (bytesOf (aP (aP (aP (aP (aT [Ck.i ba] 4) 0 [CV.i ba (bF ba (pe (uj.v a) (iP 2 (if aR 24<=32 then aR 24 else 32))))]) 1 [CV.i ba (bF ba (pe (uj.v a) (iP 2 (if aR 16<=32 then aR 16 else 32))))]) 2 [CV.i ba (bF ba (pe (uj.v a) (iP 2 (if aR 8<=32 then aR 8 else 32))))]) 3 [CV.i ba (bF ba (uj.v a))]))) aj
def vo:=b λa=>ai a
def c:=ka vo
def v:=ko vo
theorem out{x}:ki vo c v x:=kL
end uk
namespace AW
def b(d:vC R)(a:au):aA R:=aD (!j4.v (a.size:ay) 1 9000) (d ⟨#[]⟩ aq)<|aD (uk.c a) (aD (ah ((nq.v (a.size:ay)).1.size+(uk.v a).size<=4611686018427387904)) (aD (ah (((nq.v (a.size:ay)).1++uk.v a).size+a.size<=4611686018427387904)) (d ((nq.v (a.size:ay)).1++uk.v a++a) ao) aj) aj) aj
def vo:=b λa r1=>ai (a,r1)
def c:=ka vo
def v:=ko vo
theorem out{x}:ki vo c v x:=kL
end AW
namespace mh
def b(h:vC R)(a:au)(d e:ay)(f:au):aA R:=aD (!(CC.v a d e f).2) (h ⟨#[]⟩ aq)<|aD (AW.c (CC.v a d e f).1) (h (AW.v (CC.v a d e f).1).1 (AW.v (CC.v a d e f).1).2) aj
def vo:=b λa r1=>ai (a,r1)
def c:=A8 vo
def v:=Ca vo
theorem out{x}:BB vo c v x:=CP
end mh
namespace H5
def b(h:uM R)(a:au)(d e:ay)(f:au):aA R:=aD (mh.c a d e f) (aD (!(mh.v a d e f).2) (h [] aq)<|h (aP (aP (aT [Ck.i ak,Ck.s,Ck.s,Ck.s] 2) 0 [.i ak 1,.s (az #[ar 107,ar 101,ar 112,ar 116]),.s (mh.v a d e f).1,.s ⟨#[]⟩]) 1 [.i ak 2,.s (az #[ar 107,ar 101,ar 112,ar 116]),.s ⟨#[]⟩,.s ⟨#[]⟩]) ao) aj
def vo:=b λa r1=>ai (a,r1)
def c:=A8 vo
def v:=Ca vo
theorem out{x}:BB vo c v x:=CP
end H5
namespace sr
def b(d:Row->aA R)(a:Row):aA R:=aD (b8 ((aT [Ck.s,Ck.s,Ck.i ak] 0).length+a.length) 40) (d (aT [Ck.s,Ck.s,Ck.i ak] 0++a)) aj
def vo:=b λa=>ai a
def c:=ka vo
def v:=ko vo
theorem out{x}:ki vo c v x:=kL
end sr
namespace Ir
def b(h:aY->aA R)(a d:au)(e:ay)(f:au):aA R:=h (cQ (aG a) (aG f))
def v(d a1:au)(a2:ay)(a:au):aY:=(cQ (aG d) (aG a))
theorem dW(e:aY->aA R)(d a1:au)(a2:ay)(a:au):b e d a1 a2 a=e (v d a1 a2 a):=by first|rfl|(unfold b v;simp only[cj];(repeat' split)<;>rfl)
end Ir
namespace rK
def r2(N:aN)(g i j:gO R)(a:Row)(d:au)(e f h:ay):aA R:=aD (ah (h<f)) (aD (ah (0<=h)&&ah (h<(a.length:ay))) (aD (Ir.v (br (av a h.toNat 0)) (br (av a h.toNat 1)) (bN (av a h.toNat (1+1))) d) (i a d h f h)<|g a d e f (bE (h+1))) aj)<|j a d e f h
def l2(N:aN)(a d:gO R):aN->gO R
 |0=>λ_ _ _ _ _=>aj
 |n+1=>r2 N (l2 N a d n) a d
def b(N:aN)(f:ay->aA R)(a:Row)(e:au):aA R:=l2 N (λ_ _ d _ _=>f d) (λ_ _ _ _ _=>f (-1)) N a e 0 (a.length:ay) 0
def vo:=b ck λa=>ai a
def c:=iZ vo
def v:=jb vo
theorem out{x}:i7 vo c v x:=jd
end rK
namespace zD
def b(h:aY->aA R)(a d:au)(e:ay)(f:au):aA R:=h (cQ (aG a) (aG f))
def v(d a1:au)(a2:ay)(a:au):aY:=(cQ (aG d) (aG a))
theorem dW(e:aY->aA R)(d a1:au)(a2:ay)(a:au):b e d a1 a2 a=e (v d a1 a2 a):=by first|rfl|(unfold b v;simp only[cj];(repeat' split)<;>rfl)
end zD
namespace mG
def r2(N:aN)(g i j:gO R)(a:Row)(d:au)(e f h:ay):aA R:=aD (ah (h<f)) (aD (ah (0<=h)&&ah (h<(a.length:ay))) (aD (zD.v (br (av a h.toNat 0)) (br (av a h.toNat 1)) (bN (av a h.toNat (1+1))) d) (i a d h f h)<|g a d e f (bE (h+1))) aj)<|j a d e f h
def l2(N:aN)(a d:gO R):aN->gO R
 |0=>λ_ _ _ _ _=>aj
 |n+1=>r2 N (l2 N a d n) a d
def b(N:aN)(f:ay->aA R)(a:Row)(e:au):aA R:=l2 N (λ_ _ d _ _=>f d) (λ_ _ _ _ _=>f (-1)) N a e 0 (a.length:ay) 0
def vo:=b ck λa=>ai a
def c:=iZ vo
def v:=jb vo
theorem out{x}:i7 vo c v x:=jd
end mG
namespace gQ
def b(e:ay->aA R)(a:Row)(d:au):aA R:=aD (rK.c a d) (e (rK.v a d)) aj
def vo:=b λa=>ai a
def c:=iZ vo
def v:=jb vo
theorem out{x}:i7 vo c v x:=jd
end gQ
namespace jO
def r2(N:aN)(g i j:DX R)(a:aY)(d:Row)(e f:ay)(h:Row):aA R:=aD (ah (f<e)) (aD (ah (0<=f)&&ah (f<(d.length:ay))) (aD (!j4.v ((br (av d f.toNat 0)).size:ay) 1 8) (i aq d e f h)<|aD (ah (((br (av d f.toNat 1)).size:ay)>20000)) (i aq d e f h)<|aD (!j4.v (bN (av d f.toNat (1+1))) 0 ((br (av d f.toNat 1)).size:ay)) (i aq d e f h)<|aD (ah (f>0)) (aD (ah (0<=bE (f-1))&&ah (bE (f-1)<(h.length:ay))) (aD (!Op.bytesLess (br (av h (bE (f-1)).toNat 0)).toList (br (av d f.toNat 0)).toList) (i aq d e f h)<|g a d e (bE (f+1)) h) aj)<|g a d e (bE (f+1)) h) aj)<|j a d e f h
def l2(N:aN)(a d:DX R):aN->DX R
 |0=>λ_ _ _ _ _=>aj
 |n+1=>r2 N (l2 N a d n) a d
def b(N:aN)(e:aY->aA R)(a:Row):aA R:=l2 N (λd _ _ _ _=>e d) (λ_ _ _ _ d=>e (ah ((d.length:ay)<=30))) N aq a (a.length:ay) 0 a
def vo:=b ck λa=>ai a
def c:=ka vo
def v:=ko vo
theorem out{x}:ki vo c v x:=kL
end jO
namespace Ip
def b(h:aY->aA R)(a:ay)(d e f:au):aA R:=aD (j4.v a 1 4) (aD (cQ (aG e) (aG ⟨#[]⟩)) (aD (cQ (aG f) (aG ⟨#[]⟩)) (h ao)<|h (ah (a=3)))<|aD (ah (a=1)) (aD (cQ (aG f) (aG ⟨#[]⟩)) (h ao)<|h (ah (a=3)))<|h aq)<|h aq
def v(a:ay)(a1 a2 a3:au):aY:=aD (j4.v a 1 4) (aD (cQ (aG a2) (aG (az #[]))) (aD (cQ (aG a3) (aG (az #[]))) ao<|decide (a=3))<|aD (ah (a=1)) (aD (cQ (aG a3) (aG (az #[]))) ao<|decide (a=3)) aq) aq
theorem dW(d:aY->aA R)(a:ay)(a1 a2 a3:au):b d a a1 a2 a3=d (v a a1 a2 a3):=by first|rfl|(unfold b v;simp only[cj];(repeat' split)<;>rfl)
end Ip
namespace vT
def r5(N:aN)(g h:iW R)(a:au)(d e:ay)(f:Row):aA R:=aD (ah (e<(f.length:ay))) (aD (ah (0<=e)&&ah (e<(f.length:ay))) (aD (!zD.v (br (av f e.toNat 0)) (br (av f e.toNat 1)) (bN (av f e.toNat (1+1))) a) (aD (ah (0<=d)&&ah (d<(f.length:ay))) (g a (bE (d+1)) (bE (e+1)) (dV f d.toNat 0 [.s (br (av f e.toNat 0)),.s (br (av f e.toNat 1)),.i ak (bN (av f e.toNat (1+1)))])) aj)<|g a d (bE (e+1)) f) aj)<|h a d e f
def l5(N:aN)(a:iW R):aN->iW R
 |0=>λ_ _ _ _=>aj
 |n+1=>r5 N (l5 N a n) a
def b(N:aN)(h:Row->aA R)(a:Row)(f:au):aA R:=aD (mG.c a f) (aD (ah (mG.v a f=Ij 1)) (h a)<|l5 N (λ_ d _ e=>aD (fU d (e.length:ay) (e.length:ay)) (aD (fU 0 d ((gG d.toNat e++aT [Ck.s,Ck.s,Ck.i ak] ((e.length:ay).toNat-d.toNat)++mE (e.length:ay).toNat e).length:ay)) (h (dR (gG d.toNat e++aT [Ck.s,Ck.s,Ck.i ak] ((e.length:ay).toNat-d.toNat)++mE (e.length:ay).toNat e) (aR 0) d.toNat)) aj) aj) N f (mG.v a f) (bE (mG.v a f+1)) a) aj
def vo:=b ck λa=>ai a
def c:=iZ vo
def v:=jb vo
theorem out{x}:i7 vo c v x:=jd
end vT
namespace mi
def b(e:Row->aA R)(a:Row)(d:au):aA R:=aD (sr.c a) (aD (vT.c (sr.v a) d) (e (vT.v (sr.v a) d)) aj) aj
def vo:=b λa=>ai a
def c:=iZ vo
def v:=jb vo
theorem out{x}:i7 vo c v x:=jd
end mi
namespace kF
def r3(N:aN)(g i:D3 R)(a:ay)(d e:au)(f:ay)(h:Row):aA R:=aD (ah (a<(h.length:ay))) (aD (ah (0<=a)&&ah (a<(h.length:ay))) (aD (b7 (br (av h a.toNat 0)).toList (aG d)) (g (bE (a+1)) d e f h)<|i a d e f h) aj)<|i a d e f h
def l3(N:aN)(a:D3 R):aN->D3 R
 |0=>λ_ _ _ _ _=>aj
 |n+1=>r3 N (l3 N a n) a
def b(N:aN)(k:Row->aA R)(a:Row)(d e:au)(f:ay):aA R:=aD (mi.c a d) (l3 N (λh i j l m=>aD (ah (0<=h)&&ah (h<=(m.length:ay))&&b8 (m.length+(aP (aT [Ck.s,Ck.s,Ck.i ak] 1) 0 [.s i,.s j,.i ak l]).length) 40) (k (Pu.sR m h.toNat (aP (aT [Ck.s,Ck.s,Ck.i ak] 1) 0 [.s i,.s j,.i ak l]))) aj) N 0 d e f (mi.v a d)) aj
def vo:=b ck λa=>ai a
def c:=A8 vo
def v:=Ca vo
theorem out{x}:BB vo c v x:=CP
end kF
namespace qS
abbrev h0{R:Type}(i:uM R)(a:Row)(d:ay)(e f h:au):aA R:=aD (ah (gQ.v a e≥0)) (aD (ah (0<=gQ.v a e)&&ah (gQ.v a e<(a.length:ay))) (aD (ah (d=1)) (aD (ah ((br (av a (gQ.v a e).toNat 1)).size+f.size<=4611686018427387904)) (aD (kF.c a (br (av a (gQ.v a e).toNat 0)) (br (av a (gQ.v a e).toNat 1)++f) (bN (av a (gQ.v a e).toNat (1+1)))) (aD (jO.c (kF.v a (br (av a (gQ.v a e).toNat 0)) (br (av a (gQ.v a e).toNat 1)++f) (bN (av a (gQ.v a e).toNat (1+1))))) (aD (!jO.v (kF.v a (br (av a (gQ.v a e).toNat 0)) (br (av a (gQ.v a e).toNat 1)++f) (bN (av a (gQ.v a e).toNat (1+1))))) (i [] aq)<|i (kF.v a (br (av a (gQ.v a e).toNat 0)) (br (av a (gQ.v a e).toNat 1)++f) (bN (av a (gQ.v a e).toNat (1+1)))) ao) aj) aj) aj)<|aD (ah (d=2)) (aD (kF.c a (br (av a (gQ.v a e).toNat 0)) (br (av a (gQ.v a e).toNat 1)) ((br (av a (gQ.v a e).toNat 1)).size:ay)) (aD (jO.c (kF.v a (br (av a (gQ.v a e).toNat 0)) (br (av a (gQ.v a e).toNat 1)) ((br (av a (gQ.v a e).toNat 1)).size:ay))) (aD (!jO.v (kF.v a (br (av a (gQ.v a e).toNat 0)) (br (av a (gQ.v a e).toNat 1)) ((br (av a (gQ.v a e).toNat 1)).size:ay))) (i [] aq)<|i (kF.v a (br (av a (gQ.v a e).toNat 0)) (br (av a (gQ.v a e).toNat 1)) ((br (av a (gQ.v a e).toNat 1)).size:ay)) ao) aj) aj)<|aD (ah (d=3)) (aD (bN (av a (gQ.v a e).toNat (1+1)) !=((br (av a (gQ.v a e).toNat 1)).size:ay)) (i [] aq)<|aD (cQ (aG h) (aG e)) (i [] aq)<|aD (mi.c a e) (aD (kF.c (mi.v a e) h (br (av a (gQ.v a e).toNat 1)) (bN (av a (gQ.v a e).toNat (1+1)))) (aD (jO.c (kF.v (mi.v a e) h (br (av a (gQ.v a e).toNat 1)) (bN (av a (gQ.v a e).toNat (1+1))))) (aD (!jO.v (kF.v (mi.v a e) h (br (av a (gQ.v a e).toNat 1)) (bN (av a (gQ.v a e).toNat (1+1))))) (i [] aq)<|i (kF.v (mi.v a e) h (br (av a (gQ.v a e).toNat 1)) (bN (av a (gQ.v a e).toNat (1+1)))) ao) aj) aj) aj)<|aD (mi.c a e) (aD (jO.c (mi.v a e)) (aD (!jO.v (mi.v a e)) (i [] aq)<|i (mi.v a e) ao) aj) aj) aj)<|aD (ah (d=1)) (aD (ah (bC ⟨#[]⟩+f.size<=4611686018427387904)) (aD (kF.c a e ((az #[])++f) 0) (aD (jO.c (kF.v a e ((az #[])++f) 0)) (aD (!jO.v (kF.v a e ((az #[])++f) 0)) (i [] aq)<|i (kF.v a e ((az #[])++f) 0) ao) aj) aj) aj)<|aD (ah (d=2)) (aD (kF.c a e ⟨#[]⟩ (bC ⟨#[]⟩:ay)) (aD (jO.c (kF.v a e ⟨#[]⟩ (bC ⟨#[]⟩:ay))) (aD (!jO.v (kF.v a e ⟨#[]⟩ (bC ⟨#[]⟩:ay))) (i [] aq)<|i (kF.v a e ⟨#[]⟩ (bC ⟨#[]⟩:ay)) ao) aj) aj)<|aD (ah (d=3)) (aD (cQ (aG h) (aG e)) (i [] aq)<|aD (mi.c a e) (aD (kF.c (mi.v a e) h ⟨#[]⟩ 0) (aD (jO.c (kF.v (mi.v a e) h ⟨#[]⟩ 0)) (aD (!jO.v (kF.v (mi.v a e) h ⟨#[]⟩ 0)) (i [] aq)<|i (kF.v (mi.v a e) h ⟨#[]⟩ 0) ao) aj) aj) aj)<|aD (mi.c a e) (aD (jO.c (mi.v a e)) (aD (!jO.v (mi.v a e)) (i [] aq)<|i (mi.v a e) ao) aj) aj
def b(i:uM R)(a:Row)(d:ay)(e f h:au):aA R:=aD (gQ.c a e) (aD (jO.c a) (aD (!jO.v a) (i [] aq)<|aD (!Ip.v d e f h) (i [] aq)<|aD (ah (gQ.v a e<0)) (aD (d !=1) (i [] aq)<|h0 i a d e f h)<|h0 i a d e f h) aj) aj
def vo:=b λa r1=>ai (a,r1)
def c:=A9 vo
def v:=Cb vo
theorem out{x}:BC vo c v x:=CQ
end qS
namespace Iu
def r3(N:aN)(g j k:AL R)(a:Row)(d:ay)(e:Row)(f h:ay)(i:Row):aA R:=aD (ah (h<f)) (aD (ah (0<=h)&&ah (h<(e.length:ay))) (aD (qS.c i (bN (av e h.toNat 0)) (br (av e h.toNat 1)) (br (av e h.toNat (1+1))) (br (av e h.toNat (1+1+1)))) (aD (!(qS.v i (bN (av e h.toNat 0)) (br (av e h.toNat 1)) (br (av e h.toNat (1+1))) (br (av e h.toNat (1+1+1)))).2) (j a h e f h i)<|g a d e f (bE (h+1)) (qS.v i (bN (av e h.toNat 0)) (br (av e h.toNat 1)) (br (av e h.toNat (1+1))) (br (av e h.toNat (1+1+1)))).1) aj) aj)<|k a d e f h i
def l3(N:aN)(a d:AL R):aN->AL R
 |0=>λ_ _ _ _ _ _=>aj
 |n+1=>r3 N (l3 N a d n) a d
def b(N:aN)(h:qF R)(a d:Row):aA R:=aD (sr.c a) (l3 N (λ_ e _ _ _ f=>h f e) (λe _ _ _ _ f=>h f (e.length:ay)) N d 0 d (d.length:ay) 0 (sr.v a)) aj
def vo:=b ck λa r1=>ai (a,r1)
def c:=iZ vo
def v:=jb vo
theorem out{x}:i7 vo c v x:=jd
end Iu
namespace Tc
def b(k:zo R)(a:ay)(d e f h:Row)(i:ay)(j l:Row)(m:ay)(o p q:Row)(r s:ay):aA R:=aD (Ti.c a d e f h i j l m r s) (ch (Ti.v a d e f h i j l m r s) λt=>aD (!t.2.2.2.2.2.2.2.2.2) (k t.2.2.2.2.2.2.2.2.2 t.1 t.2.1 t.2.2.1 t.2.2.2.1 t.2.2.2.2.1 t.2.2.2.2.2.1 t.2.2.2.2.2.2.1 t.2.2.2.2.2.2.2.1 t.2.2.2.2.2.2.2.2.1 o p q)<|aD (ah (s=0)) (k t.2.2.2.2.2.2.2.2.2 t.1 t.2.1 t.2.2.1 t.2.2.2.1 t.2.2.2.2.1 t.2.2.2.2.2.1 t.2.2.2.2.2.2.1 t.2.2.2.2.2.2.2.1 t.2.2.2.2.2.2.2.2.1 o p q)<|aD (ah (0<=r)&&ah (r<(t.2.2.2.2.2.2.1.length:ay))) (aD (Gi.c t.2.2.1 t.2.2.2.1 t.2.2.2.2.1 t.2.2.2.2.2.1 (br (av t.2.2.2.2.2.2.1 r.toNat 0))) (ch (Gi.v t.2.2.1 t.2.2.2.1 t.2.2.2.2.1 t.2.2.2.2.2.1 (br (av t.2.2.2.2.2.2.1 r.toNat 0))) λu=>aD u (aD (b8 (q.length+(aP (aT [Ck.s,Ck.i ak,Ck.i ak,Ck.s] 1) 0 [.s (br (av t.2.2.2.2.2.2.1 r.toNat 0)),.i ak (bN (av t.2.2.2.2.2.2.1 r.toNat (1+1+1+1))),.i ak (bN (av t.2.2.2.2.2.2.1 r.toNat (1+1+1))),.s (br (av t.2.2.2.2.2.2.1 r.toNat 1))]).length) 48) (aD (H5.c (br (av t.2.2.2.2.2.2.1 r.toNat 0)) (bN (av t.2.2.2.2.2.2.1 r.toNat (1+1+1+1))) (bN (av t.2.2.2.2.2.2.1 r.toNat (1+1+1))) (br (av t.2.2.2.2.2.2.1 r.toNat 1))) (ch (H5.v (br (av t.2.2.2.2.2.2.1 r.toNat 0)) (bN (av t.2.2.2.2.2.2.1 r.toNat (1+1+1+1))) (bN (av t.2.2.2.2.2.2.1 r.toNat (1+1+1))) (br (av t.2.2.2.2.2.2.1 r.toNat 1))) λw=>aD (Iu.c o w.1) (ch (Iu.v o w.1) λy=>k ao t.1 t.2.1 t.2.2.1 t.2.2.2.1 t.2.2.2.2.1 t.2.2.2.2.2.1 t.2.2.2.2.2.2.1 t.2.2.2.2.2.2.2.1 t.2.2.2.2.2.2.2.2.1 y.1 p (q++aP (aT [Ck.s,Ck.i ak,Ck.i ak,Ck.s] 1) 0 [.s (br (av t.2.2.2.2.2.2.1 r.toNat 0)),.i ak (bN (av t.2.2.2.2.2.2.1 r.toNat (1+1+1+1))),.i ak (bN (av t.2.2.2.2.2.2.1 r.toNat (1+1+1))),.s (br (av t.2.2.2.2.2.2.1 r.toNat 1))])) aj) aj) aj)<|k ao t.1 t.2.1 t.2.2.1 t.2.2.2.1 t.2.2.2.2.1 t.2.2.2.2.2.1 t.2.2.2.2.2.2.1 t.2.2.2.2.2.2.2.1 t.2.2.2.2.2.2.2.2.1 o p q) aj) aj) aj
def vo:=b λd r1 r2 r3 r4 r5 r6 r7 r8 r9 wA wZ a=>ai (d,r1,r2,r3,r4,r5,r6,r7,r8,r9,wA,wZ,a)
def c:=Xw vo
def v:=aal vo
theorem out{x}:Y7 vo c v x:=agN
end Tc
namespace Td
def b(k:kA R)(a:ay)(d e f h:Row)(i:ay)(j l:Row)(m o:ay):aA R:=aD (n7.c a d e f h i j l m) (ch (n7.v a d e f h i j l m) λp=>aD (H4.c a d e f h i j l m o) (ch (H4.v a d e f h i j l m o) λq=>aD (!q) (k p.1 p.2.1 p.2.2.1 p.2.2.2.1 p.2.2.2.2.1 p.2.2.2.2.2.1 p.2.2.2.2.2.2.1 p.2.2.2.2.2.2.2.1 p.2.2.2.2.2.2.2.2 aq)<|aD (ah (0<=o)&&ah (o<(j.length:ay))) (aD (bN (av j o.toNat 2) !=1) (k p.1 p.2.1 p.2.2.1 p.2.2.2.1 p.2.2.2.2.1 p.2.2.2.2.2.1 p.2.2.2.2.2.2.1 p.2.2.2.2.2.2.2.1 p.2.2.2.2.2.2.2.2 aq)<|aD (ah (0<=o)&&ah (o<(p.2.2.2.2.2.2.1.length:ay))) (aD (Iv.c p.1 p.2.1 p.2.2.1 p.2.2.2.1 p.2.2.2.2.1 p.2.2.2.2.2.1 (dV p.2.2.2.2.2.2.1 o.toNat 2 [.i ak 3]) p.2.2.2.2.2.2.2.1 p.2.2.2.2.2.2.2.2 o 3) (ch (Iv.v p.1 p.2.1 p.2.2.1 p.2.2.2.1 p.2.2.2.2.1 p.2.2.2.2.2.1 (dV p.2.2.2.2.2.2.1 o.toNat 2 [.i ak 3]) p.2.2.2.2.2.2.2.1 p.2.2.2.2.2.2.2.2 o 3) λr=>k r.1 r.2.1 r.2.2.1 r.2.2.2.1 r.2.2.2.2.1 r.2.2.2.2.2.1 r.2.2.2.2.2.2.1 r.2.2.2.2.2.2.2.1 r.2.2.2.2.2.2.2.2 ao) aj) aj) aj) aj) aj
def vo:=b λa r1 r2 r3 r4 r5 r6 r7 r8 r9=>ai (a,r1,r2,r3,r4,r5,r6,r7,r8,r9)
def c:=pk vo
def v:=pD vo
theorem out{x}:pz vo c v x:=qn
end Td
namespace NU
def b(e:ay->aA R)(a d:ay):aA R:=aD (!decide (d=0)) (aD (!decide (d=0)) (e (cx (bE (cx a d+d)) d)) aj) aj
def vo:=b λa=>ai a
def c:=iZ vo
def v:=jb vo
theorem out{x}:i7 vo c v x:=jd
end NU
namespace Te
def b(k:dU R)(a:ay)(d e f h:Row)(i:ay)(j l:Row)(m o:ay):aA R:=aD (n7.c a d e f h i j l m) (aD (ah (a>bE (1000000000-NU.v o 1000))) (k 1000000000 (n7.v a d e f h i j l m).2.1 (n7.v a d e f h i j l m).2.2.1 (n7.v a d e f h i j l m).2.2.2.1 (n7.v a d e f h i j l m).2.2.2.2.1 (n7.v a d e f h i j l m).2.2.2.2.2.1 (n7.v a d e f h i j l m).2.2.2.2.2.2.1 (n7.v a d e f h i j l m).2.2.2.2.2.2.2.1 (n7.v a d e f h i j l m).2.2.2.2.2.2.2.2)<|k (bE (a+NU.v o 1000)) (n7.v a d e f h i j l m).2.1 (n7.v a d e f h i j l m).2.2.1 (n7.v a d e f h i j l m).2.2.2.1 (n7.v a d e f h i j l m).2.2.2.2.1 (n7.v a d e f h i j l m).2.2.2.2.2.1 (n7.v a d e f h i j l m).2.2.2.2.2.2.1 (n7.v a d e f h i j l m).2.2.2.2.2.2.2.1 (n7.v a d e f h i j l m).2.2.2.2.2.2.2.2) aj
def vo:=b λa r1 r2 r3 r4 r5 r6 r7 r8=>ai (a,r1,r2,r3,r4,r5,r6,r7,r8)
def c:=pk vo
def v:=pD vo
theorem out{x}:pz vo c v x:=qn
end Te
namespace KJ
def r5(N:aN)(g h:iE R)(a d e:ay)(f:Row):aA R:=aD (ah (e<(f.length:ay))) (aD (ah (0<=e)&&ah (e<(f.length:ay))) (aD (!NV.v (bN (av f e.toNat 0)) (br (av f e.toNat 1)) (bN (av f e.toNat (1+1))) (bN (av f e.toNat (1+1+1))) (bN (av f e.toNat (1+1+1+1))) (br (av f e.toNat (1+1+1+1+1))) (bN (av f e.toNat (1+1+1+1+1+1))) a) (aD (ah (0<=d)&&ah (d<(f.length:ay))) (g a (bE (d+1)) (bE (e+1)) (dV f d.toNat 0 [.i ak (bN (av f e.toNat 0)),.s (br (av f e.toNat 1)),.i ak (bN (av f e.toNat (1+1))),.i ak (bN (av f e.toNat (1+1+1))),.i ak (bN (av f e.toNat (1+1+1+1))),.s (br (av f e.toNat (1+1+1+1+1))),.i ak (bN (av f e.toNat (1+1+1+1+1+1)))])) aj)<|g a d (bE (e+1)) f) aj)<|h a d e f
def l5(N:aN)(a:iE R):aN->iE R
 |0=>λ_ _ _ _=>aj
 |n+1=>r5 N (l5 N a n) a
def b(N:aN)(h:Row->aA R)(a:Row)(f:ay):aA R:=aD (rY.c a f) (aD (ah (rY.v a f=Ij 1)) (h a)<|l5 N (λ_ d _ e=>aD (fU d (e.length:ay) (e.length:ay)) (aD (fU 0 d ((gG d.toNat e++aT [Ck.i ak,Ck.s,Ck.i ak,Ck.i ak,Ck.i ak,Ck.s,Ck.i ak] ((e.length:ay).toNat-d.toNat)++mE (e.length:ay).toNat e).length:ay)) (h (dR (gG d.toNat e++aT [Ck.i ak,Ck.s,Ck.i ak,Ck.i ak,Ck.i ak,Ck.s,Ck.i ak] ((e.length:ay).toNat-d.toNat)++mE (e.length:ay).toNat e) (aR 0) d.toNat)) aj) aj) N f (rY.v a f) (bE (rY.v a f+1)) a) aj
def vo:=b ck λa=>ai a
def c:=iZ vo
def v:=jb vo
theorem out{x}:i7 vo c v x:=jd
end KJ
namespace Tf
def b(k:dU R)(a:ay)(d e f h:Row)(i:ay)(j l:Row)(m o:ay):aA R:=aD (n7.c a d e f h i j l m) (aD (KJ.c (n7.v a d e f h i j l m).2.2.2.2.2.2.2.1 o) (k (n7.v a d e f h i j l m).1 (n7.v a d e f h i j l m).2.1 (n7.v a d e f h i j l m).2.2.1 (n7.v a d e f h i j l m).2.2.2.1 (n7.v a d e f h i j l m).2.2.2.2.1 (n7.v a d e f h i j l m).2.2.2.2.2.1 (n7.v a d e f h i j l m).2.2.2.2.2.2.1 (KJ.v (n7.v a d e f h i j l m).2.2.2.2.2.2.2.1 o) (n7.v a d e f h i j l m).2.2.2.2.2.2.2.2) aj) aj
def vo:=b λa r1 r2 r3 r4 r5 r6 r7 r8=>ai (a,r1,r2,r3,r4,r5,r6,r7,r8)
def c:=pk vo
def v:=pD vo
theorem out{x}:pz vo c v x:=qn
end Tf
namespace vI
def r5(N:aN)(g j:D5 R)(a d:Row)(e f:ay)(h:Row):aA R:=aD (ah (f<e)) (aD (ah (0<=f)&&ah (f<(d.length:ay))) (aD (ah (f<(a.length:ay))) (aD (ah (0<=f)&&ah (f<(a.length:ay))) (aD (fU 0 (ea ao (bN (av d f.toNat (1+1))) (ea aq (bN (av a f.toNat 0)) ((br (av d f.toNat 1)).size:ay))) ((br (av d f.toNat 1)).size:ay)) (aD (ah (0<=f)&&ah (f<(h.length:ay))) (g a d e (bE (f+1)) (dV h f.toNat 0 [.s (br (av d f.toNat 0)),.s (bx (br (av d f.toNat 1)) (aR 0) (ea ao (bN (av d f.toNat (1+1))) (ea aq (bN (av a f.toNat 0)) ((br (av d f.toNat 1)).size:ay))).toNat),.i ak (ea ao (bN (av d f.toNat (1+1))) (ea aq (bN (av a f.toNat 0)) ((br (av d f.toNat 1)).size:ay)))])) aj) aj) aj)<|aD (fU 0 (bN (av d f.toNat (1+1))) ((br (av d f.toNat 1)).size:ay)) (aD (ah (0<=f)&&ah (f<(h.length:ay))) (g a d e (bE (f+1)) (dV h f.toNat 0 [.s (br (av d f.toNat 0)),.s (bx (br (av d f.toNat 1)) (aR 0) (bN (av d f.toNat (1+1))).toNat),.i ak (bN (av d f.toNat (1+1)))])) aj) aj) aj)<|j a d e f h
def l5(N:aN)(a:D5 R):aN->D5 R
 |0=>λ_ _ _ _ _=>aj
 |n+1=>r5 N (l5 N a n) a
def b(N:aN)(f:uM R)(a d:Row):aA R:=aD (jO.c a) (aD (!jO.v a) (f [] aq)<|aD (sr.c a) (l5 N (λ_ _ _ _ e=>f e ao) N d a (a.length:ay) 0 (sr.v a)) aj) aj
def vo:=b ck λa r1=>ai (a,r1)
def c:=iZ vo
def v:=jb vo
theorem out{x}:i7 vo c v x:=jd
end vI
namespace ue
def b(e:vC R)(a:Row)(d:au):aA R:=aD (gQ.c a d) (aD (ah (gQ.v a d<0)) (e ⟨#[]⟩ aq)<|aD (ah (0<=gQ.v a d)&&ah (gQ.v a d<(a.length:ay))) (e (br (av a (gQ.v a d).toNat 1)) ao) aj) aj
def vo:=b λa r1=>ai (a,r1)
def c:=iZ vo
def v:=jb vo
theorem out{x}:i7 vo c v x:=jd
end ue
namespace fZ
def r5(N:aN)(g k m:xB R)(a:au)(d e f:ay)(h:aY)(i j:ay):aA R:=aD (ah (j<5)) (aD (ah (bE (d+j)<(a.size:ay))) (aD (ah (0<=bE (d+j))&&ah (bE (d+j)<(a.size:ay))) (aD (ah (0<=bE (7*j))) (aD (ah (bE (↑(fF a (bE (d+j)).toNat):ay)>127)) (g a d e f h (bE (i+bE (cx (bE (↑(fF a (bE (d+j)).toNat):ay)) 128*iP 2 (if(bE (7*j)).toNat<=64 then(bE (7*j)).toNat else 64)))) (bE (j+1)))<|aD (ah (j>0)) (aD (ah (bE (↑(fF a (bE (d+j)).toNat):ay)=0)) (k a d 0 0 aq (bE (i+bE (cx (bE (↑(fF a (bE (d+j)).toNat):ay)) 128*iP 2 (if(bE (7*j)).toNat<=64 then(bE (7*j)).toNat else 64)))) j)<|aD (ah (bE (i+bE (cx (bE (↑(fF a (bE (d+j)).toNat):ay)) 128*iP 2 (if(bE (7*j)).toNat<=64 then(bE (7*j)).toNat else 64)))>1000000000)) (k a d 0 0 aq (bE (i+bE (cx (bE (↑(fF a (bE (d+j)).toNat):ay)) 128*iP 2 (if(bE (7*j)).toNat<=64 then(bE (7*j)).toNat else 64)))) j)<|k a d (bE (i+bE (cx (bE (↑(fF a (bE (d+j)).toNat):ay)) 128*iP 2 (if(bE (7*j)).toNat<=64 then(bE (7*j)).toNat else 64)))) (bE (bE (d+j)+1)) ao (bE (i+bE (cx (bE (↑(fF a (bE (d+j)).toNat):ay)) 128*iP 2 (if(bE (7*j)).toNat<=64 then(bE (7*j)).toNat else 64)))) j)<|aD (ah (bE (i+bE (cx (bE (↑(fF a (bE (d+j)).toNat):ay)) 128*iP 2 (if(bE (7*j)).toNat<=64 then(bE (7*j)).toNat else 64)))>1000000000)) (k a d 0 0 aq (bE (i+bE (cx (bE (↑(fF a (bE (d+j)).toNat):ay)) 128*iP 2 (if(bE (7*j)).toNat<=64 then(bE (7*j)).toNat else 64)))) j)<|k a d (bE (i+bE (cx (bE (↑(fF a (bE (d+j)).toNat):ay)) 128*iP 2 (if(bE (7*j)).toNat<=64 then(bE (7*j)).toNat else 64)))) (bE (bE (d+j)+1)) ao (bE (i+bE (cx (bE (↑(fF a (bE (d+j)).toNat):ay)) 128*iP 2 (if(bE (7*j)).toNat<=64 then(bE (7*j)).toNat else 64)))) j) aj) aj)<|m a d e f h i j)<|m a d e f h i j
def l5(N:aN)(a d:xB R):aN->xB R
 |0=>λ_ _ _ _ _ _ _=>aj
 |n+1=>r5 N (l5 N a d n) a d
def b(N:aN)(i:J6 R)(a:au)(d:ay):aA R:=aD (!j4.v d 0 (a.size:ay)) (i 0 0 aq)<|l5 N (λ_ _ e f h _ _=>i e f h) (λ_ _ _ _ _ _ _=>i 0 0 aq) N a d 0 0 aq 0 0
def v(a:au)(d:ay):ay×ay×aY:=if 0<=d/\d<=a.size then Lib.rv a d.toNat 5 0 0 else(0,0,aq)
theorem dW(t:J6 R)(d:au)(h:ay)(f0:Co d):∃N,b N t d h=t (v d h).1 (v d h).2.1 (v d h).2.2:=by
 refine⟨6,?_⟩
 unfold b v;by_cases I:0<=h/\h<=d.size
 ·have e:j4.v h 0 (d.size:ay)=true:=by simp[j4.v,I]
  obtain⟨a,rfl⟩:∃a:aN,h=(a:ay):=⟨h.toNat,by omega⟩
  have ha:a<=d.size:=by omega
  rw[e,bm I,dB];have hs:d.size<=4611686018427387904:=f0;simp only[aZ,ax]
  have:=fE (λm (s:aN×ay)=>l5 6 (λy7 y8 y9 M O h2 h3=>t y9 M O) (λh4 h5 h6 h7 h8 h9 he=>t 0 0 aq) m d a 0 0 aq s.2 s.1) (λs=>5-s.1) (λs=>s.1<=5/\0<=s.2/\s.2<128^s.1)
   (λs=>t (Lib.rv d a (5-s.1) s.1 s.2).1 (Lib.rv d a (5-s.1) s.1 s.2).2.1 (Lib.rv d a (5-s.1) s.1 s.2).2.2) (λm s K=>by
   obtain⟨j,n⟩:=s
   obtain⟨hj,h0,H⟩:=K
   dsimp only at hj h0 H⊢
   have hb:=yo d (a+j)
   by_cases C:j<5
   ·by_cases i:a+j<d.size
    ·have A:bE ((a:ay)+(j:ay))=((a+j:aN):ay):=by rw[hZ (by omega) (by omega)];omega
     have h1:bE ((a+j:aN):ay)=((a+j:aN):ay):=hZ (by omega) (by omega);have V:bE (fF d (a+j):ay)=(fF d (a+j):ay):=hZ (by omega) (by omega);have Y:cx (fF d (a+j):ay) 128=(fF d (a+j):ay)%128:=eN (by omega);have U:bE (7*(j:ay))=((7*j:aN):ay):=by rw[hZ (by omega) (by omega)];omega
     have ep:iP 2 (if 7*j<=64 then 7*j else 64)=128^j:=by rw[bm (by omega)];show(2:ay)^(7*j)=128^j;rw[Int.pow_mul];rfl
     have hp:(128:ay)^j<=268435456/\(1:ay)<=128^j/\(128:ay)^(j+1)=128*128^j:=by
      obtain rfl|rfl|rfl|rfl|rfl:j=0\/j=1\/j=2\/j=3\/j=4:=by omega
      all_goals decide
     have r:0<=(fF d (a+j):ay)%128/\(fF d (a+j):ay)%128<=127:=by omega
     have hq:0<=(fF d (a+j):ay)%128*128^j/\(fF d (a+j):ay)%128*128^j<=127*128^j:=
      ⟨Int.mul_nonneg r.1 (by omega),Cu r.2 (by omega)⟩
     have y:bE ((fF d (a+j):ay)%128*128^j)=(fF d (a+j):ay)%128*128^j:=hZ (by omega) (by omega);have z:bE (n+(fF d (a+j):ay)%128*128^j)=n+(fF d (a+j):ay)%128*128^j:=hZ (by omega) (by omega);have X:bE ((j:ay)+1)=((j+1:aN):ay):=cw C (by omega);have x:5-j=(5-(j+1))+1:=by omega
     have Q:ah ((j:ay)<5)=true:=by simp;omega
     have S:ah (((a+j:aN):ay)<(d.size:ay))=true:=Di i
     have k:Lib.rv d a (5-j) j n=(if(fF d (a+j):ay)>127 then Lib.rv d a (5-(j+1)) (j+1) (n+(fF d (a+j):ay)%128*128^j)
       else if(j>0/\fF d (a+j)=0)\/n+(fF d (a+j):ay)%128*128^j>1000000000 then(0,0,aq)
       else(n+(fF d (a+j):ay)%128*128^j,((a+j+1:aN):ay),ao)):=by
      rw[x];simp only[Lib.rv];rw[bm i]
     have en:bE (((a+j:aN):ay)+1)=((a+j+1:aN):ay):=cw i (by omega);simp only[l5,r5,Q,A,S,b_,dB,V,Y,U,ep,y,z,X,en,aw,aL];by_cases u:(fF d (a+j):ay)>127
     ·right;rw[aC u];exact⟨(j+1,n+(fF d (a+j):ay)%128*128^j),⟨by dsimp only;omega,by dsimp only;omega,by dsimp only;omega⟩,by dsimp only;omega,by dsimp only;rw[k,bm u],rfl⟩
     ·left;rw[aF u,ax,k,bh u];by_cases o:(j:ay)>0
      ·rw[aC o,aw];by_cases P:(fF d (a+j):ay)=0
       ·rw[aC P,bm (.inl ⟨by omega,by omega⟩)];rfl
       ·rw[aF P,ax];by_cases f:n+(fF d (a+j):ay)%128*128^j>1000000000
        ·rw[aC f,bm (.inr f)];rfl
        ·rw[aF f,bh (by omega)];rfl
      ·rw[aF o,ax];by_cases f:n+(fF d (a+j):ay)%128*128^j>1000000000
       ·rw[aC f,bm (.inr f)];rfl
       ·rw[aF f,bh (by omega)];rfl
    ·left;have A:bE ((a:ay)+(j:ay))=((a+j:aN):ay):=by rw[hZ (by omega) (by omega)];omega
     have x:5-j=(5-(j+1))+1:=by omega
     have k:Lib.rv d a (5-j) j n=(0,0,aq):=by rw[x];simp only[Lib.rv];rw[bh i]
     simp only[l5,r5,show ah ((j:ay)<5)=ao by simp;omega,A,GZ i,aw,ax,k]
   ·left;have B:j=5:=by omega
    subst B;simp only[l5,r5,show ah (((5:aN):ay)<5)=aq from rfl,ax];rfl) 6 (0,0) ⟨by dsimp only;omega,by dsimp only;omega,by dsimp only;decide⟩ (by dsimp only;omega)
  exact this
 ·have e:j4.v h 0 (d.size:ay)=false:=by simp[j4.v];omega
  rw[e,bh I];rfl
end fZ
namespace U152
def r3(N:aN)(g f:mC R)(a:au)(d:ay)(e:Row):aA R:=aD (ah ((a.size:ay)<=20000)) (aD (!(fZ.v a d).2.2) (f a d e)<|aD (!j4.v (fZ.v a d).1 1 9000) (f a d e)<|aD (ah (bE ((fZ.v a d).1+4)>bE ((a.size:ay)-(fZ.v a d).2.1))) (f a d e)<|aD (fU (bE ((fZ.v a d).2.1+4)) (bE (bE ((fZ.v a d).2.1+4)+(fZ.v a d).1)) (a.size:ay)) (aD (uk.c (bx a (bE ((fZ.v a d).2.1+4)).toNat (bE (bE ((fZ.v a d).2.1+4)+(fZ.v a d).1)).toNat)) (aD (fU (fZ.v a d).2.1 (bE ((fZ.v a d).2.1+4)) (a.size:ay)) (aD (!List.beq (uk.v (bx a (bE ((fZ.v a d).2.1+4)).toNat (bE (bE ((fZ.v a d).2.1+4)+(fZ.v a d).1)).toNat)).toList (bx a (fZ.v a d).2.1.toNat (bE ((fZ.v a d).2.1+4)).toNat).toList) (f a d e)<|aD (b8 (e.length+(aP (aT [.s] 1) 0 [.s (bx a (bE ((fZ.v a d).2.1+4)).toNat (bE (bE ((fZ.v a d).2.1+4)+(fZ.v a d).1)).toNat)]).length) 16) (g a (bE (bE ((fZ.v a d).2.1+4)+(fZ.v a d).1)) (e++aP (aT [.s] 1) 0 [.s (bx a (bE ((fZ.v a d).2.1+4)).toNat (bE (bE ((fZ.v a d).2.1+4)+(fZ.v a d).1)).toNat)])) aj) aj) aj) aj)<|f a d e
def l3(N:aN)(a:mC R):aN->mC R
 |0=>λ_ _ _=>aj
 |n+1=>r3 N (l3 N a n) a
def b(N:aN)(f:qF R)(a:au):aA R:=l3 N (λ_ d e=>f e d) N a 0 (aT [.s] 0)
def vo:=b ck λa r1=>ai (a,r1)
def c:=ka vo
def v:=ko vo
theorem out{x}:ki vo c v x:=kL
end U152
namespace sC
def b(e:J8 R)(a:au)(d:ay):aA R:=aD (!(fZ.v a d).2.2) (e ⟨#[]⟩ 0 aq)<|aD (ah ((fZ.v a d).1>20000)) (e ⟨#[]⟩ 0 aq)<|aD (ah ((fZ.v a d).1>bE ((a.size:ay)-(fZ.v a d).2.1))) (e ⟨#[]⟩ 0 aq)<|aD (fU (fZ.v a d).2.1 (bE ((fZ.v a d).2.1+(fZ.v a d).1)) (a.size:ay)) (e (bx a (fZ.v a d).2.1.toNat (bE ((fZ.v a d).2.1+(fZ.v a d).1)).toNat) (bE ((fZ.v a d).2.1+(fZ.v a d).1)) ao) aj
def v(a:au)(d:ay):au×ay×aY:=fB a d
theorem dW(e:J8 R)(a:au)(d:ay)(f:Co a):b e a d=e (v a d).1 (v a d).2.1 (v a d).2.2:=mY f d e
end sC
namespace uY
def b(d:vD R)(a:au):aA R:=aD (!(sC.v a 0).2.2) (d ⟨#[]⟩ 0 0 ⟨#[]⟩ aq)<|aD (!(fZ.v a (sC.v a 0).2.1).2.2) (d ⟨#[]⟩ 0 0 ⟨#[]⟩ aq)<|aD (!(fZ.v a (fZ.v a (sC.v a 0).2.1).2.1).2.2) (d ⟨#[]⟩ 0 0 ⟨#[]⟩ aq)<|aD (fU (fZ.v a (fZ.v a (sC.v a 0).2.1).2.1).2.1 (a.size:ay) (a.size:ay)) (aD (!vM.v (sC.v a 0).1 (fZ.v a (sC.v a 0).2.1).1 (fZ.v a (fZ.v a (sC.v a 0).2.1).2.1).1 (bx a (fZ.v a (fZ.v a (sC.v a 0).2.1).2.1).2.1.toNat (a.size:ay).toNat)) (d ⟨#[]⟩ 0 0 ⟨#[]⟩ aq)<|d (sC.v a 0).1 (fZ.v a (sC.v a 0).2.1).1 (fZ.v a (fZ.v a (sC.v a 0).2.1).2.1).1 (bx a (fZ.v a (fZ.v a (sC.v a 0).2.1).2.1).2.1.toNat (a.size:ay).toNat) ao) aj
def v(a:au):au×ay×ay×au×aY:=jD.v a
theorem dW(h:vD R)(e:au)(r:Co e):b h e=h (v e).1 (v e).2.1 (v e).2.2.1 (v e).2.2.2.1 (v e).2.2.2.2:=by
 have i:sC.v=fB:=rfl;have j:fZ.v=dM:=rfl;have m:∀a b c d,vM.v a b c d=gu.v a b c d:=λ_ _ _ _=>rfl;unfold b v jD.v;simp only[i,j,m,dB];cases t:fB e 0 with
 |mk k r1=>
  obtain⟨a,ok1⟩:=r1;cases ok1 with
  |false=>rfl
  |true=>
   dsimp only;cases u:dM e a with
   |mk s r2=>
    obtain⟨x,f⟩:=r2;cases f with
    |false=>rfl
    |true=>
     dsimp only;cases o:dM e x with
     |mk l r3=>
      obtain⟨y,ok3⟩:=r3;cases ok3 with
      |false=>rfl
      |true=>
       obtain⟨r1,r2,r3,r4,r5,r6⟩:=gJ o;dsimp only;simp only[aZ,ax];rw[oN (show fU y (e.size:ay) (e.size:ay)=ao by simp[fU];omega)];cases hE:gu.v k s l (e.extract y.toNat e.size)with
       |false=>rfl
       |true=>rfl
end uY
namespace U101
def r7(N:aN)(g h:DY R)(a d:ay)(e f:Row):aA R:=aD (ah (d<a)) (aD (ah (0<=d)&&ah (d<(f.length:ay))) (aD ((uY.v (br (av f d.toNat 0))).2.2.2.2) (aD (uf.c e (uY.v (br (av f d.toNat 0))).1 (uY.v (br (av f d.toNat 0))).2.1 (uY.v (br (av f d.toNat 0))).2.2.1 (uY.v (br (av f d.toNat 0))).2.2.2.1) (g a (bE (d+1)) (uf.v e (uY.v (br (av f d.toNat 0))).1 (uY.v (br (av f d.toNat 0))).2.1 (uY.v (br (av f d.toNat 0))).2.2.1 (uY.v (br (av f d.toNat 0))).2.2.2.1) f) aj)<|g a (bE (d+1)) e f) aj)<|h a d e f
def l7(N:aN)(a:DY R):aN->DY R
 |0=>λ_ _ _ _=>aj
 |n+1=>r7 N (l7 N a n) a
def b(N:aN)(e:Row->aA R)(a:Row):aA R:=aD (jO.c a) (aD (!jO.v a) (e (aT [Ck.s,Ck.i ak,Ck.i ak,Ck.s] 0))<|aD (ue.c a (az #[ar 107,ar 101,ar 112,ar 116])) (aD (U152.c (ue.v a (az #[ar 107,ar 101,ar 112,ar 116])).1) (l7 N (λ_ _ d _=>e d) N ((U152.v (ue.v a (az #[ar 107,ar 101,ar 112,ar 116])).1).1.length:ay) 0 (aT [Ck.s,Ck.i ak,Ck.i ak,Ck.s] 0) (U152.v (ue.v a (az #[ar 107,ar 101,ar 112,ar 116])).1).1) aj) aj) aj
def vo:=b ck λa=>ai a
def c:=ka vo
def v:=ko vo
theorem out{x}:ki vo c v x:=kL
end U101
namespace zt
def r5(N:aN)(g j k:AG R)(a:aY)(d:au)(e:Row)(f h:ay)(i:Row):aA R:=aD (ah (h<f)) (aD (ah (0<=h)&&ah (h<(e.length:ay))) (aD (mh.c (br (av e h.toNat 0)) (bN (av e h.toNat 1)) (bN (av e h.toNat (1+1))) (br (av e h.toNat (1+1+1)))) (aD (!(mh.v (br (av e h.toNat 0)) (bN (av e h.toNat 1)) (bN (av e h.toNat (1+1))) (br (av e h.toNat (1+1+1)))).2) (j aq d e f h i)<|aD (ah (d.size+(mh.v (br (av e h.toNat 0)) (bN (av e h.toNat 1)) (bN (av e h.toNat (1+1))) (br (av e h.toNat (1+1+1)))).1.size<=4611686018427387904)) (g a (d++(mh.v (br (av e h.toNat 0)) (bN (av e h.toNat 1)) (bN (av e h.toNat (1+1))) (br (av e h.toNat (1+1+1)))).1) e f (bE (h+1)) i) aj) aj) aj)<|k a d e f h i
def l5(N:aN)(a d:AG R):aN->AG R
 |0=>λ_ _ _ _ _ _=>aj
 |n+1=>r5 N (l5 N a d n) a d
def b(N:aN)(h:uM R)(a d:Row):aA R:=aD (jO.c a) (aD (!jO.v a) (h [] aq)<|l5 N (λe _ _ _ _ _=>h [] e) (λ_ e _ _ _ f=>aD (ue.c f (az #[ar 110,ar 101,ar 119])) (aD ((ue.v f (az #[ar 110,ar 101,ar 119])).2) (h (aT [Ck.i ak,Ck.s,Ck.s,Ck.s] 0++aP (aT [Ck.i ak,Ck.s,Ck.s,Ck.s] 1) 0 [.i ak 4,.s (az #[ar 110,ar 101,ar 119]),.s ⟨#[]⟩,.s ⟨#[]⟩]++aP (aP (aP (aT [Ck.i ak,Ck.s,Ck.s,Ck.s] 3) 0 [.i ak 1,.s (az #[ar 110,ar 101,ar 119]),.s e,.s ⟨#[]⟩]) 1 [.i ak 2,.s (az #[ar 110,ar 101,ar 119]),.s ⟨#[]⟩,.s ⟨#[]⟩]) 2 [.i ak 3,.s (az #[ar 110,ar 101,ar 119]),.s ⟨#[]⟩,.s (az #[ar 107,ar 101,ar 112,ar 116])]) ao)<|h (aT [Ck.i ak,Ck.s,Ck.s,Ck.s] 0++aP (aP (aP (aT [Ck.i ak,Ck.s,Ck.s,Ck.s] 3) 0 [.i ak 1,.s (az #[ar 110,ar 101,ar 119]),.s e,.s ⟨#[]⟩]) 1 [.i ak 2,.s (az #[ar 110,ar 101,ar 119]),.s ⟨#[]⟩,.s ⟨#[]⟩]) 2 [.i ak 3,.s (az #[ar 110,ar 101,ar 119]),.s ⟨#[]⟩,.s (az #[ar 107,ar 101,ar 112,ar 116])]) ao) aj) N aq ⟨#[]⟩ d (d.length:ay) 0 a) aj
def vo:=b ck λa r1=>ai (a,r1)
def c:=iZ vo
def v:=jb vo
theorem out{x}:i7 vo c v x:=jd
end zt
namespace zu
def r4(N:aN)(g k:lG R)(a:ay)(d:Row)(e f h i j l m o:ay)(p q r s t u:Row):aA R:=aD (ah (f<e)) (aD (ah (0<=f)&&ah (f<(d.length:ay))) (aD (Da.v (br (av d f.toNat 0)) (bN (av d f.toNat 1)) (bN (av d f.toNat (1+1))) (br (av d f.toNat (1+1+1))) a) (aD (yh.c l p q r s m t u o (br (av d f.toNat 0)) (bN (av d f.toNat 1)) (bN (av d f.toNat (1+1))) (br (av d f.toNat (1+1+1)))) (ch (yh.v l p q r s m t u o (br (av d f.toNat 0)) (bN (av d f.toNat 1)) (bN (av d f.toNat (1+1))) (br (av d f.toNat (1+1+1)))) λw=>g a d e (bE (f+1)) h i j w.1 w.2.2.2.2.2.1 w.2.2.2.2.2.2.2.2 w.2.1 w.2.2.1 w.2.2.2.1 w.2.2.2.2.1 w.2.2.2.2.2.2.1 w.2.2.2.2.2.2.2.1) aj)<|g a d e (bE (f+1)) h i j l m o p q r s t u) aj)<|k a d e f h i j l m o p q r s t u
def l4(N:aN)(a:lG R):aN->lG R
 |0=>λ_ _ _ _ _ _ _ _ _ _ _ _ _ _ _ _=>aj
 |n+1=>r4 N (l4 N a n) a
def b(N:aN)(k:dU R)(a:ay)(d:Row):aA R:=l4 N (λ_ _ _ _ _ _ _ e f h i j l m o p=>k e i j l m f o p h) N a d (d.length:ay) 0 0 0 0 a 0 0 [] [] [] ([]++aP (aT [Ck.l 3] 1) 0 [CV.l 3 (aT [Ck.i ak] (aR 16))]++aP (aT [Ck.l 3] 1) 0 [CV.l 3 (aT [Ck.i ak] (aR 16))]++aP (aT [Ck.l 3] 1) 0 [CV.l 3 (aT [Ck.i ak] (aR 16))]) [] []
def vo:=b ck λa r1 r2 r3 r4 r5 r6 r7 r8=>ai (a,r1,r2,r3,r4,r5,r6,r7,r8)
def c:=iZ vo
def v:=jb vo
theorem out{x}:i7 vo c v x:=jd
end zu
namespace NS
def r3(N:aN)(g k:lF R)(a d e f h:ay)(i j l m o p q r s t u:Row):aA R:=aD (ah (d<a)) (aD (ah (0<=d)&&ah (d<(j.length:ay))) (aD (Da.v (br (av j d.toNat 0)) (bN (av j d.toNat 1)) (bN (av j d.toNat (1+1))) (br (av j d.toNat (1+1+1))) e) (aD (b8 (i.length+(aP (aT [Ck.s,Ck.i ak,Ck.i ak,Ck.s] 1) 0 [.s (br (av j d.toNat 0)),.i ak (bN (av j d.toNat 1)),.i ak (bN (av j d.toNat (1+1))),.s (br (av j d.toNat (1+1+1)))]).length) 48) (g a (bE (d+1)) e f h (i++aP (aT [Ck.s,Ck.i ak,Ck.i ak,Ck.s] 1) 0 [.s (br (av j d.toNat 0)),.i ak (bN (av j d.toNat 1)),.i ak (bN (av j d.toNat (1+1))),.s (br (av j d.toNat (1+1+1)))]) j l m o p q r s t u) aj)<|g a (bE (d+1)) e f h i j l m o p q r s t u) aj)<|k a d e f h i j l m o p q r s t u
def l3(N:aN)(a:lF R):aN->lF R
 |0=>λ_ _ _ _ _ _ _ _ _ _ _ _ _ _ _ _=>aj
 |n+1=>r3 N (l3 N a n) a
def b(N:aN)(A:jj R)(a:ay)(d e f h:Row)(i:ay)(j l:Row)(m:ay)(o p q r:Row):aA R:=aD (vI.c o r) (ch (vI.v o r) λs=>aD (U101.c s.1) (ch (U101.v s.1) λt=>l3 N (λ_ _ u _ _ w _ _ _ _ _ _ _ y z α=>aD (zt.c y w) (ch (zt.v y w) λx=>aD (Iu.c y x.1) (ch (Iu.v y x.1) λB=>aD (zu.c u w) (ch (zu.v u w) λk=>A k.1 k.2.1 k.2.2.1 k.2.2.2.1 k.2.2.2.2.1 k.2.2.2.2.2.1 k.2.2.2.2.2.2.1 k.2.2.2.2.2.2.2.1 k.2.2.2.2.2.2.2.2 B.1 z α) aj) aj) aj) N (t.length:ay) 0 a i m (aT [Ck.s,Ck.i ak,Ck.i ak,Ck.s] 0) t d e f h j l s.1 p q) aj) aj
def vo:=b ck λa r1 r2 r3 r4 r5 r6 r7 r8 r9 wA wZ=>ai (a,r1,r2,r3,r4,r5,r6,r7,r8,r9,wA,wZ)
def c:=KV vo
def v:=L8 vo
theorem out{x}:LD vo c v x:=Rw
end NS
namespace TW
def b(d:ay->aA R)(a:aY):aA R:=aD a (d 0)<|d 1
def v(a:aY):ay:=aD a 0 1
theorem dW(d:ay->aA R)(a:aY):b d a=d (v a):=by first|rfl|(unfold b v;simp only[cj];(repeat' split)<;>rfl)
end TW
namespace S_
def b(k:nC R)(a:ay)(d e f h:Row)(i:ay)(j l:Row)(m:ay)(o p q:Row)(r s:ay)(t:au)(u:ay)(w:Row):aA R:=aD (ah (r=1)) (aD (PM.c a d e f h i j l m s t) (ch (PM.v a d e f h i j l m s t) λy=>k y.2.2.2.2.2.2.2.2.2 y.1 y.2.1 y.2.2.1 y.2.2.2.1 y.2.2.2.2.1 y.2.2.2.2.2.1 y.2.2.2.2.2.2.1 y.2.2.2.2.2.2.2.1 y.2.2.2.2.2.2.2.2.1 o p q) aj)<|aD (ah (r=2)) (aD (Ta.c a d e f h i j l m s t) (ch (Ta.v a d e f h i j l m s t) λy=>k (TW.v y.2.2.2.2.2.2.2.2.2) y.1 y.2.1 y.2.2.1 y.2.2.2.1 y.2.2.2.2.1 y.2.2.2.2.2.1 y.2.2.2.2.2.2.1 y.2.2.2.2.2.2.2.1 y.2.2.2.2.2.2.2.2.1 o p q) aj)<|aD (ah (r=3)) (aD (Tc.c a d e f h i j l m o p q s (cx u 1000000)) (ch (Tc.v a d e f h i j l m o p q s (cx u 1000000)) λy=>k (TW.v y.1) y.2.1 y.2.2.1 y.2.2.2.1 y.2.2.2.2.1 y.2.2.2.2.2.1 y.2.2.2.2.2.2.1 y.2.2.2.2.2.2.2.1 y.2.2.2.2.2.2.2.2.1 y.2.2.2.2.2.2.2.2.2.1 y.2.2.2.2.2.2.2.2.2.2.1 y.2.2.2.2.2.2.2.2.2.2.2.1 y.2.2.2.2.2.2.2.2.2.2.2.2) aj)<|aD (ah (r=4)) (aD (Td.c a d e f h i j l m s) (ch (Td.v a d e f h i j l m s) λy=>k (TW.v y.2.2.2.2.2.2.2.2.2) y.1 y.2.1 y.2.2.1 y.2.2.2.1 y.2.2.2.2.1 y.2.2.2.2.2.1 y.2.2.2.2.2.2.1 y.2.2.2.2.2.2.2.1 y.2.2.2.2.2.2.2.2.1 o p q) aj)<|aD (ah (r=5)) (aD (Te.c a d e f h i j l m u) (ch (Te.v a d e f h i j l m u) λy=>k 0 y.1 y.2.1 y.2.2.1 y.2.2.2.1 y.2.2.2.2.1 y.2.2.2.2.2.1 y.2.2.2.2.2.2.1 y.2.2.2.2.2.2.2.1 y.2.2.2.2.2.2.2.2 o p q) aj)<|aD (ah (r=6)) (aD (Mw.c a d e f h i j l m s) (ch (Mw.v a d e f h i j l m s) λy=>aD (Tf.c a d e f h i j l m s) (ch (Tf.v a d e f h i j l m s) λz=>k (TW.v (ah (y≥0))) z.1 z.2.1 z.2.2.1 z.2.2.2.1 z.2.2.2.2.1 z.2.2.2.2.2.1 z.2.2.2.2.2.2.1 z.2.2.2.2.2.2.2.1 z.2.2.2.2.2.2.2.2 o p q) aj) aj)<|aD (NS.c a d e f h i j l m o p q w) (ch (NS.v a d e f h i j l m o p q w) λy=>k 0 y.1 y.2.1 y.2.2.1 y.2.2.2.1 y.2.2.2.2.1 y.2.2.2.2.2.1 y.2.2.2.2.2.2.1 y.2.2.2.2.2.2.2.1 y.2.2.2.2.2.2.2.2.1 y.2.2.2.2.2.2.2.2.2.1 y.2.2.2.2.2.2.2.2.2.2.1 y.2.2.2.2.2.2.2.2.2.2.2) aj
def vo:=b λd r1 r2 r3 r4 r5 r6 r7 r8 r9 wA wZ a=>ai (d,r1,r2,r3,r4,r5,r6,r7,r8,r9,wA,wZ,a)
def c:=Df vo
def v:=DQ vo
theorem out{x}:DE vo c v x:=Hs
end S_
namespace KF
def wZ(N:aN)(g k:j8 R)(a:Row)(d e f h i j l m:ay)(o p q r s t u w y:Row):aA R:=aD (ah (e<d)) (aD (ah (0<=e)&&ah (e<(a.length:ay))) (aD (S_.c j o p q r l s t m u w y (bN (av a e.toNat 0)) (bN (av a e.toNat 1)) (br (av a e.toNat (1+1))) (bN (av a e.toNat (1+1+1))) (iH (av a e.toNat (1+1+1+1)))) (ch (S_.v j o p q r l s t m u w y (bN (av a e.toNat 0)) (bN (av a e.toNat 1)) (br (av a e.toNat (1+1))) (bN (av a e.toNat (1+1+1))) (iH (av a e.toNat (1+1+1+1)))) λz=>aD (b8 (z.2.2.2.2.2.2.2.2.2.2.2.1.length+(aP (aT [Ck.i ak] 1) 0 [.i ak z.1]).length) 8) (g a d (bE (e+1)) f h i z.2.1 z.2.2.2.2.2.2.1 z.2.2.2.2.2.2.2.2.2.1 z.2.2.1 z.2.2.2.1 z.2.2.2.2.1 z.2.2.2.2.2.1 z.2.2.2.2.2.2.2.1 z.2.2.2.2.2.2.2.2.1 z.2.2.2.2.2.2.2.2.2.2.1 (z.2.2.2.2.2.2.2.2.2.2.2.1++aP (aT [Ck.i ak] 1) 0 [.i ak z.1]) z.2.2.2.2.2.2.2.2.2.2.2.2) aj) aj) aj)<|k a d e f h i j l m o p q r s t u w y
def M4(N:aN)(a:j8 R):aN->j8 R
 |0=>λ_ _ _ _ _ _ _ _ _ _ _ _ _ _ _ _ _ _=>aj
 |n+1=>wZ N (M4 N a n) a
def r4(N:aN)(g k m:uN R)(a:Row)(d:aY)(e:Row)(f h i j l:ay):aA R:=aD (ah (h<f)) (aD (ah (0<=h)&&ah (h<(e.length:ay))) (aD (!KI.v (bN (av e h.toNat 0)) (bN (av e h.toNat 1)) (br (av e h.toNat (1+1))) (bN (av e h.toNat (1+1+1))) (iH (av e h.toNat (1+1+1+1)))) (k a aq e f h 0 0 0)<|g a d e f (bE (h+1)) i j l) aj)<|m a d e f h i j l
def l4(N:aN)(a d:uN R):aN->uN R
 |0=>λ_ _ _ _ _ _ _ _=>aj
 |n+1=>r4 N (l4 N a d n) a d
def b(N:aN)(k:rI R)(a:Row):aA R:=aD (ah ((a.length:ay)>70)) (k 0 [] [] [] [] 0 [] [] 0 [] [] [] aq)<|l4 N (λ_ d _ _ _ e f h=>k e [] [] [] [] f [] [] h [] [] [] d) (λd _ _ _ _ e f h=>M4 N (λ_ _ _ _ _ _ i j l m o p q r s t u w=>k i m o p q j r s l t u w ao) N d (d.length:ay) 0 e f h 1 0 0 [] [] [] ([]++aP (aT [Ck.l 3] 1) 0 [CV.l 3 (aT [Ck.i ak] (aR 16))]++aP (aT [Ck.l 3] 1) 0 [CV.l 3 (aT [Ck.i ak] (aR 16))]++aP (aT [Ck.l 3] 1) 0 [CV.l 3 (aT [Ck.i ak] (aR 16))]) [] [] [] [] []) N a aq a (a.length:ay) 0 0 0 0
def vo:=b ck λd r1 r2 r3 r4 r5 r6 r7 r8 r9 wA wZ a=>ai (d,r1,r2,r3,r4,r5,r6,r7,r8,r9,wA,wZ,a)
def c:=ka vo
def v:=ko vo
theorem out{x}:ki vo c v x:=kL
end KF
namespace CD
def tx(a:Row):aE au:=a.map λy=>br (y.getD 0 (.b aq))
def c(a:Row)(s:au):aY:=eS a.length 140737488355328&&eS (_root_.Go.Lib.join ((tx a).map (·.data.toList)) s.data.toList).length 140737488355328
def v(a:Row)(s:au):au:=⟨(_root_.Go.Lib.join ((tx a).map (·.data.toList)) s.data.toList).toArray⟩
end CD
namespace H0
def b(d:au->aA R)(a:ay):aA R:=aD (ah (a=1)) (d (az #[ar 119,ar 97,ar 105,ar 116,ar 115]))<|aD (ah (a=2)) (d (az #[ar 100,ar 111,ar 110,ar 101]))<|d (az #[ar 102,ar 97,ar 105,ar 108,ar 101,ar 100])
def v(a:ay):au:=aD (ah (a=1)) (az #[ar 119,ar 97,ar 105,ar 116,ar 115])<|aD (ah (a=2)) (az #[ar 100,ar 111,ar 110,ar 101])<|(az #[ar 102,ar 97,ar 105,ar 108,ar 101,ar 100])
theorem dW(d:au->aA R)(a:ay):b d a=d (v a):=by first|rfl|(unfold b v;simp only[cj];(repeat' split)<;>rfl)
end H0
end Go.FG
