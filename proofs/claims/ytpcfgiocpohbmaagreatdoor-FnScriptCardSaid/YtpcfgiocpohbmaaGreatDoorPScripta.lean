/- Functions of the program, told as functions of numbers, texts and lists, and what each comes to. No condition but those that each states. -/
import Derived.Test.YtpcfgiocpohbmaaGreatDoorLib
set_option linter.all false
set_option maxRecDepth 100000
set_option autoImplicit true
set_option relaxedAutoImplicit true
open BitVec renaming toNat->eg,and->jx,ofInt->cu,xor->mi
open Bool renaming cond_eq_ite->cy,false->aq,true->ao,false_eq_true->dq,true_and->bj,not_true->aY,and_self->aK,or_true->Kd,and_false->wQ,not_false->bH
open ByteArray renaming mk->aw,toList->aF,size->bf,extract->bx
open Decidable renaming decide->ah
open Go.IntKind renaming i64->ak,wrap->bG,u32->eF,u8->a8
open Go.Op renaming bytesLess->cf
open Int renaming fdiv->lE,pow->hS,toNat->aP,tmod->bQ,tdiv->cz,tmod_eq_emod_of_nonneg->dO,mul_le_mul_of_nonneg_right->DX,neg->s9
open List renaming set->aC,beq->cD,length->bD,range->c7,range'->iT,all_cons->iS,range'_zero->V4,all_nil->DY,range_eq_range'->V5,length_append->bU,length_singleton->bz,take->kO,drop->nc
open Nat renaming sub_zero->H2,lt_irrefl->bg,ble->e6,beq->bN
open Option renaming none->ay,some->ai
open UInt8 renaming ofNat->aj
open _root_ renaming Int->az,Option->aG,ByteArray->ar,Bool->aZ,Nat->aN,cond->aT,cond_true->au,cond_false->ax,of_decide_eq_true->cB,decide_eq_decide->b7,decide_true->aQ,decide_false->bc,decide_eq_true->aA,if_neg->bk,if_pos->bm,decide_eq_false->aD,List->aE
namespace Go.FG
open _root_.Go.FG.Lib (lT sV cw zS CK vJ cm dh IQ ES G1 sn oY gO gP ic uW rz fO sI nR ea h_ sJ b6 cj dK Ce iq vb cG)
variable {R:Type}
abbrev nY(R:Type):=Row->az->aG R
abbrev vR(R:Type):=az->Row->aG R
abbrev w7(R:Type):=ar->aZ->aG R
abbrev vU(R:Type):=Row->aZ->aG R
abbrev Cn(R:Type):=ar->az->aG R
abbrev VW(R:Type):=az->aZ->aG R
abbrev DW(R:Type):=az->ar->aG R
abbrev tI(R:Type):=Row->az->az->aG R
abbrev kS(R:Type):=az->az->az->aG R
abbrev pf(R:Type):=az->Cn R
abbrev Cm(R:Type):=az->ar->Row->aG R
abbrev H'(R:Type):=aZ->vR R
abbrev nk(R:Type):=ar->vR R
abbrev vE(R:Type):=Row->vR R
abbrev Mb(R:Type):=az->VW R
abbrev Me(R:Type):=ar->VW R
abbrev Cj(R:Type):=az->Row->Row->aG R
abbrev Ma(R:Type):=az->aZ->ar->aG R
abbrev FP(R:Type):=az->tI R
abbrev gk(R:Type):=az->az->vR R
abbrev nt(R:Type):=Row->Row->nY R
abbrev Cp(R:Type):=ar->tI R
abbrev ada(R:Type):=aZ->tI R
abbrev FU(R:Type):=Row->ar->aZ->az->aG R
abbrev FN(R:Type):=aZ->az->nY R
abbrev tG(R:Type):=az->ar->az->az->aG R
abbrev tK(R:Type):=Row->nk R
abbrev FQ(R:Type):=az->ar->vU R
abbrev gZ(R:Type):=ar->az->vR R
abbrev qx(R:Type):=ar->Cj R
abbrev j3(R:Type):=Row->az->vR R
abbrev tJ(R:Type):=Row->Cj R
abbrev FT(R:Type):=Row->tI R
abbrev FV(R:Type):=ar->H' R
abbrev Ch(R:Type):=az->Cj R
abbrev FR(R:Type):=Row->kS R
abbrev Co(R:Type):=ar->az->DW R
abbrev Kf(R:Type):=Row->ar->Cn R
abbrev uJ(R:Type):=az->j3 R
abbrev Mf(R:Type):=ar->j3 R
abbrev qb(R:Type):=az->FR R
abbrev Bu(R:Type):=aZ->az->az->nY R
abbrev xA(R:Type):=ar->az->az->w7 R
abbrev mL(R:Type):=az->gk R
abbrev BD(R:Type):=ar->gk R
abbrev BF(R:Type):=ar->az->az->nY R
abbrev qd(R:Type):=Row->Row->Row->DW R
abbrev FM(R:Type):=aZ->az->Cm R
abbrev qc(R:Type):=az->Kf R
abbrev wX(R:Type):=Row->aZ->nk R
abbrev qa(R:Type):=az->az->nk R
abbrev w9(R:Type):=ar->aZ->az->vR R
abbrev BC(R:Type):=ar->az->aZ->az->az->aG R
abbrev Bw(R:Type):=az->az->Row->Row->Row->aG R
abbrev jE(R:Type):=Row->az->kS R
abbrev Bz(R:Type):=Row->FP R
abbrev fy(R:Type):=Row->ar->kS R
abbrev BG(R:Type):=ar->FP R
abbrev Bv(R:Type):=aZ->j3 R
abbrev Bx(R:Type):=az->ar->nk R
abbrev BB(R:Type):=Row->j3 R
abbrev Md(R:Type):=Row->Co R
abbrev BA(R:Type):=Row->az->ar->ar->ar->aG R
abbrev nX(R:Type):=az->Row->gk R
abbrev kg(R:Type):=az->Row->ar->nk R
abbrev Ib(R:Type):=Row->aZ->qx R
abbrev Ic(R:Type):=ar->aZ->Ch R
abbrev Ia(R:Type):=Row->aZ->az->pf R
abbrev Ci(R:Type):=az->az->ar->az->vU R
abbrev nZ(R:Type):=Row->mL R
abbrev wT(R:Type):=aZ->Row->az->az->nY R
abbrev w_(R:Type):=ar->mL R
abbrev tH(R:Type):=az->ar->az->Cm R
abbrev wZ(R:Type):=Row->uJ R
abbrev wU(R:Type):=aZ->Mf R
abbrev wW(R:Type):=Row->aZ->az->kS R
abbrev uI(R:Type):=aZ->az->Row->Row->vE R
abbrev mw(R:Type):=Row->tH R
abbrev my(R:Type):=ar->az->qa R
abbrev Ey(R:Type):=Row->aZ->qa R
abbrev yY(R:Type):=aZ->Row->az->az->Cm R
abbrev zb(R:Type):=ar->az->az->az->aZ->az->az->aG R
abbrev vZ(R:Type):=ar->az->az->az->aZ->kS R
abbrev rP(R:Type):=aZ->az->az->Row->Row->vE R
abbrev vT(R:Type):=aN->az->az->mL R
abbrev rQ(R:Type):=Row->aZ->Row->az->az->kS R
abbrev Ke(R:Type):=Row->az->ar->az->az->pf R
abbrev dn(R:Type):=az->Row->Row->Row->Row->az->Row->nY R
abbrev mv(R:Type):=Row->aZ->az->az->az->qx R
abbrev jk(R:Type):=Row->az->az->my R
abbrev fL(R:Type):=az->Row->Row->Row->Row->az->FT R
abbrev lk(R:Type):=az->Row->Row->Row->Row->az->Row->Row->VW R
abbrev oN(R:Type):=aZ->Row->Row->az->az->Row->az->az->nY R
abbrev wV(R:Type):=az->Row->Row->Row->Row->az->Row->Row->DW R
abbrev fH(R:Type):=aZ->az->dn R
abbrev nJ(R:Type):=ar->az->dn R
abbrev nI(R:Type):=az->Row->Row->Row->Row->az->Row->Row->az->DW R
abbrev nH(R:Type):=az->Row->Row->Row->Row->az->Row->FR R
abbrev gK(R:Type):=az->az->az->az->az->az->Row->Row->Row->Row->Row->Row->aG R
abbrev iW(R:Type):=az->Row->Row->Row->Row->az->Row->Row->az->Row->Row->Row->aG R
abbrev ij(R:Type):=Row->aZ->aZ->az->az->az->ar->az->az->pf R
abbrev ig(R:Type):=aZ->Row->az->az->az->az->ar->az->az->pf R
abbrev mc(R:Type):=az->iW R
abbrev gY(R:Type):=Row->aZ->aZ->az->az->az->my R
abbrev gX(R:Type):=aZ->Row->az->az->az->az->my R
abbrev mb(R:Type):=aZ->ar->Row->az->az->az->az->ar->az->az->pf R
abbrev dS(R:Type):=aZ->Row->az->az->dn R
abbrev iC(R:Type):=az->gK R
abbrev A9(R:Type):=aZ->iW R
abbrev sQ(R:Type):=az->Row->Row->Row->Row->az->Row->Row->az->Row->Row->vU R
abbrev oh(R:Type):=az->Row->Row->Row->Row->az->Row->Row->az->Co R
abbrev A_(R:Type):=az->Row->Row->Row->Row->az->Row->Row->az->Row->Row->Row->Row->aG R
abbrev gm(R:Type):=ar->az->az->az->az->Row->Row->Row->Row->Row->Row->Row->Row->Row->aG R
abbrev za(R:Type):=Row->az->az->Row->Row->Row->Row->Row->Row->Row->Row->Row->Cn R
abbrev y_(R:Type):=Row->az->az->Row->Row->Row->Row->Row->Row->Row->FT R
abbrev yZ(R:Type):=az->Row->Row->Row->Row->az->Row->Row->az->Row->FT R
abbrev kH(R:Type):=az->Row->iC R
abbrev e_(R:Type):=az->az->az->az->Row->Row->Row->Row->Row->Row->Row->Row->Row->Row->Row->aG R
abbrev jh(R:Type):=az->az->az->az->az->Row->Row->Row->Row->Row->Row->Row->Row->Row->Row->aG R
abbrev wY(R:Type):=Row->az->mc R
abbrev j4(R:Type):=ar->aZ->az->oh R
abbrev j0(R:Type):=az->Row->az->iC R
abbrev jZ(R:Type):=az->e_ R
abbrev vW(R:Type):=Row->az->az->Row->Row->Row->Row->Row->Row->Row->Row->Row->az->nk R
abbrev vV(R:Type):=Row->az->az->Row->Row->Row->Row->Row->Row->Row->Row->Row->az->pf R
abbrev vS(R:Type):=az->Row->Row->Row->Row->az->Row->Row->az->az->ar->az->az->pf R
abbrev iI(R:Type):=az->az->ar->az->Row->Row->az->az->Row->Row->Row->Row->Row->Row->Row->Row->Row->aG R
abbrev jD(R:Type):=az->aZ->az->az->Row->Row->Row->Row->az->Row->Row->az->ar->ar->kS R
abbrev iH(R:Type):=az->az->az->az->az->ar->az->az->az->ar->az->Row->Row->Row->Row->Row->Row->aG R
abbrev jF(R:Type):=Row->az->az->az->az->az->az->az->Row->Row->Row->Row->Row->Row->Row->Row->Row->aG R
abbrev iJ(R:Type):=az->Row->Row->Row->Row->az->Row->Row->az->Row->Row->Row->qa R
abbrev ji(R:Type):=az->az->Row->jh R
abbrev jj(R:Type):=Row->az->az->az->az->az->az->az->az->Row->Row->Row->Row->Row->Row->Row->Row->Row->aG R
abbrev jl(R:Type):=ar->ar->aZ->ar->az->Row->az->az->az->Row->Row->Row->Row->Row->Row->Row->Row->Row->aG R
abbrev fQ(R:Type):=az->az->az->Row->Row->Row->Row->az->Row->Row->iC R
abbrev gw(R:Type):=az->ar->fQ R
abbrev fK(R:Type):=az->az->az->az->Row->az->az->Row->Row->Row->Row->Row->Row->Row->Row->Row->az->az->az->az->az->my R
abbrev eX(R:Type):=ar->aZ->az->az->Row->Row->Row->Row->az->Row->Row->az->az->az->iH R
abbrev bY{R:Type}(i:az)(n:aN)(y:aG R):aG R:=bif ah (0<=i)&&ah (i<(n:az))then y else ay
abbrev kE{R:Type}(a b:ar)(y:aG R):aG R:=bif ah (a.size+b.size<=4611686018427387904)then y else ay
abbrev bw{R:Type}(b:aZ)(y:aG R):aG R:=bif b then y else ay
abbrev cq{a a1 a2 a3 r:Type}(x:a×a1×a2×a3×r):=x.2.2.2.1
abbrev db{a a1 a2 a3 a4 r:Type}(x:a×a1×a2×a3×a4×r):=x.2.2.2.2.1
abbrev du{a a1 a2 a3 a4 a5 r:Type}(x:a×a1×a2×a3×a4×a5×r):=x.2.2.2.2.2.1
abbrev cC{a a1 a2 a3 a4 a5 d r:Type}(x:a×a1×a2×a3×a4×a5×d×r):=x.2.2.2.2.2.2.1
abbrev dm{a a1 a2 a3 a4 a5 d e r:Type}(x:a×a1×a2×a3×a4×a5×d×e×r):=x.2.2.2.2.2.2.2.1
abbrev je{a a1 a2 a3 a4 a5 d e f r:Type}(x:a×a1×a2×a3×a4×a5×d×e×f×r):=x.2.2.2.2.2.2.2.2.1
abbrev ni{a a1 a2 a3 a4 a5 d e f h r:Type}(x:a×a1×a2×a3×a4×a5×d×e×f×h×r):=x.2.2.2.2.2.2.2.2.2.1
abbrev jC{d a1 a2 a3 a4 a5 e f h i a r:Type}(x:d×a1×a2×a3×a4×a5×e×f×h×i×a×r):=x.2.2.2.2.2.2.2.2.2.2.1
abbrev mC{e a1 a2 a3 a4 a5 f h i j a d r:Type}(x:e×a1×a2×a3×a4×a5×f×h×i×j×a×d×r):=x.2.2.2.2.2.2.2.2.2.2.2.1
abbrev Nr{f a1 a2 a3 a4 a5 h i j k a d e r:Type}(x:f×a1×a2×a3×a4×a5×h×i×j×k×a×d×e×r):=x.2.2.2.2.2.2.2.2.2.2.2.2.1
abbrev Ns{h a1 a2 a3 a4 a5 i j k m a d e f r:Type}(x:h×a1×a2×a3×a4×a5×i×j×k×m×a×d×e×f×r):=x.2.2.2.2.2.2.2.2.2.2.2.2.2.1
abbrev Nt{i a1 a2 a3 a4 a5 j k m o a d e f h r:Type}(x:i×a1×a2×a3×a4×a5×j×k×m×o×a×d×e×f×h×r):=x.2.2.2.2.2.2.2.2.2.2.2.2.2.2.1
abbrev Nu{j a1 a2 a3 a4 a5 k m o s a d e f h i r:Type}(x:j×a1×a2×a3×a4×a5×k×m×o×s×a×d×e×f×h×i×r):=x.2.2.2.2.2.2.2.2.2.2.2.2.2.2.2.1
abbrev dt{a a1 a2 r:Type}(x:a×a1×a2×r):=x.2.2.2
abbrev p8{a a1 a2 a3 r:Type}(x:a×a1×a2×a3×r):=x.2.2.2.2
abbrev th{a a1 a2 a3 a4 r:Type}(x:a×a1×a2×a3×a4×r):=x.2.2.2.2.2
abbrev dP{a a1 a2 a3 a4 a5 d e r:Type}(x:a×a1×a2×a3×a4×a5×d×e×r):=x.2.2.2.2.2.2.2.2
abbrev tn{a a1 a2 a3 a4 a5 d e f r:Type}(x:a×a1×a2×a3×a4×a5×d×e×f×r):=x.2.2.2.2.2.2.2.2.2
abbrev q9{d a1 a2 a3 a4 a5 e f h i a r:Type}(x:d×a1×a2×a3×a4×a5×e×f×h×i×a×r):=x.2.2.2.2.2.2.2.2.2.2.2
abbrev ue{e a1 a2 a3 a4 a5 f h i j a d r:Type}(x:e×a1×a2×a3×a4×a5×f×h×i×j×a×d×r):=x.2.2.2.2.2.2.2.2.2.2.2.2
abbrev Nv{j a1 a2 a3 a4 a5 k m o s a d e f h i r:Type}(x:j×a1×a2×a3×a4×a5×k×m×o×s×a×d×e×f×h×i×r):=x.2.2.2.2.2.2.2.2.2.2.2.2.2.2.2.2
abbrev gb{a z R:Type}(c:a->aZ)(v:a->z)(d:a)(k:z->aG R):aG R:=bif c d then ic (v d) k else ay
abbrev iU{a a1 z R:Type}(c:a->a1->aZ)(v:a->a1->z)(d:a)(e:a1)(k:z->aG R):aG R:=bif c d e then ic (v d e) k else ay
abbrev p7{a a1 a2 z R:Type}(c:a->a1->a2->aZ)(v:a->a1->a2->z)(d:a)(e:a1)(f:a2)(k:z->aG R):aG R:=bif c d e f then ic (v d e f) k else ay
abbrev j7{a a1 a2 a3 z R:Type}(c:a->a1->a2->a3->aZ)(v:a->a1->a2->a3->z)(d:a)(e:a1)(f:a2)(h:a3)(k:z->aG R):aG R:=bif c d e f h then ic (v d e f h) k else ay
abbrev ng{a a1 a2 a3 a4 z R:Type}(c:a->a1->a2->a3->a4->aZ)(v:a->a1->a2->a3->a4->z)(d:a)(e:a1)(f:a2)(h:a3)(i:a4)(k:z->aG R):aG R:=bif c d e f h i then ic (v d e f h i) k else ay
abbrev CY{a a1 a2 a3 a4 a5 d e z R:Type}(c:a->a1->a2->a3->a4->a5->d->e->aZ)(v:a->a1->a2->a3->a4->a5->d->e->z)(f:a)(h:a1)(i:a2)(j:a3)(m:a4)(o:a5)(r:d)(s:e)(k:z->aG R):aG R:=bif c f h i j m o r s then ic (v f h i j m o r s) k else ay
abbrev nh{a a1 a2 a3 a4 a5 d e f z R:Type}(c:a->a1->a2->a3->a4->a5->d->e->f->aZ)(v:a->a1->a2->a3->a4->a5->d->e->f->z)(h:a)(i:a1)(j:a2)(m:a3)(o:a4)(r:a5)(s:d)(t:e)(u:f)(k:z->aG R):aG R:=bif c h i j m o r s t u then ic (v h i j m o r s t u) k else ay
abbrev jB{a a1 a2 a3 a4 a5 d e f h z R:Type}(c:a->a1->a2->a3->a4->a5->d->e->f->h->aZ)(v:a->a1->a2->a3->a4->a5->d->e->f->h->z)(i:a)(j:a1)(m:a2)(o:a3)(r:a4)(s:a5)(t:d)(u:e)(x:f)(y:h)(k:z->aG R):aG R:=bif c i j m o r s t u x y then ic (v i j m o r s t u x y) k else ay
abbrev mB{e a1 a2 a3 a4 a5 f h i j a z R:Type}(c:e->a1->a2->a3->a4->a5->f->h->i->j->a->aZ)(v:e->a1->a2->a3->a4->a5->f->h->i->j->a->z)(m:e)(o:a1)(r:a2)(s:a3)(t:a4)(u:a5)(x:f)(y:h)(A:i)(B:j)(d:a)(k:z->aG R):aG R:=bif c m o r s t u x y A B d then ic (v m o r s t u x y A B d) k else ay
abbrev ZU{h a1 a2 a3 a4 a5 i j m o a d z R:Type}(c:h->a1->a2->a3->a4->a5->i->j->m->o->a->d->aZ)(v:h->a1->a2->a3->a4->a5->i->j->m->o->a->d->z)(r:h)(s:a1)(t:a2)(u:a3)(x:a4)(y:a5)(A:i)(B:j)(C:m)(H:o)(e:a)(f:d)(k:z->aG R):aG R:=bif c r s t u x y A B C H e f then ic (v r s t u x y A B C H e f) k else ay
abbrev pH{j a1 a2 a3 a4 a5 m o r s a d e z R:Type}(c:j->a1->a2->a3->a4->a5->m->o->r->s->a->d->e->aZ)(v:j->a1->a2->a3->a4->a5->m->o->r->s->a->d->e->z)(t:j)(u:a1)(x:a2)(y:a3)(A:a4)(B:a5)(C:m)(H:o)(K:r)(M:s)(f:a)(h:d)(i:e)(k:z->aG R):aG R:=bif c t u x y A B C H K M f h i then ic (v t u x y A B C H K M f h i) k else ay
abbrev ZV{o a1 a2 a3 a4 a5 r s t u a d e f z R:Type}(c:o->a1->a2->a3->a4->a5->r->s->t->u->a->d->e->f->aZ)(v:o->a1->a2->a3->a4->a5->r->s->t->u->a->d->e->f->z)(x:o)(y:a1)(A:a2)(B:a3)(C:a4)(H:a5)(K:r)(M:s)(N:t)(O:u)(h:a)(i:d)(j:e)(m:f)(k:z->aG R):aG R:=bif c x y A B C H K M N O h i j m then ic (v x y A B C H K M N O h i j m) k else ay
abbrev SF{s a1 a2 a3 a4 a5 t u x y a d e f h z R:Type}(c:s->a1->a2->a3->a4->a5->t->u->x->y->a->d->e->f->h->aZ)(v:s->a1->a2->a3->a4->a5->t->u->x->y->a->d->e->f->h->z)(A:s)(B:a1)(C:a2)(H:a3)(K:a4)(M:a5)(N:t)(O:u)(P:x)(Q:y)(i:a)(j:d)(m:e)(o:f)(r:h)(k:z->aG R):aG R:=bif c A B C H K M N O P Q i j m o r then ic (v A B C H K M N O P Q i j m o r) k else ay
abbrev nr{u a1 a2 a3 a4 a5 x y A B a d e f h i z R:Type}(c:u->a1->a2->a3->a4->a5->x->y->A->B->a->d->e->f->h->i->aZ)(v:u->a1->a2->a3->a4->a5->x->y->A->B->a->d->e->f->h->i->z)(C:u)(H:a1)(K:a2)(M:a3)(N:a4)(O:a5)(P:x)(Q:y)(S:A)(U:B)(j:a)(m:d)(o:e)(r:f)(s:h)(t:i)(k:z->aG R):aG R:=bif c C H K M N O P Q S U j m o r s t then ic (v C H K M N O P Q S U j m o r s t) k else ay
abbrev pI{y a1 a2 a3 a4 a5 A B C H a d e f h i j z R:Type}(c:y->a1->a2->a3->a4->a5->A->B->C->H->a->d->e->f->h->i->j->aZ)(v:y->a1->a2->a3->a4->a5->A->B->C->H->a->d->e->f->h->i->j->z)(K:y)(M:a1)(N:a2)(O:a3)(P:a4)(Q:a5)(S:A)(U:B)(V:C)(X:H)(m:a)(o:d)(r:e)(s:f)(t:h)(u:i)(x:j)(k:z->aG R):aG R:=bif c K M N O P Q S U V X m o r s t u x then ic (v K M N O P Q S U V X m o r s t u x) k else ay
namespace U8
def b(d:aZ->aG R)(a:Row):aG R:=d (ah ((a.length:az)>1048576))
def v(a:Row):aZ:=(ah ((a.length:az)>1048576))
def eu(d:aZ->aG R)(a:Row):b d a=d (v a):=by first|rfl|(unfold b v;simp only[cy];(repeat' split)<;>rfl)
end U8
namespace Ql
def r3(N:aN)(g f:tI R):tI R:=λa d e=>aT (ah (e<(a.length:az))) (aT (ah (e<4000)) (bY e a.length<|g a (bA (↑(eg (jx (cu 64 (bA (bA (bA (d*131)+bA (bO (av a e.toNat 0)))+7))) (cu 64 1073741823))):az)) (bA (e+1)))<|f a d e)<|f a d e
def l3(N:aN)(a:tI R):aN->tI R
 |0=>λ_ _ _=>ay
 |n+1=>r3 N (l3 N a n) a
def b(N:aN)(f:tI R)(a:Row):aG R:=l3 N (λd e _=>f d 0 e) N a (bA (34901+(a.length:az))) 0
def vo:=b cw λa d e=>ai (a,d,e)
def c:=kq vo
def v:=kA vo
def out:kt vo c v x:=kF
end Ql
namespace dA
def b(f:FP R):tI R:=λa d e=>aT (ah (d<(a.length:az))) (bY d a.length<|f (bA (↑(eg (jx (cu 64 (bA (bA (↑(eg (jx (cu 64 (bA (↑(eg (mi (cu 64 (lE (bA (bA (e*6364136223846793005)+1442695040888963407)) (hS 2 (if aP 33<=64 then aP 33 else 64)))) (cu 64 (lE (bA (bA (e*6364136223846793005)+1442695040888963407)) (hS 2 (if aP 45<=64 then aP 45 else 64)))))):az))) (cu 64 255))):az)+bA (bO (av a d.toNat 0))))) (cu 64 255))):az)) a (bA (d+1)) (bA (bA (e*6364136223846793005)+1442695040888963407)))<|f (bA (↑(eg (jx (cu 64 (bA (↑(eg (mi (cu 64 (lE (bA (bA (e*6364136223846793005)+1442695040888963407)) (hS 2 (if aP 33<=64 then aP 33 else 64)))) (cu 64 (lE (bA (bA (e*6364136223846793005)+1442695040888963407)) (hS 2 (if aP 45<=64 then aP 45 else 64)))))):az))) (cu 64 255))):az)) a d (bA (bA (e*6364136223846793005)+1442695040888963407))
def vo:=b λa d e f=>ai (a,d,e,f)
def c:=KC vo
def v:=LY vo
def out:Lm vo c v x:=PM
end dA
namespace nM
def b(h:FP R):FR R:=λa d e f=>aT (ah (f<=0)) (h 0 a d e)<|aT (ah (f<=256)) (bw (dA.c a d e)<|bw (!decide (f=0))<|h (bQ (dA.v a d e).1 f) (dA.v a d e).2.1 (dA.v a d e).2.2.1 (dt (dA.v a d e)))<|bw (dA.c a d e)<|bw (dA.c (dA.v a d e).2.1 (dA.v a d e).2.2.1 (dt (dA.v a d e)))<|bw (dA.c (dA.v (dA.v a d e).2.1 (dA.v a d e).2.2.1 (dt (dA.v a d e))).2.1 (dA.v (dA.v a d e).2.1 (dA.v a d e).2.2.1 (dt (dA.v a d e))).2.2.1 (dt (dA.v (dA.v a d e).2.1 (dA.v a d e).2.2.1 (dt (dA.v a d e)))))<|bw (dA.c (dA.v (dA.v (dA.v a d e).2.1 (dA.v a d e).2.2.1 (dt (dA.v a d e))).2.1 (dA.v (dA.v a d e).2.1 (dA.v a d e).2.2.1 (dt (dA.v a d e))).2.2.1 (dt (dA.v (dA.v a d e).2.1 (dA.v a d e).2.2.1 (dt (dA.v a d e))))).2.1 (dA.v (dA.v (dA.v a d e).2.1 (dA.v a d e).2.2.1 (dt (dA.v a d e))).2.1 (dA.v (dA.v a d e).2.1 (dA.v a d e).2.2.1 (dt (dA.v a d e))).2.2.1 (dt (dA.v (dA.v a d e).2.1 (dA.v a d e).2.2.1 (dt (dA.v a d e))))).2.2.1 (dt (dA.v (dA.v (dA.v a d e).2.1 (dA.v a d e).2.2.1 (dt (dA.v a d e))).2.1 (dA.v (dA.v a d e).2.1 (dA.v a d e).2.2.1 (dt (dA.v a d e))).2.2.1 (dt (dA.v (dA.v a d e).2.1 (dA.v a d e).2.2.1 (dt (dA.v a d e)))))))<|bw (!decide (f=0))<|h (bQ (bA (bA (bA (bA ((dA.v a d e).1*16777216)+bA ((dA.v (dA.v a d e).2.1 (dA.v a d e).2.2.1 (dt (dA.v a d e))).1*65536))+bA ((dA.v (dA.v (dA.v a d e).2.1 (dA.v a d e).2.2.1 (dt (dA.v a d e))).2.1 (dA.v (dA.v a d e).2.1 (dA.v a d e).2.2.1 (dt (dA.v a d e))).2.2.1 (dt (dA.v (dA.v a d e).2.1 (dA.v a d e).2.2.1 (dt (dA.v a d e))))).1*256))+(dA.v (dA.v (dA.v (dA.v a d e).2.1 (dA.v a d e).2.2.1 (dt (dA.v a d e))).2.1 (dA.v (dA.v a d e).2.1 (dA.v a d e).2.2.1 (dt (dA.v a d e))).2.2.1 (dt (dA.v (dA.v a d e).2.1 (dA.v a d e).2.2.1 (dt (dA.v a d e))))).2.1 (dA.v (dA.v (dA.v a d e).2.1 (dA.v a d e).2.2.1 (dt (dA.v a d e))).2.1 (dA.v (dA.v a d e).2.1 (dA.v a d e).2.2.1 (dt (dA.v a d e))).2.2.1 (dt (dA.v (dA.v a d e).2.1 (dA.v a d e).2.2.1 (dt (dA.v a d e))))).2.2.1 (dt (dA.v (dA.v (dA.v a d e).2.1 (dA.v a d e).2.2.1 (dt (dA.v a d e))).2.1 (dA.v (dA.v a d e).2.1 (dA.v a d e).2.2.1 (dt (dA.v a d e))).2.2.1 (dt (dA.v (dA.v a d e).2.1 (dA.v a d e).2.2.1 (dt (dA.v a d e))))))).1)) f) (dA.v (dA.v (dA.v (dA.v a d e).2.1 (dA.v a d e).2.2.1 (dt (dA.v a d e))).2.1 (dA.v (dA.v a d e).2.1 (dA.v a d e).2.2.1 (dt (dA.v a d e))).2.2.1 (dt (dA.v (dA.v a d e).2.1 (dA.v a d e).2.2.1 (dt (dA.v a d e))))).2.1 (dA.v (dA.v (dA.v a d e).2.1 (dA.v a d e).2.2.1 (dt (dA.v a d e))).2.1 (dA.v (dA.v a d e).2.1 (dA.v a d e).2.2.1 (dt (dA.v a d e))).2.2.1 (dt (dA.v (dA.v a d e).2.1 (dA.v a d e).2.2.1 (dt (dA.v a d e))))).2.2.1 (dt (dA.v (dA.v (dA.v a d e).2.1 (dA.v a d e).2.2.1 (dt (dA.v a d e))).2.1 (dA.v (dA.v a d e).2.1 (dA.v a d e).2.2.1 (dt (dA.v a d e))).2.2.1 (dt (dA.v (dA.v a d e).2.1 (dA.v a d e).2.2.1 (dt (dA.v a d e))))))).2.1 (dA.v (dA.v (dA.v (dA.v a d e).2.1 (dA.v a d e).2.2.1 (dt (dA.v a d e))).2.1 (dA.v (dA.v a d e).2.1 (dA.v a d e).2.2.1 (dt (dA.v a d e))).2.2.1 (dt (dA.v (dA.v a d e).2.1 (dA.v a d e).2.2.1 (dt (dA.v a d e))))).2.1 (dA.v (dA.v (dA.v a d e).2.1 (dA.v a d e).2.2.1 (dt (dA.v a d e))).2.1 (dA.v (dA.v a d e).2.1 (dA.v a d e).2.2.1 (dt (dA.v a d e))).2.2.1 (dt (dA.v (dA.v a d e).2.1 (dA.v a d e).2.2.1 (dt (dA.v a d e))))).2.2.1 (dt (dA.v (dA.v (dA.v a d e).2.1 (dA.v a d e).2.2.1 (dt (dA.v a d e))).2.1 (dA.v (dA.v a d e).2.1 (dA.v a d e).2.2.1 (dt (dA.v a d e))).2.2.1 (dt (dA.v (dA.v a d e).2.1 (dA.v a d e).2.2.1 (dt (dA.v a d e))))))).2.2.1 (dt (dA.v (dA.v (dA.v (dA.v a d e).2.1 (dA.v a d e).2.2.1 (dt (dA.v a d e))).2.1 (dA.v (dA.v a d e).2.1 (dA.v a d e).2.2.1 (dt (dA.v a d e))).2.2.1 (dt (dA.v (dA.v a d e).2.1 (dA.v a d e).2.2.1 (dt (dA.v a d e))))).2.1 (dA.v (dA.v (dA.v a d e).2.1 (dA.v a d e).2.2.1 (dt (dA.v a d e))).2.1 (dA.v (dA.v a d e).2.1 (dA.v a d e).2.2.1 (dt (dA.v a d e))).2.2.1 (dt (dA.v (dA.v a d e).2.1 (dA.v a d e).2.2.1 (dt (dA.v a d e))))).2.2.1 (dt (dA.v (dA.v (dA.v a d e).2.1 (dA.v a d e).2.2.1 (dt (dA.v a d e))).2.1 (dA.v (dA.v a d e).2.1 (dA.v a d e).2.2.1 (dt (dA.v a d e))).2.2.1 (dt (dA.v (dA.v a d e).2.1 (dA.v a d e).2.2.1 (dt (dA.v a d e))))))))
def vo:=b λa d e f=>ai (a,d,e,f)
def c:=vx vo
def v:=vD vo
def out:vB vo c v x:=wz
end nM
namespace GM
def r3(N:aN)(g:kS R)(f:gk R)(h:kS R)(j:gk R):kS R:=λa d e=>aT (ah (a<3)) (f (bA (a+1)) d e ([]++aC (aR [Ck.l 3] 1) 0 [CV.l 3 (aR [Ck.i ak] (aP 16))]))<|h a d e
def vC(N:aN)(g:kS R)(h:gk R)(k:kS R)(j:gk R):gk R:=λa d e f=>aT (ah (a<3)) (bw (b_ (f.length+(aC (aR [Ck.l 3] 1) 0 [CV.l 3 (aR [Ck.i ak] (aP 16))]).length) 24)<|h (bA (a+1)) d e (f++aC (aR [Ck.l 3] 1) 0 [CV.l 3 (aR [Ck.i ak] (aP 16))]))<|j a d e f
def oJ(N:aN)(a:kS R)(d:gk R):aN->gk R
 |0=>λ_ _ _ _=>ay
 |n+1=>vC N (λe f h=>ay) (oJ N a d n) a d
def l3(N:aN)(a:kS R)(d:gk R):aN->kS R
 |0=>λ_ _ _=>ay
 |n+1=>r3 N (l3 N a d n) (oJ N a d n) a d
def b(N:aN)(e:nY R):aG R:=l3 N (λ_ _ a=>e [] a) (λ_ _ a d=>e d a) N 0 0 0
def vo:=b cw λa d=>ai (a,d)
def c:=vo.isSome
def v:=vo.getD ([],0)
end GM
namespace U66
def b(a:nt R):aG R:=a [] [] ([]++aC (aR [Ck.l 3] 1) 0 [CV.l 3 (aR [Ck.i ak] (aP 16))]++aC (aR [Ck.l 3] 1) 0 [CV.l 3 (aR [Ck.i ak] (aP 16))]++aC (aR [Ck.l 3] 1) 0 [CV.l 3 (aR [Ck.i ak] (aP 16))]) 0
def v:Row×Row×Row×az:=([],[],[]++aC (aR [Ck.l 3] 1) 0 [CV.l 3 (aR [Ck.i ak] (aP 16))]++aC (aR [Ck.l 3] 1) 0 [CV.l 3 (aR [Ck.i ak] (aP 16))]++aC (aR [Ck.l 3] 1) 0 [CV.l 3 (aR [Ck.i ak] (aP 16))],0)
def eu(a:nt R):b a=a v.1 v.2.1 v.2.2.1 v.2.2.2:=by first|rfl|(unfold b v;simp only[cy];(repeat' split)<;>rfl)
end U66
namespace U37
def b(a:dn R):aG R:=a 1 [] [] [] ([]++aC (aR [Ck.l 3] 1) 0 [CV.l 3 (aR [Ck.i ak] (aP 16))]++aC (aR [Ck.l 3] 1) 0 [CV.l 3 (aR [Ck.i ak] (aP 16))]++aC (aR [Ck.l 3] 1) 0 [CV.l 3 (aR [Ck.i ak] (aP 16))]) 0 [] [] 0
def v:az×Row×Row×Row×Row×az×Row×Row×az:=(1,[],[],[],[]++aC (aR [Ck.l 3] 1) 0 [CV.l 3 (aR [Ck.i ak] (aP 16))]++aC (aR [Ck.l 3] 1) 0 [CV.l 3 (aR [Ck.i ak] (aP 16))]++aC (aR [Ck.l 3] 1) 0 [CV.l 3 (aR [Ck.i ak] (aP 16))],0,[],[],0)
def eu(a:dn R):b a=a v.1 v.2.1 v.2.2.1 v.2.2.2.1 v.2.2.2.2.1 v.2.2.2.2.2.1 v.2.2.2.2.2.2.1 v.2.2.2.2.2.2.2.1 v.2.2.2.2.2.2.2.2:=by first|rfl|(unfold b v;simp only[cy];(repeat' split)<;>rfl)
end U37
namespace n4
def b(h:uJ R):j3 R:=λa d e f=>bw (nM.c a d e (f.length:az))<|bY ((nM.v a d e (f.length:az)).1) f.length<|h (bO (av f (nM.v a d e (f.length:az)).1.toNat 0)) (nM.v a d e (f.length:az)).2.1 (nM.v a d e (f.length:az)).2.2.1 (dt (nM.v a d e (f.length:az))) f
def vo:=b λa d e f g=>ai (a,d,e,f,g)
def c:=vx vo
def v:=vD vo
def out:vB vo c v x:=wz
end n4
namespace pY
def b(h:Mf R):j3 R:=λa d e f=>bw (nM.c a d e (f.length:az))<|bY ((nM.v a d e (f.length:az)).1) f.length<|h (bn (av f (nM.v a d e (f.length:az)).1.toNat 0)) (nM.v a d e (f.length:az)).2.1 (nM.v a d e (f.length:az)).2.2.1 (dt (nM.v a d e (f.length:az))) f
def vo:=b λa d e f g=>ai (a,d,e,f,g)
def c:=vx vo
def v:=vD vo
def out:vB vo c v x:=wz
end pY
namespace vh
def b(f:Cp R):tI R:=λa d e=>bw (pY.c a d e (aC (aC (aC (aC (aC (aC (aC (aC (aR [.s] 8) 0 [.s (aw #[aj 47,aj 97])]) 1 [.s (aw #[aj 47,aj 98])]) 2 [.s (aw #[aj 47,aj 99])]) 3 [.s (aw #[aj 47,aj 100])]) 4 [.s (aw #[aj 47,aj 101])]) 5 [.s (aw #[aj 47,aj 102])]) 6 [.s (aw #[aj 47,aj 103])]) 7 [.s (aw #[aj 47,aj 104])]))<|f (pY.v a d e (aC (aC (aC (aC (aC (aC (aC (aC (aR [.s] 8) 0 [.s (aw #[aj 47,aj 97])]) 1 [.s (aw #[aj 47,aj 98])]) 2 [.s (aw #[aj 47,aj 99])]) 3 [.s (aw #[aj 47,aj 100])]) 4 [.s (aw #[aj 47,aj 101])]) 5 [.s (aw #[aj 47,aj 102])]) 6 [.s (aw #[aj 47,aj 103])]) 7 [.s (aw #[aj 47,aj 104])])).1 (pY.v a d e (aC (aC (aC (aC (aC (aC (aC (aC (aR [.s] 8) 0 [.s (aw #[aj 47,aj 97])]) 1 [.s (aw #[aj 47,aj 98])]) 2 [.s (aw #[aj 47,aj 99])]) 3 [.s (aw #[aj 47,aj 100])]) 4 [.s (aw #[aj 47,aj 101])]) 5 [.s (aw #[aj 47,aj 102])]) 6 [.s (aw #[aj 47,aj 103])]) 7 [.s (aw #[aj 47,aj 104])])).2.1 (pY.v a d e (aC (aC (aC (aC (aC (aC (aC (aC (aR [.s] 8) 0 [.s (aw #[aj 47,aj 97])]) 1 [.s (aw #[aj 47,aj 98])]) 2 [.s (aw #[aj 47,aj 99])]) 3 [.s (aw #[aj 47,aj 100])]) 4 [.s (aw #[aj 47,aj 101])]) 5 [.s (aw #[aj 47,aj 102])]) 6 [.s (aw #[aj 47,aj 103])]) 7 [.s (aw #[aj 47,aj 104])])).2.2.1 (cq (pY.v a d e (aC (aC (aC (aC (aC (aC (aC (aC (aR [.s] 8) 0 [.s (aw #[aj 47,aj 97])]) 1 [.s (aw #[aj 47,aj 98])]) 2 [.s (aw #[aj 47,aj 99])]) 3 [.s (aw #[aj 47,aj 100])]) 4 [.s (aw #[aj 47,aj 101])]) 5 [.s (aw #[aj 47,aj 102])]) 6 [.s (aw #[aj 47,aj 103])]) 7 [.s (aw #[aj 47,aj 104])])))
def vo:=b λa d e f=>ai (a,d,e,f)
def c:=KC vo
def v:=LY vo
def out:Lm vo c v x:=PM
end vh
namespace H4
def b(h:ada R):FR R:=λa d e f=>bw (nM.c a d e f)<|h (ah ((nM.v a d e f).1=0)) (nM.v a d e f).2.1 (nM.v a d e f).2.2.1 (dt (nM.v a d e f))
def vo:=b λa d e f=>ai (a,d,e,f)
def c:=vx vo
def v:=vD vo
def out:vB vo c v x:=wz
end H4
namespace Km
def r4(N:aN)(g O:fK R):fK R:=λa d e f h i j l m o p q r s t u w y z α x A B C H K M k=>aT (ah (f<(q.length:az))) (bY f q.length<|aT (ah (bO (av q f.toNat 2)=1)) (bw (b_ (k.length+(aC (aR [Ck.i ak] 1) 0 [.i ak f]).length) 8)<|g a d e (bA (f+1)) h i j l m o p q r s t u w y z α x A B C H K M (k++aC (aR [Ck.i ak] 1) 0 [.i ak f]))<|g a d e (bA (f+1)) h i j l m o p q r s t u w y z α x A B C H K M k)<|O a d e f h i j l m o p q r s t u w y z α x A B C H K M k
def l4(N:aN)(a:fK R):aN->fK R
 |0=>λ_ _ _ _ _ _ _ _ _ _ _ _ _ _ _ _ _ _ _ _ _ _ _ _ _ _ _ _=>ay
 |n+1=>r4 N (l4 N a n) a
abbrev h0{R:Type}(j:iI R):vW R:=λw y z α k m o r t u x A e C H B=>j7 nM.c nM.v w y z 3 λf=>aT (ah ((B.length:az)>0)) (j7 H4.c H4.v f.2.1 f.2.2.1 (dt f) 6 λd=>aT (!d.1) (j7 nM.c nM.v d.2.1 d.2.2.1 (dt d) (B.length:az) λa=>bY a.1 B.length<|aT (ah (e=2)) (j7 pY.c pY.v a.2.1 a.2.2.1 (dt a) (aC (aC (aC (aC (aR [.s] 4) 0 [.s (aw #[aj 120])]) 1 [.s (aw #[aj 104,aj 101,aj 108,aj 108,aj 111])]) 2 [.s (aw #[aj 109,aj 111,aj 114,aj 101,aj 32])]) 3 [.s (aw #[aj 48,aj 49,aj 50,aj 51,aj 52,aj 53,aj 54,aj 55,aj 56,aj 57])]) λh=>aT (ah (e=3)) (j7 n4.c n4.v h.2.1 h.2.2.1 (cq h) (aC (aC (aC (aC (aC (aR [Ck.i ak] 5) 0 [.i ak 0]) 1 [.i ak 3]) 2 [.i ak 20]) 3 [.i ak 60]) 4 [.i ak 60]) λK=>j e (bO (av B a.1.toNat 0)) h.1 K.1 [] K.2.1 K.2.2.1 (cq K) α k m o r t u x A)<|j e (bO (av B a.1.toNat 0)) h.1 H [] h.2.1 h.2.2.1 (cq h) α k m o r t u x A)<|aT (ah (e=3)) (j7 n4.c n4.v a.2.1 a.2.2.1 (dt a) (aC (aC (aC (aC (aC (aR [Ck.i ak] 5) 0 [.i ak 0]) 1 [.i ak 3]) 2 [.i ak 20]) 3 [.i ak 60]) 4 [.i ak 60]) λh=>j e (bO (av B a.1.toNat 0)) C h.1 [] h.2.1 h.2.2.1 (cq h) α k m o r t u x A)<|j e (bO (av B a.1.toNat 0)) C H [] a.2.1 a.2.2.1 (dt a) α k m o r t u x A)<|aT (ah (e=2)) (j7 pY.c pY.v d.2.1 d.2.2.1 (dt d) (aC (aC (aC (aC (aR [.s] 4) 0 [.s (aw #[aj 120])]) 1 [.s (aw #[aj 104,aj 101,aj 108,aj 108,aj 111])]) 2 [.s (aw #[aj 109,aj 111,aj 114,aj 101,aj 32])]) 3 [.s (aw #[aj 48,aj 49,aj 50,aj 51,aj 52,aj 53,aj 54,aj 55,aj 56,aj 57])]) λa=>aT (ah (e=3)) (j7 n4.c n4.v a.2.1 a.2.2.1 (cq a) (aC (aC (aC (aC (aC (aR [Ck.i ak] 5) 0 [.i ak 0]) 1 [.i ak 3]) 2 [.i ak 20]) 3 [.i ak 60]) 4 [.i ak 60]) λh=>j e f.1 a.1 h.1 [] h.2.1 h.2.2.1 (cq h) α k m o r t u x A)<|j e f.1 a.1 H [] a.2.1 a.2.2.1 (cq a) α k m o r t u x A)<|aT (ah (e=3)) (j7 n4.c n4.v d.2.1 d.2.2.1 (dt d) (aC (aC (aC (aC (aC (aR [Ck.i ak] 5) 0 [.i ak 0]) 1 [.i ak 3]) 2 [.i ak 20]) 3 [.i ak 60]) 4 [.i ak 60]) λa=>j e f.1 C a.1 [] a.2.1 a.2.2.1 (cq a) α k m o r t u x A)<|j e f.1 C H [] d.2.1 d.2.2.1 (dt d) α k m o r t u x A)<|aT (ah (e=2)) (j7 pY.c pY.v f.2.1 f.2.2.1 (dt f) (aC (aC (aC (aC (aR [.s] 4) 0 [.s (aw #[aj 120])]) 1 [.s (aw #[aj 104,aj 101,aj 108,aj 108,aj 111])]) 2 [.s (aw #[aj 109,aj 111,aj 114,aj 101,aj 32])]) 3 [.s (aw #[aj 48,aj 49,aj 50,aj 51,aj 52,aj 53,aj 54,aj 55,aj 56,aj 57])]) λd=>aT (ah (e=3)) (j7 n4.c n4.v d.2.1 d.2.2.1 (cq d) (aC (aC (aC (aC (aC (aR [Ck.i ak] 5) 0 [.i ak 0]) 1 [.i ak 3]) 2 [.i ak 20]) 3 [.i ak 60]) 4 [.i ak 60]) λa=>j e f.1 d.1 a.1 [] a.2.1 a.2.2.1 (cq a) α k m o r t u x A)<|j e f.1 d.1 H [] d.2.1 d.2.2.1 (cq d) α k m o r t u x A)<|aT (ah (e=3)) (j7 n4.c n4.v f.2.1 f.2.2.1 (dt f) (aC (aC (aC (aC (aC (aR [Ck.i ak] 5) 0 [.i ak 0]) 1 [.i ak 3]) 2 [.i ak 20]) 3 [.i ak 60]) 4 [.i ak 60]) λd=>j e f.1 C d.1 [] d.2.1 d.2.2.1 (cq d) α k m o r t u x A)<|j e f.1 C H [] f.2.1 f.2.2.1 (dt f) α k m o r t u x A
abbrev h1{R:Type}(h:iI R):vV R:=λw y z α j k m o d r s t e B u A=>aT (ah (e=5)) (j7 n4.c n4.v w y z (aC (aC (aC (aC (aR [Ck.i ak] 4) 0 [.i ak 1]) 1 [.i ak 2]) 2 [.i ak 5]) 3 [.i ak 30]) λa=>h e B u a.1 [] a.2.1 a.2.2.1 (cq a) α j k m o d r s t)<|aT (ah (e=6)) (j7 nM.c nM.v w y z 9 λa=>aT (ah ((d.length:az)>0)) (j7 H4.c H4.v a.2.1 a.2.2.1 (dt a) 4 λf=>aT (!f.1) (j7 nM.c nM.v f.2.1 f.2.2.1 (dt f) (d.length:az) λx=>bY x.1 d.length<|h e (bO (av d x.1.toNat 0)) u A [] x.2.1 x.2.2.1 (dt x) α j k m o d r s t)<|h e (bA (1+a.1)) u A [] f.2.1 f.2.2.1 (dt f) α j k m o d r s t)<|h e (bA (1+a.1)) u A [] a.2.1 a.2.2.1 (dt a) α j k m o d r s t)<|h e B u A [] w y z α j k m o d r s t
abbrev h2{R:Type}(h:iI R):za R:=λw y z α i j k m d o r s t u=>j7 nM.c nM.v w y z 9 λa=>aT (ah ((d.length:az)>0)) (j7 H4.c H4.v a.2.1 a.2.2.1 (dt a) 4 λe=>aT (!e.1) (j7 nM.c nM.v e.2.1 e.2.2.1 (dt e) (d.length:az) λf=>bY f.1 d.length<|h 6 (bO (av d f.1.toNat 0)) t u [] f.2.1 f.2.2.1 (dt f) α i j k m d o r s)<|h 6 (bA (1+a.1)) t u [] e.2.1 e.2.2.1 (dt e) α i j k m d o r s)<|h 6 (bA (1+a.1)) t u [] a.2.1 a.2.2.1 (dt a) α i j k m d o r s
abbrev h3{R:Type}(e:iI R):y_ R:=λw y z α f h i j k m o r s t=>j7 nM.c nM.v w y z 9 λa=>p7 vh.c vh.v a.2.1 a.2.2.1 (dt a) λd=>e s (bA (1+a.1)) d.1 t [] d.2.1 d.2.2.1 (dt d) α f h i j k m o r
def b(N:aN)(A:iI R):wY R:=λa d e f h i j l m o p q r s t=>j7 n4.c n4.v a d e (aC (aC (aC (aC (aC (aC (aC (aC (aC (aC (aC (aC (aC (aC (aR [Ck.i ak] 14) 0 [.i ak 1]) 1 [.i ak 1]) 2 [.i ak 1]) 3 [.i ak 1]) 4 [.i ak 2]) 5 [.i ak 2]) 6 [.i ak 2]) 7 [.i ak 3]) 8 [.i ak 3]) 9 [.i ak 3]) 10 [.i ak 4]) 11 [.i ak 5]) 12 [.i ak 6]) 13 [.i ak 6]) λu=>l4 N (λ_ _ _ _ w y z α B C H K x M O P _ _ _ _ _ _ _ k Y S Q U=>aT (ah ((U.length:az)=0)) (aT (ah (k=2)) (aT (ah ((x.length:az)≥6)) (h2 A w y z α B C H K x M O P S Q)<|j7 nM.c nM.v w y z 9 λV=>p7 vh.c vh.v V.2.1 V.2.2.1 (dt V) λX=>A 1 (bA (1+V.1)) X.1 Q [] X.2.1 X.2.2.1 (dt X) α B C H K x M O P)<|aT (ah (k=3)) (aT (ah ((x.length:az)≥6)) (h2 A w y z α B C H K x M O P S Q)<|j7 nM.c nM.v w y z 9 λV=>p7 vh.c vh.v V.2.1 V.2.2.1 (dt V) λX=>A 1 (bA (1+V.1)) X.1 Q [] X.2.1 X.2.2.1 (dt X) α B C H K x M O P)<|aT (ah ((x.length:az)≥6)) (aT (ah (k=1)) (h2 A w y z α B C H K x M O P S Q)<|aT (ah (k=1)) (h3 A w y z α B C H K x M O P k Q)<|aT (ah (k=2)) (h0 A w y z α B C H K x M O P k S Q U)<|aT (ah (k=3)) (h0 A w y z α B C H K x M O P k S Q U)<|aT (ah (k=4)) (h0 A w y z α B C H K x M O P k S Q U)<|h1 A w y z α B C H K x M O P k Y S Q)<|aT (ah (k=1)) (h3 A w y z α B C H K x M O P k Q)<|aT (ah (k=2)) (h0 A w y z α B C H K x M O P k S Q U)<|aT (ah (k=3)) (h0 A w y z α B C H K x M O P k S Q U)<|aT (ah (k=4)) (h0 A w y z α B C H K x M O P k S Q U)<|h1 A w y z α B C H K x M O P k Y S Q)<|aT (ah ((x.length:az)≥6)) (aT (ah (k=1)) (h2 A w y z α B C H K x M O P S Q)<|aT (ah (k=1)) (h3 A w y z α B C H K x M O P k Q)<|aT (ah (k=2)) (h0 A w y z α B C H K x M O P k S Q U)<|aT (ah (k=3)) (h0 A w y z α B C H K x M O P k S Q U)<|aT (ah (k=4)) (h0 A w y z α B C H K x M O P k S Q U)<|h1 A w y z α B C H K x M O P k Y S Q)<|aT (ah (k=1)) (h3 A w y z α B C H K x M O P k Q)<|aT (ah (k=2)) (h0 A w y z α B C H K x M O P k S Q U)<|aT (ah (k=3)) (h0 A w y z α B C H K x M O P k S Q U)<|aT (ah (k=4)) (h0 A w y z α B C H K x M O P k S Q U)<|h1 A w y z α B C H K x M O P k Y S Q) N f m q 0 u.2.1 u.2.2.1 (cq u) h i j l o p r s t f m q 0 0 ⟨#[]⟩ 0 u.1 0 ⟨#[]⟩ 0 (aR [Ck.i ak] 0)
def vo:=b cw λa d e f g h i j k l m n o p q r s=>ai (a,d,e,f,g,h,i,j,k,l,m,n,o,p,q,r,s)
def c:=ZM vo
def v:=acQ vo
def out:abu vo c v x:=ajI
end Km
namespace oq
def r3(N:aN)(g:qb R)(j:nX R)(k:qb R)(m:nX R):qb R:=λa d e f h=>aT (ah (a<(d.length:az))) (bY a d.length<|bw (b_ ((aR [Ck.i ak] 0).length+(jd (av d a.toNat 0)).length) 8)<|j (bA (a+1)) d e f h ([]++aC (aR [Ck.l 3] 1) 0 [CV.l 3 (aR [Ck.i ak] 0++jd (av d a.toNat 0))]))<|k a d e f h
def vC(N:aN)(g:qb R)(j:nX R)(m:qb R)(k:nX R):nX R:=λa d e f h i=>aT (ah (a<(d.length:az))) (bY a d.length<|bw (b_ ((aR [Ck.i ak] 0).length+(jd (av d a.toNat 0)).length) 8)<|bw (b_ (i.length+(aC (aR [Ck.l 3] 1) 0 [CV.l 3 (aR [Ck.i ak] 0++jd (av d a.toNat 0))]).length) 24)<|j (bA (a+1)) d e f h (i++aC (aR [Ck.l 3] 1) 0 [CV.l 3 (aR [Ck.i ak] 0++jd (av d a.toNat 0))]))<|k a d e f h i
def oJ(N:aN)(a:qb R)(d:nX R):aN->nX R
 |0=>λ_ _ _ _ _ _=>ay
 |n+1=>vC N (λe f h i j=>ay) (oJ N a d n) a d
def l3(N:aN)(a:qb R)(d:nX R):aN->qb R
 |0=>λ_ _ _ _ _=>ay
 |n+1=>r3 N (l3 N a d n) (oJ N a d n) a d
def b(N:aN)(h:nY R):nY R:=λa d=>l3 N (λ_ _ _ _ e=>h [] e) (λ_ _ _ _ e f=>h f e) N 0 a d 0 d
def vo:=b cw λa d=>ai (a,d)
def c:=js vo
def v:=jw vo
def out:ju vo c v x:=jA
end oq
namespace gi
def b(h:nt R):nt R:=λa d e f=>bw (b_ ((aR [.s] 0).length+a.length) 16)<|bw (b_ ((aR [.s] 0).length+d.length) 16)<|bw (oq.c e f)<|h (aR [.s] 0++a) (aR [.s] 0++d) (oq.v e f).1 (oq.v e f).2
def vo:=b λa d e f=>ai (a,d,e,f)
def c:=vx vo
def v:=vD vo
def out:vB vo c v x:=wz
end gi
namespace lh
def b(k:dn R):dn R:=λa d e f h i j l m=>bw (b_ ((aR [Ck.s,Ck.i ak,Ck.i ak,Ck.s] 0).length+d.length) 48)<|bw (gi.c e f h i)<|bw (b_ ((aR [Ck.s,Ck.s,Ck.i ak,Ck.i ak,Ck.i ak] 0).length+j.length) 56)<|bw (b_ ((aR [Ck.i ak,Ck.s,Ck.i ak,Ck.i ak,Ck.i ak,Ck.s,Ck.i ak] 0).length+l.length) 72)<|k a (aR [Ck.s,Ck.i ak,Ck.i ak,Ck.s] 0++d) (gi.v e f h i).1 (gi.v e f h i).2.1 (gi.v e f h i).2.2.1 (dt (gi.v e f h i)) (aR [Ck.s,Ck.s,Ck.i ak,Ck.i ak,Ck.i ak] 0++j) (aR [Ck.i ak,Ck.s,Ck.i ak,Ck.i ak,Ck.i ak,Ck.s,Ck.i ak] 0++l) m
def vo:=b λa d e f g h i j k=>ai (a,d,e,f,g,h,i,j,k)
def c:=Bm vo
def v:=Bs vo
def out:Bp vo c v x:=Df
end lh
namespace kI
def b(f:aZ->aG R)(a d e:az):aG R:=aT (ah (a≥d)) (f (ah (a<=e)))<|f aq
def v(a a1 a2:az):aZ:=aT (ah (a≥a1)) (ah (a<=a2)) aq
def eu(d:aZ->aG R)(a a1 a2:az):b d a a1 a2=d (v a a1 a2):=by first|rfl|(unfold b v;simp only[cy];(repeat' split)<;>rfl)
end kI
namespace tQ
def b(d:aZ->aG R)(a:ar):aG R:=d (kI.v (a.size:az) 1 30)
def v(a:ar):aZ:=(kI.v (a.size:az) 1 30)
def eu(d:aZ->aG R)(a:ar):b d a=d (v a):=by first|rfl|(unfold b v;simp only[cy];(repeat' split)<;>rfl)
end tQ
namespace gU
def b(h:aZ->aG R)(a:ar)(d e:az)(f:ar):aG R:=aT (tQ.v a) (aT (kI.v d 0 1000000000) (aT (kI.v e 1 999999) (h (ah ((f.size:az)<=400)))<|h aq)<|h aq)<|h aq
def v(a:ar)(a1 a2:az)(a3:ar):aZ:=aT (tQ.v a) (aT (kI.v a1 0 1000000000) (aT (kI.v a2 1 999999) (ah ((a3.size:az)<=400)) aq) aq) aq
def eu(d:aZ->aG R)(a:ar)(a1 a2:az)(a3:ar):b d a a1 a2 a3=d (v a a1 a2 a3):=by first|rfl|(unfold b v;simp only[cy];(repeat' split)<;>rfl)
def DT{k:ar}{s l:az}{b:ar}(h:v k s l b=ao):(1<=k.size/\k.size<=30)/\(0<=s/\s<=1000000000)/\(1<=l/\l<=999999)/\b.size<=400:=by unfold v at h;cases h1:tQ.v k<;>rw[h1]at h<;>simp only[au,ax,dq]at h;cases h2:kI.v s 0 1000000000<;>rw[h2]at h<;>simp only[au,ax,dq]at h;cases h3:kI.v l 1 999999<;>rw[h3]at h<;>simp only[au,ax,dq]at h;simp[tQ.v,kI.v]at h1 h2 h3;have:=cB h;omega
end gU
namespace eV
def r2(N:aN)(g h i:FU R):FU R:=λa d e f=>aT (ah (f<(a.length:az))) (bY f a.length<|aT (cD (bn (av a f.toNat 0)).toList (aF d)) (h a d ao f)<|g a d e (bA (f+1)))<|i a d e f
def l2(N:aN)(a d:FU R):aN->FU R
 |0=>λ_ _ _ _=>ay
 |n+1=>r2 N (l2 N a d n) a d
def b(N:aN)(f:aZ->aG R)(a:Row)(d:ar):aG R:=l2 N (λ_ _ e _=>f e) (λ_ _ _ _=>f aq) N a d aq 0
def vo:=b cw λa=>ai a
def c:=js vo
def v:=jw vo
def out:ju vo c v x:=jA
end eV
namespace tW
def b(i:aZ->aG R):qd R:=λa d e f h=>bw (eV.c a h)<|aT (eV.v a h) (i ao)<|bw (eV.c d h)<|i (eV.v d h)
def vo:=b λa=>ai a
def c:=Bl vo
def v:=Br vo
def out:Bo vo c v x:=De
end tW
namespace fE
def r9(N:aN)(g i j:Bu R):Bu R:=λa d e f h=>bY d f.length<|aT (ah (e<((jd (av f d.toNat 0)).length:az))) (bY d f.length<|bY e ((jd (av f d.toNat 0)).length)<|aT (!kI.v (bO (av (jd (av f d.toNat 0)) e.toNat 0)) 0 15) (i aq d e f h)<|g a d (bA (e+1)) f h)<|j a d e f h
def l9(N:aN)(a d:Bu R):aN->Bu R
 |0=>λ_ _ _ _ _=>ay
 |n+1=>r9 N (l9 N a d n) a d
def r4(N:aN)(g k m:FN R):FN R:=λa d e f=>aT (ah (d<(e.length:az))) (bY d e.length<|aT (((jd (av e d.toNat 0)).length:az) !=16) (k aq d e f)<|l9 N (λh i _ j l=>k h i j l) (λh i _ j l=>g h (bA (i+1)) j l) N a d 0 e f)<|m a d e f
def l4(N:aN)(a d:FN R):aN->FN R
 |0=>λ_ _ _ _=>ay
 |n+1=>r4 N (l4 N a d n) a d
def b(N:aN)(f:aZ->aG R):nY R:=λa d=>aT ((a.length:az) !=3) (f aq)<|aT (!kI.v d 0 63) (f aq)<|l4 N (λe _ _ _=>f e) (λ_ _ _ _=>f ao) N aq 0 a d
def vo:=b cw λa=>ai a
def c:=js vo
def v:=jw vo
def out:ju vo c v x:=jA
end fE
namespace nA
def r3(N:aN)(g k m:uI R):uI R:=λa d e f h i j=>aT (ah (d<(j.length:az))) (bY d j.length<|aT (!tQ.v (bn (av j d.toNat 0))) (k aq d e f h i j)<|bw (gA 0 d (j.length:az))<|bY d j.length<|bw (eV.c (ez j (aP 0) d.toNat) (bn (av j d.toNat 0)))<|aT (eV.v (ez j (aP 0) d.toNat) (bn (av j d.toNat 0))) (k aq d e f h i j)<|g a (bA (d+1)) e f h i j)<|m a d e f h i j
def l3(N:aN)(a d:uI R):aN->uI R
 |0=>λ_ _ _ _ _ _ _=>ay
 |n+1=>r3 N (l3 N a d n) a d
def b(N:aN)(k:aZ->aG R):nt R:=λa d e f=>bw (b_ ((aR [.s] 0).length+a.length) 16)<|bw (b_ ((aR [.s] 0++a).length+d.length) 16)<|l3 N (λh _ _ _ _ _ _=>k h) (λ_ _ h i j l _=>aT (ah ((h.length:az)<=2)) (aT (ah ((i.length:az)<=4)) (bw (fE.c j l)<|k (fE.v j l))<|k aq)<|k aq) N aq 0 a d e f (aR [.s] 0++a++d)
def vo:=b cw λa=>ai a
def c:=vx vo
def v:=vD vo
def out:vB vo c v x:=wz
end nA
namespace qE
def r2(N:aN)(g k r:fH R):fH R:=λa d e f h i j l m o p=>aT (ah (d<(f.length:az))) (bY d f.length<|aT (!gU.v (bn (av f d.toNat 0)) (bO (av f d.toNat 1)) (bO (av f d.toNat (1+1))) (bn (av f d.toNat (1+1+1)))) (k aq d e f h i j l m o p)<|aT (ah (d>0)) (bY (bA (d-1)) f.length<|bY d f.length<|aT (!Op.bytesLess (bn (av f (bA (d-1)).toNat 0)).toList (bn (av f d.toNat 0)).toList) (k aq d e f h i j l m o p)<|bY d f.length<|bw (tW.c h i j l (bn (av f d.toNat 0)))<|aT (!tW.v h i j l (bn (av f d.toNat 0))) (k aq d e f h i j l m o p)<|g a (bA (d+1)) e f h i j l m o p)<|bY d f.length<|bw (tW.c h i j l (bn (av f d.toNat 0)))<|aT (!tW.v h i j l (bn (av f d.toNat 0))) (k aq d e f h i j l m o p)<|g a (bA (d+1)) e f h i j l m o p)<|r a d e f h i j l m o p
def l2(N:aN)(a d:fH R):aN->fH R
 |0=>λ_ _ _ _ _ _ _ _ _ _ _=>ay
 |n+1=>r2 N (l2 N a d n) a d
def b(N:aN)(k:aZ->aG R):dn R:=λa d e f h i j l m=>l2 N (λo _ _ _ _ _ _ _ _ _ _=>k o) (λ_ _ _ o p q r s _ _ _=>bw (nA.c p q r s)<|aT (nA.v p q r s) (k (ah ((o.length:az)=bA ((p.length:az)+(q.length:az)))))<|k aq) N aq 0 a d e f h i j l m
def vo:=b cw λa=>ai a
def c:=Bm vo
def v:=Bs vo
def out:Bp vo c v x:=Df
end qE
namespace nz
def r5(N:aN)(g k x:jD R):jD R:=λa d e f h i j l m o p q r s t u w=>aT (ah (e<a)) (bY e o.length<|aT (cD (bn (av o e.toNat 0)).toList (aF r)) (bY e o.length<|aT (ah (bO (av o e.toNat 2)=1)) (aT (ah (t=1)) (k a aq e f h i j l m o p q r s t u w)<|g a d (bA (e+1)) f h i j l m o p q r s t u w)<|g a d (bA (e+1)) f h i j l m o p q r s t u w)<|g a d (bA (e+1)) f h i j l m o p q r s t u w)<|x a d e f h i j l m o p q r s t u w
def l5(N:aN)(a d:jD R):aN->jD R
 |0=>λ_ _ _ _ _ _ _ _ _ _ _ _ _ _ _ _ _=>ay
 |n+1=>r5 N (l5 N a d n) a d
def b(N:aN)(k:aZ->aG R):fL R:=λa d e f h i j l m o=>bY o j.length<|aT (!tQ.v (bn (av j o.toNat 0))) (k aq)<|aT (ah (((bn (av j o.toNat 1)).size:az)>400)) (k aq)<|aT (!kI.v (bO (av j o.toNat (1+1))) 1 3) (k aq)<|aT (!kI.v (bO (av j o.toNat (1+1+1))) 0 999999) (k aq)<|aT (!kI.v (bO (av j o.toNat (1+1+1+1))) 0 a) (k aq)<|l5 N (λ_ p _ _ _ _ _ _ _ _ _ _ _ _ _ _ _=>k p) (λ_ _ _ _ _ _ _ _ _ _ _ _ _ _ _ _ _=>k ao) N o aq 0 a d e f h i j l m (bn (av j o.toNat 0)) (bn (av j o.toNat 1)) (bO (av j o.toNat (1+1))) (bO (av j o.toNat (1+1+1))) (bO (av j o.toNat (1+1+1+1)))
def vo:=b cw λa=>ai a
def c:=qi vo
def v:=qw vo
def out:qp vo c v x:=rA
end nz
namespace mj
def r9(N:aN)(g k r:fH R):fH R:=λa d e f h i j l m o p=>aT (ah (d<(o.length:az))) (bY d o.length<|aT (!kI.v (bO (av o d.toNat 0)) 1 9) (k aq d e f h i j l m o p)<|aT (ah (d>0)) (bY (bA (d-1)) o.length<|aT (ah (bO (av o (bA (d-1)).toNat 0)≥bO (av o d.toNat 0))) (k aq d e f h i j l m o p)<|aT (!tQ.v (bn (av o d.toNat 1))) (k aq d e f h i j l m o p)<|aT (!kI.v (bO (av o d.toNat (1+1+1+1))) 1 3) (k aq d e f h i j l m o p)<|aT (!kI.v (bO (av o d.toNat (1+1))) 0 (m.length:az)) (k aq d e f h i j l m o p)<|aT (ah (((bn (av o d.toNat (1+1+1+1+1))).size:az)>400)) (k aq d e f h i j l m o p)<|aT (!kI.v (bO (av o d.toNat (1+1+1))) 0 e) (k aq d e f h i j l m o p)<|aT (ah (bO (av o d.toNat (1+1+1+1+1+1))<0)) (k aq d e f h i j l m o p)<|g a (bA (d+1)) e f h i j l m o p)<|aT (!tQ.v (bn (av o d.toNat 1))) (k aq d e f h i j l m o p)<|aT (!kI.v (bO (av o d.toNat (1+1+1+1))) 1 3) (k aq d e f h i j l m o p)<|aT (!kI.v (bO (av o d.toNat (1+1))) 0 (m.length:az)) (k aq d e f h i j l m o p)<|aT (ah (((bn (av o d.toNat (1+1+1+1+1))).size:az)>400)) (k aq d e f h i j l m o p)<|aT (!kI.v (bO (av o d.toNat (1+1+1))) 0 e) (k aq d e f h i j l m o p)<|aT (ah (bO (av o d.toNat (1+1+1+1+1+1))<0)) (k aq d e f h i j l m o p)<|g a (bA (d+1)) e f h i j l m o p)<|r a d e f h i j l m o p
def l9(N:aN)(a d:fH R):aN->fH R
 |0=>λ_ _ _ _ _ _ _ _ _ _ _=>ay
 |n+1=>r9 N (l9 N a d n) a d
def r4(N:aN)(g k r:fH R):fH R:=λa d e f h i j l m o p=>aT (ah (d<(m.length:az))) (bw (nz.c e f h i j l m o p d)<|aT (!nz.v e f h i j l m o p d) (k aq d e f h i j l m o p)<|g a (bA (d+1)) e f h i j l m o p)<|r a d e f h i j l m o p
def l4(N:aN)(a d:fH R):aN->fH R
 |0=>λ_ _ _ _ _ _ _ _ _ _ _=>ay
 |n+1=>r4 N (l4 N a d n) a d
def b(N:aN)(k:aZ->aG R):dn R:=λa d e f h i j l m=>aT (!kI.v a 1 1000000000) (k aq)<|bw (qE.c a d e f h i j l m)<|aT (!qE.v a d e f h i j l m) (k aq)<|aT (ah ((j.length:az)>20)) (k aq)<|aT (ah ((l.length:az)>6)) (k aq)<|aT (!kI.v m 0 1000000000) (k aq)<|l4 N (λo _ _ _ _ _ _ _ _ _ _=>k o) (λo _ p q r s t u w y z=>l9 N (λα _ _ _ _ _ _ _ _ _ _=>k α) (λ_ _ _ _ _ _ _ _ _ _ _=>k ao) N o 0 p q r s t u w y z) N aq 0 a d e f h i j l m
def vo:=b cw λa=>ai a
def c:=Bm vo
def v:=Bs vo
def out:Bp vo c v x:=Df
end mj
namespace xI
def r2(N:aN)(g k x:j4 R):j4 R:=λa d e f h i j l m o p q r s t u=>aT (ah (e<(h.length:az))) (bY e h.length<|aT (cD (bn (av h e.toNat 0)).toList (aF a)) (bY e h.length<|k a ao e f h i j l m o p q (bn (av h e.toNat 0)) (bO (av h e.toNat 1)) (bO (av h e.toNat (1+1))) (bn (av h e.toNat (1+1+1))))<|g a d (bA (e+1)) f h i j l m o p q r s t u)<|x a d e f h i j l m o p q r s t u
def l2(N:aN)(a d:j4 R):aN->j4 R
 |0=>λ_ _ _ _ _ _ _ _ _ _ _ _ _ _ _ _=>ay
 |n+1=>r2 N (l2 N a d n) a d
def b(N:aN)(k:xA R):wV R:=λa d e f h i j l m o=>l2 N (λ_ p _ _ _ _ _ _ _ _ _ _ q r s t=>k q r s t p) (λ_ _ _ _ _ _ _ _ _ _ _ _ _ _ _ _=>k ⟨#[]⟩ 0 0 ⟨#[]⟩ aq) N o aq 0 a d e f h i j l m ⟨#[]⟩ 0 0 ⟨#[]⟩
def vo:=b cw λa d e f g=>ai (a,d,e,f,g)
def c:=qi vo
def v:=qw vo
def out:qp vo c v x:=rA
end xI
namespace vm
def b(i:aZ->aG R)(a:ar)(d e:az)(f:ar)(h:az):aG R:=aT (gU.v a d e f) (aT (kI.v h d 1000000000) (i (ah (bA (h-d)<e)))<|i aq)<|i aq
def v(a:ar)(a1 a2:az)(a3:ar)(a4:az):aZ:=aT (gU.v a a1 a2 a3) (aT (kI.v a4 a1 1000000000) (ah (bA (a4-a1)<a2)) aq) aq
def eu(d:aZ->aG R)(a:ar)(a1 a2:az)(a3:ar)(a4:az):b d a a1 a2 a3 a4=d (v a a1 a2 a3 a4):=by first|rfl|(unfold b v;simp only[cy];(repeat' split)<;>rfl)
end vm
namespace jT
def r6(N:aN)(g h:tG R):tG R:=λa d e f=>aT (ah (f<8)) (aT (ah (bQ a 2=1)) (g (bG eF (↑(eg (mi (cu 32 (bG eF (cz a 2))) (cu 32 3558460437))):az)) d e (bA (f+1)))<|g (bG eF (cz a 2)) d e (bA (f+1)))<|h a d e f
def l6(N:aN)(a:tG R):aN->tG R
 |0=>λ_ _ _ _=>ay
 |n+1=>r6 N (l6 N a n) a
def r2(N:aN)(g j:pf R):pf R:=λa d e=>aT (ah (e<(d.size:az))) (bw (ah (0<=e)&&ah (e<(d.size:az)))<|l6 N (λf h i _=>g f h (bA (i+1))) N (bG eF (↑(eg (mi (cu 32 a) (cu 32 (bG eF (↑(fJ d e.toNat):az))))):az)) d e 0)<|j a d e
def l2(N:aN)(a:pf R):aN->pf R
 |0=>λ_ _ _=>ay
 |n+1=>r2 N (l2 N a n) a
def b(N:aN)(f:az->aG R):DW R:=λa d=>l2 N (λe _ _=>f e) N a d 0
def vo:=b cw λa=>ai a
def c:=js vo
def v:=jw vo
def out:ju vo c v x:=jA
end jT
namespace wk
def b(d:az->aG R)(a:ar):aG R:=bw (jT.c 4294967295 a)<|d (jT.v 4294967295 a)
def vo:=b λa=>ai a
def c:=kq vo
def v:=kA vo
def out:kt vo c v x:=kF
end wk
namespace gV
def b(e:az->aG R):DW R:=λa d=>kE d (bytesOf (aC (aR [Ck.i a8] 1) 0 [CV.i a8 (bG a8 a)]))<|bw (wk.c (d++bytesOf (aC (aR [Ck.i a8] 1) 0 [CV.i a8 (bG a8 a)])))<|e (bA (bQ (wk.v (d++bytesOf (aC (aR [Ck.i a8] 1) 0 [CV.i a8 (bG a8 a)]))) 16))
def vo:=b λa=>ai a
def c:=js vo
def v:=jw vo
def out:ju vo c v x:=jA
end gV
namespace dy
def r17(N:aN)(g j:mL R):mL R:=λa d e f h=>bY a h.length<|aT (ah (d<((jd (av h a.toNat 0)).length:az))) (bY a h.length<|bY a h.length<|bY d ((jd (av h a.toNat 0)).length)<|bY d ((jd (av h a.toNat 0)).length)<|g a (bA (d+1)) e f (eH h a.toNat 0 [CV.l 3 (eH (jd (av h a.toNat 0)) d.toNat 0 [.i ak (bA (cz (bO (av (jd (av h a.toNat 0)) d.toNat 0)) 2))])]))<|j a d e f h
def l17(N:aN)(a:mL R):aN->mL R
 |0=>λ_ _ _ _ _=>ay
 |n+1=>r17 N (l17 N a n) a
def r14(N:aN)(g k:gk R):gk R:=λa d e f=>aT (ah (a<(f.length:az))) (l17 N (λh _ i j l=>g (bA (h+1)) i j l) N a 0 d e f)<|k a d e f
def l14(N:aN)(a:gk R):aN->gk R
 |0=>λ_ _ _ _=>ay
 |n+1=>r14 N (l14 N a n) a
def r5(N:aN)(g j:BD R):BD R:=λa d e f h=>aT (ah (d<(h.length:az))) (bw (gV.c d a)<|bY d h.length<|bY (gV.v d a) ((jd (av h d.toNat 0)).length)<|aT (ah (bO (av (jd (av h d.toNat 0)) (gV.v d a).toNat 0)<15)) (bY d h.length<|bY (gV.v d a) ((jd (av h d.toNat 0)).length)<|bY (gV.v d a) ((jd (av h d.toNat 0)).length)<|g a (bA (d+1)) e f (eH h d.toNat 0 [CV.l 3 (eH (jd (av h d.toNat 0)) (gV.v d a).toNat 0 [.i ak (bA (bO (av (jd (av h d.toNat 0)) (gV.v d a).toNat 0)+1))])]))<|g a (bA (d+1)) e f h)<|j a d e f h
def l5(N:aN)(a:BD R):aN->BD R
 |0=>λ_ _ _ _ _=>ay
 |n+1=>r5 N (l5 N a n) a
def b(N:aN)(k:nY R)(a:Row)(d:az)(e:ar):aG R:=bw (oq.c a d)<|bw (fE.c a d)<|aT (!fE.v a d) (k (oq.v a d).1 (oq.v a d).2)<|l5 N (λ_ _ f h i=>aT (ah (bA (h+1)=64)) (l14 N (λ_ _ j l=>k l j) N 0 f 0 i)<|k i (bA (h+1))) N e 0 0 (oq.v a d).2 (oq.v a d).1
def vo:=b cw λa d=>ai (a,d)
def c:=KC vo
def v:=LY vo
def out:Lm vo c v x:=PM
end dy
namespace py
def r3(N:aN)(g h:tK R):tK R:=λa d e f=>aT (ah (e<(a.length:az))) (bY e a.length<|aT (!List.beq (bn (av a e.toNat 0)).toList (aF d)) (bY e a.length<|bw (b_ (f.length+(aC (aR [.s] 1) 0 [.s (bn (av a e.toNat 0))]).length) 16)<|g a d (bA (e+1)) (f++aC (aR [.s] 1) 0 [.s (bn (av a e.toNat 0))]))<|g a d (bA (e+1)) f)<|h a d e f
def l3(N:aN)(a:tK R):aN->tK R
 |0=>λ_ _ _ _=>ay
 |n+1=>r3 N (l3 N a n) a
def b(N:aN)(f:Row->aG R)(a:Row)(d:ar):aG R:=l3 N (λ_ _ _ e=>f e) N a d 0 (aR [.s] 0)
def vo:=b cw λa=>ai a
def c:=js vo
def v:=jw vo
def out:ju vo c v x:=jA
end py
namespace lS
def r5(N:aN)(g i:BF R):BF R:=λa d e f h=>aT (ah (e<(f.length:az))) (bY e f.length<|bw (gV.c e a)<|bY (gV.v e a) ((jd (av f e.toNat 0)).length)<|aT (ah (bO (av (jd (av f e.toNat 0)) (gV.v e a).toNat 0)<d)) (g a (bO (av (jd (av f e.toNat 0)) (gV.v e a).toNat 0)) (bA (e+1)) f h)<|g a d (bA (e+1)) f h)<|i a d e f h
def l5(N:aN)(a:BF R):aN->BF R
 |0=>λ_ _ _ _ _=>ay
 |n+1=>r5 N (l5 N a n) a
def b(N:aN)(h:az->aG R)(a:Row)(d:az)(e:ar):aG R:=bw (fE.c a d)<|aT (!fE.v a d) (h 0)<|l5 N (λ_ f _ _ _=>h f) N e 15 0 a d
def vo:=b cw λa=>ai a
def c:=KC vo
def v:=LY vo
def out:Lm vo c v x:=PM
end lS
namespace eO
def b(i:qd R):qd R:=λa d e f h=>bw (gi.c a d e f)<|bw (nA.c a d e f)<|aT (!nA.v a d e f) (i (gi.v a d e f).1 (gi.v a d e f).2.1 (gi.v a d e f).2.2.1 (dt (gi.v a d e f)) ⟨#[]⟩)<|aT (!tQ.v h) (i (gi.v a d e f).1 (gi.v a d e f).2.1 (gi.v a d e f).2.2.1 (dt (gi.v a d e f)) ⟨#[]⟩)<|bw (dy.c e f h)<|bw (eV.c a h)<|aT (eV.v a h) (bw (py.c a h)<|bw (b_ ((py.v a h).length+(aC (aR [.s] 1) 0 [.s h]).length) 16)<|i (py.v a h++aC (aR [.s] 1) 0 [.s h]) (gi.v a d e f).2.1 (dy.v e f h).1 (dy.v e f h).2 ⟨#[]⟩)<|bw (eV.c d h)<|aT (eV.v d h) (bw (py.c d h)<|bw (b_ ((py.v d h).length+(aC (aR [.s] 1) 0 [.s h]).length) 16)<|i (gi.v a d e f).1 (py.v d h++aC (aR [.s] 1) 0 [.s h]) (dy.v e f h).1 (dy.v e f h).2 ⟨#[]⟩)<|bw (b_ ((gi.v a d e f).1.length+(aC (aR [.s] 1) 0 [.s h]).length) 16)<|aT (ah ((((gi.v a d e f).1++aC (aR [.s] 1) 0 [.s h]).length:az)<=2)) (i ((gi.v a d e f).1++aC (aR [.s] 1) 0 [.s h]) (gi.v a d e f).2.1 (dy.v e f h).1 (dy.v e f h).2 ⟨#[]⟩)<|bw (ah (0<(((gi.v a d e f).1++aC (aR [.s] 1) 0 [.s h]).length:az)))<|bw (gA 1 (((gi.v a d e f).1++aC (aR [.s] 1) 0 [.s h]).length:az) (((gi.v a d e f).1++aC (aR [.s] 1) 0 [.s h]).length:az))<|bw (b_ ((aR [.s] 0).length+(ez ((gi.v a d e f).1++aC (aR [.s] 1) 0 [.s h]) (aP 1) (((gi.v a d e f).1++aC (aR [.s] 1) 0 [.s h]).length:az).toNat).length) 16)<|aT (ah (((gi.v a d e f).2.1.length:az)<4)) (bw (b_ ((gi.v a d e f).2.1.length+(aC (aR [.s] 1) 0 [.s (bn (av ((gi.v a d e f).1++aC (aR [.s] 1) 0 [.s h]) (aP 0) 0))]).length) 16)<|i (aR [.s] 0++ez ((gi.v a d e f).1++aC (aR [.s] 1) 0 [.s h]) (aP 1) (((gi.v a d e f).1++aC (aR [.s] 1) 0 [.s h]).length:az).toNat) ((gi.v a d e f).2.1++aC (aR [.s] 1) 0 [.s (bn (av ((gi.v a d e f).1++aC (aR [.s] 1) 0 [.s h]) (aP 0) 0))]) (dy.v e f h).1 (dy.v e f h).2 ⟨#[]⟩)<|bw (lS.c (dy.v e f h).1 (dy.v e f h).2 (bn (av ((gi.v a d e f).1++aC (aR [.s] 1) 0 [.s h]) (aP 0) 0)))<|bw (ah (0<((gi.v a d e f).2.1.length:az)))<|bw (lS.c (dy.v e f h).1 (dy.v e f h).2 (bn (av (gi.v a d e f).2.1 (aP 0) 0)))<|aT (ah (lS.v (dy.v e f h).1 (dy.v e f h).2 (bn (av ((gi.v a d e f).1++aC (aR [.s] 1) 0 [.s h]) (aP 0) 0))>lS.v (dy.v e f h).1 (dy.v e f h).2 (bn (av (gi.v a d e f).2.1 (aP 0) 0)))) (bw (ah (0<((gi.v a d e f).2.1.length:az)))<|bw (gA 1 ((gi.v a d e f).2.1.length:az) ((gi.v a d e f).2.1.length:az))<|bw (b_ ((aR [.s] 0).length+(ez (gi.v a d e f).2.1 (aP 1) ((gi.v a d e f).2.1.length:az).toNat).length) 16)<|bw (b_ ((aR [.s] 0++ez (gi.v a d e f).2.1 (aP 1) ((gi.v a d e f).2.1.length:az).toNat).length+(aC (aR [.s] 1) 0 [.s (bn (av ((gi.v a d e f).1++aC (aR [.s] 1) 0 [.s h]) (aP 0) 0))]).length) 16)<|i (aR [.s] 0++ez ((gi.v a d e f).1++aC (aR [.s] 1) 0 [.s h]) (aP 1) (((gi.v a d e f).1++aC (aR [.s] 1) 0 [.s h]).length:az).toNat) (aR [.s] 0++ez (gi.v a d e f).2.1 (aP 1) ((gi.v a d e f).2.1.length:az).toNat++aC (aR [.s] 1) 0 [.s (bn (av ((gi.v a d e f).1++aC (aR [.s] 1) 0 [.s h]) (aP 0) 0))]) (dy.v e f h).1 (dy.v e f h).2 (bn (av (gi.v a d e f).2.1 (aP 0) 0)))<|i (aR [.s] 0++ez ((gi.v a d e f).1++aC (aR [.s] 1) 0 [.s h]) (aP 1) (((gi.v a d e f).1++aC (aR [.s] 1) 0 [.s h]).length:az).toNat) (gi.v a d e f).2.1 (dy.v e f h).1 (dy.v e f h).2 (bn (av ((gi.v a d e f).1++aC (aR [.s] 1) 0 [.s h]) (aP 0) 0))
def vo:=b λa d e f g=>ai (a,d,e,f,g)
def c:=Bl vo
def v:=Br vo
def out:Bo vo c v x:=De
end eO
namespace lR
def r9(N:aN)(g k:jk R):jk R:=λa d e f h i j l m o=>aT (ah (d<(a.length:az))) (bY d a.length<|aT (ah (bO (av a d.toNat 0)>e)) (bY d a.length<|bw (b_ (o.length+(aC (aR [Ck.i ak,Ck.s,Ck.i ak,Ck.i ak,Ck.i ak,Ck.s,Ck.i ak] 1) 0 [.i ak (bO (av a d.toNat 0)),.s (bn (av a d.toNat 1)),.i ak (bO (av a d.toNat (1+1))),.i ak (bO (av a d.toNat (1+1+1))),.i ak (bO (av a d.toNat (1+1+1+1))),.s (bn (av a d.toNat (1+1+1+1+1))),.i ak (bO (av a d.toNat (1+1+1+1+1+1)))]).length) 72)<|g a (bA (d+1)) e f h i j l m (o++aC (aR [Ck.i ak,Ck.s,Ck.i ak,Ck.i ak,Ck.i ak,Ck.s,Ck.i ak] 1) 0 [.i ak (bO (av a d.toNat 0)),.s (bn (av a d.toNat 1)),.i ak (bO (av a d.toNat (1+1))),.i ak (bO (av a d.toNat (1+1+1))),.i ak (bO (av a d.toNat (1+1+1+1))),.s (bn (av a d.toNat (1+1+1+1+1))),.i ak (bO (av a d.toNat (1+1+1+1+1+1)))]))<|g a (bA (d+1)) e f h i j l m o)<|k a d e f h i j l m o
def l9(N:aN)(a:jk R):aN->jk R
 |0=>λ_ _ _ _ _ _ _ _ _ _=>ay
 |n+1=>r9 N (l9 N a n) a
def r3(N:aN)(g k:jk R):jk R:=λa d e f h i j l m o=>aT (ah (d<(a.length:az))) (bY d a.length<|aT (ah (bO (av a d.toNat 0)<e)) (bY d a.length<|bw (b_ (o.length+(aC (aR [Ck.i ak,Ck.s,Ck.i ak,Ck.i ak,Ck.i ak,Ck.s,Ck.i ak] 1) 0 [.i ak (bO (av a d.toNat 0)),.s (bn (av a d.toNat 1)),.i ak (bO (av a d.toNat (1+1))),.i ak (bO (av a d.toNat (1+1+1))),.i ak (bO (av a d.toNat (1+1+1+1))),.s (bn (av a d.toNat (1+1+1+1+1))),.i ak (bO (av a d.toNat (1+1+1+1+1+1)))]).length) 72)<|g a (bA (d+1)) e f h i j l m (o++aC (aR [Ck.i ak,Ck.s,Ck.i ak,Ck.i ak,Ck.i ak,Ck.s,Ck.i ak] 1) 0 [.i ak (bO (av a d.toNat 0)),.s (bn (av a d.toNat 1)),.i ak (bO (av a d.toNat (1+1))),.i ak (bO (av a d.toNat (1+1+1))),.i ak (bO (av a d.toNat (1+1+1+1))),.s (bn (av a d.toNat (1+1+1+1+1))),.i ak (bO (av a d.toNat (1+1+1+1+1+1)))]))<|g a (bA (d+1)) e f h i j l m o)<|k a d e f h i j l m o
def l3(N:aN)(a:jk R):aN->jk R
 |0=>λ_ _ _ _ _ _ _ _ _ _=>ay
 |n+1=>r3 N (l3 N a n) a
def b(N:aN)(k:Row->aG R):Ke R:=λa d e f h i j l=>l3 N (λm _ o p q r s t u w=>bw (b_ (w.length+(aC (aR [Ck.i ak,Ck.s,Ck.i ak,Ck.i ak,Ck.i ak,Ck.s,Ck.i ak] 1) 0 [.i ak o,.s p,.i ak q,.i ak r,.i ak s,.s t,.i ak u]).length) 72)<|l9 N (λ_ _ _ _ _ _ _ _ _ y=>k y) N m 0 o p q r s t u (w++aC (aR [Ck.i ak,Ck.s,Ck.i ak,Ck.i ak,Ck.i ak,Ck.s,Ck.i ak] 1) 0 [.i ak o,.s p,.i ak q,.i ak r,.i ak s,.s t,.i ak u])) N a 0 d e f h i j l (aR [Ck.i ak,Ck.s,Ck.i ak,Ck.i ak,Ck.i ak,Ck.s,Ck.i ak] 0)
def vo:=b cw λa=>ai a
def c:=ahh vo
def v:=akM vo
def out:ajE vo c v x:=an'
end lR
namespace qC
def r3(N:aN)(g h:tK R):tK R:=λa d e f=>aT (ah (e<(a.length:az))) (bY e a.length<|aT (!List.beq (bn (av a e.toNat 0)).toList (aF d)) (bY e a.length<|bw (b_ (f.length+(aC (aR [Ck.s,Ck.i ak,Ck.i ak,Ck.s] 1) 0 [.s (bn (av a e.toNat 0)),.i ak (bO (av a e.toNat 1)),.i ak (bO (av a e.toNat (1+1))),.s (bn (av a e.toNat (1+1+1)))]).length) 48)<|g a d (bA (e+1)) (f++aC (aR [Ck.s,Ck.i ak,Ck.i ak,Ck.s] 1) 0 [.s (bn (av a e.toNat 0)),.i ak (bO (av a e.toNat 1)),.i ak (bO (av a e.toNat (1+1))),.s (bn (av a e.toNat (1+1+1)))]))<|g a d (bA (e+1)) f)<|h a d e f
def l3(N:aN)(a:tK R):aN->tK R
 |0=>λ_ _ _ _=>ay
 |n+1=>r3 N (l3 N a n) a
def b(N:aN)(f:Row->aG R)(a:Row)(d:ar):aG R:=l3 N (λ_ _ _ e=>f e) N a d 0 (aR [Ck.s,Ck.i ak,Ck.i ak,Ck.s] 0)
def vo:=b cw λa=>ai a
def c:=js vo
def v:=jw vo
def out:ju vo c v x:=jA
end qC
namespace vn
def b(i:nt R):qd R:=λa d e f h=>bw (py.c a h)<|bw (py.c d h)<|bw (oq.c e f)<|i (py.v a h) (py.v d h) (oq.v e f).1 (oq.v e f).2
def vo:=b λa d e f=>ai (a,d,e,f)
def c:=Bl vo
def v:=Br vo
def out:Bo vo c v x:=De
end vn
namespace xE
def r22(N:aN)(g S:eX R):eX R:=λa d e f h i j l m o p q r s t u w y z α P k x Q A B C H K M O=>aT (ah (e<(o.length:az))) (bY e o.length<|aT (cD (bn (av o e.toNat 0)).toList (aF a)) (bY e o.length<|aT (ah (bO (av o e.toNat 2)=1)) (bY e o.length<|g a d (bA (e+1)) f h i j l m o p q r s t u w y z α (bA (e+1)) k x (bn (av o e.toNat 1)) A B C H K M O)<|g a d (bA (e+1)) f h i j l m o p q r s t u w y z α P k x Q A B C H K M O)<|g a d (bA (e+1)) f h i j l m o p q r s t u w y z α P k x Q A B C H K M O)<|S a d e f h i j l m o p q r s t u w y z α P k x Q A B C H K M O
def W5(N:aN)(a:eX R):aN->eX R
 |0=>λ_ _ _ _ _ _ _ _ _ _ _ _ _ _ _ _ _ _ _ _ _ _ _ _ _ _ _ _ _ _ _=>ay
 |n+1=>r22 N (W5 N a n) a
def r5(N:aN)(g H K:gw R):gw R:=λa d e f h i j l m o p q r s t u w y z α k x A B C=>aT (ah (f<(q.length:az))) (bY f q.length<|aT (ah (bO (av q f.toNat 0)=a)) (H a d 1 f h i j l m o p q r w y z w y z α k x A B C)<|g a d e (bA (f+1)) h i j l m o p q r s t u w y z α k x A B C)<|K a d e f h i j l m o p q r s t u w y z α k x A B C
def l5(N:aN)(a d:gw R):aN->gw R
 |0=>λ_ _ _ _ _ _ _ _ _ _ _ _ _ _ _ _ _ _ _ _ _ _ _ _ _=>ay
 |n+1=>r5 N (l5 N a d n) a d
def b(N:aN)(B:fL R):nI R:=λa d e f h i j l m o p=>nh lh.c lh.v a d e f h i j l m λq=>nh mj.c mj.v a d e f h i j l m λr=>aT (!r) (B q.1 q.2.1 q.2.2.1 (cq q) (db q) (du q) (cC q) (dm q) (dP q) 1)<|aT (!kI.v o 1 9) (B q.1 q.2.1 q.2.2.1 (cq q) (db q) (du q) (cC q) (dm q) (dP q) 1)<|aT (!tQ.v p) (B q.1 q.2.1 q.2.2.1 (cq q) (db q) (du q) (cC q) (dm q) (dP q) 1)<|aT (ah ((l.length:az)≥6)) (B q.1 q.2.1 q.2.2.1 (cq q) (db q) (du q) (cC q) (dm q) (dP q) 1)<|l5 N (λ_ _ s _ _ _ _ _ _ _ _ _ _ t u w _ _ _ y z α xa xb xc=>B t y z α xa u xb xc w s) (λs t _ _ u w y z α xa xb xc xd xe xf xg xh xi xj xk xl xm xn xo xp=>jB xI.c xI.v u w y z α xa xb xc xd t λH=>aT (p8 H) (aT (vm.v H.1 H.2.1 H.2.2.1 (cq H) u) (ng eO.c eO.v y z α xa t λk=>aT (ah (xj<1000000000)) (CY lR.c lR.v xp s t 0 H.2.1 2 (cq H) (bA (u-H.2.1)) λxs=>B xh xk k.1 k.2.1 k.2.2.1 (cq k) xo xs (bA (xj+1)) 0)<|CY lR.c lR.v xp s t 0 H.2.1 2 (cq H) (bA (u-H.2.1)) λxs=>B xh xk k.1 k.2.1 k.2.2.1 (cq k) xo xs xj 0)<|W5 N (λk xs _ _ _ _ _ _ _ xt _ _ _ _ _ K M O Y xy xz ya yb yc yd P Q S U C V=>aT (ah (xz=0)) (aT (ah ((xt.length:az)≥20)) (B K P Q S U M C V O 2)<|bw (b_ (C.length+(aC (aR [Ck.s,Ck.s,Ck.i ak,Ck.i ak,Ck.i ak] 1) 0 [.s k,.s ⟨#[]⟩,.i ak 1,.i ak 0,.i ak 0]).length) 56)<|aT xs (iU qC.c qC.v P k λA=>ng vn.c vn.v Q S U M k λx=>p7 dy.c dy.v x.2.2.1 (dt x) k λX=>CY lR.c lR.v V Y xy ((C++aC (aR [Ck.s,Ck.s,Ck.i ak,Ck.i ak,Ck.i ak] 1) 0 [.s k,.s ⟨#[]⟩,.i ak 1,.i ak 0,.i ak 0]).length:az) ya yb yc yd λyn=>B K A x.1 x.2.1 X.1 X.2 (C++aC (aR [Ck.s,Ck.s,Ck.i ak,Ck.i ak,Ck.i ak] 1) 0 [.s k,.s ⟨#[]⟩,.i ak 1,.i ak 0,.i ak 0]) yn O 0)<|p7 dy.c dy.v U M k λA=>CY lR.c lR.v V Y xy ((C++aC (aR [Ck.s,Ck.s,Ck.i ak,Ck.i ak,Ck.i ak] 1) 0 [.s k,.s ⟨#[]⟩,.i ak 1,.i ak 0,.i ak 0]).length:az) ya yb yc yd λx=>B K P Q S A.1 A.2 (C++aC (aR [Ck.s,Ck.s,Ck.i ak,Ck.i ak,Ck.i ak] 1) 0 [.s k,.s ⟨#[]⟩,.i ak 1,.i ak 0,.i ak 0]) x O 0)<|aT xs (iU qC.c qC.v P k λA=>ng vn.c vn.v Q S U M k λx=>p7 dy.c dy.v x.2.2.1 (dt x) k λX=>CY lR.c lR.v V Y xy xz ya yb yc yd λyn=>B K A x.1 x.2.1 X.1 X.2 C yn O 0)<|p7 dy.c dy.v U M k λA=>CY lR.c lR.v V Y xy xz ya yb yc yd λx=>B K P Q S A.1 A.2 C x O 0) N t (p8 H) 0 u w y z α xa xb xc xd xe xf xg xh xi xj s t 0 0 1 ⟨#[]⟩ 0 xk xl xm xn xo xp)<|W5 N (λk xs _ _ _ _ _ _ _ xt _ _ _ _ _ K M O Y xy xz ya yb yc yd P Q S U C V=>aT (ah (xz=0)) (aT (ah ((xt.length:az)≥20)) (B K P Q S U M C V O 2)<|bw (b_ (C.length+(aC (aR [Ck.s,Ck.s,Ck.i ak,Ck.i ak,Ck.i ak] 1) 0 [.s k,.s ⟨#[]⟩,.i ak 1,.i ak 0,.i ak 0]).length) 56)<|aT xs (iU qC.c qC.v P k λA=>ng vn.c vn.v Q S U M k λx=>p7 dy.c dy.v x.2.2.1 (dt x) k λX=>CY lR.c lR.v V Y xy ((C++aC (aR [Ck.s,Ck.s,Ck.i ak,Ck.i ak,Ck.i ak] 1) 0 [.s k,.s ⟨#[]⟩,.i ak 1,.i ak 0,.i ak 0]).length:az) ya yb yc yd λyn=>B K A x.1 x.2.1 X.1 X.2 (C++aC (aR [Ck.s,Ck.s,Ck.i ak,Ck.i ak,Ck.i ak] 1) 0 [.s k,.s ⟨#[]⟩,.i ak 1,.i ak 0,.i ak 0]) yn O 0)<|p7 dy.c dy.v U M k λA=>CY lR.c lR.v V Y xy ((C++aC (aR [Ck.s,Ck.s,Ck.i ak,Ck.i ak,Ck.i ak] 1) 0 [.s k,.s ⟨#[]⟩,.i ak 1,.i ak 0,.i ak 0]).length:az) ya yb yc yd λx=>B K P Q S A.1 A.2 (C++aC (aR [Ck.s,Ck.s,Ck.i ak,Ck.i ak,Ck.i ak] 1) 0 [.s k,.s ⟨#[]⟩,.i ak 1,.i ak 0,.i ak 0]) x O 0)<|aT xs (iU qC.c qC.v P k λA=>ng vn.c vn.v Q S U M k λx=>p7 dy.c dy.v x.2.2.1 (dt x) k λX=>CY lR.c lR.v V Y xy xz ya yb yc yd λyn=>B K A x.1 x.2.1 X.1 X.2 C yn O 0)<|p7 dy.c dy.v U M k λA=>CY lR.c lR.v V Y xy xz ya yb yc yd λx=>B K P Q S A.1 A.2 C x O 0) N t (p8 H) 0 u w y z α xa xb xc xd xe xf xg xh xi xj s t 0 0 1 ⟨#[]⟩ 0 xk xl xm xn xo xp) N o p 0 0 a d e f h i j l m 0 0 0 q.1 (du q) (dP q) q.2.1 q.2.2.1 (cq q) (db q) (cC q) (dm q)
def vo:=b cw λa d e f g h i j k l=>ai (a,d,e,f,g,h,i,j,k,l)
def c:=xT vo
def v:=yM vo
def out:yq vo c v x:=AX
end xE
namespace vp
def b(k:aZ->aG R):fL R:=λa d e f h i j l m o=>bw (mj.c a d e f h i j l m)<|aT (mj.v a d e f h i j l m) (aT (kI.v o 0 (bA ((j.length:az)-1))) (bY o j.length<|k (ah (bO (av j o.toNat 2)=1)))<|k aq)<|k aq
def vo:=b λa=>ai a
def c:=qi vo
def v:=qw vo
def out:qp vo c v x:=rA
end vp
namespace Kk
def b(f:Cm R)(a:az)(d:ar)(e:Row):aG R:=aT (b_ ((aR [Ck.i ak,Ck.i ak] 0).length+e.length) 16) (f a d (aR [Ck.i ak,Ck.i ak] 0++e)) ay
def v(a:az)(d:ar)(e:Row):az×ar×Row:=(a,d,e)
def c(d:az)(e:ar)(a:Row):aZ:=ah (a.length<=4294967296)
def eu(f:Cm R)(d:az)(e:ar)(a:Row)(j:c d e a=ao):b f d e a=f (v d e a).1 (v d e a).2.1 (v d e a).2.2:=by have h:a.length<=4294967296:=cB j;unfold b;rw[show bD (aR [Ck.i ak,Ck.i ak] 0)+a.length=a.length by simp[aR],b6 (by omega) (by omega)];rfl
end Kk
namespace lM
def r2(N:aN)(g i j:FM R)(a:aZ)(d e:az)(f:ar)(h:Row):aG R:=aT (ah (d<(h.length:az))) (aT (ah (0<=d)&&ah (d<(h.length:az))) (aT (!kI.v (bO (av h d.toNat 0)) 1 9) (i aq d e f h)<|aT (ah (d>0)) (aT (ah (0<=bA (d-1))&&ah (bA (d-1)<(h.length:az))) (aT (ah (bO (av h (bA (d-1)).toNat 0)≥bO (av h d.toNat 0))) (i aq d e f h)<|aT (!kI.v (bO (av h d.toNat 1)) 0 (f.size:az)) (i aq d e f h)<|g a (bA (d+1)) e f h) ay)<|aT (!kI.v (bO (av h d.toNat 1)) 0 (f.size:az)) (i aq d e f h)<|g a (bA (d+1)) e f h) ay)<|j a d e f h
def l2(N:aN)(a d:FM R):aN->FM R
 |0=>λ_ _ _ _ _=>ay
 |n+1=>r2 N (l2 N a d n) a d
def b(N:aN)(j:aZ->aG R)(a:az)(d:ar)(e:Row):aG R:=l2 N (λf _ _ _ _=>j f) (λ_ _ f h i=>aT (kI.v f 1 3) (aT (ah ((h.size:az)<=400)) (j (ah ((i.length:az)<=6)))<|j aq)<|j aq) N aq 0 a d e
def el(t:ar)(rs:Row)(i:aN):aZ:=ah (1<=bO (av rs i 0)/\bO (av rs i 0)<=9)&&(ah (0<=bO (av rs i 1)/\bO (av rs i 1)<=t.size)&&(i==0||decide (bO (av rs (i-1) 0)<bO (av rs i 0))))
def rest(st:az)(t:ar)(rs:Row):aZ:=ah (1<=st/\st<=3)&&(ah (t.size<=400)&&ah (rs.length<=6))
def v(e:az)(d:ar)(a:Row):aZ:=(c7 a.length).all (el d a)&&rest e d a
def mW(n a b:az):kI.v n a b=ah (a<=n/\n<=b):=by unfold kI.v;by_cases h:a<=n<;>by_cases h2:n<=b<;>simp[h,h2]
def N1(st:az)(t:ar)(rs:Row){R:Type}(a:aZ->aG R):(bif kI.v st 1 3 then bif ah ((t.size:az)<=400)then a (ah ((rs.length:az)<=6))else a aq else a aq)=a (rest st t rs):=by
 unfold rest;rw[mW];have d:ah ((t.size:az)<=400)=ah (t.size<=400):=by rw[b7];omega
 have e:ah ((rs.length:az)<=6)=ah (rs.length<=6):=by rw[b7];omega
 rw[d,e];cases ah (1<=st/\st<=3)<;>cases ah (t.size<=400)<;>rfl
def DH{i:aN}(h:0<i)(a:i<=9223372036854775807):bA ((i:az)-1)=((i-1:aN):az):=by rw[iE (by omega) (by omega)];omega
def Iy(p:aN->aZ){i n:aN}(h:i<n):(iT i (n-i)).all p=(p i&&(iT (i+1) (n-(i+1))).all p):=by rw[show n-i=(n-(i+1))+1 by omega,List.range'_succ,iS]
def eu(f:aZ->aG R)(e:az)(d:ar)(a:Row)(A:DS d)(t:A' a):∃N,b N f e d a=f (v e d a):=by
 refine⟨a.length+1,?_⟩
 unfold b;simp only[N1]
 have:=gP (λn (i:aN)=>l2 (a.length+1) (λz B C H K=>f z) (λx y o r s=>f (rest o r s)) n aq i e d a) (λi=>a.length-i) (λi=>i<=a.length)
  (λi=>f ((iT i (a.length-i)).all (el d a)&&rest e d a)) (λn i hi=>by
  simp only[l2,r2,dh,cm,dK,bj,mW]
  by_cases h:i<a.length
  ·rw[Iy _ h];simp only[h,aQ,au,cG h t.1];cases h1:ah (1<=bO (av a i 0)/\bO (av a i 0)<=9)with
   |false=>left;simp[el,h1]
   |true=>
    simp only[aY,ax];by_cases m:0<i
    ·have u:ah ((i:az)>0)=true:=by simp;omega
     have hp:i-1<a.length:=by omega
     have k:(i==0)=false:=by simp;omega
     simp only[u,au,DH m (by have:=t.1;omega),cm,dh,dK,hp,aQ,aK];cases h2:ah (bO (av a (i-1) 0)≥bO (av a i 0))with
     |true=>
      left;have j:ah (bO (av a (i-1) 0)<bO (av a i 0))=false:=by simp at h2⊢;omega
      simp[el,j,k]
     |false=>
      have j:ah (bO (av a (i-1) 0)<bO (av a i 0))=true:=by simp at h2⊢;omega
      cases h3:ah (0<=bO (av a i 1)/\bO (av a i 1)<=d.size)with
      |false=>left;simp[el,h3]
      |true=>right;exact⟨i+1,h,by omega,by simp only[el,h1,h3,j,Kd,bj],rfl⟩
    ·have m:i=0:=by omega
     subst m;simp only[show ah (((0:aN):az)>0)=aq from rfl,ax];cases h3:ah (0<=bO (av a 0 1)/\bO (av a 0 1)<=d.size)with
     |false=>left;simp[el,h3]
     |true=>right;exact⟨1,h,by omega,by simp only[el,h1,h3,bj];rfl,rfl⟩
  ·left;have h0:a.length-i=0:=by omega
   simp only[h,bc,ax,h0,V4,DY,bj]) (a.length+1) 0 (by omega) (by omega)
 refine this.trans ?_;unfold v;rw[H2,<-V5]
end lM
namespace Ir
def b(h:FQ R)(a:az)(d:ar)(e:Row)(f:ar):aG R:=aT (Kk.c a d e) (aT (!lM.v a d e) (h a d e aq)<|aT (a !=1) (h a d e aq)<|aT (!kI.v (f.size:az) 1 40) (h a d e aq)<|aT (ah (bA ((d.size:az)+(f.size:az))>400)) (h a d e aq)<|aT (ah (d.size+f.size<=4611686018427387904)) (h a (d++f) e ao) ay) ay
def v(d:az)(e:ar)(f:Row)(a:ar):az×ar×Row×aZ:=
 if lM.v d e f=ao/\d=1/\1<=a.size/\a.size<=40/\e.size+a.size<=400 then(d,e++a,f,ao)else(d,e,f,aq)
def c(e:az)(f:ar)(a:Row)(d:ar):aZ:=ah (a.length<=4294967296)
def eu(j:FQ R)(f:az)(e:ar)(h:Row)(d:ar)(u:c f e h d=ao)(s:DS e)(z:A' h)(t:DS d):b j f e h d=j (v f e h d).1 (v f e h d).2.1 (v f e h d).2.2.1 (v f e h d).2.2.2:=by
 have x:e.size<=4611686018427387904:=s;have y:d.size<=4611686018427387904:=t;have k:Kk.c f e h=true:=u;have m:∀a b c,lM.v a b c=lM.v a b c:=λ_ _ _=>rfl;have o:∀n a b,kI.v n a b=ah (a<=n/\n<=b):=lM.mW;unfold b v;rw[k,m,o,au];cases h1:lM.v f e h with
 |false=>simp
 |true=>
  by_cases h2:f=1
  ·by_cases h3:1<=(d.size:az)/\(d.size:az)<=40
   ·have r:bA ((e.size:az)+(d.size:az))=e.size+d.size:=iE (by omega) (by omega);rw[r,aA h3];by_cases h4:(e.size:az)+(d.size:az)>400
    ·rw[vJ h4,bk (by omega)];simp[h2]
    ·rw[CK h4,bm (by refine⟨rfl,h2,?_,?_,?_⟩<;>omega),vJ (show e.size+d.size<=4611686018427387904 by omega)];simp[h2]
   ·rw[aD h3,bk (by omega)];simp
  ·have i:(f !=1)=true:=bne_iff_ne.mpr h2;rw[bk (by simp[h2]),i];rfl
end Ir
namespace td
def r1(N:aN)(g k:gK R):gK R:=λa d e f h i j l m o p q=>aT (ah (e<(q.length:az))) (bY e q.length<|aT (ah (bO (av q e.toNat 2)=bA (a+1))) (bY e q.length<|aT (ah (bO (av q e.toNat 4)=1)) (bY a p.length<|bY e q.length<|bY e ((eH q e.toNat 5 [.s (bn (av p a.toNat 1))]).length)<|g a d (bA (e+1)) f h i j l m o p (eH (eH q e.toNat 5 [.s (bn (av p a.toNat 1))]) e.toNat 4 [.i ak d]))<|g a d (bA (e+1)) f h i j l m o p q)<|g a d (bA (e+1)) f h i j l m o p q)<|k a d e f h i j l m o p q
def l1(N:aN)(a:gK R):aN->gK R
 |0=>λ_ _ _ _ _ _ _ _ _ _ _ _=>ay
 |n+1=>r1 N (l1 N a n) a
def b(N:aN)(k:dn R):nH R:=λa d e f h i j l m o p=>l1 N (λ_ _ _ q r s t u w y z α=>k q t u w y r z α s) N o p 0 a i m d e f h j l
def vo:=b cw λa d e f g h i j k=>ai (a,d,e,f,g,h,i,j,k)
def c:=xT vo
def v:=yM vo
def out:yq vo c v x:=AX
end td
namespace D0
def b(k:lk R):nI R:=λa d e f h i j l m o p=>nh lh.c lh.v a d e f h i j l m λq=>jB vp.c vp.v a d e f h i j l m o λr=>aT (!r) (k q.1 q.2.1 q.2.2.1 (cq q) (db q) (du q) (cC q) (dm q) (dP q) aq)<|bY o j.length<|aT (!(dt (Ir.v 1 (bn (av j o.toNat 1)) [] p))) (k q.1 q.2.1 q.2.2.1 (cq q) (db q) (du q) (cC q) (dm q) (dP q) aq)<|bY o q.2.2.2.2.2.2.1.length<|mB td.c td.v q.1 q.2.1 q.2.2.1 (cq q) (db q) (du q) (eH (cC q) o.toNat 1 [.s (Ir.v 1 (bn (av j o.toNat 1)) [] p).2.1]) (dm q) (dP q) o 1 λs=>k s.1 s.2.1 s.2.2.1 (cq s) (db s) (du s) (cC s) (dm s) (dP s) ao
def vo:=b λa d e f g h i j k l=>ai (a,d,e,f,g,h,i,j,k,l)
def c:=xT vo
def v:=yM vo
def out:yq vo c v x:=AX
end D0
namespace fZ
def r9(N:aN)(g k:mw R):mw R:=λa d e f h i j=>aT (ah (d<(a.length:az))) (bY d a.length<|aT (!(cf (bn (av a d.toNat 0)).toList (aF e)||List.beq (bn (av a d.toNat 0)).toList (aF e))) (bY d a.length<|bw (b_ (j.length+(aC (aR [Ck.s,Ck.i ak,Ck.i ak,Ck.s] 1) 0 [.s (bn (av a d.toNat 0)),.i ak (bO (av a d.toNat 1)),.i ak (bO (av a d.toNat (1+1))),.s (bn (av a d.toNat (1+1+1)))]).length) 48)<|g a (bA (d+1)) e f h i (j++aC (aR [Ck.s,Ck.i ak,Ck.i ak,Ck.s] 1) 0 [.s (bn (av a d.toNat 0)),.i ak (bO (av a d.toNat 1)),.i ak (bO (av a d.toNat (1+1))),.s (bn (av a d.toNat (1+1+1)))]))<|g a (bA (d+1)) e f h i j)<|k a d e f h i j
def l9(N:aN)(a:mw R):aN->mw R
 |0=>λ_ _ _ _ _ _ _=>ay
 |n+1=>r9 N (l9 N a n) a
def r3(N:aN)(g k:mw R):mw R:=λa d e f h i j=>aT (ah (d<(a.length:az))) (bY d a.length<|aT (cf (bn (av a d.toNat 0)).toList (aF e)) (bY d a.length<|bw (b_ (j.length+(aC (aR [Ck.s,Ck.i ak,Ck.i ak,Ck.s] 1) 0 [.s (bn (av a d.toNat 0)),.i ak (bO (av a d.toNat 1)),.i ak (bO (av a d.toNat (1+1))),.s (bn (av a d.toNat (1+1+1)))]).length) 48)<|g a (bA (d+1)) e f h i (j++aC (aR [Ck.s,Ck.i ak,Ck.i ak,Ck.s] 1) 0 [.s (bn (av a d.toNat 0)),.i ak (bO (av a d.toNat 1)),.i ak (bO (av a d.toNat (1+1))),.s (bn (av a d.toNat (1+1+1)))]))<|g a (bA (d+1)) e f h i j)<|k a d e f h i j
def l3(N:aN)(a:mw R):aN->mw R
 |0=>λ_ _ _ _ _ _ _=>ay
 |n+1=>r3 N (l3 N a n) a
def b(N:aN)(k:Row->aG R):Md R:=λa d e f h=>l3 N (λi _ j l m o p=>bw (b_ (p.length+(aC (aR [Ck.s,Ck.i ak,Ck.i ak,Ck.s] 1) 0 [.s j,.i ak l,.i ak m,.s o]).length) 48)<|l9 N (λ_ _ _ _ _ _ q=>k q) N i 0 j l m o (p++aC (aR [Ck.s,Ck.i ak,Ck.i ak,Ck.s] 1) 0 [.s j,.i ak l,.i ak m,.s o])) N a 0 d e f h (aR [Ck.s,Ck.i ak,Ck.i ak,Ck.s] 0)
def vo:=b cw λa=>ai a
def c:=Bl vo
def v:=Br vo
def out:Bo vo c v x:=De
end fZ
namespace zP
def b(k:dn R):oh R:=λa d e f h i j l m o p q r=>ng eO.c eO.v e f h i o λs=>aT (!List.beq (aF (p8 s)) (aF ⟨#[]⟩)) (iU qC.c qC.v d (p8 s) λt=>ng tW.c tW.v s.1 s.2.1 s.2.2.1 (cq s) o λu=>aT u (ng fZ.c fZ.v t o p q r λw=>k a w s.1 s.2.1 s.2.2.1 (cq s) j l m)<|k a t s.1 s.2.1 s.2.2.1 (cq s) j l m)<|ng tW.c tW.v s.1 s.2.1 s.2.2.1 (cq s) o λt=>aT t (ng fZ.c fZ.v d o p q r λu=>k a u s.1 s.2.1 s.2.2.1 (cq s) j l m)<|k a d s.1 s.2.1 s.2.2.1 (cq s) j l m
def vo:=b λa d e f g h i j k=>ai (a,d,e,f,g,h,i,j,k)
def c:=M_ vo
def v:=Oq vo
def out:NW vo c v x:=TX
end zP
namespace D6
def b(k:lk R):nH R:=λa d e f h i j l m o p=>nh lh.c lh.v a d e f h i j l m λq=>jB vp.c vp.v a d e f h i j l m o λr=>aT (!r) (k q.1 q.2.1 q.2.2.1 (cq q) (db q) (du q) (cC q) (dm q) (dP q) aq)<|aT (!kI.v p 0 999999) (k q.1 q.2.1 q.2.2.1 (cq q) (db q) (du q) (cC q) (dm q) (dP q) aq)<|bY o j.length<|bY o q.2.2.2.2.2.2.1.length<|mB td.c td.v q.1 q.2.1 q.2.2.1 (cq q) (db q) (du q) (eH (cC q) o.toNat 0 [.s (bn (av j o.toNat 0)),.s (bn (av j o.toNat 1)),.i ak 2,.i ak p,.i ak a]) (dm q) (dP q) o 2 λs=>aT (ah (p>0)) (pH zP.c zP.v s.1 s.2.1 s.2.2.1 (cq s) (db s) (du s) (cC s) (dm s) (dP s) (bn (av j o.toNat 0)) a p (bn (av j o.toNat 1)) λt=>k t.1 t.2.1 t.2.2.1 (cq t) (db t) (du t) (cC t) (dm t) (dP t) ao)<|k s.1 s.2.1 s.2.2.1 (cq s) (db s) (du s) (cC s) (dm s) (dP s) ao
def vo:=b λa d e f g h i j k l=>ai (a,d,e,f,g,h,i,j,k,l)
def c:=xT vo
def v:=yM vo
def out:yq vo c v x:=AX
end D6
namespace kL
def r2(N:aN)(g e:vR R)(a:az)(d:Row):aG R:=aT (ah (a>127)) (aT (b_ (d.length+(aC (aR [Ck.i a8] 1) 0 [CV.i a8 (bG a8 (bA (bQ a 128+128)))]).length) 1) (g (bA (cz a 128)) (d++aC (aR [Ck.i a8] 1) 0 [CV.i a8 (bG a8 (bA (bQ a 128+128)))])) ay)<|e a d
def l2(N:aN)(a:vR R):aN->vR R
 |0=>λ_ _=>ay
 |n+1=>r2 N (l2 N a n) a
def b(N:aN)(f:ar->aG R)(a:az):aG R:=l2 N (λd e=>aT (b_ (e.length+(aC (aR [Ck.i a8] 1) 0 [CV.i a8 (bG a8 d)]).length) 1) (aT (ah ((e++aC (aR [Ck.i a8] 1) 0 [CV.i a8 (bG a8 d)]).length<=4611686018427387904)) (f (bytesOf (e++aC (aR [Ck.i a8] 1) 0 [CV.i a8 (bG a8 d)]))) ay) ay) N a (aR [Ck.i a8] 0)
def v(a:az):ar:=bytesOf (vb a)
def c(a:az):aZ:=ah (a<=9223372036854775807)
def eu(d:ar->aG R)(a:az)(e:c a=ao):∃N,b N d a=d (v a):=by
 refine⟨a.toNat+1,?_⟩
 refine Ce (λn x acc=>l2 (a.toNat+1) _ n x acc) d (λn x acc h hl=> ?_) (λn x acc h hl=> ?_) a (cB e)
 ·simp only[l2,r2,h,aQ,au,gO,show acc.length+bD [[CV.i a8 (bG a8 (bA (bQ x 128+128)))]]=acc.length+1 from rfl,sJ (show acc.length+1<=140737488355328 by omega),show ah ((128:az)=0)=aq from rfl,wQ,bH]
 ·simp only[l2,r2,h,bc,ax,gO,show acc.length+bD [[CV.i a8 (bG a8 x)]]=acc.length+1 from rfl,sJ (show acc.length+1<=140737488355328 by omega),au];exact sV (vJ (by rw[bU,bz];omega))
end kL
namespace jN
def b(h:w7 R)(a:ar)(d e:az)(f:ar):aG R:=aT (!gU.v a d e f) (h ⟨#[]⟩ aq)<|aT (kL.c (a.size:az)) (aT (ah ((kL.v (a.size:az)).size+a.size<=4611686018427387904)) (aT (kL.c d) (aT (ah ((kL.v (a.size:az)++a).size+(kL.v d).size<=4611686018427387904)) (aT (kL.c e) (aT (ah ((kL.v (a.size:az)++a++kL.v d).size+(kL.v e).size<=4611686018427387904)) (aT (ah ((kL.v (a.size:az)++a++kL.v d++kL.v e).size+f.size<=4611686018427387904)) (h (kL.v (a.size:az)++a++kL.v d++kL.v e++f) ao) ay) ay) ay) ay) ay) ay) ay
def tu(k:ar)(s l:az)(b:ar):ar:=bytesOf (vb k.size)++k++bytesOf (vb s)++bytesOf (vb l)++b
def v(a:ar)(d:az)(e:az)(f:ar):ar×aZ:=if gU.v a d e f=ao then(tu a d e f,ao)else(⟨#[]⟩,aq)
def eu(j:w7 R)(a:ar)(d:az)(e:az)(f:ar):b j a d e f=j (v a d e f).1 (v a d e f).2:=by
 unfold b v;cases h:gU.v a d e f with
 |false=>rfl
 |true=>have m:=gU.DT h;have i:∀x:az,x<=9223372036854775807->kL.c x=true:=λx k=>aA k;have o:(kL.v (a.size:az)).size<=64:=iq (x:=(a.size:az)) (by omega);have r:(kL.v d).size<=64:=iq (x:=d) (by omega);have s:(kL.v e).size<=64:=iq (x:=e) (by omega);simp(disch:=omega) only[aY,ax,i _ (show(a.size:az)<=9223372036854775807 by omega),i d (by omega),i e (by omega),au,if_true,cj,G1];rfl
end jN
namespace pz
def b(d:ar->aG R)(a:az):aG R:=d (bytesOf (aC (aC (aC (aC (aR [Ck.i a8] 4) 0 [CV.i a8 (bG a8 (lE a (hS 2 (if aP 24<=32 then aP 24 else 32))))]) 1 [CV.i a8 (bG a8 (lE a (hS 2 (if aP 16<=32 then aP 16 else 32))))]) 2 [CV.i a8 (bG a8 (lE a (hS 2 (if aP 8<=32 then aP 8 else 32))))]) 3 [CV.i a8 (bG a8 a)]))
def v(a:az):ar:=(bytesOf (aC (aC (aC (aC (aR [Ck.i a8] 4) 0 [CV.i a8 (bG a8 (lE a (hS 2 (if aP 24<=32 then aP 24 else 32))))]) 1 [CV.i a8 (bG a8 (lE a (hS 2 (if aP 16<=32 then aP 16 else 32))))]) 2 [CV.i a8 (bG a8 (lE a (hS 2 (if aP 8<=32 then aP 8 else 32))))]) 3 [CV.i a8 (bG a8 a)]))
def eu(d:ar->aG R)(a:az):b d a=d (v a):=by first|rfl|(unfold b v;simp only[cy];(repeat' split)<;>rfl)
end pz
namespace fI
def b(d:w7 R)(a:ar):aG R:=aT (!kI.v (a.size:az) 1 9000) (d ⟨#[]⟩ aq)<|bw (kL.c (a.size:az))<|bw (wk.c a)<|kE (kL.v (a.size:az)) (pz.v (wk.v a))<|kE (kL.v (a.size:az)++pz.v (wk.v a)) a<|d (kL.v (a.size:az)++pz.v (wk.v a)++a) ao
def vo:=b λa d=>ai (a,d)
def c:=kq vo
def v:=kA vo
def out:kt vo c v x:=kF
end fI
namespace D7
def b(h:vU R):Co R:=λa d e f=>bw (fI.c (jN.v a d e f).1)<|aT (!(jN.v a d e f).2) (h (aR [Ck.i ak,Ck.s,Ck.s,Ck.s] 0) aq)<|aT (!(fI.v (jN.v a d e f).1).2) (h (aR [Ck.i ak,Ck.s,Ck.s,Ck.s] 0) aq)<|h (aC (aC (aR [Ck.i ak,Ck.s,Ck.s,Ck.s] 2) 0 [.i ak 1,.s (aw #[aj 107,aj 101,aj 112,aj 116]),.s (fI.v (jN.v a d e f).1).1,.s ⟨#[]⟩]) 1 [.i ak 2,.s (aw #[aj 107,aj 101,aj 112,aj 116]),.s ⟨#[]⟩,.s ⟨#[]⟩]) ao
def vo:=b λa d=>ai (a,d)
def c:=vx vo
def v:=vD vo
def out:vB vo c v x:=wz
end D7
namespace wm
def b(d:aZ->aG R)(a:ar):aG R:=d (kI.v (a.size:az) 1 8)
def v(a:ar):aZ:=(kI.v (a.size:az) 1 8)
def eu(d:aZ->aG R)(a:ar):b d a=d (v a):=by first|rfl|(unfold b v;simp only[cy];(repeat' split)<;>rfl)
end wm
namespace fT
def r4(N:aN)(g f h:H' R):H' R:=λa d e=>aT (ah (d<(e.length:az))) (bY d e.length<|aT (!wm.v (bn (av e d.toNat 0))) (f aq d e)<|aT (ah (((bn (av e d.toNat 1)).size:az)>20000)) (f aq d e)<|aT (!kI.v (bO (av e d.toNat (1+1))) 0 ((bn (av e d.toNat 1)).size:az)) (f aq d e)<|aT (ah (d>0)) (bY (bA (d-1)) e.length<|aT (!Op.bytesLess (bn (av e (bA (d-1)).toNat 0)).toList (bn (av e d.toNat 0)).toList) (f aq d e)<|g a (bA (d+1)) e)<|g a (bA (d+1)) e)<|h a d e
def l4(N:aN)(a d:H' R):aN->H' R
 |0=>λ_ _ _=>ay
 |n+1=>r4 N (l4 N a d n) a d
def b(N:aN)(e:aZ->aG R)(a:Row):aG R:=aT (ah ((a.length:az)>30)) (e aq)<|l4 N (λd _ _=>e d) (λ_ _ _=>e ao) N aq 0 a
def vo:=b cw λa=>ai a
def c:=kq vo
def v:=kA vo
def out:kt vo c v x:=kF
end fT
namespace kV
def r2(N:aN)(g h i:gZ R):gZ R:=λa d e f=>aT (ah (e<(f.length:az))) (bY e f.length<|aT (cD (bn (av f e.toNat 0)).toList (aF a)) (h a e e f)<|g a d (bA (e+1)) f)<|i a d e f
def l2(N:aN)(a d:gZ R):aN->gZ R
 |0=>λ_ _ _ _=>ay
 |n+1=>r2 N (l2 N a d n) a d
def b(N:aN)(f:az->aG R)(a:Row)(d:ar):aG R:=l2 N (λ_ e _ _=>f e) (λ_ _ _ _=>f (-1)) N d 0 0 a
def vo:=b cw λa=>ai a
def c:=js vo
def v:=jw vo
def out:ju vo c v x:=jA
end kV
namespace lx
def r9(N:aN)(g j:kg R):kg R:=λa d e f h i=>aT (ah (a<(d.length:az))) (bY a d.length<|aT (!(cf (bn (av d a.toNat 0)).toList (aF e)||List.beq (bn (av d a.toNat 0)).toList (aF e))) (bY a d.length<|bw (b_ (i.length+(aC (aR [Ck.s,Ck.s,Ck.i ak] 1) 0 [.s (bn (av d a.toNat 0)),.s (bn (av d a.toNat 1)),.i ak (bO (av d a.toNat (1+1)))]).length) 40)<|g (bA (a+1)) d e f h (i++aC (aR [Ck.s,Ck.s,Ck.i ak] 1) 0 [.s (bn (av d a.toNat 0)),.s (bn (av d a.toNat 1)),.i ak (bO (av d a.toNat (1+1)))]))<|g (bA (a+1)) d e f h i)<|j a d e f h i
def l9(N:aN)(a:kg R):aN->kg R
 |0=>λ_ _ _ _ _ _=>ay
 |n+1=>r9 N (l9 N a n) a
def r3(N:aN)(g:qc R)(j:kg R)(k:qc R)(m:kg R):qc R:=λa d e f h=>aT (ah (a<(d.length:az))) (bY a d.length<|aT (cf (bn (av d a.toNat 0)).toList (aF e)) (bY a d.length<|j (bA (a+1)) d e f h ([]++aC (aR [Ck.s,Ck.s,Ck.i ak] 1) 0 [.s (bn (av d a.toNat 0)),.s (bn (av d a.toNat 1)),.i ak (bO (av d a.toNat (1+1)))]))<|g (bA (a+1)) d e f h)<|k a d e f h
def vC(N:aN)(g:qc R)(j:kg R)(m:qc R)(k:kg R):kg R:=λa d e f h i=>aT (ah (a<(d.length:az))) (bY a d.length<|aT (cf (bn (av d a.toNat 0)).toList (aF e)) (bY a d.length<|bw (b_ (i.length+(aC (aR [Ck.s,Ck.s,Ck.i ak] 1) 0 [.s (bn (av d a.toNat 0)),.s (bn (av d a.toNat 1)),.i ak (bO (av d a.toNat (1+1)))]).length) 40)<|j (bA (a+1)) d e f h (i++aC (aR [Ck.s,Ck.s,Ck.i ak] 1) 0 [.s (bn (av d a.toNat 0)),.s (bn (av d a.toNat 1)),.i ak (bO (av d a.toNat (1+1)))]))<|j (bA (a+1)) d e f h i)<|k a d e f h i
def oJ(N:aN)(a:qc R)(d:kg R):aN->kg R
 |0=>λ_ _ _ _ _ _=>ay
 |n+1=>vC N (λe f h i j=>ay) (oJ N a d n) a d
def l3(N:aN)(a:qc R)(d:kg R):aN->qc R
 |0=>λ_ _ _ _ _=>ay
 |n+1=>r3 N (l3 N a d n) (oJ N a d n) a d
def b(N:aN)(k:Row->aG R):Kf R:=λa d e f=>l3 N (λ_ h i j l=>l9 N (λ_ _ _ _ _ m=>k m) N 0 h i j l ([]++aC (aR [Ck.s,Ck.s,Ck.i ak] 1) 0 [.s i,.s j,.i ak l])) (λ_ h i j l m=>bw (b_ (m.length+(aC (aR [Ck.s,Ck.s,Ck.i ak] 1) 0 [.s i,.s j,.i ak l]).length) 40)<|l9 N (λ_ _ _ _ _ o=>k o) N 0 h i j l (m++aC (aR [Ck.s,Ck.s,Ck.i ak] 1) 0 [.s i,.s j,.i ak l])) N 0 a d e f
def vo:=b cw λa=>ai a
def c:=vx vo
def v:=vD vo
def out:vB vo c v x:=wz
end lx
namespace mI
def r3(N:aN)(g:nk R)(f:qx R)(h:nk R)(j:qx R):nk R:=λa d e=>aT (ah (d<(e.length:az))) (bY d e.length<|aT (!List.beq (bn (av e d.toNat 0)).toList (aF a)) (bY d e.length<|f a (bA (d+1)) e ([]++aC (aR [Ck.s,Ck.s,Ck.i ak] 1) 0 [.s (bn (av e d.toNat 0)),.s (bn (av e d.toNat 1)),.i ak (bO (av e d.toNat (1+1)))]))<|g a (bA (d+1)) e)<|h a d e
def vC(N:aN)(g:nk R)(h:qx R)(k:nk R)(j:qx R):qx R:=λa d e f=>aT (ah (d<(e.length:az))) (bY d e.length<|aT (!List.beq (bn (av e d.toNat 0)).toList (aF a)) (bY d e.length<|bw (b_ (f.length+(aC (aR [Ck.s,Ck.s,Ck.i ak] 1) 0 [.s (bn (av e d.toNat 0)),.s (bn (av e d.toNat 1)),.i ak (bO (av e d.toNat (1+1)))]).length) 40)<|h a (bA (d+1)) e (f++aC (aR [Ck.s,Ck.s,Ck.i ak] 1) 0 [.s (bn (av e d.toNat 0)),.s (bn (av e d.toNat 1)),.i ak (bO (av e d.toNat (1+1)))]))<|h a (bA (d+1)) e f)<|j a d e f
def oJ(N:aN)(a:nk R)(d:qx R):aN->qx R
 |0=>λ_ _ _ _=>ay
 |n+1=>vC N (λe f h=>ay) (oJ N a d n) a d
def l3(N:aN)(a:nk R)(d:qx R):aN->nk R
 |0=>λ_ _ _=>ay
 |n+1=>r3 N (l3 N a d n) (oJ N a d n) a d
def b(N:aN)(f:Row->aG R)(a:Row)(d:ar):aG R:=l3 N (λ_ _ _=>f []) (λ_ _ _ e=>f e) N d 0 a
def vo:=b cw λa=>ai a
def c:=js vo
def v:=jw vo
def out:ju vo c v x:=jA
end mI
namespace Cv
abbrev h0{R:Type}(k:vU R):BA R:=λa d e f h=>iU kV.c kV.v a e λi=>aT (ah (i≥0)) (bY i a.length<|aT (ah (d=1)) (kE (bn (av a i.toNat 1)) f<|j7 lx.c lx.v a (bn (av a i.toNat 0)) (bn (av a i.toNat 1)++f) (bO (av a i.toNat (1+1))) λj=>bw (fT.c j)<|aT (!fT.v j) (k [] aq)<|k j ao)<|aT (ah (i<0)) (k [] aq)<|aT (ah (d=2)) (j7 lx.c lx.v a (bn (av a i.toNat 0)) (bn (av a i.toNat 1)) ((bn (av a i.toNat 1)).size:az) λj=>bw (fT.c j)<|aT (!fT.v j) (k [] aq)<|k j ao)<|aT (ah (d=3)) (aT (ah (bO (av a i.toNat (1+1))<((bn (av a i.toNat 1)).size:az))) (k [] aq)<|aT (cD (aF h) (aF e)) (k [] aq)<|aT (!wm.v h) (k [] aq)<|bw (mI.c a e)<|bw (lx.c (mI.v a e) h (bn (av a i.toNat 1)) (bO (av a i.toNat (1+1))))<|bw (fT.c (lx.v (mI.v a e) h (bn (av a i.toNat 1)) (bO (av a i.toNat (1+1)))))<|aT (!fT.v (lx.v (mI.v a e) h (bn (av a i.toNat 1)) (bO (av a i.toNat (1+1))))) (k [] aq)<|k (lx.v (mI.v a e) h (bn (av a i.toNat 1)) (bO (av a i.toNat (1+1)))) ao)<|aT (ah (d=4)) (bw (mI.c a e)<|bw (fT.c (mI.v a e))<|aT (!fT.v (mI.v a e)) (k [] aq)<|k (mI.v a e) ao)<|k [] aq)<|aT (ah (d=1)) (bw (ah (bf ⟨#[]⟩+f.size<=4611686018427387904))<|bw (lx.c a e ((aw #[])++f) 0)<|bw (fT.c (lx.v a e ((aw #[])++f) 0))<|aT (!fT.v (lx.v a e ((aw #[])++f) 0)) (k [] aq)<|k (lx.v a e ((aw #[])++f) 0) ao)<|aT (ah (i<0)) (k [] aq)<|aT (ah (d=2)) (bw (lx.c a e ⟨#[]⟩ (bf ⟨#[]⟩:az))<|bw (fT.c (lx.v a e ⟨#[]⟩ (bf ⟨#[]⟩:az)))<|aT (!fT.v (lx.v a e ⟨#[]⟩ (bf ⟨#[]⟩:az))) (k [] aq)<|k (lx.v a e ⟨#[]⟩ (bf ⟨#[]⟩:az)) ao)<|aT (ah (d=3)) (aT (cD (aF h) (aF e)) (k [] aq)<|aT (!wm.v h) (k [] aq)<|bw (mI.c a e)<|bw (lx.c (mI.v a e) h ⟨#[]⟩ 0)<|bw (fT.c (lx.v (mI.v a e) h ⟨#[]⟩ 0))<|aT (!fT.v (lx.v (mI.v a e) h ⟨#[]⟩ 0)) (k [] aq)<|k (lx.v (mI.v a e) h ⟨#[]⟩ 0) ao)<|aT (ah (d=4)) (bw (mI.c a e)<|bw (fT.c (mI.v a e))<|aT (!fT.v (mI.v a e)) (k [] aq)<|k (mI.v a e) ao)<|k [] aq
def b(i:vU R):BA R:=λa d e f h=>bw (fT.c a)<|aT (!fT.v a) (i [] aq)<|aT (!wm.v e) (i [] aq)<|aT (d !=3) (aT (!List.beq (aF h) (aF ⟨#[]⟩)) (i [] aq)<|aT (d !=1) (aT (!List.beq (aF f) (aF ⟨#[]⟩)) (i [] aq)<|h0 i a d e f h)<|h0 i a d e f h)<|aT (d !=1) (aT (!List.beq (aF f) (aF ⟨#[]⟩)) (i [] aq)<|h0 i a d e f h)<|h0 i a d e f h
def vo:=b λa d=>ai (a,d)
def c:=Bl vo
def v:=Br vo
def out:Bo vo c v x:=De
end Cv
namespace qD
def r3(N:aN)(g h i:j3 R):j3 R:=λa d e f=>aT (ah (e<(a.length:az))) (bY e a.length<|bw (Cv.c f (bO (av a e.toNat 0)) (bn (av a e.toNat 1)) (bn (av a e.toNat (1+1))) (bn (av a e.toNat (1+1+1))))<|aT (!(Cv.v f (bO (av a e.toNat 0)) (bn (av a e.toNat 1)) (bn (av a e.toNat (1+1))) (bn (av a e.toNat (1+1+1)))).2) (h a e e f)<|g a d (bA (e+1)) (Cv.v f (bO (av a e.toNat 0)) (bn (av a e.toNat 1)) (bn (av a e.toNat (1+1))) (bn (av a e.toNat (1+1+1)))).1)<|i a d e f
def l3(N:aN)(a d:j3 R):aN->j3 R
 |0=>λ_ _ _ _=>ay
 |n+1=>r3 N (l3 N a d n) a d
def b(N:aN)(h:nY R)(a d:Row):aG R:=bw (b_ ((aR [Ck.s,Ck.s,Ck.i ak] 0).length+a.length) 40)<|l3 N (λ_ e _ f=>h f e) (λe _ _ f=>h f (e.length:az)) N d 0 0 (aR [Ck.s,Ck.s,Ck.i ak] 0++a)
def vo:=b cw λa d=>ai (a,d)
def c:=js vo
def v:=jw vo
def out:ju vo c v x:=jA
end qD
namespace Bg
def b(d:az->aG R)(a:aZ):aG R:=aT a (d 0)<|d 1
def v(a:aZ):az:=aT a 0 1
def eu(d:az->aG R)(a:aZ):b d a=d (v a):=by first|rfl|(unfold b v;simp only[cy];(repeat' split)<;>rfl)
end Bg
namespace D3
def b(k:mc R):iJ R:=λa d e f h i j l m o p q r s t u w=>mB D6.c D6.v a d e f h i j l m s (bQ u 1000000) λy=>aT (tn y) (aT (ah (bQ u 1000000>0)) (bY s y.2.2.2.2.2.2.1.length<|bw (b_ ((aR [Ck.s,Ck.i ak,Ck.i ak,Ck.s] 0).length+q.length) 48)<|bw (b_ ((aR [Ck.s,Ck.i ak,Ck.i ak,Ck.s] 0++q).length+(aC (aR [Ck.s,Ck.i ak,Ck.i ak,Ck.s] 1) 0 [.s (bn (av (cC y) s.toNat 0)),.i ak (bO (av (cC y) s.toNat (1+1+1+1))),.i ak (bO (av (cC y) s.toNat (1+1+1))),.s (bn (av (cC y) s.toNat 1))]).length) 48)<|j7 D7.c D7.v (bn (av (cC y) s.toNat 0)) (bO (av (cC y) s.toNat (1+1+1+1))) (bO (av (cC y) s.toNat (1+1+1))) (bn (av (cC y) s.toNat 1)) λz=>aT z.2 (iU qD.c qD.v o z.1 λα=>k (Bg.v (tn y)) y.1 y.2.1 y.2.2.1 (cq y) (db y) (du y) (cC y) (dm y) (je y) α.1 p (aR [Ck.s,Ck.i ak,Ck.i ak,Ck.s] 0++q++aC (aR [Ck.s,Ck.i ak,Ck.i ak,Ck.s] 1) 0 [.s (bn (av (cC y) s.toNat 0)),.i ak (bO (av (cC y) s.toNat (1+1+1+1))),.i ak (bO (av (cC y) s.toNat (1+1+1))),.s (bn (av (cC y) s.toNat 1))]))<|k (Bg.v (tn y)) y.1 y.2.1 y.2.2.1 (cq y) (db y) (du y) (cC y) (dm y) (je y) o p (aR [Ck.s,Ck.i ak,Ck.i ak,Ck.s] 0++q++aC (aR [Ck.s,Ck.i ak,Ck.i ak,Ck.s] 1) 0 [.s (bn (av (cC y) s.toNat 0)),.i ak (bO (av (cC y) s.toNat (1+1+1+1))),.i ak (bO (av (cC y) s.toNat (1+1+1))),.s (bn (av (cC y) s.toNat 1))]))<|k (Bg.v (tn y)) y.1 y.2.1 y.2.2.1 (cq y) (db y) (du y) (cC y) (dm y) (je y) o p q)<|k (Bg.v (tn y)) y.1 y.2.1 y.2.2.1 (cq y) (db y) (du y) (cC y) (dm y) (je y) o p q
def vo:=b λa d e f g h i j k l m n o=>ai (a,d,e,f,g,h,i,j,k,l,m,n,o)
def c:=EO vo
def v:=FF vo
def out:Fp vo c v x:=Jp
end D3
namespace D4
def b(k:lk R):fL R:=λa d e f h i j l m o=>nh lh.c lh.v a d e f h i j l m λp=>jB vp.c vp.v a d e f h i j l m o λq=>aT (!q) (k p.1 p.2.1 p.2.2.1 (cq p) (db p) (du p) (cC p) (dm p) (dP p) aq)<|bY o p.2.2.2.2.2.2.1.length<|mB td.c td.v p.1 p.2.1 p.2.2.1 (cq p) (db p) (du p) (eH (cC p) o.toNat 2 [.i ak 3]) (dm p) (dP p) o 3 λr=>k r.1 r.2.1 r.2.2.1 (cq r) (db r) (du r) (cC r) (dm r) (dP r) ao
def vo:=b λa d e f g h i j k l=>ai (a,d,e,f,g,h,i,j,k,l)
def c:=qi vo
def v:=qw vo
def out:qp vo c v x:=rA
end D4
namespace se
def b(k:dn R):fL R:=λa d e f h i j l m o=>bw (lh.c a d e f h i j l m)<|aT (ah (bQ o 1000<0)) (aT (ah ((lh.v a d e f h i j l m).1>bA (1000000000-bA (bQ o 1000+1000)))) (k 1000000000 (lh.v a d e f h i j l m).2.1 (lh.v a d e f h i j l m).2.2.1 (cq (lh.v a d e f h i j l m)) (db (lh.v a d e f h i j l m)) (du (lh.v a d e f h i j l m)) (cC (lh.v a d e f h i j l m)) (dm (lh.v a d e f h i j l m)) (dP (lh.v a d e f h i j l m)))<|k (bA ((lh.v a d e f h i j l m).1+bA (bQ o 1000+1000))) (lh.v a d e f h i j l m).2.1 (lh.v a d e f h i j l m).2.2.1 (cq (lh.v a d e f h i j l m)) (db (lh.v a d e f h i j l m)) (du (lh.v a d e f h i j l m)) (cC (lh.v a d e f h i j l m)) (dm (lh.v a d e f h i j l m)) (dP (lh.v a d e f h i j l m)))<|aT (ah ((lh.v a d e f h i j l m).1>bA (1000000000-bQ o 1000))) (k 1000000000 (lh.v a d e f h i j l m).2.1 (lh.v a d e f h i j l m).2.2.1 (cq (lh.v a d e f h i j l m)) (db (lh.v a d e f h i j l m)) (du (lh.v a d e f h i j l m)) (cC (lh.v a d e f h i j l m)) (dm (lh.v a d e f h i j l m)) (dP (lh.v a d e f h i j l m)))<|k (bA ((lh.v a d e f h i j l m).1+bQ o 1000)) (lh.v a d e f h i j l m).2.1 (lh.v a d e f h i j l m).2.2.1 (cq (lh.v a d e f h i j l m)) (db (lh.v a d e f h i j l m)) (du (lh.v a d e f h i j l m)) (cC (lh.v a d e f h i j l m)) (dm (lh.v a d e f h i j l m)) (dP (lh.v a d e f h i j l m))
def vo:=b λa d e f g h i j k=>ai (a,d,e,f,g,h,i,j,k)
def c:=qi vo
def v:=qw vo
def out:qp vo c v x:=rA
end se
namespace vi
def r4(N:aN)(g B:fQ R):fQ R:=λa d e f h i j l m o p q r s t u w y z α x A k=>aT (ah (d<(o.length:az))) (bY d o.length<|aT (bO (av o d.toNat 0) !=a) (bY d o.length<|bw (b_ (k.length+(aC (aR [Ck.i ak,Ck.s,Ck.i ak,Ck.i ak,Ck.i ak,Ck.s,Ck.i ak] 1) 0 [.i ak (bO (av o d.toNat 0)),.s (bn (av o d.toNat 1)),.i ak (bO (av o d.toNat (1+1))),.i ak (bO (av o d.toNat (1+1+1))),.i ak (bO (av o d.toNat (1+1+1+1))),.s (bn (av o d.toNat (1+1+1+1+1))),.i ak (bO (av o d.toNat (1+1+1+1+1+1)))]).length) 72)<|g a (bA (d+1)) e f h i j l m o p q r s t u w y z α x A (k++aC (aR [Ck.i ak,Ck.s,Ck.i ak,Ck.i ak,Ck.i ak,Ck.s,Ck.i ak] 1) 0 [.i ak (bO (av o d.toNat 0)),.s (bn (av o d.toNat 1)),.i ak (bO (av o d.toNat (1+1))),.i ak (bO (av o d.toNat (1+1+1))),.i ak (bO (av o d.toNat (1+1+1+1))),.s (bn (av o d.toNat (1+1+1+1+1))),.i ak (bO (av o d.toNat (1+1+1+1+1+1)))]))<|g a (bA (d+1)) e f h i j l m o p q r s t u w y z α x A k)<|B a d e f h i j l m o p q r s t u w y z α x A k
def l4(N:aN)(a:fQ R):aN->fQ R
 |0=>λ_ _ _ _ _ _ _ _ _ _ _ _ _ _ _ _ _ _ _ _ _ _ _=>ay
 |n+1=>r4 N (l4 N a n) a
def b(N:aN)(k:dn R):fL R:=λa d e f h i j l m o=>bw (lh.c a d e f h i j l m)<|l4 N (λ_ _ _ _ _ _ _ _ _ _ _ _ _ _ p q r s t u w y z=>k p s t u w q y z r) N o 0 a d e f h i j l m 0 0 0 (lh.v a d e f h i j l m).1 (du (lh.v a d e f h i j l m)) (dP (lh.v a d e f h i j l m)) (lh.v a d e f h i j l m).2.1 (lh.v a d e f h i j l m).2.2.1 (cq (lh.v a d e f h i j l m)) (db (lh.v a d e f h i j l m)) (cC (lh.v a d e f h i j l m)) (aR [Ck.i ak,Ck.s,Ck.i ak,Ck.i ak,Ck.i ak,Ck.s,Ck.i ak] 0)
def vo:=b cw λa d e f g h i j k=>ai (a,d,e,f,g,h,i,j,k)
def c:=qi vo
def v:=qw vo
def out:qp vo c v x:=rA
end vi
namespace xJ
def r5(N:aN)(g:vE R)(f:tJ R)(h:vE R)(j:tJ R):vE R:=λa d e=>aT (ah (d<(e.length:az))) (bY d e.length<|aT (ah (d<(a.length:az))) (bY d a.length<|aT (ah (bO (av a d.toNat 0)>((bn (av e d.toNat 1)).size:az))) (aT (ah (((bn (av e d.toNat 1)).size:az)<bO (av e d.toNat (1+1)))) (bw (gA 0 (bO (av e d.toNat (1+1))) ((bn (av e d.toNat 1)).size:az))<|f a (bA (d+1)) e ([]++aC (aR [Ck.s,Ck.s,Ck.i ak] 1) 0 [.s (bn (av e d.toNat 0)),.s (bx (bn (av e d.toNat 1)) (aP 0) (bO (av e d.toNat (1+1))).toNat),.i ak (bO (av e d.toNat (1+1)))]))<|bw (gA 0 ((bn (av e d.toNat 1)).size:az) ((bn (av e d.toNat 1)).size:az))<|f a (bA (d+1)) e ([]++aC (aR [Ck.s,Ck.s,Ck.i ak] 1) 0 [.s (bn (av e d.toNat 0)),.s (bx (bn (av e d.toNat 1)) (aP 0) ((bn (av e d.toNat 1)).size:az).toNat),.i ak ((bn (av e d.toNat 1)).size:az)]))<|aT (ah (bO (av a d.toNat 0)<bO (av e d.toNat (1+1)))) (bw (gA 0 (bO (av e d.toNat (1+1))) ((bn (av e d.toNat 1)).size:az))<|f a (bA (d+1)) e ([]++aC (aR [Ck.s,Ck.s,Ck.i ak] 1) 0 [.s (bn (av e d.toNat 0)),.s (bx (bn (av e d.toNat 1)) (aP 0) (bO (av e d.toNat (1+1))).toNat),.i ak (bO (av e d.toNat (1+1)))]))<|bw (gA 0 (bO (av a d.toNat 0)) ((bn (av e d.toNat 1)).size:az))<|f a (bA (d+1)) e ([]++aC (aR [Ck.s,Ck.s,Ck.i ak] 1) 0 [.s (bn (av e d.toNat 0)),.s (bx (bn (av e d.toNat 1)) (aP 0) (bO (av a d.toNat 0)).toNat),.i ak (bO (av a d.toNat 0))]))<|aT (ah (0<bO (av e d.toNat (1+1)))) (bw (gA 0 (bO (av e d.toNat (1+1))) ((bn (av e d.toNat 1)).size:az))<|f a (bA (d+1)) e ([]++aC (aR [Ck.s,Ck.s,Ck.i ak] 1) 0 [.s (bn (av e d.toNat 0)),.s (bx (bn (av e d.toNat 1)) (aP 0) (bO (av e d.toNat (1+1))).toNat),.i ak (bO (av e d.toNat (1+1)))]))<|f a (bA (d+1)) e ([]++aC (aR [Ck.s,Ck.s,Ck.i ak] 1) 0 [.s (bn (av e d.toNat 0)),.s (bx (bn (av e d.toNat 1)) (aP 0) (aP 0)),.i ak 0]))<|h a d e
def r5a(N:aN)(g:vE R)(h:tJ R)(k:vE R)(j:tJ R):tJ R:=λa d e f=>aT (ah (d<(e.length:az))) (bY d e.length<|aT (ah (d<(a.length:az))) (bY d a.length<|aT (ah (bO (av a d.toNat 0)>((bn (av e d.toNat 1)).size:az))) (aT (ah (((bn (av e d.toNat 1)).size:az)<bO (av e d.toNat (1+1)))) (bw (gA 0 (bO (av e d.toNat (1+1))) ((bn (av e d.toNat 1)).size:az))<|bw (b_ (f.length+(aC (aR [Ck.s,Ck.s,Ck.i ak] 1) 0 [.s (bn (av e d.toNat 0)),.s (bx (bn (av e d.toNat 1)) (aP 0) (bO (av e d.toNat (1+1))).toNat),.i ak (bO (av e d.toNat (1+1)))]).length) 40)<|h a (bA (d+1)) e (f++aC (aR [Ck.s,Ck.s,Ck.i ak] 1) 0 [.s (bn (av e d.toNat 0)),.s (bx (bn (av e d.toNat 1)) (aP 0) (bO (av e d.toNat (1+1))).toNat),.i ak (bO (av e d.toNat (1+1)))]))<|bw (gA 0 ((bn (av e d.toNat 1)).size:az) ((bn (av e d.toNat 1)).size:az))<|bw (b_ (f.length+(aC (aR [Ck.s,Ck.s,Ck.i ak] 1) 0 [.s (bn (av e d.toNat 0)),.s (bx (bn (av e d.toNat 1)) (aP 0) ((bn (av e d.toNat 1)).size:az).toNat),.i ak ((bn (av e d.toNat 1)).size:az)]).length) 40)<|h a (bA (d+1)) e (f++aC (aR [Ck.s,Ck.s,Ck.i ak] 1) 0 [.s (bn (av e d.toNat 0)),.s (bx (bn (av e d.toNat 1)) (aP 0) ((bn (av e d.toNat 1)).size:az).toNat),.i ak ((bn (av e d.toNat 1)).size:az)]))<|aT (ah (bO (av a d.toNat 0)<bO (av e d.toNat (1+1)))) (bw (gA 0 (bO (av e d.toNat (1+1))) ((bn (av e d.toNat 1)).size:az))<|bw (b_ (f.length+(aC (aR [Ck.s,Ck.s,Ck.i ak] 1) 0 [.s (bn (av e d.toNat 0)),.s (bx (bn (av e d.toNat 1)) (aP 0) (bO (av e d.toNat (1+1))).toNat),.i ak (bO (av e d.toNat (1+1)))]).length) 40)<|h a (bA (d+1)) e (f++aC (aR [Ck.s,Ck.s,Ck.i ak] 1) 0 [.s (bn (av e d.toNat 0)),.s (bx (bn (av e d.toNat 1)) (aP 0) (bO (av e d.toNat (1+1))).toNat),.i ak (bO (av e d.toNat (1+1)))]))<|bw (gA 0 (bO (av a d.toNat 0)) ((bn (av e d.toNat 1)).size:az))<|bw (b_ (f.length+(aC (aR [Ck.s,Ck.s,Ck.i ak] 1) 0 [.s (bn (av e d.toNat 0)),.s (bx (bn (av e d.toNat 1)) (aP 0) (bO (av a d.toNat 0)).toNat),.i ak (bO (av a d.toNat 0))]).length) 40)<|h a (bA (d+1)) e (f++aC (aR [Ck.s,Ck.s,Ck.i ak] 1) 0 [.s (bn (av e d.toNat 0)),.s (bx (bn (av e d.toNat 1)) (aP 0) (bO (av a d.toNat 0)).toNat),.i ak (bO (av a d.toNat 0))]))<|aT (ah (0<bO (av e d.toNat (1+1)))) (bw (gA 0 (bO (av e d.toNat (1+1))) ((bn (av e d.toNat 1)).size:az))<|bw (b_ (f.length+(aC (aR [Ck.s,Ck.s,Ck.i ak] 1) 0 [.s (bn (av e d.toNat 0)),.s (bx (bn (av e d.toNat 1)) (aP 0) (bO (av e d.toNat (1+1))).toNat),.i ak (bO (av e d.toNat (1+1)))]).length) 40)<|h a (bA (d+1)) e (f++aC (aR [Ck.s,Ck.s,Ck.i ak] 1) 0 [.s (bn (av e d.toNat 0)),.s (bx (bn (av e d.toNat 1)) (aP 0) (bO (av e d.toNat (1+1))).toNat),.i ak (bO (av e d.toNat (1+1)))]))<|bw (b_ (f.length+(aC (aR [Ck.s,Ck.s,Ck.i ak] 1) 0 [.s (bn (av e d.toNat 0)),.s (bx (bn (av e d.toNat 1)) (aP 0) (aP 0)),.i ak 0]).length) 40)<|h a (bA (d+1)) e (f++aC (aR [Ck.s,Ck.s,Ck.i ak] 1) 0 [.s (bn (av e d.toNat 0)),.s (bx (bn (av e d.toNat 1)) (aP 0) (aP 0)),.i ak 0]))<|j a d e f
def l5a(N:aN)(a:vE R)(d:tJ R):aN->tJ R
 |0=>λ_ _ _ _=>ay
 |n+1=>r5a N (λe f h=>ay) (l5a N a d n) a d
def l5(N:aN)(a:vE R)(d:tJ R):aN->vE R
 |0=>λ_ _ _=>ay
 |n+1=>r5 N (l5 N a d n) (l5a N a d n) a d
def b(N:aN)(f:vU R)(a d:Row):aG R:=bw (fT.c a)<|aT (!fT.v a) (f [] aq)<|l5 N (λ_ _ _=>f [] ao) (λ_ _ _ e=>f e ao) N d 0 a
def vo:=b cw λa d=>ai (a,d)
def c:=js vo
def v:=jw vo
def out:ju vo c v x:=jA
end xJ
namespace ml
def b(e:w7 R)(a:Row)(d:ar):aG R:=bw (kV.c a d)<|aT (ah (kV.v a d<0)) (e ⟨#[]⟩ aq)<|bY (kV.v a d) a.length<|e (bn (av a (kV.v a d).toNat 1)) ao
def vo:=b λa d=>ai (a,d)
def c:=js vo
def v:=jw vo
def out:ju vo c v x:=jA
end ml
namespace fX
def r6(N:aN)(g k m:vZ R)(a:ar)(d e f:az)(h:aZ)(i j l:az):aG R:=aT (ah (l<(a.size:az))) (aT (ah (l<bA (d+5))) (aT (ah (0<=l)&&ah (l<(a.size:az))) (aT (ah (0<=l)&&ah (l<(a.size:az))) (aT (ah ((↑(fJ a l.toNat):az)<128)) (aT (ah (bA (i+bA (bQ (bA (↑(fJ a l.toNat):az)) 128*j))>1000000000)) (k a d 0 0 aq (bA (i+bA (bQ (bA (↑(fJ a l.toNat):az)) 128*j))) (bA (j*128)) l)<|aT (kL.c (bA (i+bA (bQ (bA (↑(fJ a l.toNat):az)) 128*j)))) (aT (gA d (bA (l+1)) (a.size:az)) (aT (!List.beq (kL.v (bA (i+bA (bQ (bA (↑(fJ a l.toNat):az)) 128*j)))).toList (bx a d.toNat (bA (l+1)).toNat).toList) (k a d 0 0 aq (bA (i+bA (bQ (bA (↑(fJ a l.toNat):az)) 128*j))) (bA (j*128)) l)<|k a d (bA (i+bA (bQ (bA (↑(fJ a l.toNat):az)) 128*j))) (bA (l+1)) ao (bA (i+bA (bQ (bA (↑(fJ a l.toNat):az)) 128*j))) (bA (j*128)) l) ay) ay)<|g a d e f h (bA (i+bA (bQ (bA (↑(fJ a l.toNat):az)) 128*j))) (bA (j*128)) (bA (l+1))) ay) ay)<|m a d e f h i j l)<|m a d e f h i j l
def l6(N:aN)(a d:vZ R):aN->vZ R
 |0=>λ_ _ _ _ _ _ _ _=>ay
 |n+1=>r6 N (l6 N a d n) a d
def b(N:aN)(i:Mb R)(a:ar)(d:az):aG R:=aT (!kI.v d 0 (a.size:az)) (i 0 0 aq)<|l6 N (λ_ _ e f h _ _ _=>i e f h) (λ_ _ _ _ _ _ _ _=>i 0 0 aq) N a d 0 0 aq 0 1 d
def v(a:ar)(d:az):az×az×aZ:=if 0<=d/\d<=a.size then Lib.rv a d.toNat 5 0 0 else(0,0,aq)
def eu(z:Mb R)(d:ar)(f:az)(f0:DS d):∃N,b N z d f=z (v d f).1 (v d f).2.1 (v d f).2.2:=by
 refine⟨6,?_⟩
 unfold b v;by_cases Q:0<=f/\f<=d.size
 ·have e:kI.v f 0 (d.size:az)=true:=by simp[kI.v,Q]
  obtain⟨a,rfl⟩:∃a:aN,f=(a:az):=⟨f.toNat,by omega⟩
  have ha:a<=d.size:=by omega
  rw[e,bm Q,dK];have hs:d.size<=4611686018427387904:=f0;simp only[aY,ax]
  have:=gP (λm (s:aN×az)=>l6 6 (λy8 y9 X Y h5 h7 h9 he=>z X Y h5) (λhf hh ho hr ht hu hv hx=>z 0 0 aq) m d a 0 0 aq s.2 (128^s.1) ((a+s.1:aN):az)) (λs=>5-s.1) (λs=>s.1<=5/\s.2=Lib.num d a s.1/\∀i,i<s.1->128<=fJ d (a+i))
   (λs=>z (Lib.rv d a (5-s.1) s.1 s.2).1 (Lib.rv d a (5-s.1) s.1 s.2).2.1 (Lib.rv d a (5-s.1) s.1 s.2).2.2) (λm s U=>by
   obtain⟨j,n⟩:=s
   obtain⟨hj,o,u⟩:=U
   dsimp only at hj o u⊢
   have hb:=zS d (a+j)
   have e5:bA ((a:az)+5)=((a+5:aN):az):=by rw[iE (by omega) (by omega)];omega
   by_cases k:a+j<d.size
   ·by_cases P:j<5
    ·have eb:bA (fJ d (a+j):az)=(fJ d (a+j):az):=iE (by omega) (by omega);have em:bQ (fJ d (a+j):az) 128=(fJ d (a+j):az)%128:=dO (by omega);have hp:(128:az)^j<=268435456/\(1:az)<=128^j/\(128:az)^(j+1)=128^j*128:=by
      obtain rfl|rfl|rfl|rfl|rfl:j=0\/j=1\/j=2\/j=3\/j=4:=by omega
      all_goals decide
     have S:=uW d j a;rw[<-o]at S;have y:0<=(fJ d (a+j):az)%128/\(fJ d (a+j):az)%128<=127:=by omega
     have hq:0<=(fJ d (a+j):az)%128*128^j/\(fJ d (a+j):az)%128*128^j<=127*128^j:=
      ⟨Int.mul_nonneg y.1 (by omega),DX y.2 (by omega)⟩
     have C:bA ((fJ d (a+j):az)%128*128^j)=(fJ d (a+j):az)%128*128^j:=iE (by omega) (by omega);have H:bA (n+(fJ d (a+j):az)%128*128^j)=n+(fJ d (a+j):az)%128*128^j:=iE (by omega) (by omega);have K:bA ((128:az)^j*128)=128^(j+1):=by rw[hp.2.2];exact iE (by omega) (by omega)
     have A:5-j=(5-(j+1))+1:=by omega
     have t:n+(fJ d (a+j):az)%128*128^j=Lib.num d a (j+1):=by rw[rz,<-o]
     have en:bA (((a+j:aN):az)+1)=((a+(j+1):aN):az):=cG k (by omega);have c2:ah (((a+j:aN):az)<((a+5:aN):az))=true:=ES (by omega)
     have r:Lib.rv d a (5-j) j n=(if(fJ d (a+j):az)>127 then Lib.rv d a (5-(j+1)) (j+1) (n+(fJ d (a+j):az)%128*128^j)
       else if(j>0/\fJ d (a+j)=0)\/n+(fJ d (a+j):az)%128*128^j>1000000000 then(0,0,aq)
       else(n+(fJ d (a+j):az)%128*128^j,((a+j+1:aN):az),ao)):=by
      rw[A];simp only[Lib.rv];rw[bm k]
     simp only[l6,r6,ES k,e5,c2,cm,dK,eb,em,C,H,K,en,au,aK];by_cases hc:(fJ d (a+j):az)<128
     ·left;rw[aA hc,au,r,bk (by omega)];by_cases h:n+(fJ d (a+j):az)%128*128^j>1000000000
      ·rw[aA h,bm (.inr h)];rfl
      ·have ec:kL.c (n+(fJ d (a+j):az)%128*128^j)=true:=aA (by omega);have B:gA (a:az) ((a+(j+1):aN):az) (d.size:az)=true:=by simp[gA];omega
       rw[aD h,ax,ec,au,B,au,t];have x:=Lib.canon d j a (by omega) u (by omega) (by rw[<-t];omega);unfold kL.v;rw[x];by_cases V:j>0/\fJ d (a+j)=0
       ·rw[aA V,bm (.inl V)];rfl
       ·rw[aD V,bk (by rw[t]at h;omega)];rfl
     ·right;rw[aD hc];refine⟨(j+1,n+(fJ d (a+j):az)%128*128^j),⟨by dsimp only;omega,t,λi hi=> ?_⟩,by dsimp only;omega,by dsimp only;rw[r,bm (by omega)],rfl⟩
      by_cases M:i<j
      ·exact u i M
      ·have:i=j:=by dsimp only at hi;omega
       subst this;omega
    ·left;have O:j=5:=by omega
     subst O;simp only[l6,r6,ES k,e5,IQ (bg (a+5)),au,ax];rfl
   ·left;have r:Lib.rv d a (5-j) j n=(0,0,aq):=by
     by_cases P:j<5
     ·have A:5-j=(5-(j+1))+1:=by omega
      rw[A];simp only[Lib.rv];rw[bk k]
     ·rw[show 5-j=0 by omega];rfl
    simp only[l6,r6,IQ k,ax,r]) 6 (0,0) ⟨by dsimp only;omega,rfl,λi hi=>by dsimp only at hi;omega⟩ (by dsimp only;omega)
  exact this
 ·have e:kI.v f 0 (d.size:az)=false:=by simp[kI.v];omega
  rw[e,bk Q];rfl
end fX
namespace tg
def r5(N:aN)(g h i:gZ R):gZ R:=λa d e f=>aT (ah (e<(a.size:az))) (aT (!(fX.v a e).2.2) (h a e e f)<|aT (ah ((fX.v a e).1>bA (bA ((a.size:az)-(fX.v a e).2.1)-4))) (h a e e f)<|bw (gA (bA ((fX.v a e).2.1+4)) (bA (bA ((fX.v a e).2.1+4)+(fX.v a e).1)) (a.size:az))<|bw (fI.c (bx a (bA ((fX.v a e).2.1+4)).toNat (bA (bA ((fX.v a e).2.1+4)+(fX.v a e).1)).toNat))<|aT (!(fI.v (bx a (bA ((fX.v a e).2.1+4)).toNat (bA (bA ((fX.v a e).2.1+4)+(fX.v a e).1)).toNat)).2) (h a e e f)<|bw (gA e (bA (bA ((fX.v a e).2.1+4)+(fX.v a e).1)) (a.size:az))<|aT (!List.beq (fI.v (bx a (bA ((fX.v a e).2.1+4)).toNat (bA (bA ((fX.v a e).2.1+4)+(fX.v a e).1)).toNat)).1.toList (bx a e.toNat (bA (bA ((fX.v a e).2.1+4)+(fX.v a e).1)).toNat).toList) (h a e e f)<|bw (b_ (f.length+(aC (aR [.s] 1) 0 [.s (bx a (bA ((fX.v a e).2.1+4)).toNat (bA (bA ((fX.v a e).2.1+4)+(fX.v a e).1)).toNat)]).length) 16)<|g a d (bA (bA ((fX.v a e).2.1+4)+(fX.v a e).1)) (f++aC (aR [.s] 1) 0 [.s (bx a (bA ((fX.v a e).2.1+4)).toNat (bA (bA ((fX.v a e).2.1+4)+(fX.v a e).1)).toNat)]))<|i a d e f
def l5(N:aN)(a d:gZ R):aN->gZ R
 |0=>λ_ _ _ _=>ay
 |n+1=>r5 N (l5 N a d n) a d
def b(N:aN)(f:nY R)(a:ar):aG R:=aT (ah ((a.size:az)>20000)) (f (aR [.s] 0) 0)<|l5 N (λ_ d _ e=>f e d) (λ_ _ d e=>f e d) N a 0 0 (aR [.s] 0)
def vo:=b cw λa d=>ai (a,d)
def c:=kq vo
def v:=kA vo
def out:kt vo c v x:=kF
end tg
namespace qF
def b(e:Me R)(a:ar)(d:az):aG R:=aT (!(fX.v a d).2.2) (e ⟨#[]⟩ 0 aq)<|aT (ah ((fX.v a d).1>20000)) (e ⟨#[]⟩ 0 aq)<|aT (ah ((fX.v a d).1>bA ((a.size:az)-(fX.v a d).2.1))) (e ⟨#[]⟩ 0 aq)<|aT (gA (fX.v a d).2.1 (bA ((fX.v a d).2.1+(fX.v a d).1)) (a.size:az)) (e (bx a (fX.v a d).2.1.toNat (bA ((fX.v a d).2.1+(fX.v a d).1)).toNat) (bA ((fX.v a d).2.1+(fX.v a d).1)) ao) ay
def v(a:ar)(d:az):ar×az×aZ:=fO a d
def eu(e:Me R)(a:ar)(d:az)(f:DS a):b e a d=e (v a d).1 (v a d).2.1 (v a d).2.2:=nR f d e
end qF
namespace j5
def b(d:xA R)(a:ar):aG R:=aT (!(qF.v a 0).2.2) (d ⟨#[]⟩ 0 0 ⟨#[]⟩ aq)<|aT (!(fX.v a (qF.v a 0).2.1).2.2) (d ⟨#[]⟩ 0 0 ⟨#[]⟩ aq)<|aT (!(fX.v a (fX.v a (qF.v a 0).2.1).2.1).2.2) (d ⟨#[]⟩ 0 0 ⟨#[]⟩ aq)<|aT (gA (fX.v a (fX.v a (qF.v a 0).2.1).2.1).2.1 (a.size:az) (a.size:az)) (aT (!(jN.v (qF.v a 0).1 (fX.v a (qF.v a 0).2.1).1 (fX.v a (fX.v a (qF.v a 0).2.1).2.1).1 (bx a (fX.v a (fX.v a (qF.v a 0).2.1).2.1).2.1.toNat (a.size:az).toNat)).2) (d ⟨#[]⟩ 0 0 ⟨#[]⟩ aq)<|aT (!List.beq (jN.v (qF.v a 0).1 (fX.v a (qF.v a 0).2.1).1 (fX.v a (fX.v a (qF.v a 0).2.1).2.1).1 (bx a (fX.v a (fX.v a (qF.v a 0).2.1).2.1).2.1.toNat (a.size:az).toNat)).1.toList (aF a)) (d ⟨#[]⟩ 0 0 ⟨#[]⟩ aq)<|d (qF.v a 0).1 (fX.v a (qF.v a 0).2.1).1 (fX.v a (fX.v a (qF.v a 0).2.1).2.1).1 (bx a (fX.v a (fX.v a (qF.v a 0).2.1).2.1).2.1.toNat (a.size:az).toNat) ao) ay
def no:ar×az×az×ar×aZ:=(⟨#[]⟩,0,0,⟨#[]⟩,aq)
def v(d:ar):ar×az×az×ar×aZ:=
 match fO d 0 with
 |(k,a,ao)=>(match ea d a with
  |(s,x,ao)=>(match ea d x with
   |(l,y,ao)=>if gU.v k s l (d.extract y.toNat d.size)=ao then(k,s,l,d.extract y.toNat d.size,ao)else no
   |_=>no)
  |_=>no)
 |_=>no
def eu(f:xA R)(d:ar)(r:DS d):b f d=f (v d).1 (v d).2.1 (v d).2.2.1 (v d).2.2.2.1 (v d).2.2.2.2:=by
 have h:qF.v=fO:=rfl;have i:fX.v=ea:=rfl;unfold b v;simp only[h,i,dK];cases h1:fO d 0 with
 |mk k r1=>
  obtain⟨a,ok1⟩:=r1;cases ok1 with
  |false=>rfl
  |true=>
   dsimp only;cases h2:ea d a with
   |mk s r2=>
    obtain⟨x,ok2⟩:=r2;cases ok2 with
    |false=>rfl
    |true=>
     dsimp only;cases h3:ea d x with
     |mk l r3=>
      obtain⟨y,e⟩:=r3;cases e with
      |false=>rfl
      |true=>
       obtain⟨t,u,z,A,m⟩:=sI h1;obtain⟨B,C,H,K,M,o⟩:=h_ h2;obtain⟨r1,r2,r3,r4,r5,r6⟩:=h_ h3;dsimp only;simp only[aY,ax];rw[sV (show gA y (d.size:az) (d.size:az)=ao by simp[gA];omega)];unfold jN.v;cases hE:gU.v k s l (d.extract y.toNat d.size)with
       |false=>rfl
       |true=>
        have j:jN.tu k s l (d.extract y.toNat d.size)=d:=by unfold jN.tu;rw[m,o,oY d (by omega) (by omega),r6,oY d (by omega) (by omega),oY d (by omega) (by omega)];exact sn d
        simp only[if_true,aY,ax,j,lT]
end j5
namespace tf
def r7(N:aN)(g f:Cj R):Cj R:=λa d e=>aT (ah (a<(e.length:az))) (bY a e.length<|aT ((p8 (j5.v (bn (av e a.toNat 0))))) (bw (fZ.c d (j5.v (bn (av e a.toNat 0))).1 (j5.v (bn (av e a.toNat 0))).2.1 (j5.v (bn (av e a.toNat 0))).2.2.1 (cq (j5.v (bn (av e a.toNat 0)))))<|g (bA (a+1)) (fZ.v d (j5.v (bn (av e a.toNat 0))).1 (j5.v (bn (av e a.toNat 0))).2.1 (j5.v (bn (av e a.toNat 0))).2.2.1 (cq (j5.v (bn (av e a.toNat 0))))) e)<|g (bA (a+1)) d e)<|f a d e
def l7(N:aN)(a:Cj R):aN->Cj R
 |0=>λ_ _ _=>ay
 |n+1=>r7 N (l7 N a n) a
def b(N:aN)(e:Row->aG R)(a:Row):aG R:=bw (fT.c a)<|aT (!fT.v a) (e (aR [Ck.s,Ck.i ak,Ck.i ak,Ck.s] 0))<|bw (ml.c a (aw #[aj 107,aj 101,aj 112,aj 116]))<|bw (tg.c (ml.v a (aw #[aj 107,aj 101,aj 112,aj 116])).1)<|l7 N (λ_ d _=>e d) N 0 (aR [Ck.s,Ck.i ak,Ck.i ak,Ck.s] 0) (tg.v (ml.v a (aw #[aj 107,aj 101,aj 112,aj 116])).1).1
def vo:=b cw λa=>ai a
def c:=kq vo
def v:=kA vo
def out:kt vo c v x:=kF
end tf
namespace jM
def r9(N:aN)(g:wX R)(j:Ib R)(k:wX R):wX R:=λa d e f h=>aT (ah (f<(a.length:az))) (bY f a.length<|bw (fI.c (jN.v (bn (av a f.toNat 0)) (bO (av a f.toNat 1)) (bO (av a f.toNat (1+1))) (bn (av a f.toNat (1+1+1)))).1)<|aT (!(jN.v (bn (av a f.toNat 0)) (bO (av a f.toNat 1)) (bO (av a f.toNat (1+1))) (bn (av a f.toNat (1+1+1)))).2) (j a aq e f (aR [Ck.i ak,Ck.s,Ck.s,Ck.s] 0) h)<|aT (!(fI.v (jN.v (bn (av a f.toNat 0)) (bO (av a f.toNat 1)) (bO (av a f.toNat (1+1))) (bn (av a f.toNat (1+1+1)))).1).2) (j a aq e f (aR [Ck.i ak,Ck.s,Ck.s,Ck.s] 0) h)<|bw (ah (e.size+(fI.v (jN.v (bn (av a f.toNat 0)) (bO (av a f.toNat 1)) (bO (av a f.toNat (1+1))) (bn (av a f.toNat (1+1+1)))).1).1.size<=4611686018427387904))<|g a d (e++(fI.v (jN.v (bn (av a f.toNat 0)) (bO (av a f.toNat 1)) (bO (av a f.toNat (1+1))) (bn (av a f.toNat (1+1+1)))).1).1) (bA (f+1)) h)<|k a d e f h
def l9(N:aN)(a:Ib R)(d:wX R):aN->wX R
 |0=>λ_ _ _ _ _=>ay
 |n+1=>r9 N (l9 N a d n) a d
def b(N:aN)(h:vU R)(a d:Row):aG R:=bw (fT.c a)<|aT (!fT.v a) (h (aR [Ck.i ak,Ck.s,Ck.s,Ck.s] 0) aq)<|bw (ml.c a (aw #[aj 110,aj 101,aj 119]))<|aT ((ml.v a (aw #[aj 110,aj 101,aj 119])).2) (l9 N (λ_ e _ _ f _=>h f e) (λ_ _ e _ f=>bw (b_ (f.length+(aC (aC (aC (aR [Ck.i ak,Ck.s,Ck.s,Ck.s] 3) 0 [.i ak 1,.s (aw #[aj 110,aj 101,aj 119]),.s e,.s ⟨#[]⟩]) 1 [.i ak 2,.s (aw #[aj 110,aj 101,aj 119]),.s ⟨#[]⟩,.s ⟨#[]⟩]) 2 [.i ak 3,.s (aw #[aj 110,aj 101,aj 119]),.s ⟨#[]⟩,.s (aw #[aj 107,aj 101,aj 112,aj 116])]).length) 56)<|h (f++aC (aC (aC (aR [Ck.i ak,Ck.s,Ck.s,Ck.s] 3) 0 [.i ak 1,.s (aw #[aj 110,aj 101,aj 119]),.s e,.s ⟨#[]⟩]) 1 [.i ak 2,.s (aw #[aj 110,aj 101,aj 119]),.s ⟨#[]⟩,.s ⟨#[]⟩]) 2 [.i ak 3,.s (aw #[aj 110,aj 101,aj 119]),.s ⟨#[]⟩,.s (aw #[aj 107,aj 101,aj 112,aj 116])]) ao) N d aq ⟨#[]⟩ 0 (aR [Ck.i ak,Ck.s,Ck.s,Ck.s] 0++aC (aR [Ck.i ak,Ck.s,Ck.s,Ck.s] 1) 0 [.i ak 4,.s (aw #[aj 110,aj 101,aj 119]),.s ⟨#[]⟩,.s ⟨#[]⟩]))<|l9 N (λ_ e _ _ f _=>h f e) (λ_ _ e _ f=>bw (b_ (f.length+(aC (aC (aC (aR [Ck.i ak,Ck.s,Ck.s,Ck.s] 3) 0 [.i ak 1,.s (aw #[aj 110,aj 101,aj 119]),.s e,.s ⟨#[]⟩]) 1 [.i ak 2,.s (aw #[aj 110,aj 101,aj 119]),.s ⟨#[]⟩,.s ⟨#[]⟩]) 2 [.i ak 3,.s (aw #[aj 110,aj 101,aj 119]),.s ⟨#[]⟩,.s (aw #[aj 107,aj 101,aj 112,aj 116])]).length) 56)<|h (f++aC (aC (aC (aR [Ck.i ak,Ck.s,Ck.s,Ck.s] 3) 0 [.i ak 1,.s (aw #[aj 110,aj 101,aj 119]),.s e,.s ⟨#[]⟩]) 1 [.i ak 2,.s (aw #[aj 110,aj 101,aj 119]),.s ⟨#[]⟩,.s ⟨#[]⟩]) 2 [.i ak 3,.s (aw #[aj 110,aj 101,aj 119]),.s ⟨#[]⟩,.s (aw #[aj 107,aj 101,aj 112,aj 116])]) ao) N d aq ⟨#[]⟩ 0 (aR [Ck.i ak,Ck.s,Ck.s,Ck.s] 0)
def vo:=b cw λa d=>ai (a,d)
def c:=js vo
def v:=jw vo
def out:ju vo c v x:=jA
end jM
namespace n5
def r4(N:aN)(g k:kH R):kH R:=λa d e f h i j l m o p q r s t=>aT (ah (e<(d.length:az))) (bY e d.length<|aT (gU.v (bn (av d e.toNat 0)) (bO (av d e.toNat 1)) (bO (av d e.toNat (1+1))) (bn (av d e.toNat (1+1+1)))) (bY e d.length<|aT (vm.v (bn (av d e.toNat 0)) (bO (av d e.toNat 1)) (bO (av d e.toNat (1+1))) (bn (av d e.toNat (1+1+1))) a) (bY e d.length<|pH zP.c zP.v j o p q r l s t m (bn (av d e.toNat 0)) (bO (av d e.toNat 1)) (bO (av d e.toNat (1+1))) (bn (av d e.toNat (1+1+1))) λu=>g a d (bA (e+1)) f h i u.1 (du u) (dP u) u.2.1 u.2.2.1 (cq u) (db u) (cC u) (dm u))<|g a d (bA (e+1)) f h i j l m o p q r s t)<|g a d (bA (e+1)) f h i j l m o p q r s t)<|k a d e f h i j l m o p q r s t
def l4(N:aN)(a:kH R):aN->kH R
 |0=>λ_ _ _ _ _ _ _ _ _ _ _ _ _ _ _=>ay
 |n+1=>r4 N (l4 N a n) a
def b(N:aN)(k:dn R):vR R:=λa d=>l4 N (λ_ _ _ _ _ _ e f h i j l m o p=>k e i j l m f o p h) N a d 0 0 0 0 a 0 0 [] [] [] ([]++aC (aR [Ck.l 3] 1) 0 [CV.l 3 (aR [Ck.i ak] (aP 16))]++aC (aR [Ck.l 3] 1) 0 [CV.l 3 (aR [Ck.i ak] (aP 16))]++aC (aR [Ck.l 3] 1) 0 [CV.l 3 (aR [Ck.i ak] (aP 16))]) [] []
def vo:=b cw λa d e f g h i j k=>ai (a,d,e,f,g,h,i,j,k)
def c:=js vo
def v:=jw vo
def out:ju vo c v x:=jA
end n5
namespace xF
def r7(N:aN)(g u k x:e_ R):e_ R:=λa d e f h i j l m o p q r s t=>aT (ah (a<(h.length:az))) (bY a h.length<|aT (vm.v (bn (av h a.toNat 0)) (bO (av h a.toNat 1)) (bO (av h a.toNat (1+1))) (bn (av h a.toNat (1+1+1))) d) (bY a h.length<|bw (b_ (i.length+(aC (aR [Ck.s,Ck.i ak,Ck.i ak,Ck.s] 1) 0 [.s (bn (av h a.toNat 0)),.i ak (bO (av h a.toNat 1)),.i ak (bO (av h a.toNat (1+1))),.s (bn (av h a.toNat (1+1+1)))]).length) 48)<|g (bA (a+1)) d e f h (i++aC (aR [Ck.s,Ck.i ak,Ck.i ak,Ck.s] 1) 0 [.s (bn (av h a.toNat 0)),.i ak (bO (av h a.toNat 1)),.i ak (bO (av h a.toNat (1+1))),.s (bn (av h a.toNat (1+1+1)))]) j l m o p q r s t)<|g (bA (a+1)) d e f h i j l m o p q r s t)<|k a d e f h i j l m o p q r s t
def r7a(N:aN)(g k x u:e_ R):e_ R:=λa d e f h i j l m o p q r s t=>aT (ah (a<(h.length:az))) (bY a h.length<|aT (vm.v (bn (av h a.toNat 0)) (bO (av h a.toNat 1)) (bO (av h a.toNat (1+1))) (bn (av h a.toNat (1+1+1))) d) (bY a h.length<|bw (b_ (i.length+(aC (aR [Ck.s,Ck.i ak,Ck.i ak,Ck.s] 1) 0 [.s (bn (av h a.toNat 0)),.i ak (bO (av h a.toNat 1)),.i ak (bO (av h a.toNat (1+1))),.s (bn (av h a.toNat (1+1+1)))]).length) 48)<|k (bA (a+1)) d e f h (i++aC (aR [Ck.s,Ck.i ak,Ck.i ak,Ck.s] 1) 0 [.s (bn (av h a.toNat 0)),.i ak (bO (av h a.toNat 1)),.i ak (bO (av h a.toNat (1+1))),.s (bn (av h a.toNat (1+1+1)))]) j l m o p q r s t)<|k (bA (a+1)) d e f h i j l m o p q r s t)<|u a d e f h i j l m o p q r s t
def l7a(N:aN)(a d:e_ R):aN->e_ R
 |0=>λ_ _ _ _ _ _ _ _ _ _ _ _ _ _ _=>ay
 |n+1=>r7a N (λo r s t u x y z e f h i j k m=>ay) (l7a N a d n) a d
def l7(N:aN)(a d:e_ R):aN->e_ R
 |0=>λ_ _ _ _ _ _ _ _ _ _ _ _ _ _ _=>ay
 |n+1=>r7 N (l7 N a d n) (l7a N a d n) a d
def b(N:aN)(M:iW R):iJ R:=λa d e f h i j l m o p q r s t u w=>iU xJ.c xJ.v o w λy=>aT y.2 (gb tf.c tf.v y.1 λz=>l7 N (λ_ α _ _ _ A _ _ _ _ _ _ B C H=>iU jM.c jM.v B A λK=>aT K.2 (iU qD.c qD.v B K.1 λk=>iU n5.c n5.v α A λx=>M x.1 x.2.1 x.2.2.1 (cq x) (db x) (du x) (cC x) (dm x) (dP x) k.1 C H)<|iU n5.c n5.v α A λk=>M k.1 k.2.1 k.2.2.1 (cq k) (db k) (du k) (cC k) (dm k) (dP k) B C H) (λ_ α _ _ _ A _ _ _ _ _ _ B C H=>iU jM.c jM.v B A λK=>aT K.2 (iU qD.c qD.v B K.1 λk=>iU n5.c n5.v α A λx=>M x.1 x.2.1 x.2.2.1 (cq x) (db x) (du x) (cC x) (dm x) (dP x) k.1 C H)<|iU n5.c n5.v α A λk=>M k.1 k.2.1 k.2.2.1 (cq k) (db k) (du k) (cC k) (dm k) (dP k) B C H) N 0 a i m z (aR [Ck.s,Ck.i ak,Ck.i ak,Ck.s] 0) d e f h j l y.1 p q)<|gb tf.c tf.v o λz=>l7a N (λ_ α _ _ _ A _ _ _ _ _ _ B C H=>iU jM.c jM.v B A λK=>aT K.2 (iU qD.c qD.v B K.1 λk=>iU n5.c n5.v α A λx=>M x.1 x.2.1 x.2.2.1 (cq x) (db x) (du x) (cC x) (dm x) (dP x) k.1 C H)<|iU n5.c n5.v α A λk=>M k.1 k.2.1 k.2.2.1 (cq k) (db k) (du k) (cC k) (dm k) (dP k) B C H) (λ_ α _ _ _ A _ _ _ _ _ _ B C H=>iU jM.c jM.v B A λK=>aT K.2 (iU qD.c qD.v B K.1 λk=>iU n5.c n5.v α A λx=>M x.1 x.2.1 x.2.2.1 (cq x) (db x) (du x) (cC x) (dm x) (dP x) k.1 C H)<|iU n5.c n5.v α A λk=>M k.1 k.2.1 k.2.2.1 (cq k) (db k) (du k) (cC k) (dm k) (dP k) B C H) N 0 a i m z (aR [Ck.s,Ck.i ak,Ck.i ak,Ck.s] 0) d e f h j l o p q
def vo:=b cw λa d e f g h i j k l m n=>ai (a,d,e,f,g,h,i,j,k,l,m,n)
def c:=EO vo
def v:=FF vo
def out:Fp vo c v x:=Jp
end xF
namespace VA
def b(k:mc R):iJ R:=λa d e f h i j l m o p q r s t u w=>aT (ah (r=1)) (mB xE.c xE.v a d e f h i j l m s t λy=>k (tn y) y.1 y.2.1 y.2.2.1 (cq y) (db y) (du y) (cC y) (dm y) (je y) o p q)<|aT (ah (r=2)) (mB D0.c D0.v a d e f h i j l m s t λy=>k (Bg.v (tn y)) y.1 y.2.1 y.2.2.1 (cq y) (db y) (du y) (cC y) (dm y) (je y) o p q)<|aT (ah (r=3)) (pI D3.c D3.v a d e f h i j l m o p q r s t u w λy=>k y.1 y.2.1 y.2.2.1 (cq y) (db y) (du y) (cC y) (dm y) (je y) (ni y) (jC y) (mC y) (ue y))<|aT (ah (r=4)) (jB D4.c D4.v a d e f h i j l m s λy=>k (Bg.v (tn y)) y.1 y.2.1 y.2.2.1 (cq y) (db y) (du y) (cC y) (dm y) (je y) o p q)<|aT (ah (r=5)) (jB se.c se.v a d e f h i j l m u λy=>k 0 y.1 y.2.1 y.2.2.1 (cq y) (db y) (du y) (cC y) (dm y) (dP y) o p q)<|aT (ah (r=6)) (jB vi.c vi.v a d e f h i j l m s λy=>k (Bg.v (ah ((y.2.2.2.2.2.2.2.1.length:az)<(l.length:az)))) y.1 y.2.1 y.2.2.1 (cq y) (db y) (du y) (cC y) (dm y) (dP y) o p q)<|aT (ah (r=7)) (pI xF.c xF.v a d e f h i j l m o p q r s t u w λy=>k 0 y.1 y.2.1 y.2.2.1 (cq y) (db y) (du y) (cC y) (dm y) (je y) (ni y) (jC y) (q9 y))<|k 0 a d e f h i j l m o p q
def vo:=b λa d e f g h i j k l m n o=>ai (a,d,e,f,g,h,i,j,k,l,m,n,o)
def c:=EO vo
def v:=FF vo
def out:Fp vo c v x:=Jp
end VA
namespace GN
def b(k:iW R):iJ R:=λa d e f h i j l m o p q r s t u w=>pI VA.c VA.v a d e f h i j l m o p q r s t u w λy=>bw (b_ ((aR [Ck.i ak] 0).length+y.2.2.2.2.2.2.2.2.2.2.2.1.length) 8)<|bw (b_ ((aR [Ck.i ak] 0++(mC y)).length+(aC (aR [Ck.i ak] 1) 0 [.i ak y.1]).length) 8)<|k y.2.1 y.2.2.1 (cq y) (db y) (du y) (cC y) (dm y) (je y) (ni y) (jC y) (aR [Ck.i ak] 0++(mC y)++aC (aR [Ck.i ak] 1) 0 [.i ak y.1]) (ue y)
def vo:=b λa d e f g h i j k l m n=>ai (a,d,e,f,g,h,i,j,k,l,m,n)
def c:=EO vo
def v:=FF vo
def out:Fp vo c v x:=Jp
end GN
namespace Qm
def r7(N:aN)(g A:ji R):ji R:=λa d e f h i j l m o p q r s t u w y=>aT (ah (d<a)) (SF Km.c Km.v e f h i o p q r j s t l u w y λz=>j7 H4.c H4.v (du z) (cC z) (dm z) 24 λα=>aT α.1 (j7 nM.c nM.v α.2.1 α.2.2.1 α.2.2.2 60 λk=>pI GN.c GN.v i (je z) (ni z) (jC z) (mC z) j (Nr z) (Ns z) l (Nt z) (Nu z) (Nv z) 7 0 ⟨#[]⟩ 0 (aC (aR [Ck.i ak] 1) 0 [.i ak k.1]) λx=>bw (b_ (m.length+(aC (aR [Ck.i ak,Ck.i ak,Ck.s,Ck.i ak,Ck.l 3] 1) 0 [.i ak 7,.i ak 0,.s ⟨#[]⟩,.i ak 0,CV.l 3 (aC (aR [Ck.i ak] 1) 0 [.i ak k.1])]).length) 64)<|g a (bA (d+1)) k.2.1 k.2.2.1 (dt k) x.1 (du x) (je x) (m++aC (aR [Ck.i ak,Ck.i ak,Ck.s,Ck.i ak,Ck.l 3] 1) 0 [.i ak 7,.i ak 0,.s ⟨#[]⟩,.i ak 0,CV.l 3 (aC (aR [Ck.i ak] 1) 0 [.i ak k.1])]) x.2.1 x.2.2.1 (cq x) (db x) (cC x) (dm x) (ni x) (jC x) (q9 x))<|pI GN.c GN.v i (je z) (ni z) (jC z) (mC z) j (Nr z) (Ns z) l (Nt z) (Nu z) (Nv z) z.1 z.2.1 z.2.2.1 (cq z) (db z) λk=>bw (b_ (m.length+(aC (aR [Ck.i ak,Ck.i ak,Ck.s,Ck.i ak,Ck.l 3] 1) 0 [.i ak z.1,.i ak z.2.1,.s z.2.2.1,.i ak (cq z),CV.l 3 (db z)]).length) 64)<|g a (bA (d+1)) α.2.1 α.2.2.1 α.2.2.2 k.1 (du k) (je k) (m++aC (aR [Ck.i ak,Ck.i ak,Ck.s,Ck.i ak,Ck.l 3] 1) 0 [.i ak z.1,.i ak z.2.1,.s z.2.2.1,.i ak (cq z),CV.l 3 (db z)]) k.2.1 k.2.2.1 (cq k) (db k) (cC k) (dm k) (ni k) (jC k) (q9 k))<|A a d e f h i j l m o p q r s t u w y
def l7(N:aN)(a:ji R):aN->ji R
 |0=>λ_ _ _ _ _ _ _ _ _ _ _ _ _ _ _ _ _ _=>ay
 |n+1=>r7 N (l7 N a n) a
def b(N:aN)(k:FT R):j3 R:=λa d e f=>aT (ah (bA (20+bA (cz (f.length:az) 6))>65)) (l7 N (λ_ _ h i j _ _ _ l _ _ _ _ _ _ _ _ _=>k l h i j) N 65 0 a d e 1 0 0 (aR [Ck.i ak,Ck.i ak,Ck.s,Ck.i ak,Ck.l 3] 0) [] [] [] ([]++aC (aR [Ck.l 3] 1) 0 [CV.l 3 (aR [Ck.i ak] (aP 16))]++aC (aR [Ck.l 3] 1) 0 [CV.l 3 (aR [Ck.i ak] (aP 16))]++aC (aR [Ck.l 3] 1) 0 [CV.l 3 (aR [Ck.i ak] (aP 16))]) [] [] [] [] [])<|l7 N (λ_ _ h i j _ _ _ l _ _ _ _ _ _ _ _ _=>k l h i j) N (bA (20+bA (cz (f.length:az) 6))) 0 a d e 1 0 0 (aR [Ck.i ak,Ck.i ak,Ck.s,Ck.i ak,Ck.l 3] 0) [] [] [] ([]++aC (aR [Ck.l 3] 1) 0 [CV.l 3 (aR [Ck.i ak] (aP 16))]++aC (aR [Ck.l 3] 1) 0 [CV.l 3 (aR [Ck.i ak] (aP 16))]++aC (aR [Ck.l 3] 1) 0 [CV.l 3 (aR [Ck.i ak] (aP 16))]) [] [] [] [] []
def vo:=b cw λa d e f=>ai (a,d,e,f)
def c:=vx vo
def v:=vD vo
def out:vB vo c v x:=wz
end Qm
namespace Vs
def b(d:az->aG R)(a:az):aG R:=aT (ah (a<10)) (d (bG a8 (bA (48+a))))<|d (bG a8 (bA (bA (97+a)-10)))
def v(a:az):az:=aT (ah (a<10)) (bG a8 (bA (48+a)))<|bG a8 (bA (bA (97+a)-10))
def eu(d:az->aG R)(a:az):b d a=d (v a):=by first|rfl|(unfold b v;simp only[cy];(repeat' split)<;>rfl)
end Vs
namespace pT
def r5(N:aN)(g f:Ma R):Ma R:=λa d e=>aT (a !=0) (aT (ah (bQ a 10<0)) (kE (bytesOf (aC (aR [Ck.i a8] 1) 0 [CV.i a8 (Vs.v (bA (0-bQ a 10)))])) e<|g (bA (cz a 10)) d (bytesOf (aC (aR [Ck.i a8] 1) 0 [CV.i a8 (Vs.v (bA (0-bQ a 10)))])++e))<|kE (bytesOf (aC (aR [Ck.i a8] 1) 0 [CV.i a8 (Vs.v (bQ a 10))])) e<|g (bA (cz a 10)) d (bytesOf (aC (aR [Ck.i a8] 1) 0 [CV.i a8 (Vs.v (bQ a 10))])++e))<|f a d e
def l5(N:aN)(a:Ma R):aN->Ma R
 |0=>λ_ _ _=>ay
 |n+1=>r5 N (l5 N a n) a
def b(N:aN)(f:ar->aG R)(a:az):aG R:=aT (ah (a=0)) (f (aw #[aj 48]))<|l5 N (λ_ d e=>aT d (bw (ah (bf (aw #[aj 45])+e.size<=4611686018427387904))<|f ((aw #[aj 45])++e))<|f e) N a (ah (a<0)) ⟨#[]⟩
def vo:=b cw λa=>ai a
def c:=kq vo
def v:=kA vo
def out:kt vo c v x:=kF
end pT
namespace MW
abbrev w8:Row:=aC (aC (aC (aC (aC (aC (aC (aC (aR [Ck.s] 8) 0 [CV.s (aw #[])]) 1 [CV.s (aw #[aj 97,aj 115,aj 107,aj 32])]) 2 [CV.s (aw #[aj 112,aj 97,aj 114,aj 116,aj 32])]) 3 [CV.s (aw #[aj 99,aj 108,aj 111,aj 115,aj 101,aj 32])]) 4 [CV.s (aw #[aj 98,aj 114,aj 101,aj 97,aj 107,aj 32])]) 5 [CV.s (aw #[aj 112,aj 97,aj 115,aj 115,aj 32])]) 6 [CV.s (aw #[aj 108,aj 101,aj 97,aj 118,aj 101,aj 32])]) 7 [CV.s (aw #[aj 102,aj 97,aj 108,aj 108])]
def r19(N:aN)(g k:my R):my R:=λa d e f h i j=>aT (ah (d<(j.length:az))) (bw (ah (a.size+bf (aw #[aj 32])<=4611686018427387904))<|bY d j.length<|gb pT.c pT.v (bO (av j d.toNat 0)) λl=>kE (a++(aw #[aj 32])) l<|g (a++(aw #[aj 32])++l) (bA (d+1)) e f h i j)<|k a d e f h i j
def W4(N:aN)(a:my R):aN->my R
 |0=>λ_ _ _ _ _ _ _=>ay
 |n+1=>r19 N (W4 N a n) a
def b(N:aN)(k:ar->aG R):qa R:=λa d e f h=>bY a w8.length<|aT (ah (a=1)) (gb pT.c pT.v d λi=>kE (bn (av w8 a.toNat 0)) i<|bw (ah ((bn (av w8 a.toNat 0)++i).size+bf (aw #[aj 32])<=4611686018427387904))<|kE (bn (av w8 a.toNat 0)++i++(aw #[aj 32])) e<|k (bn (av w8 a.toNat 0)++i++(aw #[aj 32])++e))<|aT (ah (a=2)) (aT (cD (aF e) (aF (aw #[aj 109,aj 111,aj 114,aj 101,aj 32]))) (gb pT.c pT.v d λi=>kE (bn (av w8 a.toNat 0)) i<|bw (ah ((bn (av w8 a.toNat 0)++i).size+bf (aw #[aj 32])<=4611686018427387904))<|bw (ah ((bn (av w8 a.toNat 0)++i++(aw #[aj 32])).size+bf (aw #[aj 109,aj 111,aj 114,aj 101])<=4611686018427387904))<|k (bn (av w8 a.toNat 0)++i++(aw #[aj 32])++(aw #[aj 109,aj 111,aj 114,aj 101])))<|gb pT.c pT.v d λi=>kE (bn (av w8 a.toNat 0)) i<|bw (ah ((bn (av w8 a.toNat 0)++i).size+bf (aw #[aj 32])<=4611686018427387904))<|kE (bn (av w8 a.toNat 0)++i++(aw #[aj 32])) e<|k (bn (av w8 a.toNat 0)++i++(aw #[aj 32])++e))<|aT (ah (a=3)) (gb pT.c pT.v d λi=>kE (bn (av w8 a.toNat 0)) i<|bw (ah ((bn (av w8 a.toNat 0)++i).size+bf (aw #[aj 32])<=4611686018427387904))<|gb pT.c pT.v f λj=>kE (bn (av w8 a.toNat 0)++i++(aw #[aj 32])) j<|k (bn (av w8 a.toNat 0)++i++(aw #[aj 32])++j))<|aT (ah (a=4)) (gb pT.c pT.v d λi=>kE (bn (av w8 a.toNat 0)) i<|k (bn (av w8 a.toNat 0)++i))<|aT (ah (a=6)) (gb pT.c pT.v d λi=>kE (bn (av w8 a.toNat 0)) i<|k (bn (av w8 a.toNat 0)++i))<|aT (ah (a=5)) (gb pT.c pT.v f λi=>kE (bn (av w8 a.toNat 0)) i<|k (bn (av w8 a.toNat 0)++i))<|W4 N (λi _ _ _ _ _ _=>k i) N (bn (av w8 a.toNat 0)) 0 a d e f h
def vo:=b cw λa=>ai a
def c:=Bl vo
def v:=Br vo
def out:Bo vo c v x:=De
end MW
namespace Qn
def r3(N:aN)(g h:gk R):gk R:=λa d e f=>aT (ah (e<a)) (bY e f.length<|g a d (bA (e+1)) (eH f e.toNat 0 [CV.i a8 d]))<|h a d e f
def l3(N:aN)(a:gk R):aN->gk R
 |0=>λ_ _ _ _=>ay
 |n+1=>r3 N (l3 N a n) a
def b(N:aN)(f:ar->aG R)(a d:az):aG R:=bw (ah (0<=a)&&ah (a=a)&&b_ a.toNat 1)<|l3 N (λ_ _ _ e=>bw (ah (e.length<=4611686018427387904))<|f (bytesOf e)) N a d 0 (aR [Ck.i a8] a.toNat)
def vo:=b cw λa=>ai a
def c:=js vo
def v:=jw vo
def out:ju vo c v x:=jA
end Qn
namespace JX
abbrev w8:Row:=aC (aC (aC (aC (aC (aC (aC (aC (aR [Ck.s] 8) 0 [CV.s (aw #[aj 97,aj 115,aj 107,aj 32,aj 49])]) 1 [CV.s (aw #[aj 112,aj 97,aj 114,aj 116,aj 32,aj 120,aj 32,aj 121])]) 2 [CV.s (aw #[aj 99,aj 108,aj 111,aj 115,aj 101,aj 32,aj 49])]) 3 [CV.s (aw #[aj 112,aj 97,aj 115,aj 115,aj 32,aj 45,aj 49])]) 4 [CV.s (aw #[aj 102,aj 97,aj 108,aj 108,aj 32,aj 120])]) 5 [CV.s (aw #[aj 119,aj 104,aj 97,aj 116])]) 6 [CV.s (aw #[aj 7])]) 7 [CV.s (aw #[aj 97,aj 115,aj 107,aj 32,aj 51,aj 49,aj 32,aj 47,aj 97])]
abbrev w6:Row:=aC (aC (aC (aC (aC (aC (aR [Ck.s] 6) 0 [CV.s (aw #[])]) 1 [CV.s (aw #[aj 10])]) 2 [CV.s (aw #[aj 35])]) 3 [CV.s (aw #[aj 112,aj 97,aj 115,aj 115,aj 32,aj 49])]) 4 [CV.s (aw #[aj 102,aj 97,aj 108,aj 108,aj 32,aj 49,aj 32,aj 50,aj 32,aj 51,aj 32,aj 52,aj 32,aj 53,aj 10])]) 5 [CV.s (aw #[aj 112,aj 97,aj 115,aj 115,aj 32,aj 48,aj 49,aj 10])]
abbrev w4:Row:=aC (aC (aC (aC (aR [Ck.s] 4) 0 [CV.s (aw #[aj 10])]) 1 [CV.s (aw #[aj 32,aj 32,aj 10])]) 2 [CV.s (aw #[aj 35,aj 32,aj 97,aj 32,aj 119,aj 111,aj 114,aj 100,aj 10])]) 3 [CV.s (aw #[aj 32,aj 32,aj 35,aj 32,aj 98,aj 10])]
def r29(N:aN)(g e:Cn R):Cn R:=λa d=>aT (ah (d<90)) (bw (ah (a.size+bf (aw #[aj 10])<=4611686018427387904))<|g (a++(aw #[aj 10])) (bA (d+1)))<|e a d
def l29(N:aN)(a:Cn R):aN->Cn R
 |0=>λ_ _=>ay
 |n+1=>r29 N (l29 N a n) a
def r24(N:aN)(g e:Cn R):Cn R:=λa d=>aT (ah (d<60)) (bw (ah (a.size+bf (aw #[aj 112,aj 97,aj 115,aj 115,aj 32,aj 49,aj 10])<=4611686018427387904))<|g (a++(aw #[aj 112,aj 97,aj 115,aj 115,aj 32,aj 49,aj 10])) (bA (d+1)))<|e a d
def l24(N:aN)(a:Cn R):aN->Cn R
 |0=>λ_ _=>ay
 |n+1=>r24 N (l24 N a n) a
def r7(N:aN)(g j:qa R):qa R:=λa d e f h=>aT (ah (f<(h.length:az))) (aT (ah (bQ (bA (bA (f*7)+d)) 17=0)) (bY (bQ d 4) w4.length<|kE e (bn (av w4 (bQ d 4).toNat 0))<|bY f h.length<|ng MW.c MW.v (bO (av h f.toNat 0)) (bO (av h f.toNat 1)) (bn (av h f.toNat (1+1))) (bO (av h f.toNat (1+1+1))) (jd (av h f.toNat (1+1+1+1))) λi=>aT (ah (f=d)) (bY (bQ d 8) w8.length<|kE (e++bn (av w4 (bQ d 4).toNat 0)) (bn (av w8 (bQ d 8).toNat 0))<|bw (ah ((e++bn (av w4 (bQ d 4).toNat 0)++bn (av w8 (bQ d 8).toNat 0)).size+bf (aw #[aj 10])<=4611686018427387904))<|g a d (e++bn (av w4 (bQ d 4).toNat 0)++bn (av w8 (bQ d 8).toNat 0)++(aw #[aj 10])) (bA (f+1)) h)<|kE (e++bn (av w4 (bQ d 4).toNat 0)) i<|bw (ah ((e++bn (av w4 (bQ d 4).toNat 0)++i).size+bf (aw #[aj 10])<=4611686018427387904))<|g a d (e++bn (av w4 (bQ d 4).toNat 0)++i++(aw #[aj 10])) (bA (f+1)) h)<|bY f h.length<|ng MW.c MW.v (bO (av h f.toNat 0)) (bO (av h f.toNat 1)) (bn (av h f.toNat (1+1))) (bO (av h f.toNat (1+1+1))) (jd (av h f.toNat (1+1+1+1))) λi=>aT (ah (f=d)) (bY (bQ d 8) w8.length<|kE e (bn (av w8 (bQ d 8).toNat 0))<|bw (ah ((e++bn (av w8 (bQ d 8).toNat 0)).size+bf (aw #[aj 10])<=4611686018427387904))<|g a d (e++bn (av w8 (bQ d 8).toNat 0)++(aw #[aj 10])) (bA (f+1)) h)<|kE e i<|bw (ah ((e++i).size+bf (aw #[aj 10])<=4611686018427387904))<|g a d (e++i++(aw #[aj 10])) (bA (f+1)) h)<|j a d e f h
def l7(N:aN)(a:qa R):aN->qa R
 |0=>λ_ _ _ _ _=>ay
 |n+1=>r7 N (l7 N a n) a
def b(N:aN)(k:ar->aG R)(a:Row):aG R:=gb Ql.c Ql.v a λd=>j7 nM.c nM.v d.1 d.2.1 d.2.2 30 λe=>j7 nM.c nM.v e.2.1 e.2.2.1 (dt e) 200 λf=>j7 Qm.c Qm.v f.2.1 f.2.2.1 (dt f) a λh=>l7 N (λi j l _ _=>aT (ah (i=0)) (bw (ah (bf (aw #[aj 35,aj 32,aj 102,aj 105,aj 114,aj 115,aj 116,aj 10])+l.size<=4611686018427387904))<|k ((aw #[aj 35,aj 32,aj 102,aj 105,aj 114,aj 115,aj 116,aj 10])++l))<|aT (ah (i=1)) (bY (bQ j 6) w6.length<|k (bn (av w6 (bQ j 6).toNat 0)))<|aT (ah (i=2)) (bw (gA 0 (bA ((l.size:az)-1)) (l.size:az))<|k (bx l (aP 0) (bA ((l.size:az)-1)).toNat))<|aT (ah (i=3)) (l24 N (λm _=>k m) N l 0)<|aT (ah (i=4)) (l29 N (λm _=>k m) N l 0)<|aT (ah (i=5)) (aT (ah ((l.size:az)<3000)) (bw (ah (l.size+bf (aw #[aj 35])<=4611686018427387904))<|iU Qn.c Qn.v (bA (bA (bA (3000-(l.size:az))-1)+bQ j 2)) 32 λm=>kE (l++(aw #[aj 35])) m<|k (l++(aw #[aj 35])++m))<|k l)<|k l) N e.1 f.1 ⟨#[]⟩ 0 h.1
def vo:=b cw λa=>ai a
def c:=kq vo
def v:=kA vo
def out:kt vo c v x:=kF
end JX
namespace U9
def b(e:ar->aG R)(a:Row):aG R:=gb JX.c JX.v a λd=>e d
def vo:=b λa=>ai a
def c:=kq vo
def v:=kA vo
def out:kt vo c v x:=kF
end U9
namespace MU
def r4(N:aN)(g h:gZ R):gZ R:=λa d e f=>aT (ah (e<(a.size:az))) (bw (ah (0<=e)&&ah (e<(a.size:az)))<|aT (ah ((↑(fJ a e.toNat):az)=10)) (bw (gA d e (a.size:az))<|bw (b_ (f.length+(aC (aR [.s] 1) 0 [.s (bx a d.toNat e.toNat)]).length) 16)<|g a (bA (e+1)) (bA (e+1)) (f++aC (aR [.s] 1) 0 [.s (bx a d.toNat e.toNat)]))<|g a d (bA (e+1)) f)<|h a d e f
def l4(N:aN)(a:gZ R):aN->gZ R
 |0=>λ_ _ _ _=>ay
 |n+1=>r4 N (l4 N a n) a
def b(N:aN)(h:Row->aG R)(a:ar):aG R:=l4 N (λd e _ f=>aT (ah (e<(d.size:az))) (bw (gA e (d.size:az) (d.size:az))<|bw (b_ (f.length+(aC (aR [.s] 1) 0 [.s (bx d e.toNat (d.size:az).toNat)]).length) 16)<|h (f++aC (aR [.s] 1) 0 [.s (bx d e.toNat (d.size:az).toNat)]))<|h f) N a 0 0 (aR [.s] 0)
def vo:=b cw λa=>ai a
def c:=kq vo
def v:=kA vo
def out:kt vo c v x:=kF
end MU
namespace nL
def r6(N:aN)(g:w9 R)(i:Ic R)(j:w9 R):w9 R:=λa d e f h=>aT (ah (f<=(a.size:az))) (aT (ah (f<(a.size:az))) (bw (ah (0<=f)&&ah (f<(a.size:az)))<|aT (ah ((↑(fJ a f.toNat):az)<32)) (i a aq e f (aR [.s] 0) h)<|bw (ah (0<=f)&&ah (f<(a.size:az)))<|aT (ah ((↑(fJ a f.toNat):az)>126)) (i a aq e f (aR [.s] 0) h)<|aT (ah (f<(a.size:az))) (bw (ah (0<=f)&&ah (f<(a.size:az)))<|aT ((↑(fJ a f.toNat):az) !=32) (g a d e (bA (f+1)) h)<|aT (ah (e<f)) (bw (gA e f (a.size:az))<|bw (b_ (h.length+(aC (aR [.s] 1) 0 [.s (bx a e.toNat f.toNat)]).length) 16)<|g a d (bA (f+1)) (bA (f+1)) (h++aC (aR [.s] 1) 0 [.s (bx a e.toNat f.toNat)]))<|g a d (bA (f+1)) (bA (f+1)) h)<|aT (ah (e<f)) (bw (gA e f (a.size:az))<|bw (b_ (h.length+(aC (aR [.s] 1) 0 [.s (bx a e.toNat f.toNat)]).length) 16)<|g a d (bA (f+1)) (bA (f+1)) (h++aC (aR [.s] 1) 0 [.s (bx a e.toNat f.toNat)]))<|g a d (bA (f+1)) (bA (f+1)) h)<|aT (ah (f<(a.size:az))) (bw (ah (0<=f)&&ah (f<(a.size:az)))<|aT ((↑(fJ a f.toNat):az) !=32) (g a d e (bA (f+1)) h)<|aT (ah (e<f)) (bw (gA e f (a.size:az))<|bw (b_ (h.length+(aC (aR [.s] 1) 0 [.s (bx a e.toNat f.toNat)]).length) 16)<|g a d (bA (f+1)) (bA (f+1)) (h++aC (aR [.s] 1) 0 [.s (bx a e.toNat f.toNat)]))<|g a d (bA (f+1)) (bA (f+1)) h)<|aT (ah (e<f)) (bw (gA e f (a.size:az))<|bw (b_ (h.length+(aC (aR [.s] 1) 0 [.s (bx a e.toNat f.toNat)]).length) 16)<|g a d (bA (f+1)) (bA (f+1)) (h++aC (aR [.s] 1) 0 [.s (bx a e.toNat f.toNat)]))<|g a d (bA (f+1)) (bA (f+1)) h)<|j a d e f h
def l6(N:aN)(a:Ic R)(d:w9 R):aN->w9 R
 |0=>λ_ _ _ _ _=>ay
 |n+1=>r6 N (l6 N a d n) a d
def b(N:aN)(f:vU R)(a:ar):aG R:=aT (ah ((a.size:az)>600)) (f (aR [.s] 0) aq)<|l6 N (λ_ d _ _ e _=>f e d) (λ_ _ _ _ d=>aT (ah ((d.length:az)>10)) (f (aR [.s] 0) aq)<|f d ao) N a aq 0 0 (aR [.s] 0)
def vo:=b cw λa d=>ai (a,d)
def c:=kq vo
def v:=kA vo
def out:kt vo c v x:=kF
end nL
namespace kl
def r5(N:aN)(g i j:BC R):BC R:=λa d e f h=>aT (ah (h<(a.size:az))) (bw (ah (0<=h)&&ah (h<(a.size:az)))<|aT (ah ((↑(fJ a h.toNat):az)<48)) (i a 0 aq f h)<|bw (ah (0<=h)&&ah (h<(a.size:az)))<|aT (ah ((↑(fJ a h.toNat):az)>57)) (i a 0 aq f h)<|bw (ah (0<=h)&&ah (h<(a.size:az)))<|g a d e (bA (bA (bA (10*f)+bA (↑(fJ a h.toNat):az))-48)) (bA (h+1)))<|j a d e f h
def l5(N:aN)(a d:BC R):aN->BC R
 |0=>λ_ _ _ _ _=>ay
 |n+1=>r5 N (l5 N a d n) a d
def b(N:aN)(f:VW R)(a:ar):aG R:=aT (ah ((a.size:az)>10)) (f 0 aq)<|l5 N (λ_ d e _ _=>f d e) (λd _ _ e _=>aT (ah (e>1000000000)) (f 0 aq)<|bw (pT.c e)<|aT (!List.beq (pT.v e).toList (aF d)) (f 0 aq)<|f e ao) N a 0 aq 0 0
def vo:=b cw λa d=>ai (a,d)
def c:=kq vo
def v:=kA vo
def out:kt vo c v x:=kF
end kl
namespace o6
def r13(N:aN)(g:ij R)(r:gY R)(k:ij R)(s:gY R):ij R:=λa d e f h i j l m o p q=>aT (ah (f<(a.length:az))) (aT d (bY f a.length<|bw (kl.c (bn (av a f.toNat 0)))<|r a (kl.v (bn (av a f.toNat 0))).2 e (bA (f+1)) h i j l m o p q ([]++aC (aR [Ck.i ak] 1) 0 [.i ak (kl.v (bn (av a f.toNat 0))).1]))<|k a d e f h i j l m o p q)<|k a d e f h i j l m o p q
def Ju(N:aN)(g:ij R)(s:gY R)(t:ij R)(k:gY R):gY R:=λa d e f h i j l m o p q r=>aT (ah (f<(a.length:az))) (aT d (bY f a.length<|bw (kl.c (bn (av a f.toNat 0)))<|bw (b_ (r.length+(aC (aR [Ck.i ak] 1) 0 [.i ak (kl.v (bn (av a f.toNat 0))).1]).length) 8)<|s a (kl.v (bn (av a f.toNat 0))).2 e (bA (f+1)) h i j l m o p q (r++aC (aR [Ck.i ak] 1) 0 [.i ak (kl.v (bn (av a f.toNat 0))).1]))<|k a d e f h i j l m o p q r)<|k a d e f h i j l m o p q r
def Aa(N:aN)(a:ij R)(d:gY R):aN->gY R
 |0=>λ_ _ _ _ _ _ _ _ _ _ _ _ _=>ay
 |n+1=>Ju N (λu e f h i j k m o r s t=>ay) (Aa N a d n) a d
def l13(N:aN)(a:ij R)(d:gY R):aN->ij R
 |0=>λ_ _ _ _ _ _ _ _ _ _ _ _=>ay
 |n+1=>r13 N (l13 N a d n) (Aa N a d n) a d
def r4(N:aN)(g k:mv R)(x:Ia R)(y:Ey R)(z:mv R):mv R:=λa d e f h i j l m=>aT (ah (e<(l.length:az))) (bw (ah (0<(a.length:az)))<|bY e l.length<|aT (!List.beq (bn (av a (aP 0) 0)).toList (bn (av l e.toNat 0)).toList) (g a d (bA (e+1)) f h i j l m)<|bY e m.length<|aT (ah (bO (av m e.toNat 0)>0)) (bY e m.length<|aT ((a.length:az) !=bO (av m e.toNat 0)) (g a d (bA (e+1)) f h i j l m)<|aT (ah (bA (e+1)=1)) (bw (ah (1<(a.length:az)))<|bw (kl.c (bn (av a (aP 1) 0)))<|bw (ah (2<(a.length:az)))<|aT ((kl.v (bn (av a (aP 1) 0))).2) (k a ao e (bA (e+1)) (kl.v (bn (av a (aP 1) 0))).1 (bn (av a (aP 2) 0)) 0 l m)<|k a aq e (bA (e+1)) (kl.v (bn (av a (aP 1) 0))).1 (bn (av a (aP 2) 0)) 0 l m)<|aT (ah (bA (e+1)=2)) (bw (ah (1<(a.length:az)))<|bw (kl.c (bn (av a (aP 1) 0)))<|bw (ah (2<(a.length:az)))<|aT ((kl.v (bn (av a (aP 1) 0))).2) (k a ao e (bA (e+1)) (kl.v (bn (av a (aP 1) 0))).1 (bn (av a (aP 2) 0)) 0 l m)<|k a aq e (bA (e+1)) (kl.v (bn (av a (aP 1) 0))).1 (bn (av a (aP 2) 0)) 0 l m)<|aT (ah (bA (e+1)=3)) (bw (ah (1<(a.length:az)))<|bw (kl.c (bn (av a (aP 1) 0)))<|bw (ah (2<(a.length:az)))<|bw (kl.c (bn (av a (aP 2) 0)))<|aT ((kl.v (bn (av a (aP 1) 0))).2) (k a (kl.v (bn (av a (aP 2) 0))).2 e (bA (e+1)) (kl.v (bn (av a (aP 1) 0))).1 ⟨#[]⟩ (kl.v (bn (av a (aP 2) 0))).1 l m)<|k a aq e (bA (e+1)) (kl.v (bn (av a (aP 1) 0))).1 ⟨#[]⟩ (kl.v (bn (av a (aP 2) 0))).1 l m)<|aT (ah (bA (e+1)=4)) (bw (ah (1<(a.length:az)))<|bw (kl.c (bn (av a (aP 1) 0)))<|aT ((kl.v (bn (av a (aP 1) 0))).2) (k a ao e (bA (e+1)) (kl.v (bn (av a (aP 1) 0))).1 ⟨#[]⟩ 0 l m)<|k a aq e (bA (e+1)) (kl.v (bn (av a (aP 1) 0))).1 ⟨#[]⟩ 0 l m)<|aT (ah (bA (e+1)=6)) (bw (ah (1<(a.length:az)))<|bw (kl.c (bn (av a (aP 1) 0)))<|aT ((kl.v (bn (av a (aP 1) 0))).2) (k a ao e (bA (e+1)) (kl.v (bn (av a (aP 1) 0))).1 ⟨#[]⟩ 0 l m)<|k a aq e (bA (e+1)) (kl.v (bn (av a (aP 1) 0))).1 ⟨#[]⟩ 0 l m)<|aT (ah (bA (e+1)=5)) (bw (ah (1<(a.length:az)))<|bw (kl.c (bn (av a (aP 1) 0)))<|aT ((kl.v (bn (av a (aP 1) 0))).2) (k a ao e (bA (e+1)) 0 ⟨#[]⟩ (kl.v (bn (av a (aP 1) 0))).1 l m)<|k a aq e (bA (e+1)) 0 ⟨#[]⟩ (kl.v (bn (av a (aP 1) 0))).1 l m)<|l13 N (λo p q _ _ _ _ _ r s t u=>aT p (x o q r s t u)<|x o aq r s t u) (λo p q _ _ _ _ _ r s t u w=>aT p (y o q r s t u w)<|y o aq r s t u w) N a ao ao 1 f h i j (bA (e+1)) 0 ⟨#[]⟩ 0)<|aT (ah (bA (e+1)=1)) (bw (ah (1<(a.length:az)))<|bw (kl.c (bn (av a (aP 1) 0)))<|bw (ah (2<(a.length:az)))<|aT ((kl.v (bn (av a (aP 1) 0))).2) (k a ao e (bA (e+1)) (kl.v (bn (av a (aP 1) 0))).1 (bn (av a (aP 2) 0)) 0 l m)<|k a aq e (bA (e+1)) (kl.v (bn (av a (aP 1) 0))).1 (bn (av a (aP 2) 0)) 0 l m)<|aT (ah (bA (e+1)=2)) (bw (ah (1<(a.length:az)))<|bw (kl.c (bn (av a (aP 1) 0)))<|bw (ah (2<(a.length:az)))<|aT ((kl.v (bn (av a (aP 1) 0))).2) (k a ao e (bA (e+1)) (kl.v (bn (av a (aP 1) 0))).1 (bn (av a (aP 2) 0)) 0 l m)<|k a aq e (bA (e+1)) (kl.v (bn (av a (aP 1) 0))).1 (bn (av a (aP 2) 0)) 0 l m)<|aT (ah (bA (e+1)=3)) (bw (ah (1<(a.length:az)))<|bw (kl.c (bn (av a (aP 1) 0)))<|bw (ah (2<(a.length:az)))<|bw (kl.c (bn (av a (aP 2) 0)))<|aT ((kl.v (bn (av a (aP 1) 0))).2) (k a (kl.v (bn (av a (aP 2) 0))).2 e (bA (e+1)) (kl.v (bn (av a (aP 1) 0))).1 ⟨#[]⟩ (kl.v (bn (av a (aP 2) 0))).1 l m)<|k a aq e (bA (e+1)) (kl.v (bn (av a (aP 1) 0))).1 ⟨#[]⟩ (kl.v (bn (av a (aP 2) 0))).1 l m)<|aT (ah (bA (e+1)=4)) (bw (ah (1<(a.length:az)))<|bw (kl.c (bn (av a (aP 1) 0)))<|aT ((kl.v (bn (av a (aP 1) 0))).2) (k a ao e (bA (e+1)) (kl.v (bn (av a (aP 1) 0))).1 ⟨#[]⟩ 0 l m)<|k a aq e (bA (e+1)) (kl.v (bn (av a (aP 1) 0))).1 ⟨#[]⟩ 0 l m)<|aT (ah (bA (e+1)=6)) (bw (ah (1<(a.length:az)))<|bw (kl.c (bn (av a (aP 1) 0)))<|aT ((kl.v (bn (av a (aP 1) 0))).2) (k a ao e (bA (e+1)) (kl.v (bn (av a (aP 1) 0))).1 ⟨#[]⟩ 0 l m)<|k a aq e (bA (e+1)) (kl.v (bn (av a (aP 1) 0))).1 ⟨#[]⟩ 0 l m)<|aT (ah (bA (e+1)=5)) (bw (ah (1<(a.length:az)))<|bw (kl.c (bn (av a (aP 1) 0)))<|aT ((kl.v (bn (av a (aP 1) 0))).2) (k a ao e (bA (e+1)) 0 ⟨#[]⟩ (kl.v (bn (av a (aP 1) 0))).1 l m)<|k a aq e (bA (e+1)) 0 ⟨#[]⟩ (kl.v (bn (av a (aP 1) 0))).1 l m)<|l13 N (λo p q _ _ _ _ _ r s t u=>aT p (x o q r s t u)<|x o aq r s t u) (λo p q _ _ _ _ _ r s t u w=>aT p (y o q r s t u w)<|y o aq r s t u w) N a ao ao 1 f h i j (bA (e+1)) 0 ⟨#[]⟩ 0)<|z a d e f h i j l m
def l4(N:aN)(a:mv R)(d:Ia R)(e:Ey R)(f:mv R):aN->mv R
 |0=>λ_ _ _ _ _ _ _ _ _=>ay
 |n+1=>r4 N (l4 N a d e f n) a d e f
def b(N:aN)(k:Ci R)(a:Row):aG R:=l4 N (λ_ d _ e f h i _ _=>k e f h i [] d) (λ_ d e f h i=>k e f h i [] d) (λ_ d e f h i j=>k e f h i j d) (λ_ _ _ _ _ _ _ _ _=>k 0 0 ⟨#[]⟩ 0 [] aq) N a aq 0 0 0 ⟨#[]⟩ 0 (aC (aC (aC (aC (aC (aC (aC (aR [.s] 7) 0 [.s (aw #[aj 97,aj 115,aj 107])]) 1 [.s (aw #[aj 112,aj 97,aj 114,aj 116])]) 2 [.s (aw #[aj 99,aj 108,aj 111,aj 115,aj 101])]) 3 [.s (aw #[aj 98,aj 114,aj 101,aj 97,aj 107])]) 4 [.s (aw #[aj 112,aj 97,aj 115,aj 115])]) 5 [.s (aw #[aj 108,aj 101,aj 97,aj 118,aj 101])]) 6 [.s (aw #[aj 102,aj 97,aj 108,aj 108])]) (aC (aC (aC (aC (aC (aC (aC (aR [Ck.i ak] 7) 0 [.i ak 3]) 1 [.i ak 3]) 2 [.i ak 3]) 3 [.i ak 2]) 4 [.i ak 2]) 5 [.i ak 2]) 6 [.i ak 0])
def vo:=b cw λa d e f g h=>ai (a,d,e,f,g,h)
def c:=kq vo
def v:=kA vo
def out:kt vo c v x:=kF
end o6
namespace ZG
def b(i:aZ->aG R)(a d:az)(e:ar)(f:az)(h:Row):aG R:=aT (kI.v a 1 7) (aT (kI.v d 0 30) (aT (ah ((e.size:az)<=60)) (aT (ah (f≥0)) (i (ah ((h.length:az)<=4)))<|i aq)<|i aq)<|i aq)<|i aq
def v(a a1:az)(a2:ar)(a3:az)(a4:Row):aZ:=aT (kI.v a 1 7) (aT (kI.v a1 0 30) (aT (ah ((a2.size:az)<=60)) (aT (ah (a3≥0)) (ah ((a4.length:az)<=4)) aq) aq) aq) aq
def eu(d:aZ->aG R)(a a1:az)(a2:ar)(a3:az)(a4:Row):b d a a1 a2 a3 a4=d (v a a1 a2 a3 a4):=by first|rfl|(unfold b v;simp only[cy];(repeat' split)<;>rfl)
end ZG
namespace BO
def r7(N:aN)(g j k:Bw R):Bw R:=λa d e f h=>aT (ah (d<(f.length:az))) (bY d f.length<|bw (nL.c (bn (av f d.toNat 0)))<|aT ((nL.v (bn (av f d.toNat 0))).2) (aT (ah (((nL.v (bn (av f d.toNat 0))).1.length:az)=0)) (g a (bA (d+1)) e f h)<|bw (ah (0<((nL.v (bn (av f d.toNat 0))).1.length:az)))<|bw (ah (0<((bn (av (nL.v (bn (av f d.toNat 0))).1 (aP 0) 0)).size:az)))<|aT (ah ((↑(fJ (bn (av (nL.v (bn (av f d.toNat 0))).1 (aP 0) 0)) (aP 0)):az)=35)) (g a (bA (d+1)) e f h)<|aT (!(nL.v (bn (av f d.toNat 0))).2) (j (bA (d+1)) d e f h)<|bw (o6.c (nL.v (bn (av f d.toNat 0))).1)<|aT (!(th (o6.v (nL.v (bn (av f d.toNat 0))).1))) (j (bA (d+1)) d e f h)<|aT (!ZG.v (o6.v (nL.v (bn (av f d.toNat 0))).1).1 (o6.v (nL.v (bn (av f d.toNat 0))).1).2.1 (o6.v (nL.v (bn (av f d.toNat 0))).1).2.2.1 (cq (o6.v (nL.v (bn (av f d.toNat 0))).1)) (db (o6.v (nL.v (bn (av f d.toNat 0))).1))) (j (bA (d+1)) d e f h)<|aT (ah ((h.length:az)=70)) (j (bA (d+1)) d e f h)<|bw (b_ (h.length+(aC (aR [Ck.i ak,Ck.i ak,Ck.s,Ck.i ak,Ck.l 3] 1) 0 [.i ak (o6.v (nL.v (bn (av f d.toNat 0))).1).1,.i ak (o6.v (nL.v (bn (av f d.toNat 0))).1).2.1,.s (o6.v (nL.v (bn (av f d.toNat 0))).1).2.2.1,.i ak (cq (o6.v (nL.v (bn (av f d.toNat 0))).1)),CV.l 3 (db (o6.v (nL.v (bn (av f d.toNat 0))).1))]).length) 64)<|g a (bA (d+1)) e f (h++aC (aR [Ck.i ak,Ck.i ak,Ck.s,Ck.i ak,Ck.l 3] 1) 0 [.i ak (o6.v (nL.v (bn (av f d.toNat 0))).1).1,.i ak (o6.v (nL.v (bn (av f d.toNat 0))).1).2.1,.s (o6.v (nL.v (bn (av f d.toNat 0))).1).2.2.1,.i ak (cq (o6.v (nL.v (bn (av f d.toNat 0))).1)),CV.l 3 (db (o6.v (nL.v (bn (av f d.toNat 0))).1))]))<|aT (!(nL.v (bn (av f d.toNat 0))).2) (j (bA (d+1)) d e f h)<|bw (o6.c (nL.v (bn (av f d.toNat 0))).1)<|aT (!(th (o6.v (nL.v (bn (av f d.toNat 0))).1))) (j (bA (d+1)) d e f h)<|aT (!ZG.v (o6.v (nL.v (bn (av f d.toNat 0))).1).1 (o6.v (nL.v (bn (av f d.toNat 0))).1).2.1 (o6.v (nL.v (bn (av f d.toNat 0))).1).2.2.1 (cq (o6.v (nL.v (bn (av f d.toNat 0))).1)) (db (o6.v (nL.v (bn (av f d.toNat 0))).1))) (j (bA (d+1)) d e f h)<|aT (ah ((h.length:az)=70)) (j (bA (d+1)) d e f h)<|bw (b_ (h.length+(aC (aR [Ck.i ak,Ck.i ak,Ck.s,Ck.i ak,Ck.l 3] 1) 0 [.i ak (o6.v (nL.v (bn (av f d.toNat 0))).1).1,.i ak (o6.v (nL.v (bn (av f d.toNat 0))).1).2.1,.s (o6.v (nL.v (bn (av f d.toNat 0))).1).2.2.1,.i ak (cq (o6.v (nL.v (bn (av f d.toNat 0))).1)),CV.l 3 (db (o6.v (nL.v (bn (av f d.toNat 0))).1))]).length) 64)<|g a (bA (d+1)) e f (h++aC (aR [Ck.i ak,Ck.i ak,Ck.s,Ck.i ak,Ck.l 3] 1) 0 [.i ak (o6.v (nL.v (bn (av f d.toNat 0))).1).1,.i ak (o6.v (nL.v (bn (av f d.toNat 0))).1).2.1,.s (o6.v (nL.v (bn (av f d.toNat 0))).1).2.2.1,.i ak (cq (o6.v (nL.v (bn (av f d.toNat 0))).1)),CV.l 3 (db (o6.v (nL.v (bn (av f d.toNat 0))).1))]))<|k a d e f h
def l7(N:aN)(a d:Bw R):aN->Bw R
 |0=>λ_ _ _ _ _=>ay
 |n+1=>r7 N (l7 N a d n) a d
def b(N:aN)(f:nY R)(a:ar):aG R:=aT (ah ((a.size:az)>3000)) (f (aR [Ck.i ak,Ck.i ak,Ck.s,Ck.i ak,Ck.l 3] 0) (-1))<|bw (MU.c a)<|aT (ah (((MU.v a).length:az)>90)) (f (aR [Ck.i ak,Ck.i ak,Ck.s,Ck.i ak,Ck.l 3] 0) (-1))<|bw (MU.c a)<|l7 N (λd _ e _ _=>f e d) (λ_ _ _ _ d=>f d 0) N 0 0 (aR [Ck.i ak,Ck.i ak,Ck.s,Ck.i ak,Ck.l 3] 0) (MU.v a) (aR [Ck.i ak,Ck.i ak,Ck.s,Ck.i ak,Ck.l 3] 0)
def vo:=b cw λa d=>ai (a,d)
def c:=kq vo
def v:=kA vo
def out:kt vo c v x:=kF
end BO
namespace AF
def c(s t:ar):aZ:=e6 s.size 4000000000&&bN t.size 1
def v(s t:ar):Row:=(_root_.Go.Lib.splitB t 0 (_root_.Go.Lib.countB s t) s).map λx=>[CV.s x]
end AF
namespace kP
def b(f:aZ->aG R)(a d e:az):aG R:=aT (ah (a≥d)) (f (ah (a<=e)))<|f aq
def v(a a1 a2:az):aZ:=aT (ah (a≥a1)) (ah (a<=a2)) aq
def eu(d:aZ->aG R)(a a1 a2:az):b d a a1 a2=d (v a a1 a2):=by first|rfl|(unfold b v;simp only[cy];(repeat' split)<;>rfl)
end kP
namespace pU
def Yz(N:aN)(g h:j3 R):j3 R:=λa d e f=>aT (ah (e<d)) (bY e a.length<|aT (!List.beq (bn (av a e.toNat 0)).toList (aF ⟨#[]⟩)) (bw (b_ (f.length+(aC (aR [.s] 1) 0 [.s (bn (av a e.toNat 0))]).length) 16)<|g a d (bA (e+1)) (f++aC (aR [.s] 1) 0 [.s (bn (av a e.toNat 0))]))<|g a d (bA (e+1)) f)<|h a d e f
def l10(N:aN)(a:j3 R):aN->j3 R
 |0=>λ_ _ _ _=>ay
 |n+1=>Yz N (l10 N a n) a
def r5(N:aN)(g h i:FV R):FV R:=λa d e f=>aT (ah (e<(a.size:az))) (bw (ah (0<=e)&&ah (e<(a.size:az)))<|aT (!kP.v (bA (↑(fJ a e.toNat):az)) 32 126) (h a aq e f)<|g a d (bA (e+1)) f)<|i a d e f
def l5(N:aN)(a d:FV R):aN->FV R
 |0=>λ_ _ _ _=>ay
 |n+1=>r5 N (l5 N a d n) a d
def b(N:aN)(h:vU R)(a:ar):aG R:=aT (ah ((a.size:az)>600)) (h [] aq)<|l5 N (λ_ d _ _=>h [] d) (λd _ _ e=>bw (AF.c d (aw #[aj 32]))<|l10 N (λ_ _ _ f=>aT (ah ((f.length:az)>10)) (h [] aq)<|h f ao) N (AF.v d (aw #[aj 32])) ((AF.v d (aw #[aj 32])).length:az) 0 e) N a aq 0 (aR [.s] 0)
def vo:=b cw λa d=>ai (a,d)
def c:=kq vo
def v:=kA vo
def out:kt vo c v x:=kF
end pU
namespace JZ
def b(d:DW R)(a:ar):aG R:=aT (cD (aF a) (aF (aw #[aj 97,aj 115,aj 107]))) (d 1 (aw #[aj 105,aj 116]))<|aT (cD (aF a) (aF (aw #[aj 112,aj 97,aj 114,aj 116]))) (d 2 (aw #[aj 105,aj 116]))<|aT (cD (aF a) (aF (aw #[aj 99,aj 108,aj 111,aj 115,aj 101]))) (d 3 (aw #[aj 105,aj 110]))<|aT (cD (aF a) (aF (aw #[aj 98,aj 114,aj 101,aj 97,aj 107]))) (d 4 (aw #[aj 105]))<|aT (cD (aF a) (aF (aw #[aj 112,aj 97,aj 115,aj 115]))) (d 5 (aw #[aj 110]))<|aT (cD (aF a) (aF (aw #[aj 108,aj 101,aj 97,aj 118,aj 101]))) (d 6 (aw #[aj 105]))<|aT (cD (aF a) (aF (aw #[aj 102,aj 97,aj 108,aj 108]))) (d 7 ⟨#[]⟩)<|d 0 ⟨#[]⟩
def v(a:ar):az×ar:=aT (cD (aF a) (aF (aw #[aj 97,aj 115,aj 107]))) (1,(aw #[aj 105,aj 116]))<|aT (cD (aF a) (aF (aw #[aj 112,aj 97,aj 114,aj 116]))) (2,(aw #[aj 105,aj 116]))<|aT (cD (aF a) (aF (aw #[aj 99,aj 108,aj 111,aj 115,aj 101]))) (3,(aw #[aj 105,aj 110]))<|aT (cD (aF a) (aF (aw #[aj 98,aj 114,aj 101,aj 97,aj 107]))) (4,(aw #[aj 105]))<|aT (cD (aF a) (aF (aw #[aj 112,aj 97,aj 115,aj 115]))) (5,(aw #[aj 110]))<|aT (cD (aF a) (aF (aw #[aj 108,aj 101,aj 97,aj 118,aj 101]))) (6,(aw #[aj 105]))<|aT (cD (aF a) (aF (aw #[aj 102,aj 97,aj 108,aj 108]))) (7,(aw #[])) (0,(aw #[]))
def eu(d:DW R)(a:ar):b d a=d ((v a).1) ((v a).2):=by first|rfl|(unfold b v;simp only[cy];(repeat' split)<;>rfl)
end JZ
namespace yT
def c(s:ar):aZ:=e6 s.size 140737488355328
def v(s:ar):az×aZ:=
 match _root_.Go.Lib.atoiAll s.data.toList with
 |.ok n=>bif ah (0<=n)&&ah (n<=1000000000)&&(_root_.Go.Lib.itoa n==s.data.toList)then(n,ao)else(0,aq)
 |_=>(0,aq)
end yT
namespace MV
def b(i:aZ->aG R)(a d:az)(e:ar)(f:az)(h:Row):aG R:=aT (kP.v a 1 7) (aT (kP.v d 0 30) (aT (ah ((e.size:az)<=60)) (aT (ah (f≥0)) (i (ah ((h.length:az)<=4)))<|i aq)<|i aq)<|i aq)<|i aq
def v(a a1:az)(a2:ar)(a3:az)(a4:Row):aZ:=aT (kP.v a 1 7) (aT (kP.v a1 0 30) (aT (ah ((a2.size:az)<=60)) (aT (ah (a3≥0)) (ah ((a4.length:az)<=4)) aq) aq) aq) aq
def eu(d:aZ->aG R)(a a1:az)(a2:ar)(a3:az)(a4:Row):b d a a1 a2 a3 a4=d (v a a1 a2 a3 a4):=by first|rfl|(unfold b v;simp only[cy];(repeat' split)<;>rfl)
end MV
namespace Ec
def r3(N:aN)(g:ig R)(k:gX R)(r s:ig R)(t u:gX R):ig R:=λa d e f h i j l m o p q=>aT (ah (f<e)) (bY f d.length<|bw (yT.c (bn (av d f.toNat 0)))<|aT (!(yT.v (bn (av d f.toNat 0))).2) (r aq d e f m o p q m o p q)<|k a d e (bA (f+1)) h i j l m o p q ([]++aC (aR [Ck.i ak] 1) 0 [.i ak (yT.v (bn (av d f.toNat 0))).1]))<|s a d e f h i j l m o p q
def vC(N:aN)(g:ig R)(k:gX R)(u x:ig R)(s t:gX R):gX R:=λa d e f h i j l m o p q r=>aT (ah (f<e)) (bY f d.length<|bw (yT.c (bn (av d f.toNat 0)))<|aT (!(yT.v (bn (av d f.toNat 0))).2) (s aq d e f m o p q m o p q r)<|bw (b_ (r.length+(aC (aR [Ck.i ak] 1) 0 [.i ak (yT.v (bn (av d f.toNat 0))).1]).length) 8)<|k a d e (bA (f+1)) h i j l m o p q (r++aC (aR [Ck.i ak] 1) 0 [.i ak (yT.v (bn (av d f.toNat 0))).1]))<|t a d e f h i j l m o p q r
def oJ(N:aN)(a d:ig R)(e f:gX R):aN->gX R
 |0=>λ_ _ _ _ _ _ _ _ _ _ _ _ _=>ay
 |n+1=>vC N (λj k m o r s t u x y h i=>ay) (oJ N a d e f n) a d e f
def l3(N:aN)(a d:ig R)(e f:gX R):aN->ig R
 |0=>λ_ _ _ _ _ _ _ _ _ _ _ _=>ay
 |n+1=>r3 N (l3 N a d e f n) (oJ N a d e f n) a d e f
def b(N:aN)(k:Ci R)(a:Row):aG R:=l3 N (λd _ _ _ e f h i _ _ _ _=>k e f h i [] d) (λ_ _ _ _ _ _ _ _ d e f h=>k d e f h [] (MV.v d e f h [])) (λd _ _ _ e f h i _ _ _ _ j=>k e f h i j d) (λ_ _ _ _ _ _ _ _ d e f h i=>k d e f h i (MV.v d e f h i)) N aq a (a.length:az) 0 0 0 ⟨#[]⟩ 0 7 0 ⟨#[]⟩ 0
def vo:=b cw λa d e f g h=>ai (a,d,e,f,g,h)
def c:=kq vo
def v:=kA vo
def out:kt vo c v x:=kF
end Ec
namespace tX
def r8(N:aN)(g k s:mb R):mb R:=λa d e f h i j l m o p q r=>aT (ah (h<f)) (bY h e.length<|bw (yT.c (bn (av e h.toNat 0)))<|bw (ah (0<=h)&&ah (h<(d.size:az)))<|aT (ah ((↑(fJ d h.toNat):az)=105)) (aT (!(yT.v (bn (av e h.toNat 0))).2) (k aq d e f h o (yT.v (bn (av e h.toNat 0))).1 q r o (yT.v (bn (av e h.toNat 0))).1 q r)<|g a d e f (bA (h+1)) i j l m o (yT.v (bn (av e h.toNat 0))).1 q r)<|aT (ah ((↑(fJ d h.toNat):az)=110)) (aT (!(yT.v (bn (av e h.toNat 0))).2) (k aq d e f h o p q (yT.v (bn (av e h.toNat 0))).1 o p q (yT.v (bn (av e h.toNat 0))).1)<|g a d e f (bA (h+1)) i j l m o p q (yT.v (bn (av e h.toNat 0))).1)<|g a d e f (bA (h+1)) i j l m o p (bn (av e h.toNat 0)) r)<|s a d e f h i j l m o p q r
def l8(N:aN)(a d:mb R):aN->mb R
 |0=>λ_ _ _ _ _ _ _ _ _ _ _ _ _=>ay
 |n+1=>r8 N (l8 N a d n) a d
def b(N:aN)(j:Ci R)(a:Row):aG R:=bw (ah (0<(a.length:az)))<|aT (ah ((JZ.v (bn (av a (aP 0) 0))).1=7)) (bw (gA 1 (a.length:az) (a.length:az))<|bw (Ec.c (ez a (aP 1) (a.length:az).toNat))<|j (Ec.v (ez a (aP 1) (a.length:az).toNat)).1 (Ec.v (ez a (aP 1) (a.length:az).toNat)).2.1 (Ec.v (ez a (aP 1) (a.length:az).toNat)).2.2.1 (cq (Ec.v (ez a (aP 1) (a.length:az).toNat))) (db (Ec.v (ez a (aP 1) (a.length:az).toNat))) (th (Ec.v (ez a (aP 1) (a.length:az).toNat))))<|aT (ah ((JZ.v (bn (av a (aP 0) 0))).1=0)) (j (JZ.v (bn (av a (aP 0) 0))).1 0 ⟨#[]⟩ 0 [] aq)<|aT ((a.length:az) !=bA (((JZ.v (bn (av a (aP 0) 0))).2.size:az)+1)) (j (JZ.v (bn (av a (aP 0) 0))).1 0 ⟨#[]⟩ 0 [] aq)<|bw (gA 1 (a.length:az) (a.length:az))<|l8 N (λd _ _ _ _ e f h i _ _ _ _=>j e f h i [] d) (λ_ _ _ _ _ _ _ _ _ d e f h=>j d e f h [] (MV.v d e f h [])) N aq (JZ.v (bn (av a (aP 0) 0))).2 (ez a (aP 1) (a.length:az).toNat) ((ez a (aP 1) (a.length:az).toNat).length:az) 0 0 0 ⟨#[]⟩ 0 (JZ.v (bn (av a (aP 0) 0))).1 0 ⟨#[]⟩ 0
def vo:=b cw λa d e f g h=>ai (a,d,e,f,g,h)
def c:=kq vo
def v:=kA vo
def out:kt vo c v x:=kF
end tX
namespace Qk
def r8(N:aN)(g j k:uJ R):uJ R:=λa d e f h=>aT (ah (f<e)) (bY f d.length<|bw (pU.c (bn (av d f.toNat 0)))<|aT ((pU.v (bn (av d f.toNat 0))).2) (aT (ah (((pU.v (bn (av d f.toNat 0))).1.length:az)=0)) (g a d e (bA (f+1)) h)<|bw (ah (0<((pU.v (bn (av d f.toNat 0))).1.length:az)))<|bw (ah (0<((bn (av (pU.v (bn (av d f.toNat 0))).1 (aP 0) 0)).size:az)))<|aT (ah ((↑(fJ (bn (av (pU.v (bn (av d f.toNat 0))).1 (aP 0) 0)) (aP 0)):az)=35)) (g a d e (bA (f+1)) h)<|aT (!(pU.v (bn (av d f.toNat 0))).2) (j (bA (f+1)) d e f h)<|bw (tX.c (pU.v (bn (av d f.toNat 0))).1)<|aT (!(th (tX.v (pU.v (bn (av d f.toNat 0))).1))) (j (bA (f+1)) d e f h)<|aT (ah ((h.length:az)=70)) (j (bA (f+1)) d e f h)<|bw (b_ (h.length+(aC (aR [Ck.i ak,Ck.i ak,Ck.s,Ck.i ak,Ck.l 3] 1) 0 [.i ak (tX.v (pU.v (bn (av d f.toNat 0))).1).1,.i ak (tX.v (pU.v (bn (av d f.toNat 0))).1).2.1,.s (tX.v (pU.v (bn (av d f.toNat 0))).1).2.2.1,.i ak (cq (tX.v (pU.v (bn (av d f.toNat 0))).1)),CV.l 3 (db (tX.v (pU.v (bn (av d f.toNat 0))).1))]).length) 64)<|g a d e (bA (f+1)) (h++aC (aR [Ck.i ak,Ck.i ak,Ck.s,Ck.i ak,Ck.l 3] 1) 0 [.i ak (tX.v (pU.v (bn (av d f.toNat 0))).1).1,.i ak (tX.v (pU.v (bn (av d f.toNat 0))).1).2.1,.s (tX.v (pU.v (bn (av d f.toNat 0))).1).2.2.1,.i ak (cq (tX.v (pU.v (bn (av d f.toNat 0))).1)),CV.l 3 (db (tX.v (pU.v (bn (av d f.toNat 0))).1))]))<|aT (!(pU.v (bn (av d f.toNat 0))).2) (j (bA (f+1)) d e f h)<|bw (tX.c (pU.v (bn (av d f.toNat 0))).1)<|aT (!(th (tX.v (pU.v (bn (av d f.toNat 0))).1))) (j (bA (f+1)) d e f h)<|aT (ah ((h.length:az)=70)) (j (bA (f+1)) d e f h)<|bw (b_ (h.length+(aC (aR [Ck.i ak,Ck.i ak,Ck.s,Ck.i ak,Ck.l 3] 1) 0 [.i ak (tX.v (pU.v (bn (av d f.toNat 0))).1).1,.i ak (tX.v (pU.v (bn (av d f.toNat 0))).1).2.1,.s (tX.v (pU.v (bn (av d f.toNat 0))).1).2.2.1,.i ak (cq (tX.v (pU.v (bn (av d f.toNat 0))).1)),CV.l 3 (db (tX.v (pU.v (bn (av d f.toNat 0))).1))]).length) 64)<|g a d e (bA (f+1)) (h++aC (aR [Ck.i ak,Ck.i ak,Ck.s,Ck.i ak,Ck.l 3] 1) 0 [.i ak (tX.v (pU.v (bn (av d f.toNat 0))).1).1,.i ak (tX.v (pU.v (bn (av d f.toNat 0))).1).2.1,.s (tX.v (pU.v (bn (av d f.toNat 0))).1).2.2.1,.i ak (cq (tX.v (pU.v (bn (av d f.toNat 0))).1)),CV.l 3 (db (tX.v (pU.v (bn (av d f.toNat 0))).1))]))<|k a d e f h
def l8(N:aN)(a d:uJ R):aN->uJ R
 |0=>λ_ _ _ _ _=>ay
 |n+1=>r8 N (l8 N a d n) a d
def b(N:aN)(e:nY R)(a:ar):aG R:=bw (AF.c a (aw #[aj 10]))<|bY (bA (((AF.v a (aw #[aj 10])).length:az)-1)) ((AF.v a (aw #[aj 10])).length)<|aT (cD (bn (av (AF.v a (aw #[aj 10])) (bA (((AF.v a (aw #[aj 10])).length:az)-1)).toNat 0)).toList (aF ⟨#[]⟩)) (bw (gA 0 (bA (((AF.v a (aw #[aj 10])).length:az)-1)) ((AF.v a (aw #[aj 10])).length:az))<|aT (ah ((a.size:az)>3000)) (e [] (-1))<|aT (ah (((ez (AF.v a (aw #[aj 10])) (aP 0) (bA (((AF.v a (aw #[aj 10])).length:az)-1)).toNat).length:az)>90)) (e [] (-1))<|l8 N (λd _ _ _ _=>e [] d) (λ_ _ _ _ d=>e d 0) N 0 (ez (AF.v a (aw #[aj 10])) (aP 0) (bA (((AF.v a (aw #[aj 10])).length:az)-1)).toNat) ((ez (AF.v a (aw #[aj 10])) (aP 0) (bA (((AF.v a (aw #[aj 10])).length:az)-1)).toNat).length:az) 0 (aR [Ck.i ak,Ck.i ak,Ck.s,Ck.i ak,Ck.l 3] 0))<|aT (ah ((a.size:az)>3000)) (e [] (-1))<|aT (ah (((AF.v a (aw #[aj 10])).length:az)>90)) (e [] (-1))<|l8 N (λd _ _ _ _=>e [] d) (λ_ _ _ _ d=>e d 0) N 0 (AF.v a (aw #[aj 10])) ((AF.v a (aw #[aj 10])).length:az) 0 (aR [Ck.i ak,Ck.i ak,Ck.s,Ck.i ak,Ck.l 3] 0)
def vo:=b cw λa d=>ai (a,d)
def c:=kq vo
def v:=kA vo
def out:kt vo c v x:=kF
end Qk
namespace U40
def c(n:az):aZ:=ah (-9223372036854775808<=n)&&ah (n<=9223372036854775807)
def v(n:az):ar:=⟨(_root_.Go.Lib.itoa n).toArray⟩
end U40
namespace tU
def b(d:ar->aG R)(a:az):aG R:=bw (U40.c a)<|d (U40.v a)
def vo:=b λa=>ai a
def c:=kq vo
def v:=kA vo
def out:kt vo c v x:=kF
end tU
namespace V_
def r3(N:aN)(g:kS R)(f:gk R)(h:kS R)(j:gk R):kS R:=λa d e=>aT (ah (a<3)) (f (bA (a+1)) d e ([]++aC (aR [Ck.l 3] 1) 0 [CV.l 3 (aR [Ck.i ak] (aP 16))]))<|h a d e
def vC(N:aN)(g:kS R)(h:gk R)(k:kS R)(j:gk R):gk R:=λa d e f=>aT (ah (a<3)) (bw (b_ (f.length+(aC (aR [Ck.l 3] 1) 0 [CV.l 3 (aR [Ck.i ak] (aP 16))]).length) 24)<|h (bA (a+1)) d e (f++aC (aR [Ck.l 3] 1) 0 [CV.l 3 (aR [Ck.i ak] (aP 16))]))<|j a d e f
def oJ(N:aN)(a:kS R)(d:gk R):aN->gk R
 |0=>λ_ _ _ _=>ay
 |n+1=>vC N (λe f h=>ay) (oJ N a d n) a d
def l3(N:aN)(a:kS R)(d:gk R):aN->kS R
 |0=>λ_ _ _=>ay
 |n+1=>r3 N (l3 N a d n) (oJ N a d n) a d
def b(N:aN)(e:nY R):aG R:=l3 N (λ_ _ a=>e [] a) (λ_ _ a d=>e d a) N 0 0 0
def vo:=b cw λa d=>ai (a,d)
def c:=vo.isSome
def v:=vo.getD ([],0)
end V_
namespace U51
def b(a:nt R):aG R:=a [] [] ([]++aC (aR [Ck.l 3] 1) 0 [CV.l 3 (aR [Ck.i ak] (aP 16))]++aC (aR [Ck.l 3] 1) 0 [CV.l 3 (aR [Ck.i ak] (aP 16))]++aC (aR [Ck.l 3] 1) 0 [CV.l 3 (aR [Ck.i ak] (aP 16))]) 0
def v:Row×Row×Row×az:=([],[],[]++aC (aR [Ck.l 3] 1) 0 [CV.l 3 (aR [Ck.i ak] (aP 16))]++aC (aR [Ck.l 3] 1) 0 [CV.l 3 (aR [Ck.i ak] (aP 16))]++aC (aR [Ck.l 3] 1) 0 [CV.l 3 (aR [Ck.i ak] (aP 16))],0)
def eu(a:nt R):b a=a v.1 v.2.1 v.2.2.1 v.2.2.2:=by first|rfl|(unfold b v;simp only[cy];(repeat' split)<;>rfl)
end U51
namespace U28
def b(a:dn R):aG R:=a 1 [] [] [] ([]++aC (aR [Ck.l 3] 1) 0 [CV.l 3 (aR [Ck.i ak] (aP 16))]++aC (aR [Ck.l 3] 1) 0 [CV.l 3 (aR [Ck.i ak] (aP 16))]++aC (aR [Ck.l 3] 1) 0 [CV.l 3 (aR [Ck.i ak] (aP 16))]) 0 [] [] 0
def v:az×Row×Row×Row×Row×az×Row×Row×az:=(1,[],[],[],[]++aC (aR [Ck.l 3] 1) 0 [CV.l 3 (aR [Ck.i ak] (aP 16))]++aC (aR [Ck.l 3] 1) 0 [CV.l 3 (aR [Ck.i ak] (aP 16))]++aC (aR [Ck.l 3] 1) 0 [CV.l 3 (aR [Ck.i ak] (aP 16))],0,[],[],0)
def eu(a:dn R):b a=a v.1 v.2.1 v.2.2.1 v.2.2.2.1 v.2.2.2.2.1 v.2.2.2.2.2.1 v.2.2.2.2.2.2.1 v.2.2.2.2.2.2.2.1 v.2.2.2.2.2.2.2.2:=by first|rfl|(unfold b v;simp only[cy];(repeat' split)<;>rfl)
end U28
namespace xG
def b(d:Row->aG R)(a:Row):aG R:=bw (b_ ((aR [Ck.s,Ck.i ak,Ck.i ak,Ck.s] 0).length+a.length) 48)<|d (aR [Ck.s,Ck.i ak,Ck.i ak,Ck.s] 0++a)
def vo:=b λa=>ai a
def c:=kq vo
def v:=kA vo
def out:kt vo c v x:=kF
end xG
namespace tT
def b(d:Row->aG R)(a:Row):aG R:=bw (b_ ((aR [.s] 0).length+a.length) 16)<|d (aR [.s] 0++a)
def vo:=b λa=>ai a
def c:=kq vo
def v:=kA vo
def out:kt vo c v x:=kF
end tT
namespace wj
def b(d:Row->aG R)(a:Row):aG R:=bw (b_ ((aR [Ck.i ak] 0).length+a.length) 8)<|d (aR [Ck.i ak] 0++a)
def vo:=b λa=>ai a
def c:=kq vo
def v:=kA vo
def out:kt vo c v x:=kF
end wj
namespace jr
def r3(N:aN)(g:jE R)(i:nZ R)(j:jE R)(k:nZ R):jE R:=λa d e f h=>aT (ah (e<d)) (bY e a.length<|bw (wj.c (jd (av a e.toNat 0)))<|i a d (bA (e+1)) f h ([]++aC (aR [Ck.l 3] 1) 0 [CV.l 3 (wj.v (jd (av a e.toNat 0)))]))<|j a d e f h
def vC(N:aN)(g:jE R)(j:nZ R)(m:jE R)(k:nZ R):nZ R:=λa d e f h i=>aT (ah (e<d)) (bY e a.length<|bw (wj.c (jd (av a e.toNat 0)))<|bw (b_ (i.length+(aC (aR [Ck.l 3] 1) 0 [CV.l 3 (wj.v (jd (av a e.toNat 0)))]).length) 24)<|j a d (bA (e+1)) f h (i++aC (aR [Ck.l 3] 1) 0 [CV.l 3 (wj.v (jd (av a e.toNat 0)))]))<|k a d e f h i
def oJ(N:aN)(a:jE R)(d:nZ R):aN->nZ R
 |0=>λ_ _ _ _ _ _=>ay
 |n+1=>vC N (λe f h i j=>ay) (oJ N a d n) a d
def l3(N:aN)(a:jE R)(d:nZ R):aN->jE R
 |0=>λ_ _ _ _ _=>ay
 |n+1=>r3 N (l3 N a d n) (oJ N a d n) a d
def b(N:aN)(h:nY R):nY R:=λa d=>l3 N (λ_ _ _ _ e=>h [] e) (λ_ _ _ _ e f=>h f e) N a (a.length:az) 0 0 d
def vo:=b cw λa d=>ai (a,d)
def c:=js vo
def v:=jw vo
def out:ju vo c v x:=jA
end jr
namespace jy
def b(h:nt R):nt R:=λa d e f=>bw (tT.c a)<|bw (tT.c d)<|bw (jr.c e f)<|h (tT.v a) (tT.v d) (jr.v e f).1 (jr.v e f).2
def vo:=b λa d e f=>ai (a,d,e,f)
def c:=vx vo
def v:=vD vo
def out:vB vo c v x:=wz
end jy
namespace oX
def b(k:dn R):dn R:=λa d e f h i j l m=>bw (xG.c d)<|bw (jy.c e f h i)<|bw (b_ ((aR [Ck.s,Ck.s,Ck.i ak,Ck.i ak,Ck.i ak] 0).length+j.length) 56)<|bw (b_ ((aR [Ck.i ak,Ck.s,Ck.i ak,Ck.i ak,Ck.i ak,Ck.s,Ck.i ak] 0).length+l.length) 72)<|k a (xG.v d) (jy.v e f h i).1 (jy.v e f h i).2.1 (jy.v e f h i).2.2.1 (dt (jy.v e f h i)) (aR [Ck.s,Ck.s,Ck.i ak,Ck.i ak,Ck.i ak] 0++j) (aR [Ck.i ak,Ck.s,Ck.i ak,Ck.i ak,Ck.i ak,Ck.s,Ck.i ak] 0++l) m
def vo:=b λa d e f g h i j k=>ai (a,d,e,f,g,h,i,j,k)
def c:=Bm vo
def v:=Bs vo
def out:Bp vo c v x:=Df
end oX
namespace OX
def b(d:aZ->aG R)(a:ar):aG R:=d (kP.v (a.size:az) 1 30)
def v(a:ar):aZ:=(kP.v (a.size:az) 1 30)
def eu(d:aZ->aG R)(a:ar):b d a=d (v a):=by first|rfl|(unfold b v;simp only[cy];(repeat' split)<;>rfl)
end OX
namespace Ct
def b(d:aZ->aG R)(a:az):aG R:=d (kP.v a 0 1000000000)
def v(a:az):aZ:=(kP.v a 0 1000000000)
def eu(d:aZ->aG R)(a:az):b d a=d (v a):=by first|rfl|(unfold b v;simp only[cy];(repeat' split)<;>rfl)
end Ct
namespace xH
def b(h:aZ->aG R)(a:ar)(d e:az)(f:ar):aG R:=aT (OX.v a) (aT (Ct.v d) (aT (kP.v e 1 999999) (h (ah ((f.size:az)<=400)))<|h aq)<|h aq)<|h aq
def v(a:ar)(a1 a2:az)(a3:ar):aZ:=aT (OX.v a) (aT (Ct.v a1) (aT (kP.v a2 1 999999) (ah ((a3.size:az)<=400)) aq) aq) aq
def eu(d:aZ->aG R)(a:ar)(a1 a2:az)(a3:ar):b d a a1 a2 a3=d (v a a1 a2 a3):=by first|rfl|(unfold b v;simp only[cy];(repeat' split)<;>rfl)
end xH
namespace D'
def b(d:Row->aG R)(a:az):aG R:=aT (ah (a<0)) ay<|aT (ah (bA (a-bA (0-0))>0)) (bw (ah (0<=bA (a-bA (0-0)))&&b_ (([]:Row).length+(bA (a-bA (0-0))).toNat) 16&&ah (bA (a-bA (0-0))<=9223372036854775807))<|d (ez ([]++aR [.s] (bA (a-bA (0-0))).toNat) (aP 0) (aP 0)))<|d []
def vo:=b λa=>ai a
def c:=kq vo
def v:=kA vo
def out:kt vo c v x:=kF
end D'
namespace xM
def Ly(N:aN)(g h:j3 R):j3 R:=λa d e f=>aT (ah (e<d)) (bY e a.length<|bw (b_ (f.length+(jd (av a e.toNat 0)).length) 16)<|g a d (bA (e+1)) (f++jd (av a e.toNat 0)))<|h a d e f
def C1(N:aN)(a:j3 R):aN->j3 R
 |0=>λ_ _ _ _=>ay
 |n+1=>Ly N (C1 N a n) a
def r3(N:aN)(g i:Bz R):Bz R:=λa d e f h=>aT (ah (h<f)) (bY h e.length<|aT (ah (bA (d+((jd (av e h.toNat 0)).length:az))<0)) ay<|g a (bA (d+((jd (av e h.toNat 0)).length:az))) e f (bA (h+1)))<|i a d e f h
def l3(N:aN)(a:Bz R):aN->Bz R
 |0=>λ_ _ _ _ _=>ay
 |n+1=>r3 N (l3 N a n) a
def b(N:aN)(h:Row->aG R)(a:Row):aG R:=l3 N (λd e _ _ _=>bw (D'.c e)<|C1 N (λ_ _ _ f=>h f) N d (d.length:az) 0 (D'.v e)) N a 0 a (a.length:az) 0
def vo:=b cw λa=>ai a
def c:=kq vo
def v:=kA vo
def out:kt vo c v x:=kF
end xM
namespace qW
def b(h:Row->aG R):nt R:=λa d e f=>bw (xM.c (aC (aC (aR [Ck.l 9] 2) 0 [CV.l 9 a]) 1 [CV.l 9 d]))<|h (xM.v (aC (aC (aR [Ck.l 9] 2) 0 [CV.l 9 a]) 1 [CV.l 9 d]))
def vo:=b λa=>ai a
def c:=vx vo
def v:=vD vo
def out:vB vo c v x:=wz
end qW
namespace Bj
def r2(N:aN)(g i j:fy R):fy R:=λa d e f h=>aT (ah (h<f)) (bY h a.length<|aT (cD (aF d) (bn (av a h.toNat 0)).toList) (i a d h f h)<|g a d e f (bA (h+1)))<|j a d e f h
def l2(N:aN)(a d:fy R):aN->fy R
 |0=>λ_ _ _ _ _=>ay
 |n+1=>r2 N (l2 N a d n) a d
def b(N:aN)(f:az->aG R)(a:Row)(d:ar):aG R:=l2 N (λ_ _ e _ _=>f e) (λ_ _ _ _ _=>f (-1)) N a d 0 (a.length:az) 0
def vo:=b cw λa=>ai a
def c:=js vo
def v:=jw vo
def out:ju vo c v x:=jA
end Bj
namespace tc
def b(e:aZ->aG R)(a:Row)(d:ar):aG R:=bw (Bj.c a d)<|e (ah (Bj.v a d≥0))
def vo:=b λa=>ai a
def c:=js vo
def v:=jw vo
def out:ju vo c v x:=jA
end tc
namespace H5
def b(i:aZ->aG R):qd R:=λa d e f h=>bw (qW.c a d e f)<|bw (tc.c (qW.v a d e f) h)<|i (tc.v (qW.v a d e f) h)
def vo:=b λa=>ai a
def c:=Bl vo
def v:=Br vo
def out:Bo vo c v x:=De
end H5
namespace pZ
def r5(N:aN)(g k r:oN R):oN R:=λa d e f h i j l m o=>aT (ah (l<j)) (bY l i.length<|aT (!kP.v (bO (av i l.toNat 0)) 0 15) (k aq d e f h i j l m o)<|g a d e f h i j (bA (l+1)) m o)<|r a d e f h i j l m o
def l5(N:aN)(a d:oN R):aN->oN R
 |0=>λ_ _ _ _ _ _ _ _ _ _=>ay
 |n+1=>r5 N (l5 N a d n) a d
def r2(N:aN)(g k s:wT R):wT R:=λa d e f h i=>aT (ah (f<e)) (bY f d.length<|l5 N (λj _ l m o _ _ _ p q=>k j l m o p q) (λj l m o p _ _ _ q r=>aT ((l.length:az) !=16) (k aq m o p q r)<|g j m o (bA (p+1)) q r) N a (jd (av d f.toNat 0)) d e f (jd (av d f.toNat 0)) ((jd (av d f.toNat 0)).length:az) 0 h i)<|s a d e f h i
def l2(N:aN)(a d:wT R):aN->wT R
 |0=>λ_ _ _ _ _ _=>ay
 |n+1=>r2 N (l2 N a d n) a d
def b(N:aN)(h:aZ->aG R):nY R:=λa d=>l2 N (λe _ _ _ _ _=>h e) (λ_ _ _ _ e f=>aT (ah ((e.length:az)=3)) (h (kP.v f 0 63))<|h aq) N aq a (a.length:az) 0 a d
def vo:=b cw λa=>ai a
def c:=js vo
def v:=jw vo
def out:ju vo c v x:=jA
end pZ
namespace pq
def r3(N:aN)(g k m:rP R):rP R:=λa d e f h i j l=>aT (ah (e<d)) (bY e l.length<|aT (!OX.v (bn (av l e.toNat 0))) (k aq d e f h i j l)<|bw (gA 0 e (l.length:az))<|bw (tc.c (ez l (aP 0) e.toNat) (bn (av l e.toNat 0)))<|aT (tc.v (ez l (aP 0) e.toNat) (bn (av l e.toNat 0))) (k aq d e f h i j l)<|g a d (bA (e+1)) f h i j l)<|m a d e f h i j l
def l3(N:aN)(a d:rP R):aN->rP R
 |0=>λ_ _ _ _ _ _ _ _=>ay
 |n+1=>r3 N (l3 N a d n) a d
def b(N:aN)(k:aZ->aG R):nt R:=λa d e f=>bw (qW.c a d e f)<|l3 N (λh _ _ _ _ _ _ _=>k h) (λ_ _ _ h i j l _=>aT (ah ((h.length:az)<=2)) (aT (ah ((i.length:az)<=4)) (bw (pZ.c j l)<|k (pZ.v j l))<|k aq)<|k aq) N aq ((qW.v a d e f).length:az) 0 a d e f (qW.v a d e f)
def vo:=b cw λa=>ai a
def c:=vx vo
def v:=vD vo
def out:vB vo c v x:=wz
end pq
namespace Bh
def r2(N:aN)(g k s:dS R):dS R:=λa d e f h i j l m o p q r=>aT (ah (f<e)) (bY f d.length<|aT (!xH.v (bn (av d f.toNat 0)) (bO (av d f.toNat 1)) (bO (av d f.toNat (1+1))) (bn (av d f.toNat (1+1+1)))) (k aq d e f h i j l m o p q r)<|aT (ah (f>0)) (bY (bA (f-1)) i.length<|aT (!Op.bytesLess (bn (av i (bA (f-1)).toNat 0)).toList (bn (av d f.toNat 0)).toList) (k aq d e f h i j l m o p q r)<|bw (H5.c j l m o (bn (av d f.toNat 0)))<|aT (!H5.v j l m o (bn (av d f.toNat 0))) (k aq d e f h i j l m o p q r)<|g a d e (bA (f+1)) h i j l m o p q r)<|bw (H5.c j l m o (bn (av d f.toNat 0)))<|aT (!H5.v j l m o (bn (av d f.toNat 0))) (k aq d e f h i j l m o p q r)<|g a d e (bA (f+1)) h i j l m o p q r)<|s a d e f h i j l m o p q r
def l2(N:aN)(a d:dS R):aN->dS R
 |0=>λ_ _ _ _ _ _ _ _ _ _ _ _ _=>ay
 |n+1=>r2 N (l2 N a d n) a d
def b(N:aN)(k:aZ->aG R):dn R:=λa d e f h i j l m=>l2 N (λo _ _ _ _ _ _ _ _ _ _ _ _=>k o) (λ_ _ _ _ _ o p q r s _ _ _=>bw (pq.c p q r s)<|aT (pq.v p q r s) (bw (qW.c p q r s)<|k (ah (((qW.v p q r s).length:az)=(o.length:az))))<|k aq) N aq d (d.length:az) 0 a d e f h i j l m
def vo:=b cw λa=>ai a
def c:=Bm vo
def v:=Bs vo
def out:Bp vo c v x:=Df
end Bh
namespace Ip
def b(j:aZ->aG R)(a d:ar)(e f h:az)(i:ar):aG R:=aT (cD (aF a) (aF i)) (j (ah (e=1)))<|j aq
def v(d a1:ar)(a2 a3 a4:az)(a:ar):aZ:=aT (cD (aF d) (aF a)) (ah (a2=1)) aq
def eu(e:aZ->aG R)(d a1:ar)(a2 a3 a4:az)(a:ar):b e d a1 a2 a3 a4 a=e (v d a1 a2 a3 a4 a):=by first|rfl|(unfold b v;simp only[cy];(repeat' split)<;>rfl)
end Ip
namespace qV
def r2(N:aN)(g i j:fy R):fy R:=λa d e f h=>aT (ah (h<f)) (bY h a.length<|aT (Ip.v (bn (av a h.toNat 0)) (bn (av a h.toNat 1)) (bO (av a h.toNat (1+1))) (bO (av a h.toNat (1+1+1))) (bO (av a h.toNat (1+1+1+1))) d) (i a d h f h)<|g a d e f (bA (h+1)))<|j a d e f h
def l2(N:aN)(a d:fy R):aN->fy R
 |0=>λ_ _ _ _ _=>ay
 |n+1=>r2 N (l2 N a d n) a d
def b(N:aN)(f:az->aG R)(a:Row)(e:ar):aG R:=l2 N (λ_ _ d _ _=>f d) (λ_ _ _ _ _=>f (-1)) N a e 0 (a.length:az) 0
def vo:=b cw λa=>ai a
def c:=js vo
def v:=jw vo
def out:ju vo c v x:=jA
end qV
namespace Kn
def b(k:az->aG R):wV R:=λa d e f h i j l m o=>bw (qV.c j o)<|k (qV.v j o)
def vo:=b λa=>ai a
def c:=qi vo
def v:=qw vo
def out:qp vo c v x:=rA
end Kn
namespace xK
def r2(N:aN)(g k s:dS R):dS R:=λa d e f h i j l m o p q r=>aT (ah (f<e)) (bY f d.length<|aT (ah (bO (av d f.toNat (1+1))=1)) (bw (Kn.c h i j l m o p q r (bn (av d f.toNat 0)))<|aT (Kn.v h i j l m o p q r (bn (av d f.toNat 0)) !=f) (k aq d e f h i j l m o p q r)<|g a d e (bA (f+1)) h i j l m o p q r)<|g a d e (bA (f+1)) h i j l m o p q r)<|s a d e f h i j l m o p q r
def l2(N:aN)(a d:dS R):aN->dS R
 |0=>λ_ _ _ _ _ _ _ _ _ _ _ _ _=>ay
 |n+1=>r2 N (l2 N a d n) a d
def b(N:aN)(k:aZ->aG R):dn R:=λa d e f h i j l m=>l2 N (λo _ _ _ _ _ _ _ _ _ _ _ _=>k o) (λ_ _ _ _ _ _ _ _ _ _ _ _ _=>k ao) N aq j (j.length:az) 0 a d e f h i j l m
def vo:=b cw λa=>ai a
def c:=Bm vo
def v:=Bs vo
def out:Bp vo c v x:=Df
end xK
namespace zN
def r2(N:aN)(g k s:dS R):dS R:=λa d e f h i j l m o p q r=>aT (ah (f<e)) (bY f d.length<|aT (!OX.v (bn (av d f.toNat 0))) (k aq d e f h i j l m o p q r)<|aT (ah (((bn (av d f.toNat 1)).size:az)>400)) (k aq d e f h i j l m o p q r)<|aT (!kP.v (bO (av d f.toNat (1+1))) 1 3) (k aq d e f h i j l m o p q r)<|aT (!kP.v (bO (av d f.toNat (1+1+1))) 0 999999) (k aq d e f h i j l m o p q r)<|aT (!kP.v (bO (av d f.toNat (1+1+1+1))) 0 h) (k aq d e f h i j l m o p q r)<|g a d e (bA (f+1)) h i j l m o p q r)<|s a d e f h i j l m o p q r
def l2(N:aN)(a d:dS R):aN->dS R
 |0=>λ_ _ _ _ _ _ _ _ _ _ _ _ _=>ay
 |n+1=>r2 N (l2 N a d n) a d
def b(N:aN)(k:aZ->aG R):dn R:=λa d e f h i j l m=>l2 N (λo _ _ _ _ _ _ _ _ _ _ _ _=>k o) (λ_ _ _ _ o p q r s t u w y=>aT (ah ((u.length:az)<=20)) (bw (xK.c o p q r s t u w y)<|k (xK.v o p q r s t u w y))<|k aq) N aq j (j.length:az) 0 a d e f h i j l m
def vo:=b cw λa=>ai a
def c:=Bm vo
def v:=Bs vo
def out:Bp vo c v x:=Df
end zN
namespace Bi
def r2(N:aN)(g k s:dS R):dS R:=λa d e f h i j l m o p q r=>aT (ah (f<e)) (bY f d.length<|aT (!kP.v (bO (av d f.toNat 0)) 1 9) (k aq d e f h i j l m o p q r)<|aT (ah (f>0)) (bY (bA (f-1)) q.length<|aT (ah (bO (av q (bA (f-1)).toNat 0)≥bO (av d f.toNat 0))) (k aq d e f h i j l m o p q r)<|aT (!OX.v (bn (av d f.toNat 1))) (k aq d e f h i j l m o p q r)<|aT (!kP.v (bO (av d f.toNat (1+1+1+1))) 1 3) (k aq d e f h i j l m o p q r)<|aT (!kP.v (bO (av d f.toNat (1+1))) 0 (p.length:az)) (k aq d e f h i j l m o p q r)<|aT (ah (((bn (av d f.toNat (1+1+1+1+1))).size:az)>400)) (k aq d e f h i j l m o p q r)<|aT (!kP.v (bO (av d f.toNat (1+1+1))) 0 h) (k aq d e f h i j l m o p q r)<|aT (ah (bO (av d f.toNat (1+1+1+1+1+1))<0)) (k aq d e f h i j l m o p q r)<|g a d e (bA (f+1)) h i j l m o p q r)<|aT (!OX.v (bn (av d f.toNat 1))) (k aq d e f h i j l m o p q r)<|aT (!kP.v (bO (av d f.toNat (1+1+1+1))) 1 3) (k aq d e f h i j l m o p q r)<|aT (!kP.v (bO (av d f.toNat (1+1))) 0 (p.length:az)) (k aq d e f h i j l m o p q r)<|aT (ah (((bn (av d f.toNat (1+1+1+1+1))).size:az)>400)) (k aq d e f h i j l m o p q r)<|aT (!kP.v (bO (av d f.toNat (1+1+1))) 0 h) (k aq d e f h i j l m o p q r)<|aT (ah (bO (av d f.toNat (1+1+1+1+1+1))<0)) (k aq d e f h i j l m o p q r)<|g a d e (bA (f+1)) h i j l m o p q r)<|s a d e f h i j l m o p q r
def l2(N:aN)(a d:dS R):aN->dS R
 |0=>λ_ _ _ _ _ _ _ _ _ _ _ _ _=>ay
 |n+1=>r2 N (l2 N a d n) a d
def b(N:aN)(k:aZ->aG R):dn R:=λa d e f h i j l m=>l2 N (λo _ _ _ _ _ _ _ _ _ _ _ _=>k o) (λ_ _ _ _ _ _ _ _ _ _ _ o _=>k (ah ((o.length:az)<=6))) N aq l (l.length:az) 0 a d e f h i j l m
def vo:=b cw λa=>ai a
def c:=Bm vo
def v:=Bs vo
def out:Bp vo c v x:=Df
end Bi
namespace OW
def b(k:aZ->aG R):dn R:=λa d e f h i j l m=>aT (kP.v a 1 1000000000) (bw (Bh.c a d e f h i j l m)<|aT (Bh.v a d e f h i j l m) (bw (zN.c a d e f h i j l m)<|aT (zN.v a d e f h i j l m) (bw (Bi.c a d e f h i j l m)<|aT (Bi.v a d e f h i j l m) (k (Ct.v m))<|k aq)<|k aq)<|k aq)<|k aq
def vo:=b λa=>ai a
def c:=Bm vo
def v:=Bs vo
def out:Bp vo c v x:=Df
end OW
namespace U97
def b(m:aZ->aG R)(a:az)(d:ar)(e f h:az)(i:ar)(j k:az):aG R:=m (ah (a=k))
def v(d:az)(a1:ar)(a2 a3 a4:az)(a5:ar)(e a:az):aZ:=(ah (d=a))
def eu(f:aZ->aG R)(d:az)(a1:ar)(a2 a3 a4:az)(a5:ar)(e a:az):b f d a1 a2 a3 a4 a5 e a=f (v d a1 a2 a3 a4 a5 e a):=by first|rfl|(unfold b v;simp only[cy];(repeat' split)<;>rfl)
end U97
namespace zQ
def r2(N:aN)(g i j:jE R):jE R:=λa d e f h=>aT (ah (h<f)) (bY h a.length<|aT (U97.v (bO (av a h.toNat 0)) (bn (av a h.toNat 1)) (bO (av a h.toNat (1+1))) (bO (av a h.toNat (1+1+1))) (bO (av a h.toNat (1+1+1+1))) (bn (av a h.toNat (1+1+1+1+1))) (bO (av a h.toNat (1+1+1+1+1+1))) d) (i a d h f h)<|g a d e f (bA (h+1)))<|j a d e f h
def l2(N:aN)(a d:jE R):aN->jE R
 |0=>λ_ _ _ _ _=>ay
 |n+1=>r2 N (l2 N a d n) a d
def b(N:aN)(f:az->aG R):nY R:=λa e=>l2 N (λ_ _ d _ _=>f d) (λ_ _ _ _ _=>f (-1)) N a e 0 (a.length:az) 0
def vo:=b cw λa=>ai a
def c:=js vo
def v:=jw vo
def out:ju vo c v x:=jA
end zQ
namespace VC
def b(m:aZ->aG R)(a:az)(d:ar)(e f h:az)(i:ar)(j k:az):aG R:=m (ah (a=k))
def v(d:az)(a1:ar)(a2 a3 a4:az)(a5:ar)(e a:az):aZ:=(ah (d=a))
def eu(f:aZ->aG R)(d:az)(a1:ar)(a2 a3 a4:az)(a5:ar)(e a:az):b f d a1 a2 a3 a4 a5 e a=f (v d a1 a2 a3 a4 a5 e a):=by first|rfl|(unfold b v;simp only[cy];(repeat' split)<;>rfl)
end VC
namespace vv
def r2(N:aN)(g i j:jE R):jE R:=λa d e f h=>aT (ah (h<f)) (bY h a.length<|aT (VC.v (bO (av a h.toNat 0)) (bn (av a h.toNat 1)) (bO (av a h.toNat (1+1))) (bO (av a h.toNat (1+1+1))) (bO (av a h.toNat (1+1+1+1))) (bn (av a h.toNat (1+1+1+1+1))) (bO (av a h.toNat (1+1+1+1+1+1))) d) (i a d h f h)<|g a d e f (bA (h+1)))<|j a d e f h
def l2(N:aN)(a d:jE R):aN->jE R
 |0=>λ_ _ _ _ _=>ay
 |n+1=>r2 N (l2 N a d n) a d
def b(N:aN)(f:az->aG R):nY R:=λa e=>l2 N (λ_ _ d _ _=>f d) (λ_ _ _ _ _=>f (-1)) N a e 0 (a.length:az) 0
def vo:=b cw λa=>ai a
def c:=js vo
def v:=jw vo
def out:ju vo c v x:=jA
end vv
namespace OV
def b(k:az->aG R):fL R:=λa d e f h i j l m o=>bw (zQ.c l o)<|k (zQ.v l o)
def vo:=b λa=>ai a
def c:=qi vo
def v:=qw vo
def out:qp vo c v x:=rA
end OV
namespace U79
def b(i:aZ->aG R)(a:ar)(d e:az)(f h:ar):aG R:=i (cD (aF a) (aF h))
def v(d:ar)(a1 a2:az)(a3 a:ar):aZ:=(cD (aF d) (aF a))
def eu(e:aZ->aG R)(d:ar)(a1 a2:az)(a3 a:ar):b e d a1 a2 a3 a=e (v d a1 a2 a3 a):=by first|rfl|(unfold b v;simp only[cy];(repeat' split)<;>rfl)
end U79
namespace xP
def r2(N:aN)(g i j:fy R):fy R:=λa d e f h=>aT (ah (h<f)) (bY h a.length<|aT (U79.v (bn (av a h.toNat 0)) (bO (av a h.toNat 1)) (bO (av a h.toNat (1+1))) (bn (av a h.toNat (1+1+1))) d) (i a d h f h)<|g a d e f (bA (h+1)))<|j a d e f h
def l2(N:aN)(a d:fy R):aN->fy R
 |0=>λ_ _ _ _ _=>ay
 |n+1=>r2 N (l2 N a d n) a d
def b(N:aN)(f:az->aG R)(a:Row)(e:ar):aG R:=l2 N (λ_ _ d _ _=>f d) (λ_ _ _ _ _=>f (-1)) N a e 0 (a.length:az) 0
def vo:=b cw λa=>ai a
def c:=js vo
def v:=jw vo
def out:ju vo c v x:=jA
end xP
namespace D5
def b(i:aZ->aG R)(a:ar)(d e:az)(f h:ar):aG R:=i (cD (aF a) (aF h))
def v(d:ar)(a1 a2:az)(a3 a:ar):aZ:=(cD (aF d) (aF a))
def eu(e:aZ->aG R)(d:ar)(a1 a2:az)(a3 a:ar):b e d a1 a2 a3 a=e (v d a1 a2 a3 a):=by first|rfl|(unfold b v;simp only[cy];(repeat' split)<;>rfl)
end D5
namespace vu
def r2(N:aN)(g i j:fy R):fy R:=λa d e f h=>aT (ah (h<f)) (bY h a.length<|aT (D5.v (bn (av a h.toNat 0)) (bO (av a h.toNat 1)) (bO (av a h.toNat (1+1))) (bn (av a h.toNat (1+1+1))) d) (i a d h f h)<|g a d e f (bA (h+1)))<|j a d e f h
def l2(N:aN)(a d:fy R):aN->fy R
 |0=>λ_ _ _ _ _=>ay
 |n+1=>r2 N (l2 N a d n) a d
def b(N:aN)(f:az->aG R)(a:Row)(e:ar):aG R:=l2 N (λ_ _ d _ _=>f d) (λ_ _ _ _ _=>f (-1)) N a e 0 (a.length:az) 0
def vo:=b cw λa=>ai a
def c:=js vo
def v:=jw vo
def out:ju vo c v x:=jA
end vu
namespace EJ
def b(i:aZ->aG R)(a:ar)(d e:az)(f:ar)(h:az):aG R:=aT (xH.v a d e f) (aT (Ct.v h) (i (kP.v h d (bA (bA (d+e)-1))))<|i aq)<|i aq
def v(a:ar)(a1 a2:az)(a3:ar)(a4:az):aZ:=aT (xH.v a a1 a2 a3) (aT (Ct.v a4) (kP.v a4 a1 (bA (bA (a1+a2)-1))) aq) aq
def eu(d:aZ->aG R)(a:ar)(a1 a2:az)(a3:ar)(a4:az):b d a a1 a2 a3 a4=d (v a a1 a2 a3 a4):=by first|rfl|(unfold b v;simp only[cy];(repeat' split)<;>rfl)
end EJ
namespace xN
def r6(N:aN)(g h:tG R):tG R:=λa d e f=>aT (ah (f<8)) (aT (ah (bQ a 2=1)) (g (bG eF (↑(eg (mi (cu 32 (bG eF (cz a 2))) (cu 32 3558460437))):az)) d e (bA (f+1)))<|g (bG eF (cz a 2)) d e (bA (f+1)))<|h a d e f
def l6(N:aN)(a:tG R):aN->tG R
 |0=>λ_ _ _ _=>ay
 |n+1=>r6 N (l6 N a n) a
def r2(N:aN)(g j:pf R):pf R:=λa d e=>aT (ah (e<(d.size:az))) (bw (ah (0<=e)&&ah (e<(d.size:az)))<|l6 N (λf h i _=>g f h (bA (i+1))) N (bG eF (↑(eg (mi (cu 32 a) (cu 32 (bG eF (↑(fJ d e.toNat):az))))):az)) d e 0)<|j a d e
def l2(N:aN)(a:pf R):aN->pf R
 |0=>λ_ _ _=>ay
 |n+1=>r2 N (l2 N a n) a
def b(N:aN)(f:az->aG R):DW R:=λa d=>l2 N (λe _ _=>f e) N a d 0
def vo:=b cw λa=>ai a
def c:=js vo
def v:=jw vo
def out:ju vo c v x:=jA
end xN
namespace vq
def b(d:az->aG R)(a:ar):aG R:=bw (xN.c 4294967295 a)<|d (xN.v 4294967295 a)
def vo:=b λa=>ai a
def c:=kq vo
def v:=kA vo
def out:kt vo c v x:=kF
end vq
namespace tO
def b(e:az->aG R):DW R:=λa d=>kE d (bytesOf (aC (aR [Ck.i a8] 1) 0 [CV.i a8 (bG a8 (bA (↑(eg (jx (cu 64 a) (cu 64 255))):az)))]))<|bw (vq.c (d++bytesOf (aC (aR [Ck.i a8] 1) 0 [CV.i a8 (bG a8 (bA (↑(eg (jx (cu 64 a) (cu 64 255))):az)))])))<|e (bQ (bA (vq.v (d++bytesOf (aC (aR [Ck.i a8] 1) 0 [CV.i a8 (bG a8 (bA (↑(eg (jx (cu 64 a) (cu 64 255))):az)))])))) 16)
def vo:=b λa=>ai a
def c:=js vo
def v:=jw vo
def out:ju vo c v x:=jA
end tO
namespace oH
def r18(N:aN)(g k:vT R)(a:aN)(d e f h i j:az)(l:Row):aG R:=aT (ah (h<f)) (bY h ((jd (av l a 0)).length)<|bY h ((jd (av l a 0)).length)<|g a d e f (bA (h+1)) i j (eH l a 0 [CV.l 3 (eH (jd (av l a 0)) h.toNat 0 [.i ak (bA (cz (bO (av (jd (av l a 0)) h.toNat 0)) 2))])]))<|k a d e f h i j l
def l18(N:aN)(a:vT R):aN->vT R
 |0=>λ_ _ _ _ _ _ _ _=>ay
 |n+1=>r18 N (l18 N a n) a
def r15(N:aN)(g k:mL R):mL R:=λa d e f h=>aT (ah (d<a)) (bY d h.length<|l18 N (λ_ i j _ _ l m o=>g i (bA (j+1)) l m o) N d.toNat a d ((jd (av h d.toNat 0)).length:az) 0 e f h)<|k a d e f h
def l15(N:aN)(a:mL R):aN->mL R
 |0=>λ_ _ _ _ _=>ay
 |n+1=>r15 N (l15 N a n) a
def r5(N:aN)(g j:w_ R):w_ R:=λa d e f h i=>aT (ah (e<d)) (bY e i.length<|bw (tO.c e a)<|bY (tO.v e a) ((jd (av i e.toNat 0)).length)<|bY (tO.v e a) ((jd (av i e.toNat 0)).length)<|g a d (bA (e+1)) f h (eH i e.toNat 0 [CV.l 3 (eH (jd (av i e.toNat 0)) (tO.v e a).toNat 0 [.i ak (eE aq (bA (bO (av (jd (av i e.toNat 0)) (tO.v e a).toNat 0)+1)) 15)])]))<|j a d e f h i
def l5(N:aN)(a:w_ R):aN->w_ R
 |0=>λ_ _ _ _ _ _=>ay
 |n+1=>r5 N (l5 N a n) a
def b(N:aN)(k:nY R)(a:Row)(d:az)(e:ar):aG R:=bw (jr.c a d)<|bw (pZ.c a d)<|aT (!pZ.v a d) (k (jr.v a d).1 (jr.v a d).2)<|l5 N (λ_ _ _ f h i=>aT (ah (bA (h+1)<64)) (k i (bA (h+1)))<|l15 N (λ_ _ _ j l=>k l j) N (i.length:az) 0 f 0 i) N e ((jr.v a d).1.length:az) 0 0 (jr.v a d).2 (jr.v a d).1
def vo:=b cw λa d=>ai (a,d)
def c:=KC vo
def v:=LY vo
def out:Lm vo c v x:=PM
end oH
namespace D8
def b(e:aZ->aG R)(a d:ar):aG R:=e (cD (aF a) (aF d))
def v(d a:ar):aZ:=(cD (aF d) (aF a))
def eu(e:aZ->aG R)(d a:ar):b e d a=e (v d a):=by first|rfl|(unfold b v;simp only[cy];(repeat' split)<;>rfl)
end D8
namespace vt
def r2(N:aN)(g i j:fy R):fy R:=λa d e f h=>aT (ah (h<f)) (bY h a.length<|aT (D8.v (bn (av a h.toNat 0)) d) (i a d h f h)<|g a d e f (bA (h+1)))<|j a d e f h
def l2(N:aN)(a d:fy R):aN->fy R
 |0=>λ_ _ _ _ _=>ay
 |n+1=>r2 N (l2 N a d n) a d
def b(N:aN)(f:az->aG R)(a:Row)(e:ar):aG R:=l2 N (λ_ _ d _ _=>f d) (λ_ _ _ _ _=>f (-1)) N a e 0 (a.length:az) 0
def vo:=b cw λa=>ai a
def c:=js vo
def v:=jw vo
def out:ju vo c v x:=jA
end vt
namespace xL
def r5(N:aN)(g h:gZ R):gZ R:=λa d e f=>aT (ah (e<(f.length:az))) (bY e f.length<|aT (!D8.v (bn (av f e.toNat 0)) a) (bY d f.length<|g a (bA (d+1)) (bA (e+1)) (eH f d.toNat 0 [.s (bn (av f e.toNat 0))]))<|g a d (bA (e+1)) f)<|h a d e f
def l5(N:aN)(a:gZ R):aN->gZ R
 |0=>λ_ _ _ _=>ay
 |n+1=>r5 N (l5 N a n) a
def b(N:aN)(h:Row->aG R)(a:Row)(f:ar):aG R:=bw (vt.c a f)<|aT (ah (vt.v a f=s9 1)) (h a)<|l5 N (λ_ d _ e=>bw (gA d (e.length:az) (e.length:az))<|bw (gA 0 d ((kO d.toNat e++aR [.s] ((e.length:az).toNat-d.toNat)++nc (e.length:az).toNat e).length:az))<|h (ez (kO d.toNat e++aR [.s] ((e.length:az).toNat-d.toNat)++nc (e.length:az).toNat e) (aP 0) d.toNat)) N f (vt.v a f) (bA (vt.v a f+1)) a
def vo:=b cw λa=>ai a
def c:=js vo
def v:=jw vo
def out:ju vo c v x:=jA
end xL
namespace ki
def b(e:Row->aG R)(a:Row)(d:ar):aG R:=bw (tT.c a)<|bw (xL.c (tT.v a) d)<|e (xL.v (tT.v a) d)
def vo:=b λa=>ai a
def c:=js vo
def v:=jw vo
def out:ju vo c v x:=jA
end ki
namespace wg
def r5(N:aN)(g i:BG R):BG R:=λa d e f h=>aT (ah (h<f)) (bY h e.length<|bw (tO.c h a)<|bY (tO.v h a) ((jd (av e h.toNat 0)).length)<|g a (eE aq d (bO (av (jd (av e h.toNat 0)) (tO.v h a).toNat 0))) e f (bA (h+1)))<|i a d e f h
def l5(N:aN)(a:BG R):aN->BG R
 |0=>λ_ _ _ _ _=>ay
 |n+1=>r5 N (l5 N a n) a
def b(N:aN)(h:az->aG R)(a:Row)(d:az)(e:ar):aG R:=bw (pZ.c a d)<|aT (!pZ.v a d) (h 0)<|l5 N (λ_ f _ _ _=>h f) N e 15 a (a.length:az) 0
def vo:=b cw λa=>ai a
def c:=KC vo
def v:=LY vo
def out:Lm vo c v x:=PM
end wg
namespace OY
def b(i:qd R):qd R:=λa d e f h=>bw (jy.c a d e f)<|bw (pq.c a d e f)<|aT (!pq.v a d e f) (i (jy.v a d e f).1 (jy.v a d e f).2.1 (jy.v a d e f).2.2.1 (dt (jy.v a d e f)) ⟨#[]⟩)<|aT (!OX.v h) (i (jy.v a d e f).1 (jy.v a d e f).2.1 (jy.v a d e f).2.2.1 (dt (jy.v a d e f)) ⟨#[]⟩)<|bw (oH.c e f h)<|bw (tc.c d h)<|aT (tc.v d h) (bw (ki.c d h)<|bw (b_ ((ki.v d h).length+(aC (aR [.s] 1) 0 [.s h]).length) 16)<|i (jy.v a d e f).1 (ki.v d h++aC (aR [.s] 1) 0 [.s h]) (oH.v e f h).1 (oH.v e f h).2 ⟨#[]⟩)<|bw (ki.c a h)<|bw (b_ ((ki.v a h).length+(aC (aR [.s] 1) 0 [.s h]).length) 16)<|aT (ah (((ki.v a h++aC (aR [.s] 1) 0 [.s h]).length:az)<=2)) (i (ki.v a h++aC (aR [.s] 1) 0 [.s h]) (jy.v a d e f).2.1 (oH.v e f h).1 (oH.v e f h).2 ⟨#[]⟩)<|bw (ah (0<((ki.v a h++aC (aR [.s] 1) 0 [.s h]).length:az)))<|bw (gA 1 ((ki.v a h++aC (aR [.s] 1) 0 [.s h]).length:az) ((ki.v a h++aC (aR [.s] 1) 0 [.s h]).length:az))<|aT (ah (((jy.v a d e f).2.1.length:az)<4)) (bw (b_ ((jy.v a d e f).2.1.length+(aC (aR [.s] 1) 0 [.s (bn (av (ki.v a h++aC (aR [.s] 1) 0 [.s h]) (aP 0) 0))]).length) 16)<|i (ez (ki.v a h++aC (aR [.s] 1) 0 [.s h]) (aP 1) ((ki.v a h++aC (aR [.s] 1) 0 [.s h]).length:az).toNat) ((jy.v a d e f).2.1++aC (aR [.s] 1) 0 [.s (bn (av (ki.v a h++aC (aR [.s] 1) 0 [.s h]) (aP 0) 0))]) (oH.v e f h).1 (oH.v e f h).2 ⟨#[]⟩)<|bw (ah (0<((jy.v a d e f).2.1.length:az)))<|bw (wg.c (oH.v e f h).1 (oH.v e f h).2 (bn (av (ki.v a h++aC (aR [.s] 1) 0 [.s h]) (aP 0) 0)))<|bw (wg.c (oH.v e f h).1 (oH.v e f h).2 (bn (av (jy.v a d e f).2.1 (aP 0) 0)))<|aT (ah (wg.v (oH.v e f h).1 (oH.v e f h).2 (bn (av (ki.v a h++aC (aR [.s] 1) 0 [.s h]) (aP 0) 0))>wg.v (oH.v e f h).1 (oH.v e f h).2 (bn (av (jy.v a d e f).2.1 (aP 0) 0)))) (bw (gA 1 ((jy.v a d e f).2.1.length:az) ((jy.v a d e f).2.1.length:az))<|bw (b_ ((ez (jy.v a d e f).2.1 (aP 1) ((jy.v a d e f).2.1.length:az).toNat).length+(aC (aR [.s] 1) 0 [.s (bn (av (ki.v a h++aC (aR [.s] 1) 0 [.s h]) (aP 0) 0))]).length) 16)<|i (ez (ki.v a h++aC (aR [.s] 1) 0 [.s h]) (aP 1) ((ki.v a h++aC (aR [.s] 1) 0 [.s h]).length:az).toNat) (ez (jy.v a d e f).2.1 (aP 1) ((jy.v a d e f).2.1.length:az).toNat++aC (aR [.s] 1) 0 [.s (bn (av (ki.v a h++aC (aR [.s] 1) 0 [.s h]) (aP 0) 0))]) (oH.v e f h).1 (oH.v e f h).2 (bn (av (jy.v a d e f).2.1 (aP 0) 0)))<|i (ez (ki.v a h++aC (aR [.s] 1) 0 [.s h]) (aP 1) ((ki.v a h++aC (aR [.s] 1) 0 [.s h]).length:az).toNat) (jy.v a d e f).2.1 (oH.v e f h).1 (oH.v e f h).2 (bn (av (ki.v a h++aC (aR [.s] 1) 0 [.s h]) (aP 0) 0))
def vo:=b λa d e f g=>ai (a,d,e,f,g)
def c:=Bl vo
def v:=Br vo
def out:Bo vo c v x:=De
end OY
namespace qg
def r2(N:aN)(g k:iH R):iH R:=λa d e f h i j l m o p q r s t u w=>aT (ah (a<(w.length:az))) (bY a w.length<|aT (ah (bO (av w a.toNat 0)<h)) (g (bA (a+1)) d e f h i j l m o p q r s t u w)<|k a d e f h i j l m o p q r s t u w)<|k a d e f h i j l m o p q r s t u w
def l2(N:aN)(a:iH R):aN->iH R
 |0=>λ_ _ _ _ _ _ _ _ _ _ _ _ _ _ _ _ _=>ay
 |n+1=>r2 N (l2 N a n) a
def b(N:aN)(O:dn R):vS R:=λa d e f h i j l m o p q r s t u=>l2 N (λw y z α x A B C H K M P Q S U V k=>bw (ah (0<=w)&&ah (w<=(k.length:az))&&b_ (k.length+(aC (aR [Ck.i ak,Ck.s,Ck.i ak,Ck.i ak,Ck.i ak,Ck.s,Ck.i ak] 1) 0 [.i ak x,.s A,.i ak B,.i ak C,.i ak H,.s K,.i ak M]).length) 72)<|O y P Q S U z V (Pu.uh k w.toNat (aC (aR [Ck.i ak,Ck.s,Ck.i ak,Ck.i ak,Ck.i ak,Ck.s,Ck.i ak] 1) 0 [.i ak x,.s A,.i ak B,.i ak C,.i ak H,.s K,.i ak M])) α) N 0 a i m o p q r s t u d e f h j l
def vo:=b cw λa d e f g h i j k=>ai (a,d,e,f,g,h,i,j,k)
def c:=ZN vo
def v:=acR vo
def out:abv vo c v x:=ajJ
end qg
namespace pr
def r5(N:aN)(g h:gZ R):gZ R:=λa d e f=>aT (ah (e<(f.length:az))) (bY e f.length<|aT (!D5.v (bn (av f e.toNat 0)) (bO (av f e.toNat 1)) (bO (av f e.toNat (1+1))) (bn (av f e.toNat (1+1+1))) a) (bY d f.length<|g a (bA (d+1)) (bA (e+1)) (eH f d.toNat 0 [.s (bn (av f e.toNat 0)),.i ak (bO (av f e.toNat 1)),.i ak (bO (av f e.toNat (1+1))),.s (bn (av f e.toNat (1+1+1)))]))<|g a d (bA (e+1)) f)<|h a d e f
def l5(N:aN)(a:gZ R):aN->gZ R
 |0=>λ_ _ _ _=>ay
 |n+1=>r5 N (l5 N a n) a
def b(N:aN)(h:Row->aG R)(a:Row)(f:ar):aG R:=bw (vu.c a f)<|aT (ah (vu.v a f=s9 1)) (h a)<|l5 N (λ_ d _ e=>bw (gA d (e.length:az) (e.length:az))<|bw (gA 0 d ((kO d.toNat e++aR [Ck.s,Ck.i ak,Ck.i ak,Ck.s] ((e.length:az).toNat-d.toNat)++nc (e.length:az).toNat e).length:az))<|h (ez (kO d.toNat e++aR [Ck.s,Ck.i ak,Ck.i ak,Ck.s] ((e.length:az).toNat-d.toNat)++nc (e.length:az).toNat e) (aP 0) d.toNat)) N f (vu.v a f) (bA (vu.v a f+1)) a
def vo:=b cw λa=>ai a
def c:=js vo
def v:=jw vo
def out:ju vo c v x:=jA
end pr
namespace DQ
def b(e:Row->aG R)(a:Row)(d:ar):aG R:=bw (xG.c a)<|bw (pr.c (xG.v a) d)<|e (pr.v (xG.v a) d)
def vo:=b λa=>ai a
def c:=js vo
def v:=jw vo
def out:ju vo c v x:=jA
end DQ
namespace J4
def b(i:nt R):qd R:=λa d e f h=>bw (jy.c a d e f)<|bw (ki.c a h)<|bw (ki.c d h)<|i (ki.v a h) (ki.v d h) (jy.v a d e f).2.2.1 (dt (jy.v a d e f))
def vo:=b λa d e f=>ai (a,d,e,f)
def c:=Bl vo
def v:=Br vo
def out:Bo vo c v x:=De
end J4
namespace Qo
def b(k:fL R):nI R:=λa d e f h i j l m o p=>nh oX.c oX.v a d e f h i j l m λq=>nh OW.c OW.v a d e f h i j l m λr=>aT (!r) (k q.1 q.2.1 q.2.2.1 (cq q) (db q) (du q) (cC q) (dm q) (dP q) 1)<|aT (!kP.v o 1 9) (k q.1 q.2.1 q.2.2.1 (cq q) (db q) (du q) (cC q) (dm q) (dP q) 1)<|aT (!OX.v p) (k q.1 q.2.1 q.2.2.1 (cq q) (db q) (du q) (cC q) (dm q) (dP q) 1)<|jB OV.c OV.v a d e f h i j l m o λs=>aT (ah (s≥0)) (k q.1 q.2.1 q.2.2.1 (cq q) (db q) (du q) (cC q) (dm q) (dP q) 1)<|aT (ah ((l.length:az)=6)) (k q.1 q.2.1 q.2.2.1 (cq q) (db q) (du q) (cC q) (dm q) (dP q) 1)<|iU xP.c xP.v d p λt=>aT (ah (t≥0)) (bY t d.length<|aT (EJ.v (bn (av d t.toNat 0)) (bO (av d t.toNat 1)) (bO (av d t.toNat (1+1))) (bn (av d t.toNat (1+1+1))) a) (bY t d.length<|ng OY.c OY.v e f h i p λu=>nr qg.c qg.v q.1 q.2.1 u.1 u.2.1 u.2.2.1 (cq u) (cC q) (dm q) (dP q) o p 0 (bO (av d t.toNat 1)) 2 (bn (av d t.toNat (1+1+1))) (bA (a-bO (av d t.toNat 1))) λw=>k w.1 w.2.1 w.2.2.1 (cq w) (db w) (du w) (cC w) (dm w) (eE aq (bA (m+1)) 1000000000) 0)<|jB Kn.c Kn.v a d e f h i j l m p λu=>aT (ah (u<0)) (aT (ah ((j.length:az)=20)) (k q.1 q.2.1 q.2.2.1 (cq q) (db q) (du q) (cC q) (dm q) (dP q) 2)<|aT (ah (t≥0)) (iU DQ.c DQ.v d p λw=>ng J4.c J4.v e f h i p λy=>p7 oH.c oH.v h i p λz=>aT (ah (u<0)) (bw (b_ (q.2.2.2.2.2.2.1.length+(aC (aR [Ck.s,Ck.s,Ck.i ak,Ck.i ak,Ck.i ak] 1) 0 [.s p,.s ⟨#[]⟩,.i ak 1,.i ak 0,.i ak 0]).length) 56)<|bw (ah ((j.length:az)<(((cC q)++aC (aR [Ck.s,Ck.s,Ck.i ak,Ck.i ak,Ck.i ak] 1) 0 [.s p,.s ⟨#[]⟩,.i ak 1,.i ak 0,.i ak 0]).length:az)))<|nr qg.c qg.v q.1 w y.1 y.2.1 z.1 z.2 ((cC q)++aC (aR [Ck.s,Ck.s,Ck.i ak,Ck.i ak,Ck.i ak] 1) 0 [.s p,.s ⟨#[]⟩,.i ak 1,.i ak 0,.i ak 0]) (dm q) (dP q) o p (bA ((j.length:az)+1)) 0 1 (bn (av ((cC q)++aC (aR [Ck.s,Ck.s,Ck.i ak,Ck.i ak,Ck.i ak] 1) 0 [.s p,.s ⟨#[]⟩,.i ak 1,.i ak 0,.i ak 0]) (j.length:az).toNat 1)) 0 λα=>k α.1 α.2.1 α.2.2.1 α.2.2.2.1 α.2.2.2.2.1 α.2.2.2.2.2.1 α.2.2.2.2.2.2.1 α.2.2.2.2.2.2.2.1 α.2.2.2.2.2.2.2.2 0)<|bY u q.2.2.2.2.2.2.1.length<|nr qg.c qg.v q.1 w y.1 y.2.1 z.1 z.2 (cC q) (dm q) (dP q) o p (bA (u+1)) 0 1 (bn (av (cC q) u.toNat 1)) 0 λα=>k α.1 α.2.1 α.2.2.1 α.2.2.2.1 α.2.2.2.2.1 α.2.2.2.2.2.1 α.2.2.2.2.2.2.1 α.2.2.2.2.2.2.2.1 α.2.2.2.2.2.2.2.2 0)<|p7 oH.c oH.v h i p λw=>aT (ah (u<0)) (bw (b_ (q.2.2.2.2.2.2.1.length+(aC (aR [Ck.s,Ck.s,Ck.i ak,Ck.i ak,Ck.i ak] 1) 0 [.s p,.s ⟨#[]⟩,.i ak 1,.i ak 0,.i ak 0]).length) 56)<|bw (ah ((j.length:az)<(((cC q)++aC (aR [Ck.s,Ck.s,Ck.i ak,Ck.i ak,Ck.i ak] 1) 0 [.s p,.s ⟨#[]⟩,.i ak 1,.i ak 0,.i ak 0]).length:az)))<|nr qg.c qg.v q.1 q.2.1 q.2.2.1 (cq q) w.1 w.2 ((cC q)++aC (aR [Ck.s,Ck.s,Ck.i ak,Ck.i ak,Ck.i ak] 1) 0 [.s p,.s ⟨#[]⟩,.i ak 1,.i ak 0,.i ak 0]) (dm q) (dP q) o p (bA ((j.length:az)+1)) 0 1 (bn (av ((cC q)++aC (aR [Ck.s,Ck.s,Ck.i ak,Ck.i ak,Ck.i ak] 1) 0 [.s p,.s ⟨#[]⟩,.i ak 1,.i ak 0,.i ak 0]) (j.length:az).toNat 1)) 0 λy=>k y.1 y.2.1 y.2.2.1 (cq y) (db y) (du y) (cC y) (dm y) (dP y) 0)<|bY u q.2.2.2.2.2.2.1.length<|nr qg.c qg.v q.1 q.2.1 q.2.2.1 (cq q) w.1 w.2 (cC q) (dm q) (dP q) o p (bA (u+1)) 0 1 (bn (av (cC q) u.toNat 1)) 0 λy=>k y.1 y.2.1 y.2.2.1 (cq y) (db y) (du y) (cC y) (dm y) (dP y) 0)<|aT (ah (t≥0)) (iU DQ.c DQ.v d p λw=>ng J4.c J4.v e f h i p λy=>p7 oH.c oH.v h i p λz=>aT (ah (u<0)) (bw (b_ (q.2.2.2.2.2.2.1.length+(aC (aR [Ck.s,Ck.s,Ck.i ak,Ck.i ak,Ck.i ak] 1) 0 [.s p,.s ⟨#[]⟩,.i ak 1,.i ak 0,.i ak 0]).length) 56)<|bw (ah ((j.length:az)<(((cC q)++aC (aR [Ck.s,Ck.s,Ck.i ak,Ck.i ak,Ck.i ak] 1) 0 [.s p,.s ⟨#[]⟩,.i ak 1,.i ak 0,.i ak 0]).length:az)))<|nr qg.c qg.v q.1 w y.1 y.2.1 z.1 z.2 ((cC q)++aC (aR [Ck.s,Ck.s,Ck.i ak,Ck.i ak,Ck.i ak] 1) 0 [.s p,.s ⟨#[]⟩,.i ak 1,.i ak 0,.i ak 0]) (dm q) (dP q) o p (bA ((j.length:az)+1)) 0 1 (bn (av ((cC q)++aC (aR [Ck.s,Ck.s,Ck.i ak,Ck.i ak,Ck.i ak] 1) 0 [.s p,.s ⟨#[]⟩,.i ak 1,.i ak 0,.i ak 0]) (j.length:az).toNat 1)) 0 λα=>k α.1 α.2.1 α.2.2.1 α.2.2.2.1 α.2.2.2.2.1 α.2.2.2.2.2.1 α.2.2.2.2.2.2.1 α.2.2.2.2.2.2.2.1 α.2.2.2.2.2.2.2.2 0)<|bY u q.2.2.2.2.2.2.1.length<|nr qg.c qg.v q.1 w y.1 y.2.1 z.1 z.2 (cC q) (dm q) (dP q) o p (bA (u+1)) 0 1 (bn (av (cC q) u.toNat 1)) 0 λα=>k α.1 α.2.1 α.2.2.1 α.2.2.2.1 α.2.2.2.2.1 α.2.2.2.2.2.1 α.2.2.2.2.2.2.1 α.2.2.2.2.2.2.2.1 α.2.2.2.2.2.2.2.2 0)<|p7 oH.c oH.v h i p λw=>aT (ah (u<0)) (bw (b_ (q.2.2.2.2.2.2.1.length+(aC (aR [Ck.s,Ck.s,Ck.i ak,Ck.i ak,Ck.i ak] 1) 0 [.s p,.s ⟨#[]⟩,.i ak 1,.i ak 0,.i ak 0]).length) 56)<|bw (ah ((j.length:az)<(((cC q)++aC (aR [Ck.s,Ck.s,Ck.i ak,Ck.i ak,Ck.i ak] 1) 0 [.s p,.s ⟨#[]⟩,.i ak 1,.i ak 0,.i ak 0]).length:az)))<|nr qg.c qg.v q.1 q.2.1 q.2.2.1 (cq q) w.1 w.2 ((cC q)++aC (aR [Ck.s,Ck.s,Ck.i ak,Ck.i ak,Ck.i ak] 1) 0 [.s p,.s ⟨#[]⟩,.i ak 1,.i ak 0,.i ak 0]) (dm q) (dP q) o p (bA ((j.length:az)+1)) 0 1 (bn (av ((cC q)++aC (aR [Ck.s,Ck.s,Ck.i ak,Ck.i ak,Ck.i ak] 1) 0 [.s p,.s ⟨#[]⟩,.i ak 1,.i ak 0,.i ak 0]) (j.length:az).toNat 1)) 0 λy=>k y.1 y.2.1 y.2.2.1 (cq y) (db y) (du y) (cC y) (dm y) (dP y) 0)<|bY u q.2.2.2.2.2.2.1.length<|nr qg.c qg.v q.1 q.2.1 q.2.2.1 (cq q) w.1 w.2 (cC q) (dm q) (dP q) o p (bA (u+1)) 0 1 (bn (av (cC q) u.toNat 1)) 0 λy=>k y.1 y.2.1 y.2.2.1 (cq y) (db y) (du y) (cC y) (dm y) (dP y) 0)<|jB Kn.c Kn.v a d e f h i j l m p λu=>aT (ah (u<0)) (aT (ah ((j.length:az)=20)) (k q.1 q.2.1 q.2.2.1 (cq q) (db q) (du q) (cC q) (dm q) (dP q) 2)<|aT (ah (t≥0)) (iU DQ.c DQ.v d p λw=>ng J4.c J4.v e f h i p λy=>p7 oH.c oH.v h i p λz=>aT (ah (u<0)) (bw (b_ (q.2.2.2.2.2.2.1.length+(aC (aR [Ck.s,Ck.s,Ck.i ak,Ck.i ak,Ck.i ak] 1) 0 [.s p,.s ⟨#[]⟩,.i ak 1,.i ak 0,.i ak 0]).length) 56)<|bw (ah ((j.length:az)<(((cC q)++aC (aR [Ck.s,Ck.s,Ck.i ak,Ck.i ak,Ck.i ak] 1) 0 [.s p,.s ⟨#[]⟩,.i ak 1,.i ak 0,.i ak 0]).length:az)))<|nr qg.c qg.v q.1 w y.1 y.2.1 z.1 z.2 ((cC q)++aC (aR [Ck.s,Ck.s,Ck.i ak,Ck.i ak,Ck.i ak] 1) 0 [.s p,.s ⟨#[]⟩,.i ak 1,.i ak 0,.i ak 0]) (dm q) (dP q) o p (bA ((j.length:az)+1)) 0 1 (bn (av ((cC q)++aC (aR [Ck.s,Ck.s,Ck.i ak,Ck.i ak,Ck.i ak] 1) 0 [.s p,.s ⟨#[]⟩,.i ak 1,.i ak 0,.i ak 0]) (j.length:az).toNat 1)) 0 λα=>k α.1 α.2.1 α.2.2.1 α.2.2.2.1 α.2.2.2.2.1 α.2.2.2.2.2.1 α.2.2.2.2.2.2.1 α.2.2.2.2.2.2.2.1 α.2.2.2.2.2.2.2.2 0)<|bY u q.2.2.2.2.2.2.1.length<|nr qg.c qg.v q.1 w y.1 y.2.1 z.1 z.2 (cC q) (dm q) (dP q) o p (bA (u+1)) 0 1 (bn (av (cC q) u.toNat 1)) 0 λα=>k α.1 α.2.1 α.2.2.1 α.2.2.2.1 α.2.2.2.2.1 α.2.2.2.2.2.1 α.2.2.2.2.2.2.1 α.2.2.2.2.2.2.2.1 α.2.2.2.2.2.2.2.2 0)<|p7 oH.c oH.v h i p λw=>aT (ah (u<0)) (bw (b_ (q.2.2.2.2.2.2.1.length+(aC (aR [Ck.s,Ck.s,Ck.i ak,Ck.i ak,Ck.i ak] 1) 0 [.s p,.s ⟨#[]⟩,.i ak 1,.i ak 0,.i ak 0]).length) 56)<|bw (ah ((j.length:az)<(((cC q)++aC (aR [Ck.s,Ck.s,Ck.i ak,Ck.i ak,Ck.i ak] 1) 0 [.s p,.s ⟨#[]⟩,.i ak 1,.i ak 0,.i ak 0]).length:az)))<|nr qg.c qg.v q.1 q.2.1 q.2.2.1 (cq q) w.1 w.2 ((cC q)++aC (aR [Ck.s,Ck.s,Ck.i ak,Ck.i ak,Ck.i ak] 1) 0 [.s p,.s ⟨#[]⟩,.i ak 1,.i ak 0,.i ak 0]) (dm q) (dP q) o p (bA ((j.length:az)+1)) 0 1 (bn (av ((cC q)++aC (aR [Ck.s,Ck.s,Ck.i ak,Ck.i ak,Ck.i ak] 1) 0 [.s p,.s ⟨#[]⟩,.i ak 1,.i ak 0,.i ak 0]) (j.length:az).toNat 1)) 0 λy=>k y.1 y.2.1 y.2.2.1 (cq y) (db y) (du y) (cC y) (dm y) (dP y) 0)<|bY u q.2.2.2.2.2.2.1.length<|nr qg.c qg.v q.1 q.2.1 q.2.2.1 (cq q) w.1 w.2 (cC q) (dm q) (dP q) o p (bA (u+1)) 0 1 (bn (av (cC q) u.toNat 1)) 0 λy=>k y.1 y.2.1 y.2.2.1 (cq y) (db y) (du y) (cC y) (dm y) (dP y) 0)<|aT (ah (t≥0)) (iU DQ.c DQ.v d p λw=>ng J4.c J4.v e f h i p λy=>p7 oH.c oH.v h i p λz=>aT (ah (u<0)) (bw (b_ (q.2.2.2.2.2.2.1.length+(aC (aR [Ck.s,Ck.s,Ck.i ak,Ck.i ak,Ck.i ak] 1) 0 [.s p,.s ⟨#[]⟩,.i ak 1,.i ak 0,.i ak 0]).length) 56)<|bw (ah ((j.length:az)<(((cC q)++aC (aR [Ck.s,Ck.s,Ck.i ak,Ck.i ak,Ck.i ak] 1) 0 [.s p,.s ⟨#[]⟩,.i ak 1,.i ak 0,.i ak 0]).length:az)))<|nr qg.c qg.v q.1 w y.1 y.2.1 z.1 z.2 ((cC q)++aC (aR [Ck.s,Ck.s,Ck.i ak,Ck.i ak,Ck.i ak] 1) 0 [.s p,.s ⟨#[]⟩,.i ak 1,.i ak 0,.i ak 0]) (dm q) (dP q) o p (bA ((j.length:az)+1)) 0 1 (bn (av ((cC q)++aC (aR [Ck.s,Ck.s,Ck.i ak,Ck.i ak,Ck.i ak] 1) 0 [.s p,.s ⟨#[]⟩,.i ak 1,.i ak 0,.i ak 0]) (j.length:az).toNat 1)) 0 λα=>k α.1 α.2.1 α.2.2.1 α.2.2.2.1 α.2.2.2.2.1 α.2.2.2.2.2.1 α.2.2.2.2.2.2.1 α.2.2.2.2.2.2.2.1 α.2.2.2.2.2.2.2.2 0)<|bY u q.2.2.2.2.2.2.1.length<|nr qg.c qg.v q.1 w y.1 y.2.1 z.1 z.2 (cC q) (dm q) (dP q) o p (bA (u+1)) 0 1 (bn (av (cC q) u.toNat 1)) 0 λα=>k α.1 α.2.1 α.2.2.1 α.2.2.2.1 α.2.2.2.2.1 α.2.2.2.2.2.1 α.2.2.2.2.2.2.1 α.2.2.2.2.2.2.2.1 α.2.2.2.2.2.2.2.2 0)<|p7 oH.c oH.v h i p λw=>aT (ah (u<0)) (bw (b_ (q.2.2.2.2.2.2.1.length+(aC (aR [Ck.s,Ck.s,Ck.i ak,Ck.i ak,Ck.i ak] 1) 0 [.s p,.s ⟨#[]⟩,.i ak 1,.i ak 0,.i ak 0]).length) 56)<|bw (ah ((j.length:az)<(((cC q)++aC (aR [Ck.s,Ck.s,Ck.i ak,Ck.i ak,Ck.i ak] 1) 0 [.s p,.s ⟨#[]⟩,.i ak 1,.i ak 0,.i ak 0]).length:az)))<|nr qg.c qg.v q.1 q.2.1 q.2.2.1 (cq q) w.1 w.2 ((cC q)++aC (aR [Ck.s,Ck.s,Ck.i ak,Ck.i ak,Ck.i ak] 1) 0 [.s p,.s ⟨#[]⟩,.i ak 1,.i ak 0,.i ak 0]) (dm q) (dP q) o p (bA ((j.length:az)+1)) 0 1 (bn (av ((cC q)++aC (aR [Ck.s,Ck.s,Ck.i ak,Ck.i ak,Ck.i ak] 1) 0 [.s p,.s ⟨#[]⟩,.i ak 1,.i ak 0,.i ak 0]) (j.length:az).toNat 1)) 0 λy=>k y.1 y.2.1 y.2.2.1 (cq y) (db y) (du y) (cC y) (dm y) (dP y) 0)<|bY u q.2.2.2.2.2.2.1.length<|nr qg.c qg.v q.1 q.2.1 q.2.2.1 (cq q) w.1 w.2 (cC q) (dm q) (dP q) o p (bA (u+1)) 0 1 (bn (av (cC q) u.toNat 1)) 0 λy=>k y.1 y.2.1 y.2.2.1 (cq y) (db y) (du y) (cC y) (dm y) (dP y) 0
def vo:=b λa d e f g h i j k l=>ai (a,d,e,f,g,h,i,j,k,l)
def c:=xT vo
def v:=yM vo
def out:yq vo c v x:=AX
end Qo
namespace J5
def b(k:aZ->aG R):fL R:=λa d e f h i j l m o=>bw (OW.c a d e f h i j l m)<|aT (OW.v a d e f h i j l m) (k (kP.v o 0 (bA ((j.length:az)-1))))<|k aq
def vo:=b λa=>ai a
def c:=qi vo
def v:=qw vo
def out:qp vo c v x:=rA
end J5
namespace Kh
def b(f:Cm R)(a:az)(d:ar)(e:Row):aG R:=aT (b_ ((aR [Ck.i ak,Ck.i ak] 0).length+e.length) 16) (f a d (aR [Ck.i ak,Ck.i ak] 0++e)) ay
def v(a:az)(d:ar)(e:Row):az×ar×Row:=(a,d,e)
def c(d:az)(e:ar)(a:Row):aZ:=ah (a.length<=4294967296)
def eu(f:Cm R)(d:az)(e:ar)(a:Row)(j:c d e a=ao):b f d e a=f (v d e a).1 (v d e a).2.1 (v d e a).2.2:=by have h:a.length<=4294967296:=cB j;unfold b;rw[show bD (aR [Ck.i ak,Ck.i ak] 0)+a.length=a.length by simp[aR],b6 (by omega) (by omega)];rfl
end Kh
namespace Iq
def r2(N:aN)(g k m:yY R)(a:aZ)(d:Row)(e f h:az)(i:ar)(j:Row):aG R:=aT (ah (f<e)) (aT (ah (0<=f)&&ah (f<(d.length:az))) (aT (!kP.v (bO (av d f.toNat 0)) 1 9) (k aq d e f h i j)<|aT (!kP.v (bO (av d f.toNat 1)) 0 (i.size:az)) (k aq d e f h i j)<|aT (ah (f>0)) (aT (ah (0<=bA (f-1))&&ah (bA (f-1)<(j.length:az))) (aT (ah (bO (av j (bA (f-1)).toNat 0)≥bO (av d f.toNat 0))) (k aq d e f h i j)<|g a d e (bA (f+1)) h i j) ay)<|g a d e (bA (f+1)) h i j) ay)<|m a d e f h i j
def l2(N:aN)(a d:yY R):aN->yY R
 |0=>λ_ _ _ _ _ _ _=>ay
 |n+1=>r2 N (l2 N a d n) a d
def b(N:aN)(j:aZ->aG R)(a:az)(d:ar)(e:Row):aG R:=l2 N (λf _ _ _ _ _ _=>j f) (λ_ _ _ _ f h i=>aT (kP.v f 1 3) (aT (ah ((h.size:az)<=400)) (j (ah ((i.length:az)<=6)))<|j aq)<|j aq) N aq e (e.length:az) 0 a d e
def v(e:az)(d:ar)(a:Row):aZ:=(c7 a.length).all (lM.el d a)&&lM.rest e d a
def eu(f:aZ->aG R)(e:az)(d:ar)(a:Row)(P:DS d)(u:A' a):∃N,b N f e d a=f (v e d a):=by
 refine⟨a.length+1,?_⟩
 unfold b;have t:kP.v=kI.v:=rfl;simp only[t,lM.N1]
 have:=gP (λn (i:aN)=>l2 (a.length+1) (λO Q S y z A B=>f O) (λC H K M o r s=>f (lM.rest o r s)) n aq a a.length i e d a) (λi=>a.length-i) (λi=>i<=a.length)
  (λi=>f ((iT i (a.length-i)).all (lM.el d a)&&lM.rest e d a)) (λn i hi=>by
  simp only[l2,r2,t,dh,cm,dK,bj,lM.mW]
  by_cases h:i<a.length
  ·rw[lM.Iy _ h];simp only[h,aQ,au,cG h u.1];cases h1:ah (1<=bO (av a i 0)/\bO (av a i 0)<=9)with
   |false=>left;simp[lM.el,h1]
   |true=>
    simp only[aY,ax];cases h3:ah (0<=bO (av a i 1)/\bO (av a i 1)<=d.size)with
    |false=>left;simp[lM.el,h3]
    |true=>
     simp only[aY,ax];by_cases m:0<i
     ·have x:ah ((i:az)>0)=true:=by simp;omega
      have hp:i-1<a.length:=by omega
      have k:(i==0)=false:=by simp;omega
      simp only[x,au,lM.DH m (by have:=u.1;omega),cm,dh,dK,hp,aQ,aK];cases h2:ah (bO (av a (i-1) 0)≥bO (av a i 0))with
      |true=>
       left;have j:ah (bO (av a (i-1) 0)<bO (av a i 0))=false:=by simp at h2⊢;omega
       simp[lM.el,j,k]
      |false=>
       have j:ah (bO (av a (i-1) 0)<bO (av a i 0))=true:=by simp at h2⊢;omega
       right;exact⟨i+1,h,by omega,by simp only[lM.el,h1,h3,j,Kd,bj],rfl⟩
     ·have m:i=0:=by omega
      subst m;simp only[show ah (((0:aN):az)>0)=aq from rfl,ax];right;exact⟨1,h,by omega,by simp only[lM.el,h1,h3,bj];rfl,rfl⟩
  ·left;have h0:a.length-i=0:=by omega
   simp only[h,bc,ax,h0,V4,DY,bj]) (a.length+1) 0 (by omega) (by omega)
 refine this.trans ?_;unfold v;rw[H2,<-V5]
end Iq
namespace V'
def b(h:FQ R)(a:az)(d:ar)(e:Row)(f:ar):aG R:=aT (Kh.c a d e) (aT (!Iq.v a d e) (h a d e aq)<|aT (a !=1) (h a d e aq)<|aT (!kP.v (f.size:az) 1 40) (h a d e aq)<|aT (ah (bA ((d.size:az)+(f.size:az))>400)) (h a d e aq)<|aT (ah (d.size+f.size<=4611686018427387904)) (h a (d++f) e ao) ay) ay
def v(d:az)(e:ar)(f:Row)(a:ar):az×ar×Row×aZ:=
 if lM.v d e f=ao/\d=1/\1<=a.size/\a.size<=40/\e.size+a.size<=400 then(d,e++a,f,ao)else(d,e,f,aq)
def c(e:az)(f:ar)(a:Row)(d:ar):aZ:=ah (a.length<=4294967296)
def eu(j:FQ R)(f:az)(e:ar)(h:Row)(d:ar)(u:c f e h d=ao)(s:DS e)(z:A' h)(t:DS d):b j f e h d=j (v f e h d).1 (v f e h d).2.1 (v f e h d).2.2.1 (v f e h d).2.2.2:=by
 have x:e.size<=4611686018427387904:=s;have y:d.size<=4611686018427387904:=t;have k:Kh.c f e h=true:=u;have m:∀a b c,Iq.v a b c=lM.v a b c:=λ_ _ _=>rfl;have o:∀n a b,kP.v n a b=ah (a<=n/\n<=b):=lM.mW;unfold b v;rw[k,m,o,au];cases h1:lM.v f e h with
 |false=>simp
 |true=>
  by_cases h2:f=1
  ·by_cases h3:1<=(d.size:az)/\(d.size:az)<=40
   ·have r:bA ((e.size:az)+(d.size:az))=e.size+d.size:=iE (by omega) (by omega);rw[r,aA h3];by_cases h4:(e.size:az)+(d.size:az)>400
    ·rw[vJ h4,bk (by omega)];simp[h2]
    ·rw[CK h4,bm (by refine⟨rfl,h2,?_,?_,?_⟩<;>omega),vJ (show e.size+d.size<=4611686018427387904 by omega)];simp[h2]
   ·rw[aD h3,bk (by omega)];simp
  ·have i:(f !=1)=true:=bne_iff_ne.mpr h2;rw[bk (by simp[h2]),i];rfl
end V'
namespace Qq
def r1(N:aN)(g k:gK R):gK R:=λa d e f h i j l m o p q=>aT (ah (e<d)) (bY e j.length<|aT (ah (bO (av j e.toNat (1+1))=bA (a+1))) (aT (ah (bO (av j e.toNat (1+1+1+1))=1)) (bY a q.length<|bY e j.length<|g a d (bA (e+1)) f h i (eH j e.toNat 5 [.s (bn (av q a.toNat 1))]) l m o p q)<|g a d (bA (e+1)) f h i j l m o p q)<|g a d (bA (e+1)) f h i j l m o p q)<|k a d e f h i j l m o p q
def l1(N:aN)(a:gK R):aN->gK R
 |0=>λ_ _ _ _ _ _ _ _ _ _ _ _=>ay
 |n+1=>r1 N (l1 N a n) a
def b(N:aN)(k:dn R):fL R:=λa d e f h i j l m o=>l1 N (λ_ _ _ p q r s t u w y z=>k p t u w y q z s r) N o (l.length:az) 0 a i m l d e f h j
def vo:=b cw λa d e f g h i j k=>ai (a,d,e,f,g,h,i,j,k)
def c:=qi vo
def v:=qw vo
def out:qp vo c v x:=rA
end Qq
namespace Vv
def b(k:lk R):nI R:=λa d e f h i j l m o p=>nh oX.c oX.v a d e f h i j l m λq=>jB J5.c J5.v a d e f h i j l m o λr=>aT (!r) (k q.1 q.2.1 q.2.2.1 (cq q) (db q) (du q) (cC q) (dm q) (dP q) aq)<|bY o j.length<|bY o j.length<|aT (!(dt (V'.v (bO (av j o.toNat 2)) (bn (av j o.toNat 1)) [] p))) (k q.1 q.2.1 q.2.2.1 (cq q) (db q) (du q) (cC q) (dm q) (dP q) aq)<|bY o q.2.2.2.2.2.2.1.length<|jB Qq.c Qq.v q.1 q.2.1 q.2.2.1 (cq q) (db q) (du q) (eH (cC q) o.toNat 1 [.s (V'.v (bO (av j o.toNat 2)) (bn (av j o.toNat 1)) [] p).2.1]) (dm q) (dP q) o λs=>k s.1 s.2.1 s.2.2.1 (cq s) (db s) (du s) (cC s) (dm s) (dP s) ao
def vo:=b λa d e f g h i j k l=>ai (a,d,e,f,g,h,i,j,k,l)
def c:=xT vo
def v:=yM vo
def out:yq vo c v x:=AX
end Vv
namespace Kp
def r1(N:aN)(g k:iC R):iC R:=λa d e f h i j l m o p q r=>aT (ah (f<e)) (bY f l.length<|aT (ah (bO (av l f.toNat (1+1))=bA (a+1))) (aT (ah (bO (av l f.toNat (1+1+1+1))=1)) (bY a r.length<|bY f l.length<|bY f ((eH l f.toNat 4 [.i ak d]).length)<|g a d e (bA (f+1)) h i j (eH (eH l f.toNat 4 [.i ak d]) f.toNat 5 [.s (bn (av r a.toNat 1))]) m o p q r)<|g a d e (bA (f+1)) h i j l m o p q r)<|g a d e (bA (f+1)) h i j l m o p q r)<|k a d e f h i j l m o p q r
def l1(N:aN)(a:iC R):aN->iC R
 |0=>λ_ _ _ _ _ _ _ _ _ _ _ _ _=>ay
 |n+1=>r1 N (l1 N a n) a
def b(N:aN)(k:dn R):nH R:=λa d e f h i j l m o p=>l1 N (λ_ _ _ _ q r s t u w y z α=>k q u w y z r α t s) N o p (l.length:az) 0 a i m l d e f h j
def vo:=b cw λa d e f g h i j k=>ai (a,d,e,f,g,h,i,j,k)
def c:=xT vo
def v:=yM vo
def out:yq vo c v x:=AX
end Kp
namespace vk
def r3(N:aN)(g j:tH R):tH R:=λa d e f h i=>aT (ah (a<(i.length:az))) (bY a i.length<|aT (cf (bn (av i a.toNat 0)).toList (aF d)) (g (bA (a+1)) d e f h i)<|j a d e f h i)<|j a d e f h i
def l3(N:aN)(a:tH R):aN->tH R
 |0=>λ_ _ _ _ _ _=>ay
 |n+1=>r3 N (l3 N a n) a
def b(N:aN)(k:Row->aG R):Md R:=λa d e f h=>bw (DQ.c a d)<|l3 N (λi j l m o p=>bw (ah (0<=i)&&ah (i<=(p.length:az))&&b_ (p.length+(aC (aR [Ck.s,Ck.i ak,Ck.i ak,Ck.s] 1) 0 [.s j,.i ak l,.i ak m,.s o]).length) 48)<|k (Pu.uh p i.toNat (aC (aR [Ck.s,Ck.i ak,Ck.i ak,Ck.s] 1) 0 [.s j,.i ak l,.i ak m,.s o]))) N 0 d e f h (DQ.v a d)
def vo:=b cw λa=>ai a
def c:=Bl vo
def v:=Br vo
def out:Bo vo c v x:=De
end vk
namespace zO
def b(k:dn R):oh R:=λa d e f h i j l m o p q r=>ng OY.c OY.v e f h i o λs=>iU DQ.c DQ.v d (p8 s) λt=>ng H5.c H5.v s.1 s.2.1 s.2.2.1 (cq s) o λu=>aT u (ng vk.c vk.v t o p q r λw=>k a w s.1 s.2.1 s.2.2.1 (cq s) j l m)<|k a t s.1 s.2.1 s.2.2.1 (cq s) j l m
def vo:=b λa d e f g h i j k=>ai (a,d,e,f,g,h,i,j,k)
def c:=M_ vo
def v:=Oq vo
def out:NW vo c v x:=TX
end zO
namespace VB
def b(k:lk R):nH R:=λa d e f h i j l m o p=>nh oX.c oX.v a d e f h i j l m λq=>jB J5.c J5.v a d e f h i j l m o λr=>aT (!r) (k q.1 q.2.1 q.2.2.1 (cq q) (db q) (du q) (cC q) (dm q) (dP q) aq)<|bY o j.length<|aT (bO (av j o.toNat 2) !=1) (k q.1 q.2.1 q.2.2.1 (cq q) (db q) (du q) (cC q) (dm q) (dP q) aq)<|aT (!kP.v p 0 999999) (k q.1 q.2.1 q.2.2.1 (cq q) (db q) (du q) (cC q) (dm q) (dP q) aq)<|bY o q.2.2.2.2.2.2.1.length<|mB Kp.c Kp.v q.1 q.2.1 q.2.2.1 (cq q) (db q) (du q) (eH (eH (eH (cC q) o.toNat 2 [.i ak 2]) o.toNat 3 [.i ak p]) o.toNat 4 [.i ak a]) (dm q) (dP q) o 2 λs=>aT (ah (p>0)) (pH zO.c zO.v s.1 s.2.1 s.2.2.1 (cq s) (db s) (du s) (cC s) (dm s) (dP s) (bn (av (cC s) o.toNat 0)) a p (bn (av (cC s) o.toNat 1)) λt=>k t.1 t.2.1 t.2.2.1 (cq t) (db t) (du t) (cC t) (dm t) (dP t) ao)<|k s.1 s.2.1 s.2.2.1 (cq s) (db s) (du s) (cC s) (dm s) (dP s) ao
def vo:=b λa d e f g h i j k l=>ai (a,d,e,f,g,h,i,j,k,l)
def c:=xT vo
def v:=yM vo
def out:yq vo c v x:=AX
end VB
namespace n6
def r4(N:aN)(g e:vR R)(a:az)(d:Row):aG R:=aT (ah (a>127)) (aT (b_ (d.length+(aC (aR [Ck.i a8] 1) 0 [CV.i a8 (bG a8 (bA (bQ a 128+128)))]).length) 1) (g (bA (cz a 128)) (d++aC (aR [Ck.i a8] 1) 0 [CV.i a8 (bG a8 (bA (bQ a 128+128)))])) ay)<|e a d
def l4(N:aN)(a:vR R):aN->vR R
 |0=>λ_ _=>ay
 |n+1=>r4 N (l4 N a n) a
def b(N:aN)(f:w7 R)(a:az):aG R:=aT (!kP.v a 0 1000000000) (f ⟨#[]⟩ aq)<|l4 N (λd e=>aT (b_ (e.length+(aC (aR [Ck.i a8] 1) 0 [CV.i a8 (bG a8 d)]).length) 1) (aT (ah ((e++aC (aR [Ck.i a8] 1) 0 [CV.i a8 (bG a8 d)]).length<=4611686018427387904)) (f (bytesOf (e++aC (aR [Ck.i a8] 1) 0 [CV.i a8 (bG a8 d)])) ao) ay) ay) N a (aR [Ck.i a8] 0)
def v(a:az):ar×aZ:=if 0<=a/\a<=1000000000 then(bytesOf (vb a),ao)else(⟨#[]⟩,aq)
def eu(f:w7 R)(a:az):∃N,b N f a=f (v a).1 (v a).2:=by
 refine⟨a.toNat+1,?_⟩
 unfold b v;by_cases d:0<=a/\a<=1000000000
 ·have e:kP.v a 0 1000000000=true:=by simp[kP.v,d]
  rw[e,bm d];refine Ce (λn x acc=>l4 (a.toNat+1) _ n x acc) (λy=>f y ao) (λn x acc h hl=> ?_) (λn x acc h hl=> ?_) a (by omega)
  ·simp only[l4,r4,h,aQ,au,gO,show acc.length+bD [[CV.i a8 (bG a8 (bA (bQ x 128+128)))]]=acc.length+1 from rfl,sJ (show acc.length+1<=140737488355328 by omega),show ah ((128:az)=0)=aq from rfl,wQ,bH]
  ·simp only[l4,r4,h,bc,ax,gO,show acc.length+bD [[CV.i a8 (bG a8 x)]]=acc.length+1 from rfl,sJ (show acc.length+1<=140737488355328 by omega),au];exact sV (vJ (by rw[bU,bz];omega))
 ·have e:kP.v a 0 1000000000=false:=by simp[kP.v];omega
  rw[e,bk d];rfl
end n6
namespace Ea
def b(d:w7 R)(a:ar):aG R:=aT (ah ((a.size:az)>20000)) (d ⟨#[]⟩ aq)<|aT (ah ((n6.v (a.size:az)).1.size+a.size<=4611686018427387904)) (d ((n6.v (a.size:az)).1++a) ao) ay
def v(a:ar):ar×aZ:=if a.size>20000 then(⟨#[]⟩,aq)else(bytesOf (vb a.size)++a,ao)
def eu(d:w7 R)(a:ar):b d a=d (v a).1 (v a).2:=by
 unfold b v;by_cases h:a.size>20000
 ·rw[bm h,show ah ((a.size:az)>20000)=ao by simp;omega];rfl
 ·rw[bk h,show ah ((a.size:az)>20000)=aq by simp;omega];have e:n6.v (a.size:az)=(bytesOf (vb a.size),ao):=by unfold n6.v;rw[bm (by omega)]
  have:=iq (x:=(a.size:az)) (by omega);rw[e,ax];simp(disch:=omega) only[G1,au]
end Ea
namespace D9
def b(h:w7 R)(a:ar)(d e:az)(f:ar):aG R:=aT (!xH.v a d e f) (h ⟨#[]⟩ aq)<|aT (ah ((Ea.v a).1.size+(n6.v d).1.size<=4611686018427387904)) (aT (ah (((Ea.v a).1++(n6.v d).1).size+(n6.v e).1.size<=4611686018427387904)) (aT (ah (((Ea.v a).1++(n6.v d).1++(n6.v e).1).size+f.size<=4611686018427387904)) (h ((Ea.v a).1++(n6.v d).1++(n6.v e).1++f) ao) ay) ay) ay
def v(a:ar)(d:az)(e:az)(f:ar):ar×aZ:=jN.v a d e f
def eu(i:w7 R)(a:ar)(d:az)(e:az)(f:ar):b i a d e f=i (v a d e f).1 (v a d e f).2:=by
 have o:xH.v a d e f=gU.v a d e f:=rfl;unfold b v jN.v;rw[o];cases h:gU.v a d e f with
 |false=>rfl
 |true=>
  have r:=gU.DT h;have s:(bytesOf (vb (a.size:az))).size<=64:=iq (x:=(a.size:az)) (by omega);have t:(bytesOf (vb d)).size<=64:=iq (x:=d) (by omega);have u:(bytesOf (vb e)).size<=64:=iq (x:=e) (by omega);have j:Ea.v a=(bytesOf (vb a.size)++a,ao):=by unfold Ea.v;rw[bk (by omega)]
  have k:n6.v d=(bytesOf (vb d),ao):=by unfold n6.v;rw[bm (by omega)]
  have m:n6.v e=(bytesOf (vb e),ao):=by unfold n6.v;rw[bm (by omega)]
  rw[j,k,m];simp(disch:=omega) only[aY,ax,au,if_true,cj,G1];rfl
end D9
namespace vr
def b(d:ar->aG R)(a:ar):aG R:=bw (vq.c a)<|d (bytesOf (aC (aC (aC (aC (aR [Ck.i a8] 4) 0 [CV.i a8 (bG a8 (lE (vq.v a) (hS 2 (if aP 24<=32 then aP 24 else 32))))]) 1 [CV.i a8 (bG a8 (lE (vq.v a) (hS 2 (if aP 16<=32 then aP 16 else 32))))]) 2 [CV.i a8 (bG a8 (lE (vq.v a) (hS 2 (if aP 8<=32 then aP 8 else 32))))]) 3 [CV.i a8 (bG a8 (vq.v a))]))
def vo:=b λa=>ai a
def c:=kq vo
def v:=kA vo
def out:kt vo c v x:=kF
end vr
namespace Cu
def b(d:w7 R)(a:ar):aG R:=aT (!kP.v (a.size:az) 1 9000) (d ⟨#[]⟩ aq)<|bw (vr.c a)<|kE ((n6.v (a.size:az)).1) (vr.v a)<|kE ((n6.v (a.size:az)).1++vr.v a) a<|d ((n6.v (a.size:az)).1++vr.v a++a) ao
def vo:=b λa d=>ai (a,d)
def c:=kq vo
def v:=kA vo
def out:kt vo c v x:=kF
end Cu
namespace mP
def b(h:w7 R):Co R:=λa d e f=>aT (!(D9.v a d e f).2) (h ⟨#[]⟩ aq)<|bw (Cu.c (D9.v a d e f).1)<|h (Cu.v (D9.v a d e f).1).1 (Cu.v (D9.v a d e f).1).2
def vo:=b λa d=>ai (a,d)
def c:=vx vo
def v:=vD vo
def out:vB vo c v x:=wz
end mP
namespace J6
def b(h:vU R):Co R:=λa d e f=>bw (mP.c a d e f)<|aT (!(mP.v a d e f).2) (h [] aq)<|h (aC (aC (aR [Ck.i ak,Ck.s,Ck.s,Ck.s] 2) 0 [.i ak 1,.s (aw #[aj 107,aj 101,aj 112,aj 116]),.s (mP.v a d e f).1,.s ⟨#[]⟩]) 1 [.i ak 2,.s (aw #[aj 107,aj 101,aj 112,aj 116]),.s ⟨#[]⟩,.s ⟨#[]⟩]) ao
def vo:=b λa d=>ai (a,d)
def c:=vx vo
def v:=vD vo
def out:vB vo c v x:=wz
end J6
namespace tP
def b(d:Row->aG R)(a:Row):aG R:=bw (b_ ((aR [Ck.s,Ck.s,Ck.i ak] 0).length+a.length) 40)<|d (aR [Ck.s,Ck.s,Ck.i ak] 0++a)
def vo:=b λa=>ai a
def c:=kq vo
def v:=kA vo
def out:kt vo c v x:=kF
end tP
namespace Kl
def b(h:aZ->aG R)(a d:ar)(e:az)(f:ar):aG R:=h (cD (aF a) (aF f))
def v(d a1:ar)(a2:az)(a:ar):aZ:=(cD (aF d) (aF a))
def eu(e:aZ->aG R)(d a1:ar)(a2:az)(a:ar):b e d a1 a2 a=e (v d a1 a2 a):=by first|rfl|(unfold b v;simp only[cy];(repeat' split)<;>rfl)
end Kl
namespace sS
def r2(N:aN)(g i j:fy R):fy R:=λa d e f h=>aT (ah (h<f)) (bY h a.length<|aT (Kl.v (bn (av a h.toNat 0)) (bn (av a h.toNat 1)) (bO (av a h.toNat (1+1))) d) (i a d h f h)<|g a d e f (bA (h+1)))<|j a d e f h
def l2(N:aN)(a d:fy R):aN->fy R
 |0=>λ_ _ _ _ _=>ay
 |n+1=>r2 N (l2 N a d n) a d
def b(N:aN)(f:az->aG R)(a:Row)(e:ar):aG R:=l2 N (λ_ _ d _ _=>f d) (λ_ _ _ _ _=>f (-1)) N a e 0 (a.length:az) 0
def vo:=b cw λa=>ai a
def c:=js vo
def v:=jw vo
def out:ju vo c v x:=jA
end sS
namespace Eb
def b(h:aZ->aG R)(a d:ar)(e:az)(f:ar):aG R:=h (cD (aF a) (aF f))
def v(d a1:ar)(a2:az)(a:ar):aZ:=(cD (aF d) (aF a))
def eu(e:aZ->aG R)(d a1:ar)(a2:az)(a:ar):b e d a1 a2 a=e (v d a1 a2 a):=by first|rfl|(unfold b v;simp only[cy];(repeat' split)<;>rfl)
end Eb
namespace oG
def r2(N:aN)(g i j:fy R):fy R:=λa d e f h=>aT (ah (h<f)) (bY h a.length<|aT (Eb.v (bn (av a h.toNat 0)) (bn (av a h.toNat 1)) (bO (av a h.toNat (1+1))) d) (i a d h f h)<|g a d e f (bA (h+1)))<|j a d e f h
def l2(N:aN)(a d:fy R):aN->fy R
 |0=>λ_ _ _ _ _=>ay
 |n+1=>r2 N (l2 N a d n) a d
def b(N:aN)(f:az->aG R)(a:Row)(e:ar):aG R:=l2 N (λ_ _ d _ _=>f d) (λ_ _ _ _ _=>f (-1)) N a e 0 (a.length:az) 0
def vo:=b cw λa=>ai a
def c:=js vo
def v:=jw vo
def out:ju vo c v x:=jA
end oG
namespace iy
def b(e:az->aG R)(a:Row)(d:ar):aG R:=bw (sS.c a d)<|e (sS.v a d)
def vo:=b λa=>ai a
def c:=js vo
def v:=jw vo
def out:ju vo c v x:=jA
end iy
namespace kj
def r2(N:aN)(g i j:Bv R):Bv R:=λa d e f h=>aT (ah (f<e)) (bY f d.length<|aT (!kP.v ((bn (av d f.toNat 0)).size:az) 1 8) (i aq d e f h)<|aT (ah (((bn (av d f.toNat 1)).size:az)>20000)) (i aq d e f h)<|aT (!kP.v (bO (av d f.toNat (1+1))) 0 ((bn (av d f.toNat 1)).size:az)) (i aq d e f h)<|aT (ah (f>0)) (bY (bA (f-1)) h.length<|aT (!Op.bytesLess (bn (av h (bA (f-1)).toNat 0)).toList (bn (av d f.toNat 0)).toList) (i aq d e f h)<|g a d e (bA (f+1)) h)<|g a d e (bA (f+1)) h)<|j a d e f h
def l2(N:aN)(a d:Bv R):aN->Bv R
 |0=>λ_ _ _ _ _=>ay
 |n+1=>r2 N (l2 N a d n) a d
def b(N:aN)(e:aZ->aG R)(a:Row):aG R:=l2 N (λd _ _ _ _=>e d) (λ_ _ _ _ d=>e (ah ((d.length:az)<=30))) N aq a (a.length:az) 0 a
def vo:=b cw λa=>ai a
def c:=kq vo
def v:=kA vo
def out:kt vo c v x:=kF
end kj
namespace Kj
def b(h:aZ->aG R)(a:az)(d e f:ar):aG R:=aT (kP.v a 1 4) (aT (cD (aF e) (aF ⟨#[]⟩)) (aT (cD (aF f) (aF ⟨#[]⟩)) (h ao)<|h (ah (a=3)))<|aT (ah (a=1)) (aT (cD (aF f) (aF ⟨#[]⟩)) (h ao)<|h (ah (a=3)))<|h aq)<|h aq
def v(a:az)(a1 a2 a3:ar):aZ:=aT (kP.v a 1 4) (aT (cD (aF a2) (aF (aw #[]))) (aT (cD (aF a3) (aF (aw #[]))) ao<|decide (a=3))<|aT (ah (a=1)) (aT (cD (aF a3) (aF (aw #[]))) ao<|decide (a=3)) aq) aq
def eu(d:aZ->aG R)(a:az)(a1 a2 a3:ar):b d a a1 a2 a3=d (v a a1 a2 a3):=by first|rfl|(unfold b v;simp only[cy];(repeat' split)<;>rfl)
end Kj
namespace xO
def r5(N:aN)(g h:gZ R):gZ R:=λa d e f=>aT (ah (e<(f.length:az))) (bY e f.length<|aT (!Eb.v (bn (av f e.toNat 0)) (bn (av f e.toNat 1)) (bO (av f e.toNat (1+1))) a) (bY d f.length<|g a (bA (d+1)) (bA (e+1)) (eH f d.toNat 0 [.s (bn (av f e.toNat 0)),.s (bn (av f e.toNat 1)),.i ak (bO (av f e.toNat (1+1)))]))<|g a d (bA (e+1)) f)<|h a d e f
def l5(N:aN)(a:gZ R):aN->gZ R
 |0=>λ_ _ _ _=>ay
 |n+1=>r5 N (l5 N a n) a
def b(N:aN)(h:Row->aG R)(a:Row)(f:ar):aG R:=bw (oG.c a f)<|aT (ah (oG.v a f=s9 1)) (h a)<|l5 N (λ_ d _ e=>bw (gA d (e.length:az) (e.length:az))<|bw (gA 0 d ((kO d.toNat e++aR [Ck.s,Ck.s,Ck.i ak] ((e.length:az).toNat-d.toNat)++nc (e.length:az).toNat e).length:az))<|h (ez (kO d.toNat e++aR [Ck.s,Ck.s,Ck.i ak] ((e.length:az).toNat-d.toNat)++nc (e.length:az).toNat e) (aP 0) d.toNat)) N f (oG.v a f) (bA (oG.v a f+1)) a
def vo:=b cw λa=>ai a
def c:=js vo
def v:=jw vo
def out:ju vo c v x:=jA
end xO
namespace mQ
def b(e:Row->aG R)(a:Row)(d:ar):aG R:=bw (tP.c a)<|bw (xO.c (tP.v a) d)<|e (xO.v (tP.v a) d)
def vo:=b λa=>ai a
def c:=js vo
def v:=jw vo
def out:ju vo c v x:=jA
end mQ
namespace lu
def r3(N:aN)(g i:Bx R):Bx R:=λa d e f h=>aT (ah (a<(h.length:az))) (bY a h.length<|aT (cf (bn (av h a.toNat 0)).toList (aF d)) (g (bA (a+1)) d e f h)<|i a d e f h)<|i a d e f h
def l3(N:aN)(a:Bx R):aN->Bx R
 |0=>λ_ _ _ _ _=>ay
 |n+1=>r3 N (l3 N a n) a
def b(N:aN)(k:Row->aG R):Kf R:=λa d e f=>bw (mQ.c a d)<|l3 N (λh i j l m=>bw (ah (0<=h)&&ah (h<=(m.length:az))&&b_ (m.length+(aC (aR [Ck.s,Ck.s,Ck.i ak] 1) 0 [.s i,.s j,.i ak l]).length) 40)<|k (Pu.uh m h.toNat (aC (aR [Ck.s,Ck.s,Ck.i ak] 1) 0 [.s i,.s j,.i ak l]))) N 0 d e f (mQ.v a d)
def vo:=b cw λa=>ai a
def c:=vx vo
def v:=vD vo
def out:vB vo c v x:=wz
end lu
namespace sf
abbrev h0{R:Type}(i:vU R):BA R:=λa d e f h=>aT (ah (iy.v a e≥0)) (bY (iy.v a e) a.length<|aT (ah (d=1)) (kE (bn (av a (iy.v a e).toNat 1)) f<|bw (lu.c a (bn (av a (iy.v a e).toNat 0)) (bn (av a (iy.v a e).toNat 1)++f) (bO (av a (iy.v a e).toNat (1+1))))<|bw (kj.c (lu.v a (bn (av a (iy.v a e).toNat 0)) (bn (av a (iy.v a e).toNat 1)++f) (bO (av a (iy.v a e).toNat (1+1)))))<|aT (!kj.v (lu.v a (bn (av a (iy.v a e).toNat 0)) (bn (av a (iy.v a e).toNat 1)++f) (bO (av a (iy.v a e).toNat (1+1))))) (i [] aq)<|i (lu.v a (bn (av a (iy.v a e).toNat 0)) (bn (av a (iy.v a e).toNat 1)++f) (bO (av a (iy.v a e).toNat (1+1)))) ao)<|aT (ah (d=2)) (bw (lu.c a (bn (av a (iy.v a e).toNat 0)) (bn (av a (iy.v a e).toNat 1)) ((bn (av a (iy.v a e).toNat 1)).size:az))<|bw (kj.c (lu.v a (bn (av a (iy.v a e).toNat 0)) (bn (av a (iy.v a e).toNat 1)) ((bn (av a (iy.v a e).toNat 1)).size:az)))<|aT (!kj.v (lu.v a (bn (av a (iy.v a e).toNat 0)) (bn (av a (iy.v a e).toNat 1)) ((bn (av a (iy.v a e).toNat 1)).size:az))) (i [] aq)<|i (lu.v a (bn (av a (iy.v a e).toNat 0)) (bn (av a (iy.v a e).toNat 1)) ((bn (av a (iy.v a e).toNat 1)).size:az)) ao)<|aT (ah (d=3)) (aT (bO (av a (iy.v a e).toNat (1+1)) !=((bn (av a (iy.v a e).toNat 1)).size:az)) (i [] aq)<|aT (cD (aF h) (aF e)) (i [] aq)<|bw (mQ.c a e)<|bw (lu.c (mQ.v a e) h (bn (av a (iy.v a e).toNat 1)) (bO (av a (iy.v a e).toNat (1+1))))<|bw (kj.c (lu.v (mQ.v a e) h (bn (av a (iy.v a e).toNat 1)) (bO (av a (iy.v a e).toNat (1+1)))))<|aT (!kj.v (lu.v (mQ.v a e) h (bn (av a (iy.v a e).toNat 1)) (bO (av a (iy.v a e).toNat (1+1))))) (i [] aq)<|i (lu.v (mQ.v a e) h (bn (av a (iy.v a e).toNat 1)) (bO (av a (iy.v a e).toNat (1+1)))) ao)<|bw (mQ.c a e)<|bw (kj.c (mQ.v a e))<|aT (!kj.v (mQ.v a e)) (i [] aq)<|i (mQ.v a e) ao)<|aT (ah (d=1)) (bw (ah (bf ⟨#[]⟩+f.size<=4611686018427387904))<|bw (lu.c a e ((aw #[])++f) 0)<|bw (kj.c (lu.v a e ((aw #[])++f) 0))<|aT (!kj.v (lu.v a e ((aw #[])++f) 0)) (i [] aq)<|i (lu.v a e ((aw #[])++f) 0) ao)<|aT (ah (d=2)) (bw (lu.c a e ⟨#[]⟩ (bf ⟨#[]⟩:az))<|bw (kj.c (lu.v a e ⟨#[]⟩ (bf ⟨#[]⟩:az)))<|aT (!kj.v (lu.v a e ⟨#[]⟩ (bf ⟨#[]⟩:az))) (i [] aq)<|i (lu.v a e ⟨#[]⟩ (bf ⟨#[]⟩:az)) ao)<|aT (ah (d=3)) (aT (cD (aF h) (aF e)) (i [] aq)<|bw (mQ.c a e)<|bw (lu.c (mQ.v a e) h ⟨#[]⟩ 0)<|bw (kj.c (lu.v (mQ.v a e) h ⟨#[]⟩ 0))<|aT (!kj.v (lu.v (mQ.v a e) h ⟨#[]⟩ 0)) (i [] aq)<|i (lu.v (mQ.v a e) h ⟨#[]⟩ 0) ao)<|bw (mQ.c a e)<|bw (kj.c (mQ.v a e))<|aT (!kj.v (mQ.v a e)) (i [] aq)<|i (mQ.v a e) ao
def b(i:vU R):BA R:=λa d e f h=>bw (iy.c a e)<|bw (kj.c a)<|aT (!kj.v a) (i [] aq)<|aT (!Kj.v d e f h) (i [] aq)<|aT (ah (iy.v a e<0)) (aT (d !=1) (i [] aq)<|h0 i a d e f h)<|h0 i a d e f h
def vo:=b λa d=>ai (a,d)
def c:=Bl vo
def v:=Br vo
def out:Bo vo c v x:=De
end sf
namespace Ko
def r3(N:aN)(g j k:wZ R):wZ R:=λa d e f h i=>aT (ah (h<f)) (bY h e.length<|bw (sf.c i (bO (av e h.toNat 0)) (bn (av e h.toNat 1)) (bn (av e h.toNat (1+1))) (bn (av e h.toNat (1+1+1))))<|aT (!(sf.v i (bO (av e h.toNat 0)) (bn (av e h.toNat 1)) (bn (av e h.toNat (1+1))) (bn (av e h.toNat (1+1+1)))).2) (j a h e f h i)<|g a d e f (bA (h+1)) (sf.v i (bO (av e h.toNat 0)) (bn (av e h.toNat 1)) (bn (av e h.toNat (1+1))) (bn (av e h.toNat (1+1+1)))).1)<|k a d e f h i
def l3(N:aN)(a d:wZ R):aN->wZ R
 |0=>λ_ _ _ _ _ _=>ay
 |n+1=>r3 N (l3 N a d n) a d
def b(N:aN)(h:nY R)(a d:Row):aG R:=bw (tP.c a)<|l3 N (λ_ e _ _ _ f=>h f e) (λe _ _ _ _ f=>h f (e.length:az)) N d 0 d (d.length:az) 0 (tP.v a)
def vo:=b cw λa d=>ai (a,d)
def c:=js vo
def v:=jw vo
def out:ju vo c v x:=jA
end Ko
namespace Vw
def b(k:A9 R):yZ R:=λa d e f h i j l m o p q r s=>mB VB.c VB.v a d e f h i j l m r s λt=>aT (!(tn t)) (k (tn t) t.1 t.2.1 t.2.2.1 (cq t) (db t) (du t) (cC t) (dm t) (je t) o p q)<|aT (ah (s=0)) (k (tn t) t.1 t.2.1 t.2.2.1 (cq t) (db t) (du t) (cC t) (dm t) (je t) o p q)<|bY r t.2.2.2.2.2.2.1.length<|ng H5.c H5.v t.2.2.1 (cq t) (db t) (du t) (bn (av (cC t) r.toNat 0)) λu=>aT u (bw (b_ (q.length+(aC (aR [Ck.s,Ck.i ak,Ck.i ak,Ck.s] 1) 0 [.s (bn (av (cC t) r.toNat 0)),.i ak (bO (av (cC t) r.toNat (1+1+1+1))),.i ak (bO (av (cC t) r.toNat (1+1+1))),.s (bn (av (cC t) r.toNat 1))]).length) 48)<|j7 J6.c J6.v (bn (av (cC t) r.toNat 0)) (bO (av (cC t) r.toNat (1+1+1+1))) (bO (av (cC t) r.toNat (1+1+1))) (bn (av (cC t) r.toNat 1)) λw=>iU Ko.c Ko.v o w.1 λy=>k ao t.1 t.2.1 t.2.2.1 (cq t) (db t) (du t) (cC t) (dm t) (je t) y.1 p (q++aC (aR [Ck.s,Ck.i ak,Ck.i ak,Ck.s] 1) 0 [.s (bn (av (cC t) r.toNat 0)),.i ak (bO (av (cC t) r.toNat (1+1+1+1))),.i ak (bO (av (cC t) r.toNat (1+1+1))),.s (bn (av (cC t) r.toNat 1))]))<|k ao t.1 t.2.1 t.2.2.1 (cq t) (db t) (du t) (cC t) (dm t) (je t) o p q
def vo:=b λa d e f g h i j k l m n o=>ai (a,d,e,f,g,h,i,j,k,l,m,n,o)
def c:=ZL vo
def v:=acP vo
def out:abt vo c v x:=ajH
end Vw
namespace Vx
def b(k:lk R):fL R:=λa d e f h i j l m o=>nh oX.c oX.v a d e f h i j l m λp=>jB J5.c J5.v a d e f h i j l m o λq=>aT (!q) (k p.1 p.2.1 p.2.2.1 (cq p) (db p) (du p) (cC p) (dm p) (dP p) aq)<|bY o j.length<|aT (bO (av j o.toNat 2) !=1) (k p.1 p.2.1 p.2.2.1 (cq p) (db p) (du p) (cC p) (dm p) (dP p) aq)<|bY o p.2.2.2.2.2.2.1.length<|mB Kp.c Kp.v p.1 p.2.1 p.2.2.1 (cq p) (db p) (du p) (eH (cC p) o.toNat 2 [.i ak 3]) (dm p) (dP p) o 3 λr=>k r.1 r.2.1 r.2.2.1 (cq r) (db r) (du r) (cC r) (dm r) (dP r) ao
def vo:=b λa d e f g h i j k l=>ai (a,d,e,f,g,h,i,j,k,l)
def c:=qi vo
def v:=qw vo
def out:qp vo c v x:=rA
end Vx
namespace Qr
def b(e:az->aG R)(a d:az):aG R:=bw (!decide (d=0))<|bw (!decide (d=0))<|e (bQ (bA (bQ a d+d)) d)
def vo:=b λa=>ai a
def c:=js vo
def v:=jw vo
def out:ju vo c v x:=jA
end Qr
namespace Vy
def b(k:dn R):fL R:=λa d e f h i j l m o=>bw (oX.c a d e f h i j l m)<|aT (ah (a>bA (1000000000-Qr.v o 1000))) (k 1000000000 (oX.v a d e f h i j l m).2.1 (oX.v a d e f h i j l m).2.2.1 (cq (oX.v a d e f h i j l m)) (db (oX.v a d e f h i j l m)) (du (oX.v a d e f h i j l m)) (cC (oX.v a d e f h i j l m)) (dm (oX.v a d e f h i j l m)) (dP (oX.v a d e f h i j l m)))<|k (bA (a+Qr.v o 1000)) (oX.v a d e f h i j l m).2.1 (oX.v a d e f h i j l m).2.2.1 (cq (oX.v a d e f h i j l m)) (db (oX.v a d e f h i j l m)) (du (oX.v a d e f h i j l m)) (cC (oX.v a d e f h i j l m)) (dm (oX.v a d e f h i j l m)) (dP (oX.v a d e f h i j l m))
def vo:=b λa d e f g h i j k=>ai (a,d,e,f,g,h,i,j,k)
def c:=qi vo
def v:=qw vo
def out:qp vo c v x:=rA
end Vy
namespace MX
def r5(N:aN)(g h:gk R):gk R:=λa d e f=>aT (ah (e<(f.length:az))) (bY e f.length<|aT (!VC.v (bO (av f e.toNat 0)) (bn (av f e.toNat 1)) (bO (av f e.toNat (1+1))) (bO (av f e.toNat (1+1+1))) (bO (av f e.toNat (1+1+1+1))) (bn (av f e.toNat (1+1+1+1+1))) (bO (av f e.toNat (1+1+1+1+1+1))) a) (bY d f.length<|g a (bA (d+1)) (bA (e+1)) (eH f d.toNat 0 [.i ak (bO (av f e.toNat 0)),.s (bn (av f e.toNat 1)),.i ak (bO (av f e.toNat (1+1))),.i ak (bO (av f e.toNat (1+1+1))),.i ak (bO (av f e.toNat (1+1+1+1))),.s (bn (av f e.toNat (1+1+1+1+1))),.i ak (bO (av f e.toNat (1+1+1+1+1+1)))]))<|g a d (bA (e+1)) f)<|h a d e f
def l5(N:aN)(a:gk R):aN->gk R
 |0=>λ_ _ _ _=>ay
 |n+1=>r5 N (l5 N a n) a
def b(N:aN)(h:Row->aG R):nY R:=λa f=>bw (vv.c a f)<|aT (ah (vv.v a f=s9 1)) (h a)<|l5 N (λ_ d _ e=>bw (gA d (e.length:az) (e.length:az))<|bw (gA 0 d ((kO d.toNat e++aR [Ck.i ak,Ck.s,Ck.i ak,Ck.i ak,Ck.i ak,Ck.s,Ck.i ak] ((e.length:az).toNat-d.toNat)++nc (e.length:az).toNat e).length:az))<|h (ez (kO d.toNat e++aR [Ck.i ak,Ck.s,Ck.i ak,Ck.i ak,Ck.i ak,Ck.s,Ck.i ak] ((e.length:az).toNat-d.toNat)++nc (e.length:az).toNat e) (aP 0) d.toNat)) N f (vv.v a f) (bA (vv.v a f+1)) a
def vo:=b cw λa=>ai a
def c:=js vo
def v:=jw vo
def out:ju vo c v x:=jA
end MX
namespace Vz
def b(k:dn R):fL R:=λa d e f h i j l m o=>bw (oX.c a d e f h i j l m)<|bw (MX.c (dm (oX.v a d e f h i j l m)) o)<|k (oX.v a d e f h i j l m).1 (oX.v a d e f h i j l m).2.1 (oX.v a d e f h i j l m).2.2.1 (cq (oX.v a d e f h i j l m)) (db (oX.v a d e f h i j l m)) (du (oX.v a d e f h i j l m)) (cC (oX.v a d e f h i j l m)) (MX.v (dm (oX.v a d e f h i j l m)) o) (dP (oX.v a d e f h i j l m))
def vo:=b λa d e f g h i j k=>ai (a,d,e,f,g,h,i,j,k)
def c:=qi vo
def v:=qw vo
def out:qp vo c v x:=rA
end Vz
namespace xD
def r5(N:aN)(g j:BB R):BB R:=λa d e f h=>aT (ah (f<e)) (bY f d.length<|aT (ah (f<(a.length:az))) (bY f a.length<|bw (gA 0 (eE ao (bO (av d f.toNat (1+1))) (eE aq (bO (av a f.toNat 0)) ((bn (av d f.toNat 1)).size:az))) ((bn (av d f.toNat 1)).size:az))<|bY f h.length<|g a d e (bA (f+1)) (eH h f.toNat 0 [.s (bn (av d f.toNat 0)),.s (bx (bn (av d f.toNat 1)) (aP 0) (eE ao (bO (av d f.toNat (1+1))) (eE aq (bO (av a f.toNat 0)) ((bn (av d f.toNat 1)).size:az))).toNat),.i ak (eE ao (bO (av d f.toNat (1+1))) (eE aq (bO (av a f.toNat 0)) ((bn (av d f.toNat 1)).size:az)))]))<|bw (gA 0 (bO (av d f.toNat (1+1))) ((bn (av d f.toNat 1)).size:az))<|bY f h.length<|g a d e (bA (f+1)) (eH h f.toNat 0 [.s (bn (av d f.toNat 0)),.s (bx (bn (av d f.toNat 1)) (aP 0) (bO (av d f.toNat (1+1))).toNat),.i ak (bO (av d f.toNat (1+1)))]))<|j a d e f h
def l5(N:aN)(a:BB R):aN->BB R
 |0=>λ_ _ _ _ _=>ay
 |n+1=>r5 N (l5 N a n) a
def b(N:aN)(f:vU R)(a d:Row):aG R:=bw (kj.c a)<|aT (!kj.v a) (f [] aq)<|bw (tP.c a)<|l5 N (λ_ _ _ _ e=>f e ao) N d a (a.length:az) 0 (tP.v a)
def vo:=b cw λa d=>ai (a,d)
def c:=js vo
def v:=jw vo
def out:ju vo c v x:=jA
end xD
namespace vj
def b(e:w7 R)(a:Row)(d:ar):aG R:=bw (iy.c a d)<|aT (ah (iy.v a d<0)) (e ⟨#[]⟩ aq)<|bY (iy.v a d) a.length<|e (bn (av a (iy.v a d).toNat 1)) ao
def vo:=b λa d=>ai (a,d)
def c:=js vo
def v:=jw vo
def out:ju vo c v x:=jA
end vj
namespace gq
def r5(N:aN)(g k m:zb R)(a:ar)(d e f:az)(h:aZ)(i j:az):aG R:=aT (ah (j<5)) (aT (ah (bA (d+j)<(a.size:az))) (aT (ah (0<=bA (d+j))&&ah (bA (d+j)<(a.size:az))) (aT (ah (0<=bA (7*j))) (aT (ah (bA (↑(fJ a (bA (d+j)).toNat):az)>127)) (g a d e f h (bA (i+bA (bQ (bA (↑(fJ a (bA (d+j)).toNat):az)) 128*hS 2 (if(bA (7*j)).toNat<=64 then(bA (7*j)).toNat else 64)))) (bA (j+1)))<|aT (ah (j>0)) (aT (ah (bA (↑(fJ a (bA (d+j)).toNat):az)=0)) (k a d 0 0 aq (bA (i+bA (bQ (bA (↑(fJ a (bA (d+j)).toNat):az)) 128*hS 2 (if(bA (7*j)).toNat<=64 then(bA (7*j)).toNat else 64)))) j)<|aT (ah (bA (i+bA (bQ (bA (↑(fJ a (bA (d+j)).toNat):az)) 128*hS 2 (if(bA (7*j)).toNat<=64 then(bA (7*j)).toNat else 64)))>1000000000)) (k a d 0 0 aq (bA (i+bA (bQ (bA (↑(fJ a (bA (d+j)).toNat):az)) 128*hS 2 (if(bA (7*j)).toNat<=64 then(bA (7*j)).toNat else 64)))) j)<|k a d (bA (i+bA (bQ (bA (↑(fJ a (bA (d+j)).toNat):az)) 128*hS 2 (if(bA (7*j)).toNat<=64 then(bA (7*j)).toNat else 64)))) (bA (bA (d+j)+1)) ao (bA (i+bA (bQ (bA (↑(fJ a (bA (d+j)).toNat):az)) 128*hS 2 (if(bA (7*j)).toNat<=64 then(bA (7*j)).toNat else 64)))) j)<|aT (ah (bA (i+bA (bQ (bA (↑(fJ a (bA (d+j)).toNat):az)) 128*hS 2 (if(bA (7*j)).toNat<=64 then(bA (7*j)).toNat else 64)))>1000000000)) (k a d 0 0 aq (bA (i+bA (bQ (bA (↑(fJ a (bA (d+j)).toNat):az)) 128*hS 2 (if(bA (7*j)).toNat<=64 then(bA (7*j)).toNat else 64)))) j)<|k a d (bA (i+bA (bQ (bA (↑(fJ a (bA (d+j)).toNat):az)) 128*hS 2 (if(bA (7*j)).toNat<=64 then(bA (7*j)).toNat else 64)))) (bA (bA (d+j)+1)) ao (bA (i+bA (bQ (bA (↑(fJ a (bA (d+j)).toNat):az)) 128*hS 2 (if(bA (7*j)).toNat<=64 then(bA (7*j)).toNat else 64)))) j) ay) ay)<|m a d e f h i j)<|m a d e f h i j
def l5(N:aN)(a d:zb R):aN->zb R
 |0=>λ_ _ _ _ _ _ _=>ay
 |n+1=>r5 N (l5 N a d n) a d
def b(N:aN)(i:Mb R)(a:ar)(d:az):aG R:=aT (!kP.v d 0 (a.size:az)) (i 0 0 aq)<|l5 N (λ_ _ e f h _ _=>i e f h) (λ_ _ _ _ _ _ _=>i 0 0 aq) N a d 0 0 aq 0 0
def v(a:ar)(d:az):az×az×aZ:=if 0<=d/\d<=a.size then Lib.rv a d.toNat 5 0 0 else(0,0,aq)
def eu(t:Mb R)(d:ar)(h:az)(f0:DS d):∃N,b N t d h=t (v d h).1 (v d h).2.1 (v d h).2.2:=by
 refine⟨6,?_⟩
 unfold b v;by_cases K:0<=h/\h<=d.size
 ·have e:kP.v h 0 (d.size:az)=true:=by simp[kP.v,K]
  obtain⟨a,rfl⟩:∃a:aN,h=(a:az):=⟨h.toNat,by omega⟩
  have ha:a<=d.size:=by omega
  rw[e,bm K,dK];have hs:d.size<=4611686018427387904:=f0;simp only[aY,ax]
  have:=gP (λm (s:aN×az)=>l5 6 (λy7 y8 y9 O P h7 h9=>t y9 O P) (λhe hf hh ho hr ht hu=>t 0 0 aq) m d a 0 0 aq s.2 s.1) (λs=>5-s.1) (λs=>s.1<=5/\0<=s.2/\s.2<128^s.1)
   (λs=>t (Lib.rv d a (5-s.1) s.1 s.2).1 (Lib.rv d a (5-s.1) s.1 s.2).2.1 (Lib.rv d a (5-s.1) s.1 s.2).2.2) (λm s M=>by
   obtain⟨j,n⟩:=s
   obtain⟨hj,h0,H⟩:=M
   dsimp only at hj h0 H⊢
   have hb:=zS d (a+j)
   by_cases C:j<5
   ·by_cases i:a+j<d.size
    ·have A:bA ((a:az)+(j:az))=((a+j:aN):az):=by rw[iE (by omega) (by omega)];omega
     have h5:bA ((a+j:aN):az)=((a+j:aN):az):=iE (by omega) (by omega);have X:bA (fJ d (a+j):az)=(fJ d (a+j):az):=iE (by omega) (by omega);have em:bQ (fJ d (a+j):az) 128=(fJ d (a+j):az)%128:=dO (by omega);have V:bA (7*(j:az))=((7*j:aN):az):=by rw[iE (by omega) (by omega)];omega
     have ep:hS 2 (if 7*j<=64 then 7*j else 64)=128^j:=by rw[bm (by omega)];show(2:az)^(7*j)=128^j;rw[Int.pow_mul];rfl
     have hp:(128:az)^j<=268435456/\(1:az)<=128^j/\(128:az)^(j+1)=128*128^j:=by
      obtain rfl|rfl|rfl|rfl|rfl:j=0\/j=1\/j=2\/j=3\/j=4:=by omega
      all_goals decide
     have r:0<=(fJ d (a+j):az)%128/\(fJ d (a+j):az)%128<=127:=by omega
     have hq:0<=(fJ d (a+j):az)%128*128^j/\(fJ d (a+j):az)%128*128^j<=127*128^j:=
      ⟨Int.mul_nonneg r.1 (by omega),DX r.2 (by omega)⟩
     have y:bA ((fJ d (a+j):az)%128*128^j)=(fJ d (a+j):az)%128*128^j:=iE (by omega) (by omega);have z:bA (n+(fJ d (a+j):az)%128*128^j)=n+(fJ d (a+j):az)%128*128^j:=iE (by omega) (by omega);have Y:bA ((j:az)+1)=((j+1:aN):az):=cG C (by omega);have x:5-j=(5-(j+1))+1:=by omega
     have S:ah ((j:az)<5)=true:=by simp;omega
     have U:ah (((a+j:aN):az)<(d.size:az))=true:=ES i
     have k:Lib.rv d a (5-j) j n=(if(fJ d (a+j):az)>127 then Lib.rv d a (5-(j+1)) (j+1) (n+(fJ d (a+j):az)%128*128^j)
       else if(j>0/\fJ d (a+j)=0)\/n+(fJ d (a+j):az)%128*128^j>1000000000 then(0,0,aq)
       else(n+(fJ d (a+j):az)%128*128^j,((a+j+1:aN):az),ao)):=by
      rw[x];simp only[Lib.rv];rw[bm i]
     have en:bA (((a+j:aN):az)+1)=((a+j+1:aN):az):=cG i (by omega);simp only[l5,r5,S,A,U,cm,dK,X,em,V,ep,y,z,Y,en,au,aK];by_cases u:(fJ d (a+j):az)>127
     ·right;rw[aA u];exact⟨(j+1,n+(fJ d (a+j):az)%128*128^j),⟨by dsimp only;omega,by dsimp only;omega,by dsimp only;omega⟩,by dsimp only;omega,by dsimp only;rw[k,bm u],rfl⟩
     ·left;rw[aD u,ax,k,bk u];by_cases o:(j:az)>0
      ·rw[aA o,au];by_cases Q:(fJ d (a+j):az)=0
       ·rw[aA Q,bm (.inl ⟨by omega,by omega⟩)];rfl
       ·rw[aD Q,ax];by_cases f:n+(fJ d (a+j):az)%128*128^j>1000000000
        ·rw[aA f,bm (.inr f)];rfl
        ·rw[aD f,bk (by omega)];rfl
      ·rw[aD o,ax];by_cases f:n+(fJ d (a+j):az)%128*128^j>1000000000
       ·rw[aA f,bm (.inr f)];rfl
       ·rw[aD f,bk (by omega)];rfl
    ·left;have A:bA ((a:az)+(j:az))=((a+j:aN):az):=by rw[iE (by omega) (by omega)];omega
     have x:5-j=(5-(j+1))+1:=by omega
     have k:Lib.rv d a (5-j) j n=(0,0,aq):=by rw[x];simp only[Lib.rv];rw[bk i]
     simp only[l5,r5,show ah ((j:az)<5)=ao by simp;omega,A,IQ i,au,ax,k]
   ·left;have B:j=5:=by omega
    subst B;simp only[l5,r5,show ah (((5:aN):az)<5)=aq from rfl,ax];rfl) 6 (0,0) ⟨by dsimp only;omega,by dsimp only;omega,by dsimp only;decide⟩ (by dsimp only;omega)
  exact this
 ·have e:kP.v h 0 (d.size:az)=false:=by simp[kP.v];omega
  rw[e,bk K];rfl
end gq
namespace U152
def r3(N:aN)(g f:nk R):nk R:=λa d e=>aT (ah ((a.size:az)<=20000)) (aT (!(gq.v a d).2.2) (f a d e)<|aT (!kP.v (gq.v a d).1 1 9000) (f a d e)<|aT (ah (bA ((gq.v a d).1+4)>bA ((a.size:az)-(gq.v a d).2.1))) (f a d e)<|bw (gA (bA ((gq.v a d).2.1+4)) (bA (bA ((gq.v a d).2.1+4)+(gq.v a d).1)) (a.size:az))<|bw (vr.c (bx a (bA ((gq.v a d).2.1+4)).toNat (bA (bA ((gq.v a d).2.1+4)+(gq.v a d).1)).toNat))<|bw (gA (gq.v a d).2.1 (bA ((gq.v a d).2.1+4)) (a.size:az))<|aT (!List.beq (vr.v (bx a (bA ((gq.v a d).2.1+4)).toNat (bA (bA ((gq.v a d).2.1+4)+(gq.v a d).1)).toNat)).toList (bx a (gq.v a d).2.1.toNat (bA ((gq.v a d).2.1+4)).toNat).toList) (f a d e)<|bw (b_ (e.length+(aC (aR [.s] 1) 0 [.s (bx a (bA ((gq.v a d).2.1+4)).toNat (bA (bA ((gq.v a d).2.1+4)+(gq.v a d).1)).toNat)]).length) 16)<|g a (bA (bA ((gq.v a d).2.1+4)+(gq.v a d).1)) (e++aC (aR [.s] 1) 0 [.s (bx a (bA ((gq.v a d).2.1+4)).toNat (bA (bA ((gq.v a d).2.1+4)+(gq.v a d).1)).toNat)]))<|f a d e
def l3(N:aN)(a:nk R):aN->nk R
 |0=>λ_ _ _=>ay
 |n+1=>r3 N (l3 N a n) a
def b(N:aN)(f:nY R)(a:ar):aG R:=l3 N (λ_ d e=>f e d) N a 0 (aR [.s] 0)
def vo:=b cw λa d=>ai (a,d)
def c:=kq vo
def v:=kA vo
def out:kt vo c v x:=kF
end U152
namespace tV
def b(e:Me R)(a:ar)(d:az):aG R:=aT (!(gq.v a d).2.2) (e ⟨#[]⟩ 0 aq)<|aT (ah ((gq.v a d).1>20000)) (e ⟨#[]⟩ 0 aq)<|aT (ah ((gq.v a d).1>bA ((a.size:az)-(gq.v a d).2.1))) (e ⟨#[]⟩ 0 aq)<|aT (gA (gq.v a d).2.1 (bA ((gq.v a d).2.1+(gq.v a d).1)) (a.size:az)) (e (bx a (gq.v a d).2.1.toNat (bA ((gq.v a d).2.1+(gq.v a d).1)).toNat) (bA ((gq.v a d).2.1+(gq.v a d).1)) ao) ay
def v(a:ar)(d:az):ar×az×aZ:=fO a d
def eu(e:Me R)(a:ar)(d:az)(f:DS a):b e a d=e (v a d).1 (v a d).2.1 (v a d).2.2:=nR f d e
end tV
namespace wh
def b(d:xA R)(a:ar):aG R:=aT (!(tV.v a 0).2.2) (d ⟨#[]⟩ 0 0 ⟨#[]⟩ aq)<|aT (!(gq.v a (tV.v a 0).2.1).2.2) (d ⟨#[]⟩ 0 0 ⟨#[]⟩ aq)<|aT (!(gq.v a (gq.v a (tV.v a 0).2.1).2.1).2.2) (d ⟨#[]⟩ 0 0 ⟨#[]⟩ aq)<|aT (gA (gq.v a (gq.v a (tV.v a 0).2.1).2.1).2.1 (a.size:az) (a.size:az)) (aT (!xH.v (tV.v a 0).1 (gq.v a (tV.v a 0).2.1).1 (gq.v a (gq.v a (tV.v a 0).2.1).2.1).1 (bx a (gq.v a (gq.v a (tV.v a 0).2.1).2.1).2.1.toNat (a.size:az).toNat)) (d ⟨#[]⟩ 0 0 ⟨#[]⟩ aq)<|d (tV.v a 0).1 (gq.v a (tV.v a 0).2.1).1 (gq.v a (gq.v a (tV.v a 0).2.1).2.1).1 (bx a (gq.v a (gq.v a (tV.v a 0).2.1).2.1).2.1.toNat (a.size:az).toNat) ao) ay
def v(a:ar):ar×az×az×ar×aZ:=j5.v a
def eu(h:xA R)(e:ar)(o:DS e):b h e=h (v e).1 (v e).2.1 (v e).2.2.1 (v e).2.2.2.1 (v e).2.2.2.2:=by
 have i:tV.v=fO:=rfl;have j:gq.v=ea:=rfl;have m:∀a b c d,xH.v a b c d=gU.v a b c d:=λ_ _ _ _=>rfl;unfold b v j5.v;simp only[i,j,m,dK];cases h1:fO e 0 with
 |mk k r1=>
  obtain⟨a,ok1⟩:=r1;cases ok1 with
  |false=>rfl
  |true=>
   dsimp only;cases h2:ea e a with
   |mk s r2=>
    obtain⟨x,ok2⟩:=r2;cases ok2 with
    |false=>rfl
    |true=>
     dsimp only;cases h3:ea e x with
     |mk l r3=>
      obtain⟨y,f⟩:=r3;cases f with
      |false=>rfl
      |true=>
       obtain⟨r1,r2,r3,r4,r5,r6⟩:=h_ h3;dsimp only;simp only[aY,ax];rw[sV (show gA y (e.size:az) (e.size:az)=ao by simp[gA];omega)];cases hE:gU.v k s l (e.extract y.toNat e.size)with
       |false=>rfl
       |true=>rfl
end wh
namespace U101
def r7(N:aN)(g h:Ch R):Ch R:=λa d e f=>aT (ah (d<a)) (bY d f.length<|aT ((p8 (wh.v (bn (av f d.toNat 0))))) (bw (vk.c e (wh.v (bn (av f d.toNat 0))).1 (wh.v (bn (av f d.toNat 0))).2.1 (wh.v (bn (av f d.toNat 0))).2.2.1 (cq (wh.v (bn (av f d.toNat 0)))))<|g a (bA (d+1)) (vk.v e (wh.v (bn (av f d.toNat 0))).1 (wh.v (bn (av f d.toNat 0))).2.1 (wh.v (bn (av f d.toNat 0))).2.2.1 (cq (wh.v (bn (av f d.toNat 0))))) f)<|g a (bA (d+1)) e f)<|h a d e f
def l7(N:aN)(a:Ch R):aN->Ch R
 |0=>λ_ _ _ _=>ay
 |n+1=>r7 N (l7 N a n) a
def b(N:aN)(e:Row->aG R)(a:Row):aG R:=bw (kj.c a)<|aT (!kj.v a) (e (aR [Ck.s,Ck.i ak,Ck.i ak,Ck.s] 0))<|bw (vj.c a (aw #[aj 107,aj 101,aj 112,aj 116]))<|bw (U152.c (vj.v a (aw #[aj 107,aj 101,aj 112,aj 116])).1)<|l7 N (λ_ _ d _=>e d) N ((U152.v (vj.v a (aw #[aj 107,aj 101,aj 112,aj 116])).1).1.length:az) 0 (aR [Ck.s,Ck.i ak,Ck.i ak,Ck.s] 0) (U152.v (vj.v a (aw #[aj 107,aj 101,aj 112,aj 116])).1).1
def vo:=b cw λa=>ai a
def c:=kq vo
def v:=kA vo
def out:kt vo c v x:=kF
end U101
namespace Be
def r5(N:aN)(g j k:wU R):wU R:=λa d e f h i=>aT (ah (h<f)) (bY h e.length<|bw (mP.c (bn (av e h.toNat 0)) (bO (av e h.toNat 1)) (bO (av e h.toNat (1+1))) (bn (av e h.toNat (1+1+1))))<|aT (!(mP.v (bn (av e h.toNat 0)) (bO (av e h.toNat 1)) (bO (av e h.toNat (1+1))) (bn (av e h.toNat (1+1+1)))).2) (j aq d e f h i)<|bw (ah (d.size+(mP.v (bn (av e h.toNat 0)) (bO (av e h.toNat 1)) (bO (av e h.toNat (1+1))) (bn (av e h.toNat (1+1+1)))).1.size<=4611686018427387904))<|g a (d++(mP.v (bn (av e h.toNat 0)) (bO (av e h.toNat 1)) (bO (av e h.toNat (1+1))) (bn (av e h.toNat (1+1+1)))).1) e f (bA (h+1)) i)<|k a d e f h i
def l5(N:aN)(a d:wU R):aN->wU R
 |0=>λ_ _ _ _ _ _=>ay
 |n+1=>r5 N (l5 N a d n) a d
def b(N:aN)(h:vU R)(a d:Row):aG R:=bw (kj.c a)<|aT (!kj.v a) (h [] aq)<|l5 N (λe _ _ _ _ _=>h [] e) (λ_ e _ _ _ f=>bw (vj.c f (aw #[aj 110,aj 101,aj 119]))<|aT ((vj.v f (aw #[aj 110,aj 101,aj 119])).2) (h (aR [Ck.i ak,Ck.s,Ck.s,Ck.s] 0++aC (aR [Ck.i ak,Ck.s,Ck.s,Ck.s] 1) 0 [.i ak 4,.s (aw #[aj 110,aj 101,aj 119]),.s ⟨#[]⟩,.s ⟨#[]⟩]++aC (aC (aC (aR [Ck.i ak,Ck.s,Ck.s,Ck.s] 3) 0 [.i ak 1,.s (aw #[aj 110,aj 101,aj 119]),.s e,.s ⟨#[]⟩]) 1 [.i ak 2,.s (aw #[aj 110,aj 101,aj 119]),.s ⟨#[]⟩,.s ⟨#[]⟩]) 2 [.i ak 3,.s (aw #[aj 110,aj 101,aj 119]),.s ⟨#[]⟩,.s (aw #[aj 107,aj 101,aj 112,aj 116])]) ao)<|h (aR [Ck.i ak,Ck.s,Ck.s,Ck.s] 0++aC (aC (aC (aR [Ck.i ak,Ck.s,Ck.s,Ck.s] 3) 0 [.i ak 1,.s (aw #[aj 110,aj 101,aj 119]),.s e,.s ⟨#[]⟩]) 1 [.i ak 2,.s (aw #[aj 110,aj 101,aj 119]),.s ⟨#[]⟩,.s ⟨#[]⟩]) 2 [.i ak 3,.s (aw #[aj 110,aj 101,aj 119]),.s ⟨#[]⟩,.s (aw #[aj 107,aj 101,aj 112,aj 116])]) ao) N aq ⟨#[]⟩ d (d.length:az) 0 a
def vo:=b cw λa d=>ai (a,d)
def c:=js vo
def v:=jw vo
def out:ju vo c v x:=jA
end Be
namespace Bf
def r4(N:aN)(g k:j0 R):j0 R:=λa d e f h i j l m o p q r s t u=>aT (ah (f<e)) (bY f d.length<|aT (EJ.v (bn (av d f.toNat 0)) (bO (av d f.toNat 1)) (bO (av d f.toNat (1+1))) (bn (av d f.toNat (1+1+1))) a) (pH zO.c zO.v l p q r s m t u o (bn (av d f.toNat 0)) (bO (av d f.toNat 1)) (bO (av d f.toNat (1+1))) (bn (av d f.toNat (1+1+1))) λw=>g a d e (bA (f+1)) h i j w.1 (du w) (dP w) w.2.1 w.2.2.1 (cq w) (db w) (cC w) (dm w))<|g a d e (bA (f+1)) h i j l m o p q r s t u)<|k a d e f h i j l m o p q r s t u
def l4(N:aN)(a:j0 R):aN->j0 R
 |0=>λ_ _ _ _ _ _ _ _ _ _ _ _ _ _ _ _=>ay
 |n+1=>r4 N (l4 N a n) a
def b(N:aN)(k:dn R):vR R:=λa d=>l4 N (λ_ _ _ _ _ _ _ e f h i j l m o p=>k e i j l m f o p h) N a d (d.length:az) 0 0 0 0 a 0 0 [] [] [] ([]++aC (aR [Ck.l 3] 1) 0 [CV.l 3 (aR [Ck.i ak] (aP 16))]++aC (aR [Ck.l 3] 1) 0 [CV.l 3 (aR [Ck.i ak] (aP 16))]++aC (aR [Ck.l 3] 1) 0 [CV.l 3 (aR [Ck.i ak] (aP 16))]) [] []
def vo:=b cw λa d e f g h i j k=>ai (a,d,e,f,g,h,i,j,k)
def c:=js vo
def v:=jw vo
def out:ju vo c v x:=jA
end Bf
namespace Qp
def r3(N:aN)(g k:jZ R):jZ R:=λa d e f h i j l m o p q r s t u=>aT (ah (d<a)) (bY d j.length<|aT (EJ.v (bn (av j d.toNat 0)) (bO (av j d.toNat 1)) (bO (av j d.toNat (1+1))) (bn (av j d.toNat (1+1+1))) e) (bw (b_ (i.length+(aC (aR [Ck.s,Ck.i ak,Ck.i ak,Ck.s] 1) 0 [.s (bn (av j d.toNat 0)),.i ak (bO (av j d.toNat 1)),.i ak (bO (av j d.toNat (1+1))),.s (bn (av j d.toNat (1+1+1)))]).length) 48)<|g a (bA (d+1)) e f h (i++aC (aR [Ck.s,Ck.i ak,Ck.i ak,Ck.s] 1) 0 [.s (bn (av j d.toNat 0)),.i ak (bO (av j d.toNat 1)),.i ak (bO (av j d.toNat (1+1))),.s (bn (av j d.toNat (1+1+1)))]) j l m o p q r s t u)<|g a (bA (d+1)) e f h i j l m o p q r s t u)<|k a d e f h i j l m o p q r s t u
def l3(N:aN)(a:jZ R):aN->jZ R
 |0=>λ_ _ _ _ _ _ _ _ _ _ _ _ _ _ _ _=>ay
 |n+1=>r3 N (l3 N a n) a
def b(N:aN)(x:iW R):A_ R:=λa d e f h i j l m o p q r=>iU xD.c xD.v o r λs=>gb U101.c U101.v s.1 λt=>l3 N (λ_ _ u _ _ w _ _ _ _ _ _ _ y z α=>iU Be.c Be.v y w λA=>iU Ko.c Ko.v y A.1 λB=>iU Bf.c Bf.v u w λk=>x k.1 k.2.1 k.2.2.1 (cq k) (db k) (du k) (cC k) (dm k) (dP k) B.1 z α) N (t.length:az) 0 a i m (aR [Ck.s,Ck.i ak,Ck.i ak,Ck.s] 0) t d e f h j l s.1 p q
def vo:=b cw λa d e f g h i j k l m n=>ai (a,d,e,f,g,h,i,j,k,l,m,n)
def c:=M_ vo
def v:=Oq vo
def out:NW vo c v x:=TX
end Qp
namespace V9
def b(d:az->aG R)(a:aZ):aG R:=aT a (d 0)<|d 1
def v(a:aZ):az:=aT a 0 1
def eu(d:az->aG R)(a:aZ):b d a=d (v a):=by first|rfl|(unfold b v;simp only[cy];(repeat' split)<;>rfl)
end V9
namespace Vt
def b(k:mc R):iJ R:=λa d e f h i j l m o p q r s t u w=>aT (ah (r=1)) (mB Qo.c Qo.v a d e f h i j l m s t λy=>k (tn y) y.1 y.2.1 y.2.2.1 (cq y) (db y) (du y) (cC y) (dm y) (je y) o p q)<|aT (ah (r=2)) (mB Vv.c Vv.v a d e f h i j l m s t λy=>k (V9.v (tn y)) y.1 y.2.1 y.2.2.1 (cq y) (db y) (du y) (cC y) (dm y) (je y) o p q)<|aT (ah (r=3)) (ZV Vw.c Vw.v a d e f h i j l m o p q s (bQ u 1000000) λy=>k (V9.v y.1) y.2.1 y.2.2.1 (cq y) (db y) (du y) (cC y) (dm y) (je y) (ni y) (jC y) (mC y) (ue y))<|aT (ah (r=4)) (jB Vx.c Vx.v a d e f h i j l m s λy=>k (V9.v (tn y)) y.1 y.2.1 y.2.2.1 (cq y) (db y) (du y) (cC y) (dm y) (je y) o p q)<|aT (ah (r=5)) (jB Vy.c Vy.v a d e f h i j l m u λy=>k 0 y.1 y.2.1 y.2.2.1 (cq y) (db y) (du y) (cC y) (dm y) (dP y) o p q)<|aT (ah (r=6)) (jB OV.c OV.v a d e f h i j l m s λy=>jB Vz.c Vz.v a d e f h i j l m s λz=>k (V9.v (ah (y≥0))) z.1 z.2.1 z.2.2.1 (cq z) (db z) (du z) (cC z) (dm z) (dP z) o p q)<|pH Qp.c Qp.v a d e f h i j l m o p q w λy=>k 0 y.1 y.2.1 y.2.2.1 (cq y) (db y) (du y) (cC y) (dm y) (je y) (ni y) (jC y) (q9 y)
def vo:=b λa d e f g h i j k l m n o=>ai (a,d,e,f,g,h,i,j,k,l,m,n,o)
def c:=EO vo
def v:=FF vo
def out:Fp vo c v x:=Jp
end Vt
namespace Io
def Ly(N:aN)(g k:jj R):jj R:=λa d e f h i j l m o p q r s t u w y=>aT (ah (e<d)) (bY e a.length<|pI Vt.c Vt.v j o p q r l s t m u w y (bO (av a e.toNat 0)) (bO (av a e.toNat 1)) (bn (av a e.toNat (1+1))) (bO (av a e.toNat (1+1+1))) (jd (av a e.toNat (1+1+1+1))) λz=>bw (b_ (z.2.2.2.2.2.2.2.2.2.2.2.1.length+(aC (aR [Ck.i ak] 1) 0 [.i ak z.1]).length) 8)<|g a d (bA (e+1)) f h i z.2.1 (cC z) (ni z) z.2.2.1 (cq z) (db z) (du z) (dm z) (je z) (jC z) ((mC z)++aC (aR [Ck.i ak] 1) 0 [.i ak z.1]) (ue z))<|k a d e f h i j l m o p q r s t u w y
def C1(N:aN)(a:jj R):aN->jj R
 |0=>λ_ _ _ _ _ _ _ _ _ _ _ _ _ _ _ _ _ _=>ay
 |n+1=>Ly N (C1 N a n) a
def r4(N:aN)(g k m:rQ R):rQ R:=λa d e f h i j l=>aT (ah (h<f)) (bY h e.length<|aT (!MV.v (bO (av e h.toNat 0)) (bO (av e h.toNat 1)) (bn (av e h.toNat (1+1))) (bO (av e h.toNat (1+1+1))) (jd (av e h.toNat (1+1+1+1)))) (k a aq e f h 0 0 0)<|g a d e f (bA (h+1)) i j l)<|m a d e f h i j l
def l4(N:aN)(a d:rQ R):aN->rQ R
 |0=>λ_ _ _ _ _ _ _ _=>ay
 |n+1=>r4 N (l4 N a d n) a d
def b(N:aN)(k:sQ R)(a:Row):aG R:=aT (ah ((a.length:az)>70)) (k 0 [] [] [] [] 0 [] [] 0 [] [] [] aq)<|l4 N (λ_ d _ _ _ e f h=>k e [] [] [] [] f [] [] h [] [] [] d) (λd _ _ _ _ e f h=>C1 N (λ_ _ _ _ _ _ i j l m o p q r s t u w=>k i m o p q j r s l t u w ao) N d (d.length:az) 0 e f h 1 0 0 [] [] [] ([]++aC (aR [Ck.l 3] 1) 0 [CV.l 3 (aR [Ck.i ak] (aP 16))]++aC (aR [Ck.l 3] 1) 0 [CV.l 3 (aR [Ck.i ak] (aP 16))]++aC (aR [Ck.l 3] 1) 0 [CV.l 3 (aR [Ck.i ak] (aP 16))]) [] [] [] [] []) N a aq a (a.length:az) 0 0 0 0
def vo:=b cw λa d e f g h i j k l m n o=>ai (a,d,e,f,g,h,i,j,k,l,m,n,o)
def c:=kq vo
def v:=kA vo
def out:kt vo c v x:=kF
end Io
namespace D_
def tx(a:Row):aE ar:=a.map λy=>bn (y.getD 0 (.b aq))
def c(a:Row)(s:ar):aZ:=e6 a.length 140737488355328&&e6 (_root_.Go.Lib.join ((tx a).map (·.data.toList)) s.data.toList).length 140737488355328
def v(a:Row)(s:ar):ar:=⟨(_root_.Go.Lib.join ((tx a).map (·.data.toList)) s.data.toList).toArray⟩
end D_
namespace JY
def b(d:ar->aG R)(a:az):aG R:=aT (ah (a=1)) (d (aw #[aj 119,aj 97,aj 105,aj 116,aj 115]))<|aT (ah (a=2)) (d (aw #[aj 100,aj 111,aj 110,aj 101]))<|d (aw #[aj 102,aj 97,aj 105,aj 108,aj 101,aj 100])
def v(a:az):ar:=aT (ah (a=1)) (aw #[aj 119,aj 97,aj 105,aj 116,aj 115])<|aT (ah (a=2)) (aw #[aj 100,aj 111,aj 110,aj 101])<|(aw #[aj 102,aj 97,aj 105,aj 108,aj 101,aj 100])
def eu(d:ar->aG R)(a:az):b d a=d (v a):=by first|rfl|(unfold b v;simp only[cy];(repeat' split)<;>rfl)
end JY
namespace H3
def r3(N:aN)(g h:Cp R):Cp R:=λa d e f=>aT (ah (f<e)) (bY f d.length<|bw (tU.c (eE ao (bO (av d f.toNat 0)) 0))<|bw (ah ((tU.v (eE ao (bO (av d f.toNat 0)) 0)).size+bf (aw #[aj 32])<=4611686018427387904))<|bw (ah ((tU.v (eE ao (bO (av d f.toNat 0)) 0)++(aw #[aj 32])).size+(JY.v (bO (av d f.toNat (1+1+1+1)))).size<=4611686018427387904))<|bw (ah ((tU.v (eE ao (bO (av d f.toNat 0)) 0)++(aw #[aj 32])++JY.v (bO (av d f.toNat (1+1+1+1)))).size+bf (aw #[aj 32])<=4611686018427387904))<|bw (tU.c (eE ao (bO (av d f.toNat (1+1+1+1+1+1))) 0))<|bw (ah ((tU.v (eE ao (bO (av d f.toNat 0)) 0)++(aw #[aj 32])++JY.v (bO (av d f.toNat (1+1+1+1)))++(aw #[aj 32])).size+(tU.v (eE ao (bO (av d f.toNat (1+1+1+1+1+1))) 0)).size<=4611686018427387904))<|bw (ah ((tU.v (eE ao (bO (av d f.toNat 0)) 0)++(aw #[aj 32])++JY.v (bO (av d f.toNat (1+1+1+1)))++(aw #[aj 32])++tU.v (eE ao (bO (av d f.toNat (1+1+1+1+1+1))) 0)).size+bf (aw #[aj 32])<=4611686018427387904))<|bw (ah ((tU.v (eE ao (bO (av d f.toNat 0)) 0)++(aw #[aj 32])++JY.v (bO (av d f.toNat (1+1+1+1)))++(aw #[aj 32])++tU.v (eE ao (bO (av d f.toNat (1+1+1+1+1+1))) 0)++(aw #[aj 32])).size+(bn (av d f.toNat (1+1+1+1+1))).size<=4611686018427387904))<|bw (ah ((tU.v (eE ao (bO (av d f.toNat 0)) 0)++(aw #[aj 32])++JY.v (bO (av d f.toNat (1+1+1+1)))++(aw #[aj 32])++tU.v (eE ao (bO (av d f.toNat (1+1+1+1+1+1))) 0)++(aw #[aj 32])++bn (av d f.toNat (1+1+1+1+1))).size+bf (aw #[aj 10])<=4611686018427387904))<|bw (ah (a.size+(tU.v (eE ao (bO (av d f.toNat 0)) 0)++(aw #[aj 32])++JY.v (bO (av d f.toNat (1+1+1+1)))++(aw #[aj 32])++tU.v (eE ao (bO (av d f.toNat (1+1+1+1+1+1))) 0)++(aw #[aj 32])++bn (av d f.toNat (1+1+1+1+1))++(aw #[aj 10])).size<=4611686018427387904))<|g (a++(tU.v (eE ao (bO (av d f.toNat 0)) 0)++(aw #[aj 32])++JY.v (bO (av d f.toNat (1+1+1+1)))++(aw #[aj 32])++tU.v (eE ao (bO (av d f.toNat (1+1+1+1+1+1))) 0)++(aw #[aj 32])++bn (av d f.toNat (1+1+1+1+1))++(aw #[aj 10]))) d e (bA (f+1)))<|h a d e f
def l3(N:aN)(a:Cp R):aN->Cp R
 |0=>λ_ _ _ _=>ay
 |n+1=>r3 N (l3 N a n) a
def b(N:aN)(k:ar->aG R):dn R:=λa d e f h i j l m=>l3 N (λo _ _ _=>k o) N ⟨#[]⟩ l (l.length:az) 0
def vo:=b cw λa=>ai a
def c:=Bm vo
def v:=Bs vo
def out:Bp vo c v x:=Df
end H3
end Go.FG
