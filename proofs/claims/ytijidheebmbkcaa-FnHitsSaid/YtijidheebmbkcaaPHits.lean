/- Functions of the program, told as functions of numbers, texts and lists, and what each comes to. No condition but those that each states. -/
import Derived.Test.YtijidheebmbkcaaLib
set_option linter.unusedVariables false
set_option linter.unusedSimpArgs false
set_option maxRecDepth 100000
open BitVec renaming toNat->db,and->gA,ofInt->bG,xor->jA
open Bool renaming cond_eq_ite->dA,true->ae,false->ah,false_eq_true->cJ
open ByteArray renaming toList->aA,extract->cg,size->fW
open Go.IntKind renaming i64->aj,wrap->bj,u32->dx,u8->aU
open Go.Op renaming bytesLess->bZ
open Int renaming fdiv->iU,pow->fB,toNat->aX,tmod->bL,tdiv->cj,neg->GA
open List renaming set->aF,beq->cC,take->gE,drop->mL,length->cq
open Option renaming none->af,some->ab
open UInt8 renaming ofNat->ay
open _root_ renaming Int->ax,Option->ar,ByteArray->ai,Bool->aL,Nat->au,of_decide_eq_true->bU,cond_true->aw,cond_false->aC
namespace Go.FG
variable {R:Type}
abbrev rG(R:Type):=aY->ax->ar R
abbrev s9(R:Type):=ax->aY->ar R
abbrev x8(R:Type):=ai->aL->ar R
abbrev Gx(R:Type):=aY->aL->ar R
abbrev vT(R:Type):=aY->ax->ax->ar R
abbrev oF(R:Type):=ax->ax->ax->ar R
abbrev vS(R:Type):=ax->ai->ax->ar R
abbrev EK(R:Type):=ax->ai->aY->ar R
abbrev Im(R:Type):=aL->s9 R
abbrev Pc(R:Type):=ax->ax->aL->ar R
abbrev Io(R:Type):=ai->ax->aL->ar R
abbrev yC(R:Type):=ai->s9 R
abbrev Bl(R:Type):=ax->aY->aY->ar R
abbrev zD(R:Type):=ax->vT R
abbrev kh(R:Type):=ax->ax->s9 R
abbrev vU(R:Type):=aY->aY->rG R
abbrev qJ(R:Type):=aY->ax->s9 R
abbrev s_(R:Type):=ax->ai->ax->ax->ar R
abbrev jB(R:Type):=ai->ax->s9 R
abbrev Rw(R:Type):=ax->ai->Gx R
abbrev C9(R:Type):=aY->ai->aL->ax->ar R
abbrev C6(R:Type):=aL->ax->rG R
abbrev C7(R:Type):=ax->Bl R
abbrev C_(R:Type):=aY->yC R
abbrev Rx(R:Type):=ai->vT R
abbrev va(R:Type):=ax->qJ R
abbrev iJ(R:Type):=aY->ax->oF R
abbrev zG(R:Type):=aY->zD R
abbrev fk(R:Type):=aY->ai->oF R
abbrev lD(R:Type):=ax->kh R
abbrev zK(R:Type):=ai->zD R
abbrev EL(R:Type):=aY->aY->aY->ax->ai->ar R
abbrev zA(R:Type):=aL->ax->ax->rG R
abbrev EM(R:Type):=ai->ax->ax->x8 R
abbrev zC(R:Type):=aL->qJ R
abbrev zF(R:Type):=ax->ai->yC R
abbrev nP(R:Type):=ax->aY->oF R
abbrev zI(R:Type):=ai->kh R
abbrev zJ(R:Type):=ai->ax->ax->rG R
abbrev zH(R:Type):=aY->qJ R
abbrev vd(R:Type):=aY->aL->yC R
abbrev MB(R:Type):=ai->qJ R
abbrev lV(R:Type):=aY->lD R
abbrev vR(R:Type):=aL->aY->ax->ax->rG R
abbrev vV(R:Type):=ai->lD R
abbrev rF(R:Type):=ax->ai->ax->EK R
abbrev lU(R:Type):=ax->aY->kh R
abbrev Bm(R:Type):=aY->aL->ai->Bl R
abbrev s8(R:Type):=aL->aY->ax->ax->EK R
abbrev s7(R:Type):=aL->ax->aY->aY->aY->s9 R
abbrev lO(R:Type):=aY->rF R
abbrev tc(R:Type):=ai->ax->ax->ax->aL->ax->ax->ar R
abbrev qH(R:Type):=aL->ax->ax->aY->aY->aY->s9 R
abbrev qI(R:Type):=au->ax->ax->lD R
abbrev C8(R:Type):=ax->ai->ax->ax->ax->Io R
abbrev qK(R:Type):=ai->ax->ax->ax->aL->oF R
abbrev eJ(R:Type):=ax->aY->aY->aY->aY->ax->aY->rG R
abbrev nO(R:Type):=aL->aY->aY->ax->ax->aY->ax->ax->rG R
abbrev zE(R:Type):=ax->aY->aY->aY->aY->ax->aY->vT R
abbrev rE(R:Type):=ax->aY->aY->aY->aY->ax->aY->aY->ax->aL->ar R
abbrev fj(R:Type):=aL->ax->eJ R
abbrev jS(R:Type):=ax->ax->ax->ax->ax->ax->aY->aY->aY->aY->aY->aY->ar R
abbrev dG(R:Type):=aL->aY->ax->ax->eJ R
abbrev jt(R:Type):=ax->jS R
abbrev iZ(R:Type):=ax->ax->ax->ax->ax->ai->ax->ax->ax->ai->ax->aY->aY->aY->aY->aY->aY->ar R
abbrev iY(R:Type):=ax->aL->ax->ax->aY->aY->aY->aY->ax->aY->aY->ax->ai->ai->oF R
abbrev il(R:Type):=ax->aL->ax->ax->aY->aY->aY->aY->ax->aY->aY->ax->ax->ai->ax->ax->vS R
abbrev gi(R:Type):=ax->ax->ax->aY->aY->aY->aY->ax->aY->aY->jt R

namespace RZ
def b(kr:aL->ar R)(a:aY):ar R:=kr (decide ((a.length:ax)>1048576))
def v(a0:aY):aL:=(decide ((a0.length:ax)>1048576))
theorem jX(kr:aL->ar R)(a0:aY):b kr a0=kr (v a0):=by first|rfl|(unfold b v;simp only[dA];(repeat' split)<;>rfl)
end RZ

namespace H0
def r3(N:au)(g k0:vT R)(a:aY)(d e:ax):ar R:=bif decide (e<(a.length:ax))then bif decide (e<4000)then bif decide (0<=e)&&decide (e<(a.length:ax))then g a (bE (↑(db (gA (bG 64 (bE (bE (bE (d*131)+bE (cw (ao a e.toNat 0)))+7))) (bG 64 1073741823))):ax)) (bE (e+1))else af else k0 a d e else k0 a d e
def l3(N:au)(k0:vT R):au->vT R
 |0=>λ_ _ _=>af
 |n+1=>r3 N (l3 N k0 n) k0
def b(N:au)(kr:vT R)(a:aY):ar R:=l3 N (λd e _=>kr d 0 e) N a (bE (34901+(a.length:ax))) 0
def vo:=b Lib.dE λr0 r1 r2=>ab (r0,r1,r2)
def c:=λa=>(vo a).isSome
def v:=λa=>(vo a).getD ([],0,0)
theorem out{x}:∀a,vo a=ab x->c a=ae/\v a=x:=λ_=>Lib.dN
end H0

namespace cK
def b(kr:zD R)(a:aY)(d e:ax):ar R:=bif decide (d<(a.length:ax))then bif decide (0<=d)&&decide (d<(a.length:ax))then kr (bE (↑(db (gA (bG 64 (bE (bE (↑(db (gA (bG 64 (bE (↑(db (jA (bG 64 (iU (bE (bE (e*6364136223846793005)+1442695040888963407)) (fB 2 (if aX 33<=64 then aX 33 else 64)))) (bG 64 (iU (bE (bE (e*6364136223846793005)+1442695040888963407)) (fB 2 (if aX 45<=64 then aX 45 else 64)))))):ax))) (bG 64 255))):ax)+bE (cw (ao a d.toNat 0))))) (bG 64 255))):ax)) a (bE (d+1)) (bE (bE (e*6364136223846793005)+1442695040888963407))else af else kr (bE (↑(db (gA (bG 64 (bE (↑(db (jA (bG 64 (iU (bE (bE (e*6364136223846793005)+1442695040888963407)) (fB 2 (if aX 33<=64 then aX 33 else 64)))) (bG 64 (iU (bE (bE (e*6364136223846793005)+1442695040888963407)) (fB 2 (if aX 45<=64 then aX 45 else 64)))))):ax))) (bG 64 255))):ax)) a d (bE (bE (e*6364136223846793005)+1442695040888963407))
def vo:=b λr0 r1 r2 r3=>ab (r0,r1,r2,r3)
def c:=λa d e=>(vo a d e).isSome
def v:=λa d e=>(vo a d e).getD (0,[],0,0)
theorem out{x}:∀a d e,vo a d e=ab x->c a d e=ae/\v a d e=x:=λ_ _ _=>Lib.dN
end cK

namespace vh
def b(kr:zD R)(a:aY)(d e f:ax):ar R:=bif decide (f<=0)then kr 0 a d e else bif decide (f<=256)then bif cK.c a d e then bif !decide (f=0)then kr (bL (cK.v a d e).1 f) (cK.v a d e).2.1 (cK.v a d e).2.2.1 (cK.v a d e).2.2.2 else af else af else bif cK.c a d e then bif cK.c (cK.v a d e).2.1 (cK.v a d e).2.2.1 (cK.v a d e).2.2.2 then bif cK.c (cK.v (cK.v a d e).2.1 (cK.v a d e).2.2.1 (cK.v a d e).2.2.2).2.1 (cK.v (cK.v a d e).2.1 (cK.v a d e).2.2.1 (cK.v a d e).2.2.2).2.2.1 (cK.v (cK.v a d e).2.1 (cK.v a d e).2.2.1 (cK.v a d e).2.2.2).2.2.2 then bif cK.c (cK.v (cK.v (cK.v a d e).2.1 (cK.v a d e).2.2.1 (cK.v a d e).2.2.2).2.1 (cK.v (cK.v a d e).2.1 (cK.v a d e).2.2.1 (cK.v a d e).2.2.2).2.2.1 (cK.v (cK.v a d e).2.1 (cK.v a d e).2.2.1 (cK.v a d e).2.2.2).2.2.2).2.1 (cK.v (cK.v (cK.v a d e).2.1 (cK.v a d e).2.2.1 (cK.v a d e).2.2.2).2.1 (cK.v (cK.v a d e).2.1 (cK.v a d e).2.2.1 (cK.v a d e).2.2.2).2.2.1 (cK.v (cK.v a d e).2.1 (cK.v a d e).2.2.1 (cK.v a d e).2.2.2).2.2.2).2.2.1 (cK.v (cK.v (cK.v a d e).2.1 (cK.v a d e).2.2.1 (cK.v a d e).2.2.2).2.1 (cK.v (cK.v a d e).2.1 (cK.v a d e).2.2.1 (cK.v a d e).2.2.2).2.2.1 (cK.v (cK.v a d e).2.1 (cK.v a d e).2.2.1 (cK.v a d e).2.2.2).2.2.2).2.2.2 then bif !decide (f=0)then kr (bL (bE (bE (bE (bE ((cK.v a d e).1*16777216)+bE ((cK.v (cK.v a d e).2.1 (cK.v a d e).2.2.1 (cK.v a d e).2.2.2).1*65536))+bE ((cK.v (cK.v (cK.v a d e).2.1 (cK.v a d e).2.2.1 (cK.v a d e).2.2.2).2.1 (cK.v (cK.v a d e).2.1 (cK.v a d e).2.2.1 (cK.v a d e).2.2.2).2.2.1 (cK.v (cK.v a d e).2.1 (cK.v a d e).2.2.1 (cK.v a d e).2.2.2).2.2.2).1*256))+(cK.v (cK.v (cK.v (cK.v a d e).2.1 (cK.v a d e).2.2.1 (cK.v a d e).2.2.2).2.1 (cK.v (cK.v a d e).2.1 (cK.v a d e).2.2.1 (cK.v a d e).2.2.2).2.2.1 (cK.v (cK.v a d e).2.1 (cK.v a d e).2.2.1 (cK.v a d e).2.2.2).2.2.2).2.1 (cK.v (cK.v (cK.v a d e).2.1 (cK.v a d e).2.2.1 (cK.v a d e).2.2.2).2.1 (cK.v (cK.v a d e).2.1 (cK.v a d e).2.2.1 (cK.v a d e).2.2.2).2.2.1 (cK.v (cK.v a d e).2.1 (cK.v a d e).2.2.1 (cK.v a d e).2.2.2).2.2.2).2.2.1 (cK.v (cK.v (cK.v a d e).2.1 (cK.v a d e).2.2.1 (cK.v a d e).2.2.2).2.1 (cK.v (cK.v a d e).2.1 (cK.v a d e).2.2.1 (cK.v a d e).2.2.2).2.2.1 (cK.v (cK.v a d e).2.1 (cK.v a d e).2.2.1 (cK.v a d e).2.2.2).2.2.2).2.2.2).1)) f) (cK.v (cK.v (cK.v (cK.v a d e).2.1 (cK.v a d e).2.2.1 (cK.v a d e).2.2.2).2.1 (cK.v (cK.v a d e).2.1 (cK.v a d e).2.2.1 (cK.v a d e).2.2.2).2.2.1 (cK.v (cK.v a d e).2.1 (cK.v a d e).2.2.1 (cK.v a d e).2.2.2).2.2.2).2.1 (cK.v (cK.v (cK.v a d e).2.1 (cK.v a d e).2.2.1 (cK.v a d e).2.2.2).2.1 (cK.v (cK.v a d e).2.1 (cK.v a d e).2.2.1 (cK.v a d e).2.2.2).2.2.1 (cK.v (cK.v a d e).2.1 (cK.v a d e).2.2.1 (cK.v a d e).2.2.2).2.2.2).2.2.1 (cK.v (cK.v (cK.v a d e).2.1 (cK.v a d e).2.2.1 (cK.v a d e).2.2.2).2.1 (cK.v (cK.v a d e).2.1 (cK.v a d e).2.2.1 (cK.v a d e).2.2.2).2.2.1 (cK.v (cK.v a d e).2.1 (cK.v a d e).2.2.1 (cK.v a d e).2.2.2).2.2.2).2.2.2).2.1 (cK.v (cK.v (cK.v (cK.v a d e).2.1 (cK.v a d e).2.2.1 (cK.v a d e).2.2.2).2.1 (cK.v (cK.v a d e).2.1 (cK.v a d e).2.2.1 (cK.v a d e).2.2.2).2.2.1 (cK.v (cK.v a d e).2.1 (cK.v a d e).2.2.1 (cK.v a d e).2.2.2).2.2.2).2.1 (cK.v (cK.v (cK.v a d e).2.1 (cK.v a d e).2.2.1 (cK.v a d e).2.2.2).2.1 (cK.v (cK.v a d e).2.1 (cK.v a d e).2.2.1 (cK.v a d e).2.2.2).2.2.1 (cK.v (cK.v a d e).2.1 (cK.v a d e).2.2.1 (cK.v a d e).2.2.2).2.2.2).2.2.1 (cK.v (cK.v (cK.v a d e).2.1 (cK.v a d e).2.2.1 (cK.v a d e).2.2.2).2.1 (cK.v (cK.v a d e).2.1 (cK.v a d e).2.2.1 (cK.v a d e).2.2.2).2.2.1 (cK.v (cK.v a d e).2.1 (cK.v a d e).2.2.1 (cK.v a d e).2.2.2).2.2.2).2.2.2).2.2.1 (cK.v (cK.v (cK.v (cK.v a d e).2.1 (cK.v a d e).2.2.1 (cK.v a d e).2.2.2).2.1 (cK.v (cK.v a d e).2.1 (cK.v a d e).2.2.1 (cK.v a d e).2.2.2).2.2.1 (cK.v (cK.v a d e).2.1 (cK.v a d e).2.2.1 (cK.v a d e).2.2.2).2.2.2).2.1 (cK.v (cK.v (cK.v a d e).2.1 (cK.v a d e).2.2.1 (cK.v a d e).2.2.2).2.1 (cK.v (cK.v a d e).2.1 (cK.v a d e).2.2.1 (cK.v a d e).2.2.2).2.2.1 (cK.v (cK.v a d e).2.1 (cK.v a d e).2.2.1 (cK.v a d e).2.2.2).2.2.2).2.2.1 (cK.v (cK.v (cK.v a d e).2.1 (cK.v a d e).2.2.1 (cK.v a d e).2.2.2).2.1 (cK.v (cK.v a d e).2.1 (cK.v a d e).2.2.1 (cK.v a d e).2.2.2).2.2.1 (cK.v (cK.v a d e).2.1 (cK.v a d e).2.2.1 (cK.v a d e).2.2.2).2.2.2).2.2.2).2.2.2 else af else af else af else af else af
def vo:=b λr0 r1 r2 r3=>ab (r0,r1,r2,r3)
def c:=λa d e f=>(vo a d e f).isSome
def v:=λa d e f=>(vo a d e f).getD (0,[],0,0)
theorem out{x}:∀a d e f,vo a d e f=ab x->c a d e f=ae/\v a d e f=x:=λ_ _ _ _=>Lib.dN
end vh

namespace HY
def r5(N:au)(g k0:va R)(a:ax)(d:aY)(e f:ax)(h:aY):ar R:=bif decide (a<12)then bif vh.c d e f 10000 then Lib.lt (vh.v d e f 10000) λi=>bif cX (h.length+(aF (aM [Ck.i aj] 1) 0 [.i .i64 i.1]).length) 8 then g (bE (a+1)) i.2.1 i.2.2.1 i.2.2.2 (h++aF (aM [Ck.i aj] 1) 0 [.i .i64 i.1])else af else af else k0 a d e f h
def l5(N:au)(k0:va R):au->va R
 |0=>λ_ _ _ _ _=>af
 |n+1=>r5 N (l5 N k0 n) k0
def b(N:au)(kr:aY->ar R)(a:aY):ar R:=bif H0.c a then Lib.lt (H0.v a) λd=>bif cK.c d.1 d.2.1 d.2.2 then Lib.lt (cK.v d.1 d.2.1 d.2.2) λe=>l5 N (λ_ _ _ _ f=>kr f) N 0 e.2.1 e.2.2.1 e.2.2.2 (aM [Ck.i aj] 0)else af else af
def vo:=b Lib.dE λr0=>ab r0
def c:=λa=>(vo a).isSome
def v:=λa=>(vo a).getD ([])
theorem out{x}:∀a,vo a=ab x->c a=ae/\v a=x:=λ_=>Lib.dN
end HY

namespace zY
def r3(N:au)(g:oF R)(g1:kh R)(k0:oF R)(k1:kh R)(a d e:ax):ar R:=bif decide (a<3)then g1 (bE (a+1)) d e ([]++aF (aM [Ck.l 3] 1) 0 [CV.l 3 (aM [Ck.i aj] (aX 16))])else k0 a d e
def K5(N:au)(g:oF R)(g1:kh R)(k0:oF R)(k1:kh R)(a d e:ax)(f:aY):ar R:=bif decide (a<3)then bif cX (f.length+(aF (aM [Ck.l 3] 1) 0 [CV.l 3 (aM [Ck.i aj] (aX 16))]).length) 24 then g1 (bE (a+1)) d e (f++aF (aM [Ck.l 3] 1) 0 [CV.l 3 (aM [Ck.i aj] (aX 16))])else af else k1 a d e f
def Ce(N:au)(k0:oF R)(k1:kh R):au->kh R
 |0=>λ_ _ _ _=>af
 |n+1=>K5 N (λx0 x1 x2=>af) (Ce N k0 k1 n) k0 k1
def l3(N:au)(k0:oF R)(k1:kh R):au->oF R
 |0=>λ_ _ _=>af
 |n+1=>r3 N (l3 N k0 k1 n) (Ce N k0 k1 n) k0 k1
def b(N:au)(kr:rG R):ar R:=l3 N (λ_ _ a=>kr [] a) (λ_ _ a d=>kr d a) N 0 0 0
def vo:=b Lib.dE λr0 r1=>ab (r0,r1)
def c:=vo.isSome
def v:=vo.getD ([],0)
end zY

namespace Y1
def b(kr:vU R):ar R:=kr [] [] ([]++aF (aM [Ck.l 3] 1) 0 [CV.l 3 (aM [Ck.i aj] (aX 16))]++aF (aM [Ck.l 3] 1) 0 [CV.l 3 (aM [Ck.i aj] (aX 16))]++aF (aM [Ck.l 3] 1) 0 [CV.l 3 (aM [Ck.i aj] (aX 16))]) 0
def v:aY×aY×aY×ax:=([],[],[]++aF (aM [Ck.l 3] 1) 0 [CV.l 3 (aM [Ck.i aj] (aX 16))]++aF (aM [Ck.l 3] 1) 0 [CV.l 3 (aM [Ck.i aj] (aX 16))]++aF (aM [Ck.l 3] 1) 0 [CV.l 3 (aM [Ck.i aj] (aX 16))],0)
theorem jX(kr:vU R):b kr=kr v.1 v.2.1 v.2.2.1 v.2.2.2:=by first|rfl|(unfold b v;simp only[dA];(repeat' split)<;>rfl)
end Y1

namespace wc
def b(kr:eJ R):ar R:=kr 1 [] [] [] ([]++aF (aM [Ck.l 3] 1) 0 [CV.l 3 (aM [Ck.i aj] (aX 16))]++aF (aM [Ck.l 3] 1) 0 [CV.l 3 (aM [Ck.i aj] (aX 16))]++aF (aM [Ck.l 3] 1) 0 [CV.l 3 (aM [Ck.i aj] (aX 16))]) 0 [] [] 0
def v:ax×aY×aY×aY×aY×ax×aY×aY×ax:=(1,[],[],[],[]++aF (aM [Ck.l 3] 1) 0 [CV.l 3 (aM [Ck.i aj] (aX 16))]++aF (aM [Ck.l 3] 1) 0 [CV.l 3 (aM [Ck.i aj] (aX 16))]++aF (aM [Ck.l 3] 1) 0 [CV.l 3 (aM [Ck.i aj] (aX 16))],0,[],[],0)
theorem jX(kr:eJ R):b kr=kr v.1 v.2.1 v.2.2.1 v.2.2.2.1 v.2.2.2.2.1 v.2.2.2.2.2.1 v.2.2.2.2.2.2.1 v.2.2.2.2.2.2.2.1 v.2.2.2.2.2.2.2.2:=by first|rfl|(unfold b v;simp only[dA];(repeat' split)<;>rfl)
end wc

namespace rK
def b(kr:aY->ar R)(a:aY):ar R:=bif cX ((aM [Ck.s,Ck.i aj,Ck.i aj,Ck.s] 0).length+a.length) 48 then kr (aM [Ck.s,Ck.i aj,Ck.i aj,Ck.s] 0++a)else af
def vo:=b λr0=>ab r0
def c:=λa=>(vo a).isSome
def v:=λa=>(vo a).getD ([])
theorem out{x}:∀a,vo a=ab x->c a=ae/\v a=x:=λ_=>Lib.dN
end rK

namespace o8
def b(kr:aY->ar R)(a:aY):ar R:=bif cX ((aM [.s] 0).length+a.length) 16 then kr (aM [.s] 0++a)else af
def vo:=b λr0=>ab r0
def c:=λa=>(vo a).isSome
def v:=λa=>(vo a).getD ([])
theorem out{x}:∀a,vo a=ab x->c a=ae/\v a=x:=λ_=>Lib.dN
end o8

namespace qU
def b(kr:aY->ar R)(a:aY):ar R:=bif cX ((aM [Ck.i aj] 0).length+a.length) 8 then kr (aM [Ck.i aj] 0++a)else af
def vo:=b λr0=>ab r0
def c:=λa=>(vo a).isSome
def v:=λa=>(vo a).getD ([])
theorem out{x}:∀a,vo a=ab x->c a=ae/\v a=x:=λ_=>Lib.dN
end qU

namespace iq
def r3(N:au)(g:iJ R)(g1:lV R)(k0:iJ R)(k1:lV R)(a:aY)(d e f h:ax):ar R:=bif decide (e<d)then bif decide (0<=e)&&decide (e<(a.length:ax))then bif qU.c (ia (ao a e.toNat 0))then g1 a d (bE (e+1)) f h ([]++aF (aM [Ck.l 3] 1) 0 [CV.l 3 (qU.v (ia (ao a e.toNat 0)))])else af else af else k0 a d e f h
def K5(N:au)(g:iJ R)(g1:lV R)(k0:iJ R)(k1:lV R)(a:aY)(d e f h:ax)(i:aY):ar R:=bif decide (e<d)then bif decide (0<=e)&&decide (e<(a.length:ax))then bif qU.c (ia (ao a e.toNat 0))then bif cX (i.length+(aF (aM [Ck.l 3] 1) 0 [CV.l 3 (qU.v (ia (ao a e.toNat 0)))]).length) 24 then g1 a d (bE (e+1)) f h (i++aF (aM [Ck.l 3] 1) 0 [CV.l 3 (qU.v (ia (ao a e.toNat 0)))])else af else af else af else k1 a d e f h i
def Ce(N:au)(k0:iJ R)(k1:lV R):au->lV R
 |0=>λ_ _ _ _ _ _=>af
 |n+1=>K5 N (λx0 x1 x2 x3 x4=>af) (Ce N k0 k1 n) k0 k1
def l3(N:au)(k0:iJ R)(k1:lV R):au->iJ R
 |0=>λ_ _ _ _ _=>af
 |n+1=>r3 N (l3 N k0 k1 n) (Ce N k0 k1 n) k0 k1
def b(N:au)(kr:rG R)(a:aY)(d:ax):ar R:=l3 N (λ_ _ _ _ e=>kr [] e) (λ_ _ _ _ e f=>kr f e) N a (a.length:ax) 0 0 d
def vo:=b Lib.dE λr0 r1=>ab (r0,r1)
def c:=λa d=>(vo a d).isSome
def v:=λa d=>(vo a d).getD ([],0)
theorem out{x}:∀a d,vo a d=ab x->c a d=ae/\v a d=x:=λ_ _=>Lib.dN
end iq

namespace gD
def b(kr:vU R)(a d e:aY)(f:ax):ar R:=bif o8.c a then bif o8.c d then bif iq.c e f then kr (o8.v a) (o8.v d) (iq.v e f).1 (iq.v e f).2 else af else af else af
def vo:=b λr0 r1 r2 r3=>ab (r0,r1,r2,r3)
def c:=λa d e f=>(vo a d e f).isSome
def v:=λa d e f=>(vo a d e f).getD ([],[],[],0)
theorem out{x}:∀a d e f,vo a d e f=ab x->c a d e f=ae/\v a d e f=x:=λ_ _ _ _=>Lib.dN
end gD

namespace pV
def b(kr:eJ R)(a:ax)(d e f h:aY)(i:ax)(j l:aY)(m:ax):ar R:=bif rK.c d then bif gD.c e f h i then bif cX ((aM [Ck.s,Ck.s,Ck.i aj,Ck.i aj,Ck.i aj] 0).length+j.length) 56 then bif cX ((aM [Ck.i aj,Ck.s,Ck.i aj,Ck.i aj,Ck.i aj,Ck.s,Ck.i aj] 0).length+l.length) 72 then kr a (rK.v d) (gD.v e f h i).1 (gD.v e f h i).2.1 (gD.v e f h i).2.2.1 (gD.v e f h i).2.2.2 (aM [Ck.s,Ck.s,Ck.i aj,Ck.i aj,Ck.i aj] 0++j) (aM [Ck.i aj,Ck.s,Ck.i aj,Ck.i aj,Ck.i aj,Ck.s,Ck.i aj] 0++l) m else af else af else af else af
def vo:=b λr0 r1 r2 r3 r4 r5 r6 r7 r8=>ab (r0,r1,r2,r3,r4,r5,r6,r7,r8)
def c:=λa d e f h i j l m=>(vo a d e f h i j l m).isSome
def v:=λa d e f h i j l m=>(vo a d e f h i j l m).getD (0,[],[],[],[],0,[],[],0)
theorem out{x}:∀a d e f h i j l m,vo a d e f h i j l m=ab x->c a d e f h i j l m=ae/\v a d e f h i j l m=x:=λ_ _ _ _ _ _ _ _ _=>Lib.dN
end pV

namespace H2
def b(kr:ax->ar R)(a d:ax):ar R:=bif !decide (d=0)then bif !decide (d=0)then kr (bL (bE (bL a d+d)) d)else af else af
def vo:=b λr0=>ab r0
def c:=λa d=>(vo a d).isSome
def v:=λa d=>(vo a d).getD (0)
theorem out{x}:∀a d,vo a d=ab x->c a d=ae/\v a d=x:=λ_ _=>Lib.dN
end H2

namespace E7
def b(kr:eJ R)(a:ax)(d e f h:aY)(i:ax)(j l:aY)(m o:ax):ar R:=bif pV.c a d e f h i j l m then bif decide (a>bE (1000000000-H2.v o 1000))then kr 1000000000 (pV.v a d e f h i j l m).2.1 (pV.v a d e f h i j l m).2.2.1 (pV.v a d e f h i j l m).2.2.2.1 (pV.v a d e f h i j l m).2.2.2.2.1 (pV.v a d e f h i j l m).2.2.2.2.2.1 (pV.v a d e f h i j l m).2.2.2.2.2.2.1 (pV.v a d e f h i j l m).2.2.2.2.2.2.2.1 (pV.v a d e f h i j l m).2.2.2.2.2.2.2.2 else kr (bE (a+H2.v o 1000)) (pV.v a d e f h i j l m).2.1 (pV.v a d e f h i j l m).2.2.1 (pV.v a d e f h i j l m).2.2.2.1 (pV.v a d e f h i j l m).2.2.2.2.1 (pV.v a d e f h i j l m).2.2.2.2.2.1 (pV.v a d e f h i j l m).2.2.2.2.2.2.1 (pV.v a d e f h i j l m).2.2.2.2.2.2.2.1 (pV.v a d e f h i j l m).2.2.2.2.2.2.2.2 else af
def vo:=b λr0 r1 r2 r3 r4 r5 r6 r7 r8=>ab (r0,r1,r2,r3,r4,r5,r6,r7,r8)
def c:=λa d e f h i j l m o=>(vo a d e f h i j l m o).isSome
def v:=λa d e f h i j l m o=>(vo a d e f h i j l m o).getD (0,[],[],[],[],0,[],[],0)
theorem out{x}:∀a d e f h i j l m o,vo a d e f h i j l m o=ab x->c a d e f h i j l m o=ae/\v a d e f h i j l m o=x:=λ_ _ _ _ _ _ _ _ _ _=>Lib.dN
end E7

namespace kR
def b(kr:aL->ar R)(a d e:ax):ar R:=bif decide (a≥d)then kr (decide (a<=e))else kr ah
def v(a0 a1 a2:ax):aL:=bif decide (a0≥a1)then decide (a0<=a2)else ah
theorem jX(kr:aL->ar R)(a0 a1 a2:ax):b kr a0 a1 a2=kr (v a0 a1 a2):=by first|rfl|(unfold b v;simp only[dA];(repeat' split)<;>rfl)
end kR

namespace GJ
def b(kr:aL->ar R)(a:ai):ar R:=kr (kR.v (a.size:ax) 1 30)
def v(a0:ai):aL:=(kR.v (a0.size:ax) 1 30)
theorem jX(kr:aL->ar R)(a0:ai):b kr a0=kr (v a0):=by first|rfl|(unfold b v;simp only[dA];(repeat' split)<;>rfl)
end GJ

namespace Jl
def b(kr:aL->ar R)(a:ax):ar R:=kr (kR.v a 0 1000000000)
def v(a0:ax):aL:=(kR.v a0 0 1000000000)
theorem jX(kr:aL->ar R)(a0:ax):b kr a0=kr (v a0):=by first|rfl|(unfold b v;simp only[dA];(repeat' split)<;>rfl)
end Jl

namespace uQ
def b(kr:aL->ar R)(a:ai)(d e:ax)(f:ai):ar R:=bif GJ.v a then bif Jl.v d then bif kR.v e 1 999999 then kr (decide ((f.size:ax)<=400))else kr ah else kr ah else kr ah
def v(a0:ai)(a1 a2:ax)(a3:ai):aL:=bif GJ.v a0 then bif Jl.v a1 then bif kR.v a2 1 999999 then decide ((a3.size:ax)<=400)else ah else ah else ah
theorem jX(kr:aL->ar R)(a0:ai)(a1 a2:ax)(a3:ai):b kr a0 a1 a2 a3=kr (v a0 a1 a2 a3):=by first|rfl|(unfold b v;simp only[dA];(repeat' split)<;>rfl)
end uQ

namespace yc
def b(kr:aY->ar R)(a:ax):ar R:=bif decide (a<0)then af else bif decide (bE (a-bE (0-0))>0)then bif decide (0<=bE (a-bE (0-0)))&&cX (([]:aY).length+(bE (a-bE (0-0))).toNat) 16&&decide (bE (a-bE (0-0))<=9223372036854775807)then kr (dM ([]++aM [.s] (bE (a-bE (0-0))).toNat) (aX 0) (aX 0))else af else kr []
def vo:=b λr0=>ab r0
def c:=λa=>(vo a).isSome
def v:=λa=>(vo a).getD ([])
theorem out{x}:∀a,vo a=ab x->c a=ae/\v a=x:=λ_=>Lib.dN
end yc

namespace rO
def r11(N:au)(g k0:qJ R)(a:aY)(d e:ax)(f:aY):ar R:=bif decide (e<d)then bif decide (0<=e)&&decide (e<(a.length:ax))then bif cX (f.length+(ia (ao a e.toNat 0)).length) 16 then g a d (bE (e+1)) (f++ia (ao a e.toNat 0))else af else af else k0 a d e f
def W1(N:au)(k0:qJ R):au->qJ R
 |0=>λ_ _ _ _=>af
 |n+1=>r11 N (W1 N k0 n) k0
def r3(N:au)(g k0:zG R)(a:aY)(d:ax)(e:aY)(f h:ax):ar R:=bif decide (h<f)then bif decide (0<=h)&&decide (h<(e.length:ax))then bif decide (bE (d+((ia (ao e h.toNat 0)).length:ax))<0)then af else g a (bE (d+((ia (ao e h.toNat 0)).length:ax))) e f (bE (h+1))else af else k0 a d e f h
def l3(N:au)(k0:zG R):au->zG R
 |0=>λ_ _ _ _ _=>af
 |n+1=>r3 N (l3 N k0 n) k0
def b(N:au)(kr:aY->ar R)(a:aY):ar R:=l3 N (λd e _ _ _=>bif yc.c e then W1 N (λ_ _ _ f=>kr f) N d (d.length:ax) 0 (yc.v e)else af) N a 0 a (a.length:ax) 0
def vo:=b Lib.dE λr0=>ab r0
def c:=λa=>(vo a).isSome
def v:=λa=>(vo a).getD ([])
theorem out{x}:∀a,vo a=ab x->c a=ae/\v a=x:=λ_=>Lib.dN
end rO

namespace nt
def b(kr:aY->ar R)(a d e:aY)(f:ax):ar R:=bif rO.c (aF (aF (aM [Ck.l 9] 2) 0 [CV.l 9 a]) 1 [CV.l 9 d])then kr (rO.v (aF (aF (aM [Ck.l 9] 2) 0 [CV.l 9 a]) 1 [CV.l 9 d]))else af
def vo:=b λr0=>ab r0
def c:=λa d e f=>(vo a d e f).isSome
def v:=λa d e f=>(vo a d e f).getD ([])
theorem out{x}:∀a d e f,vo a d e f=ab x->c a d e f=ae/\v a d e f=x:=λ_ _ _ _=>Lib.dN
end nt

namespace uS
def r2(N:au)(g k0 k1:fk R)(a:aY)(d:ai)(e f h:ax):ar R:=bif decide (h<f)then bif decide (0<=h)&&decide (h<(a.length:ax))then bif cC (aA d) (bW (ao a h.toNat 0)).toList then k0 a d h f h else g a d e f (bE (h+1))else af else k1 a d e f h
def l2(N:au)(k0 k1:fk R):au->fk R
 |0=>λ_ _ _ _ _=>af
 |n+1=>r2 N (l2 N k0 k1 n) k0 k1
def b(N:au)(kr:ax->ar R)(a:aY)(d:ai):ar R:=l2 N (λ_ _ e _ _=>kr e) (λ_ _ _ _ _=>kr (-1)) N a d 0 (a.length:ax) 0
def vo:=b Lib.dE λr0=>ab r0
def c:=λa d=>(vo a d).isSome
def v:=λa d=>(vo a d).getD (0)
theorem out{x}:∀a d,vo a d=ab x->c a d=ae/\v a d=x:=λ_ _=>Lib.dN
end uS

namespace oS
def b(kr:aL->ar R)(a:aY)(d:ai):ar R:=bif uS.c a d then kr (decide (uS.v a d≥0))else af
def vo:=b λr0=>ab r0
def c:=λa d=>(vo a d).isSome
def v:=λa d=>(vo a d).getD ah
theorem out{x}:∀a d,vo a d=ab x->c a d=ae/\v a d=x:=λ_ _=>Lib.dN
end oS

namespace qS
def b(kr:aL->ar R)(a d e:aY)(f:ax)(h:ai):ar R:=bif nt.c a d e f then bif oS.c (nt.v a d e f) h then kr (oS.v (nt.v a d e f) h)else af else af
def vo:=b λr0=>ab r0
def c:=λa d e f h=>(vo a d e f h).isSome
def v:=λa d e f h=>(vo a d e f h).getD ah
theorem out{x}:∀a d e f h,vo a d e f h=ab x->c a d e f h=ae/\v a d e f h=x:=λ_ _ _ _ _=>Lib.dN
end qS

namespace lJ
def r5(N:au)(g k0 k1:nO R)(a:aL)(d e:aY)(f h:ax)(i:aY)(j l:ax)(m:aY)(o:ax):ar R:=bif decide (l<j)then bif decide (0<=l)&&decide (l<(i.length:ax))then bif !kR.v (cw (ao i l.toNat 0)) 0 15 then k0 ah d e f h i j l m o else g a d e f h i j (bE (l+1)) m o else af else k1 a d e f h i j l m o
def l5(N:au)(k0 k1:nO R):au->nO R
 |0=>λ_ _ _ _ _ _ _ _ _ _=>af
 |n+1=>r5 N (l5 N k0 k1 n) k0 k1
def r2(N:au)(g k0 k1:vR R)(a:aL)(d:aY)(e f:ax)(h:aY)(i:ax):ar R:=bif decide (f<e)then bif decide (0<=f)&&decide (f<(d.length:ax))then l5 N (λj _ l m o _ _ _ p q=>k0 j l m o p q) (λj l m o p _ _ _ q r=>bif(l.length:ax) !=16 then k0 ah m o p q r else g j m o (bE (p+1)) q r) N a (ia (ao d f.toNat 0)) d e f (ia (ao d f.toNat 0)) ((ia (ao d f.toNat 0)).length:ax) 0 h i else af else k1 a d e f h i
def l2(N:au)(k0 k1:vR R):au->vR R
 |0=>λ_ _ _ _ _ _=>af
 |n+1=>r2 N (l2 N k0 k1 n) k0 k1
def b(N:au)(kr:aL->ar R)(a:aY)(d:ax):ar R:=l2 N (λe _ _ _ _ _=>kr e) (λ_ _ _ _ e f=>bif decide ((e.length:ax)=3)then kr (kR.v f 0 63)else kr ah) N ah a (a.length:ax) 0 a d
def vo:=b Lib.dE λr0=>ab r0
def c:=λa d=>(vo a d).isSome
def v:=λa d=>(vo a d).getD ah
theorem out{x}:∀a d,vo a d=ab x->c a d=ae/\v a d=x:=λ_ _=>Lib.dN
end lJ

namespace lZ
def r3(N:au)(g k0 k1:qH R)(a:aL)(d e:ax)(f h i:aY)(j:ax)(l:aY):ar R:=bif decide (e<d)then bif decide (0<=e)&&decide (e<(l.length:ax))then bif !GJ.v (bW (ao l e.toNat 0))then k0 ah d e f h i j l else bif iV 0 e (l.length:ax)then bif oS.c (dM l (aX 0) e.toNat) (bW (ao l e.toNat 0))then bif oS.v (dM l (aX 0) e.toNat) (bW (ao l e.toNat 0))then k0 ah d e f h i j l else g a d (bE (e+1)) f h i j l else af else af else af else k1 a d e f h i j l
def l3(N:au)(k0 k1:qH R):au->qH R
 |0=>λ_ _ _ _ _ _ _ _=>af
 |n+1=>r3 N (l3 N k0 k1 n) k0 k1
def b(N:au)(kr:aL->ar R)(a d e:aY)(f:ax):ar R:=bif nt.c a d e f then l3 N (λh _ _ _ _ _ _ _=>kr h) (λ_ _ _ h i j l _=>bif decide ((h.length:ax)<=2)then bif decide ((i.length:ax)<=4)then bif lJ.c j l then kr (lJ.v j l)else af else kr ah else kr ah) N ah ((nt.v a d e f).length:ax) 0 a d e f (nt.v a d e f)else af
def vo:=b Lib.dE λr0=>ab r0
def c:=λa d e f=>(vo a d e f).isSome
def v:=λa d e f=>(vo a d e f).getD ah
theorem out{x}:∀a d e f,vo a d e f=ab x->c a d e f=ae/\v a d e f=x:=λ_ _ _ _=>Lib.dN
end lZ

namespace H6
def r2(N:au)(g k0 k1:dG R)(a:aL)(d:aY)(e f h:ax)(i j l m:aY)(o:ax)(p q:aY)(r:ax):ar R:=bif decide (f<e)then bif decide (0<=f)&&decide (f<(d.length:ax))then bif !uQ.v (bW (ao d f.toNat 0)) (cw (ao d f.toNat 1)) (cw (ao d f.toNat (1+1))) (bW (ao d f.toNat (1+1+1)))then k0 ah d e f h i j l m o p q r else bif decide (f>0)then bif decide (0<=bE (f-1))&&decide (bE (f-1)<(i.length:ax))then bif !Op.bytesLess (bW (ao i (bE (f-1)).toNat 0)).toList (bW (ao d f.toNat 0)).toList then k0 ah d e f h i j l m o p q r else bif qS.c j l m o (bW (ao d f.toNat 0))then bif !qS.v j l m o (bW (ao d f.toNat 0))then k0 ah d e f h i j l m o p q r else g a d e (bE (f+1)) h i j l m o p q r else af else af else bif qS.c j l m o (bW (ao d f.toNat 0))then bif !qS.v j l m o (bW (ao d f.toNat 0))then k0 ah d e f h i j l m o p q r else g a d e (bE (f+1)) h i j l m o p q r else af else af else k1 a d e f h i j l m o p q r
def l2(N:au)(k0 k1:dG R):au->dG R
 |0=>λ_ _ _ _ _ _ _ _ _ _ _ _ _=>af
 |n+1=>r2 N (l2 N k0 k1 n) k0 k1
def b(N:au)(kr:aL->ar R)(a:ax)(d e f h:aY)(i:ax)(j l:aY)(m:ax):ar R:=l2 N (λo _ _ _ _ _ _ _ _ _ _ _ _=>kr o) (λ_ _ _ _ _ o p q r s _ _ _=>bif lZ.c p q r s then bif lZ.v p q r s then bif nt.c p q r s then kr (decide (((nt.v p q r s).length:ax)=(o.length:ax)))else af else kr ah else af) N ah d (d.length:ax) 0 a d e f h i j l m
def vo:=b Lib.dE λr0=>ab r0
def c:=λa d e f h i j l m=>(vo a d e f h i j l m).isSome
def v:=λa d e f h i j l m=>(vo a d e f h i j l m).getD ah
theorem out{x}:∀a d e f h i j l m,vo a d e f h i j l m=ab x->c a d e f h i j l m=ae/\v a d e f h i j l m=x:=λ_ _ _ _ _ _ _ _ _=>Lib.dN
end H6

namespace Bu
def b(kr:aL->ar R)(a d:ai)(e f h:ax)(e9:ai):ar R:=bif cC (aA a) (aA e9)then kr (decide (e=1))else kr ah
def v(a0 a1:ai)(a2 a3 a4:ax)(e9:ai):aL:=bif cC (aA a0) (aA e9)then decide (a2=1)else ah
theorem jX(kr:aL->ar R)(a0 a1:ai)(a2 a3 a4:ax)(e9:ai):b kr a0 a1 a2 a3 a4 e9=kr (v a0 a1 a2 a3 a4 e9):=by first|rfl|(unfold b v;simp only[dA];(repeat' split)<;>rfl)
end Bu

namespace nq
def r2(N:au)(g k0 k1:fk R)(a:aY)(d:ai)(e f h:ax):ar R:=bif decide (h<f)then bif decide (0<=h)&&decide (h<(a.length:ax))then bif Bu.v (bW (ao a h.toNat 0)) (bW (ao a h.toNat 1)) (cw (ao a h.toNat (1+1))) (cw (ao a h.toNat (1+1+1))) (cw (ao a h.toNat (1+1+1+1))) d then k0 a d h f h else g a d e f (bE (h+1))else af else k1 a d e f h
def l2(N:au)(k0 k1:fk R):au->fk R
 |0=>λ_ _ _ _ _=>af
 |n+1=>r2 N (l2 N k0 k1 n) k0 k1
def b(N:au)(kr:ax->ar R)(a:aY)(e9:ai):ar R:=l2 N (λ_ _ d _ _=>kr d) (λ_ _ _ _ _=>kr (-1)) N a e9 0 (a.length:ax) 0
def vo:=b Lib.dE λr0=>ab r0
def c:=λa d=>(vo a d).isSome
def v:=λa d=>(vo a d).getD (0)
theorem out{x}:∀a d,vo a d=ab x->c a d=ae/\v a d=x:=λ_ _=>Lib.dN
end nq

namespace Dr
def b(kr:ax->ar R)(a:ax)(d e f h:aY)(i:ax)(j l:aY)(m:ax)(o:ai):ar R:=bif nq.c j o then kr (nq.v j o)else af
def vo:=b λr0=>ab r0
def c:=λa d e f h i j l m o=>(vo a d e f h i j l m o).isSome
def v:=λa d e f h i j l m o=>(vo a d e f h i j l m o).getD (0)
theorem out{x}:∀a d e f h i j l m o,vo a d e f h i j l m o=ab x->c a d e f h i j l m o=ae/\v a d e f h i j l m o=x:=λ_ _ _ _ _ _ _ _ _ _=>Lib.dN
end Dr

namespace rL
def r2(N:au)(g k0 k1:dG R)(a:aL)(d:aY)(e f h:ax)(i j l m:aY)(o:ax)(p q:aY)(r:ax):ar R:=bif decide (f<e)then bif decide (0<=f)&&decide (f<(d.length:ax))then bif decide (cw (ao d f.toNat (1+1))=1)then bif Dr.c h i j l m o p q r (bW (ao d f.toNat 0))then bif Dr.v h i j l m o p q r (bW (ao d f.toNat 0)) !=f then k0 ah d e f h i j l m o p q r else g a d e (bE (f+1)) h i j l m o p q r else af else g a d e (bE (f+1)) h i j l m o p q r else af else k1 a d e f h i j l m o p q r
def l2(N:au)(k0 k1:dG R):au->dG R
 |0=>λ_ _ _ _ _ _ _ _ _ _ _ _ _=>af
 |n+1=>r2 N (l2 N k0 k1 n) k0 k1
def b(N:au)(kr:aL->ar R)(a:ax)(d e f h:aY)(i:ax)(j l:aY)(m:ax):ar R:=l2 N (λo _ _ _ _ _ _ _ _ _ _ _ _=>kr o) (λ_ _ _ _ _ _ _ _ _ _ _ _ _=>kr ae) N ah j (j.length:ax) 0 a d e f h i j l m
def vo:=b Lib.dE λr0=>ab r0
def c:=λa d e f h i j l m=>(vo a d e f h i j l m).isSome
def v:=λa d e f h i j l m=>(vo a d e f h i j l m).getD ah
theorem out{x}:∀a d e f h i j l m,vo a d e f h i j l m=ab x->c a d e f h i j l m=ae/\v a d e f h i j l m=x:=λ_ _ _ _ _ _ _ _ _=>Lib.dN
end rL

namespace GL
def r2(N:au)(g k0 k1:dG R)(a:aL)(d:aY)(e f h:ax)(i j l m:aY)(o:ax)(p q:aY)(r:ax):ar R:=bif decide (f<e)then bif decide (0<=f)&&decide (f<(d.length:ax))then bif !GJ.v (bW (ao d f.toNat 0))then k0 ah d e f h i j l m o p q r else bif decide (((bW (ao d f.toNat 1)).size:ax)>400)then k0 ah d e f h i j l m o p q r else bif !kR.v (cw (ao d f.toNat (1+1))) 1 3 then k0 ah d e f h i j l m o p q r else bif !kR.v (cw (ao d f.toNat (1+1+1))) 0 999999 then k0 ah d e f h i j l m o p q r else bif !kR.v (cw (ao d f.toNat (1+1+1+1))) 0 h then k0 ah d e f h i j l m o p q r else g a d e (bE (f+1)) h i j l m o p q r else af else k1 a d e f h i j l m o p q r
def l2(N:au)(k0 k1:dG R):au->dG R
 |0=>λ_ _ _ _ _ _ _ _ _ _ _ _ _=>af
 |n+1=>r2 N (l2 N k0 k1 n) k0 k1
def b(N:au)(kr:aL->ar R)(a:ax)(d e f h:aY)(i:ax)(j l:aY)(m:ax):ar R:=l2 N (λo _ _ _ _ _ _ _ _ _ _ _ _=>kr o) (λ_ _ _ _ o p q r s t u w y=>bif decide ((u.length:ax)<=20)then bif rL.c o p q r s t u w y then kr (rL.v o p q r s t u w y)else af else kr ah) N ah j (j.length:ax) 0 a d e f h i j l m
def vo:=b Lib.dE λr0=>ab r0
def c:=λa d e f h i j l m=>(vo a d e f h i j l m).isSome
def v:=λa d e f h i j l m=>(vo a d e f h i j l m).getD ah
theorem out{x}:∀a d e f h i j l m,vo a d e f h i j l m=ab x->c a d e f h i j l m=ae/\v a d e f h i j l m=x:=λ_ _ _ _ _ _ _ _ _=>Lib.dN
end GL

namespace H7
def r2(N:au)(g k0 k1:dG R)(a:aL)(d:aY)(e f h:ax)(i j l m:aY)(o:ax)(p q:aY)(r:ax):ar R:=bif decide (f<e)then bif decide (0<=f)&&decide (f<(d.length:ax))then bif !kR.v (cw (ao d f.toNat 0)) 1 9 then k0 ah d e f h i j l m o p q r else bif decide (f>0)then bif decide (0<=bE (f-1))&&decide (bE (f-1)<(q.length:ax))then bif decide (cw (ao q (bE (f-1)).toNat 0)≥cw (ao d f.toNat 0))then k0 ah d e f h i j l m o p q r else bif !GJ.v (bW (ao d f.toNat 1))then k0 ah d e f h i j l m o p q r else bif !kR.v (cw (ao d f.toNat (1+1+1+1))) 1 3 then k0 ah d e f h i j l m o p q r else bif !kR.v (cw (ao d f.toNat (1+1))) 0 (p.length:ax)then k0 ah d e f h i j l m o p q r else bif decide (((bW (ao d f.toNat (1+1+1+1+1))).size:ax)>400)then k0 ah d e f h i j l m o p q r else bif !kR.v (cw (ao d f.toNat (1+1+1))) 0 h then k0 ah d e f h i j l m o p q r else bif decide (cw (ao d f.toNat (1+1+1+1+1+1))<0)then k0 ah d e f h i j l m o p q r else g a d e (bE (f+1)) h i j l m o p q r else af else bif !GJ.v (bW (ao d f.toNat 1))then k0 ah d e f h i j l m o p q r else bif !kR.v (cw (ao d f.toNat (1+1+1+1))) 1 3 then k0 ah d e f h i j l m o p q r else bif !kR.v (cw (ao d f.toNat (1+1))) 0 (p.length:ax)then k0 ah d e f h i j l m o p q r else bif decide (((bW (ao d f.toNat (1+1+1+1+1))).size:ax)>400)then k0 ah d e f h i j l m o p q r else bif !kR.v (cw (ao d f.toNat (1+1+1))) 0 h then k0 ah d e f h i j l m o p q r else bif decide (cw (ao d f.toNat (1+1+1+1+1+1))<0)then k0 ah d e f h i j l m o p q r else g a d e (bE (f+1)) h i j l m o p q r else af else k1 a d e f h i j l m o p q r
def l2(N:au)(k0 k1:dG R):au->dG R
 |0=>λ_ _ _ _ _ _ _ _ _ _ _ _ _=>af
 |n+1=>r2 N (l2 N k0 k1 n) k0 k1
def b(N:au)(kr:aL->ar R)(a:ax)(d e f h:aY)(i:ax)(j l:aY)(m:ax):ar R:=l2 N (λo _ _ _ _ _ _ _ _ _ _ _ _=>kr o) (λ_ _ _ _ _ _ _ _ _ _ _ o _=>kr (decide ((o.length:ax)<=6))) N ah l (l.length:ax) 0 a d e f h i j l m
def vo:=b Lib.dE λr0=>ab r0
def c:=λa d e f h i j l m=>(vo a d e f h i j l m).isSome
def v:=λa d e f h i j l m=>(vo a d e f h i j l m).getD ah
theorem out{x}:∀a d e f h i j l m,vo a d e f h i j l m=ab x->c a d e f h i j l m=ae/\v a d e f h i j l m=x:=λ_ _ _ _ _ _ _ _ _=>Lib.dN
end H7

namespace CY
def b(kr:aL->ar R)(a:ax)(d e f h:aY)(i:ax)(j l:aY)(m:ax):ar R:=bif kR.v a 1 1000000000 then bif H6.c a d e f h i j l m then bif H6.v a d e f h i j l m then bif GL.c a d e f h i j l m then bif GL.v a d e f h i j l m then bif H7.c a d e f h i j l m then bif H7.v a d e f h i j l m then kr (Jl.v m)else kr ah else af else kr ah else af else kr ah else af else kr ah
def vo:=b λr0=>ab r0
def c:=λa d e f h i j l m=>(vo a d e f h i j l m).isSome
def v:=λa d e f h i j l m=>(vo a d e f h i j l m).getD ah
theorem out{x}:∀a d e f h i j l m,vo a d e f h i j l m=ab x->c a d e f h i j l m=ae/\v a d e f h i j l m=x:=λ_ _ _ _ _ _ _ _ _=>Lib.dN
end CY

namespace Dm
def b(kr:aL->ar R)(a:ax)(d:ai)(e f h:ax)(i:ai)(j Ca:ax):ar R:=kr (decide (a=Ca))
def v(a0:ax)(a1:ai)(a2 a3 a4:ax)(a5:ai)(a6 Ca:ax):aL:=(decide (a0=Ca))
theorem jX(kr:aL->ar R)(a0:ax)(a1:ai)(a2 a3 a4:ax)(a5:ai)(a6 Ca:ax):b kr a0 a1 a2 a3 a4 a5 a6 Ca=kr (v a0 a1 a2 a3 a4 a5 a6 Ca):=by first|rfl|(unfold b v;simp only[dA];(repeat' split)<;>rfl)
end Dm

namespace np
def r2(N:au)(g k0 k1:iJ R)(a:aY)(d e f h:ax):ar R:=bif decide (h<f)then bif decide (0<=h)&&decide (h<(a.length:ax))then bif Dm.v (cw (ao a h.toNat 0)) (bW (ao a h.toNat 1)) (cw (ao a h.toNat (1+1))) (cw (ao a h.toNat (1+1+1))) (cw (ao a h.toNat (1+1+1+1))) (bW (ao a h.toNat (1+1+1+1+1))) (cw (ao a h.toNat (1+1+1+1+1+1))) d then k0 a d h f h else g a d e f (bE (h+1))else af else k1 a d e f h
def l2(N:au)(k0 k1:iJ R):au->iJ R
 |0=>λ_ _ _ _ _=>af
 |n+1=>r2 N (l2 N k0 k1 n) k0 k1
def b(N:au)(kr:ax->ar R)(a:aY)(Ca:ax):ar R:=l2 N (λ_ _ d _ _=>kr d) (λ_ _ _ _ _=>kr (-1)) N a Ca 0 (a.length:ax) 0
def vo:=b Lib.dE λr0=>ab r0
def c:=λa d=>(vo a d).isSome
def v:=λa d=>(vo a d).getD (0)
theorem out{x}:∀a d,vo a d=ab x->c a d=ae/\v a d=x:=λ_ _=>Lib.dN
end np

namespace Jb
def b(kr:aL->ar R)(a:ax)(d:ai)(e f h:ax)(i:ai)(j Ca:ax):ar R:=kr (decide (a=Ca))
def v(a0:ax)(a1:ai)(a2 a3 a4:ax)(a5:ai)(a6 Ca:ax):aL:=(decide (a0=Ca))
theorem jX(kr:aL->ar R)(a0:ax)(a1:ai)(a2 a3 a4:ax)(a5:ai)(a6 Ca:ax):b kr a0 a1 a2 a3 a4 a5 a6 Ca=kr (v a0 a1 a2 a3 a4 a5 a6 Ca):=by first|rfl|(unfold b v;simp only[dA];(repeat' split)<;>rfl)
end Jb

namespace v9
def r2(N:au)(g k0 k1:iJ R)(a:aY)(d e f h:ax):ar R:=bif decide (h<f)then bif decide (0<=h)&&decide (h<(a.length:ax))then bif Jb.v (cw (ao a h.toNat 0)) (bW (ao a h.toNat 1)) (cw (ao a h.toNat (1+1))) (cw (ao a h.toNat (1+1+1))) (cw (ao a h.toNat (1+1+1+1))) (bW (ao a h.toNat (1+1+1+1+1))) (cw (ao a h.toNat (1+1+1+1+1+1))) d then k0 a d h f h else g a d e f (bE (h+1))else af else k1 a d e f h
def l2(N:au)(k0 k1:iJ R):au->iJ R
 |0=>λ_ _ _ _ _=>af
 |n+1=>r2 N (l2 N k0 k1 n) k0 k1
def b(N:au)(kr:ax->ar R)(a:aY)(Ca:ax):ar R:=l2 N (λ_ _ d _ _=>kr d) (λ_ _ _ _ _=>kr (-1)) N a Ca 0 (a.length:ax) 0
def vo:=b Lib.dE λr0=>ab r0
def c:=λa d=>(vo a d).isSome
def v:=λa d=>(vo a d).getD (0)
theorem out{x}:∀a d,vo a d=ab x->c a d=ae/\v a d=x:=λ_ _=>Lib.dN
end v9

namespace Mh
def b(kr:ax->ar R)(a:ax)(d e f h:aY)(i:ax)(j l:aY)(m o:ax):ar R:=bif np.c l o then kr (np.v l o)else af
def vo:=b λr0=>ab r0
def c:=λa d e f h i j l m o=>(vo a d e f h i j l m o).isSome
def v:=λa d e f h i j l m o=>(vo a d e f h i j l m o).getD (0)
theorem out{x}:∀a d e f h i j l m o,vo a d e f h i j l m o=ab x->c a d e f h i j l m o=ae/\v a d e f h i j l m o=x:=λ_ _ _ _ _ _ _ _ _ _=>Lib.dN
end Mh

namespace R3
def b(kr:aL->ar R)(a:ai)(d e:ax)(f e9:ai):ar R:=kr (cC (aA a) (aA e9))
def v(a0:ai)(a1 a2:ax)(a3 e9:ai):aL:=(cC (aA a0) (aA e9))
theorem jX(kr:aL->ar R)(a0:ai)(a1 a2:ax)(a3 e9:ai):b kr a0 a1 a2 a3 e9=kr (v a0 a1 a2 a3 e9):=by first|rfl|(unfold b v;simp only[dA];(repeat' split)<;>rfl)
end R3

namespace rR
def r2(N:au)(g k0 k1:fk R)(a:aY)(d:ai)(e f h:ax):ar R:=bif decide (h<f)then bif decide (0<=h)&&decide (h<(a.length:ax))then bif R3.v (bW (ao a h.toNat 0)) (cw (ao a h.toNat 1)) (cw (ao a h.toNat (1+1))) (bW (ao a h.toNat (1+1+1))) d then k0 a d h f h else g a d e f (bE (h+1))else af else k1 a d e f h
def l2(N:au)(k0 k1:fk R):au->fk R
 |0=>λ_ _ _ _ _=>af
 |n+1=>r2 N (l2 N k0 k1 n) k0 k1
def b(N:au)(kr:ax->ar R)(a:aY)(e9:ai):ar R:=l2 N (λ_ _ d _ _=>kr d) (λ_ _ _ _ _=>kr (-1)) N a e9 0 (a.length:ax) 0
def vo:=b Lib.dE λr0=>ab r0
def c:=λa d=>(vo a d).isSome
def v:=λa d=>(vo a d).getD (0)
theorem out{x}:∀a d,vo a d=ab x->c a d=ae/\v a d=x:=λ_ _=>Lib.dN
end rR

namespace uR
def b(kr:aL->ar R)(a:ai)(d e:ax)(f e9:ai):ar R:=kr (cC (aA a) (aA e9))
def v(a0:ai)(a1 a2:ax)(a3 e9:ai):aL:=(cC (aA a0) (aA e9))
theorem jX(kr:aL->ar R)(a0:ai)(a1 a2:ax)(a3 e9:ai):b kr a0 a1 a2 a3 e9=kr (v a0 a1 a2 a3 e9):=by first|rfl|(unfold b v;simp only[dA];(repeat' split)<;>rfl)
end uR

namespace oV
def r2(N:au)(g k0 k1:fk R)(a:aY)(d:ai)(e f h:ax):ar R:=bif decide (h<f)then bif decide (0<=h)&&decide (h<(a.length:ax))then bif uR.v (bW (ao a h.toNat 0)) (cw (ao a h.toNat 1)) (cw (ao a h.toNat (1+1))) (bW (ao a h.toNat (1+1+1))) d then k0 a d h f h else g a d e f (bE (h+1))else af else k1 a d e f h
def l2(N:au)(k0 k1:fk R):au->fk R
 |0=>λ_ _ _ _ _=>af
 |n+1=>r2 N (l2 N k0 k1 n) k0 k1
def b(N:au)(kr:ax->ar R)(a:aY)(e9:ai):ar R:=l2 N (λ_ _ d _ _=>kr d) (λ_ _ _ _ _=>kr (-1)) N a e9 0 (a.length:ax) 0
def vo:=b Lib.dE λr0=>ab r0
def c:=λa d=>(vo a d).isSome
def v:=λa d=>(vo a d).getD (0)
theorem out{x}:∀a d,vo a d=ab x->c a d=ae/\v a d=x:=λ_ _=>Lib.dN
end oV

namespace E_
def b(kr:aL->ar R)(a:ai)(d e:ax)(f:ai)(h:ax):ar R:=bif uQ.v a d e f then bif Jl.v h then kr (kR.v h d (bE (bE (d+e)-1)))else kr ah else kr ah
def v(a0:ai)(a1 a2:ax)(a3:ai)(a4:ax):aL:=bif uQ.v a0 a1 a2 a3 then bif Jl.v a4 then kR.v a4 a1 (bE (bE (a1+a2)-1))else ah else ah
theorem jX(kr:aL->ar R)(a0:ai)(a1 a2:ax)(a3:ai)(a4:ax):b kr a0 a1 a2 a3 a4=kr (v a0 a1 a2 a3 a4):=by first|rfl|(unfold b v;simp only[dA];(repeat' split)<;>rfl)
end E_

namespace rP
def r6(N:au)(g k0:s_ R)(a:ax)(d:ai)(e f:ax):ar R:=bif decide (f<8)then bif decide (bL a 2=1)then g (bj dx (↑(db (jA (bG 32 (bj dx (cj a 2))) (bG 32 3558460437))):ax)) d e (bE (f+1))else g (bj dx (cj a 2)) d e (bE (f+1))else k0 a d e f
def l6(N:au)(k0:s_ R):au->s_ R
 |0=>λ_ _ _ _=>af
 |n+1=>r6 N (l6 N k0 n) k0
def r2(N:au)(g k0:vS R)(a:ax)(d:ai)(e:ax):ar R:=bif decide (e<(d.size:ax))then bif decide (0<=e)&&decide (e<(d.size:ax))then l6 N (λf h i _=>g f h (bE (i+1))) N (bj dx (↑(db (jA (bG 32 a) (bG 32 (bj dx (↑(iI d e.toNat):ax))))):ax)) d e 0 else af else k0 a d e
def l2(N:au)(k0:vS R):au->vS R
 |0=>λ_ _ _=>af
 |n+1=>r2 N (l2 N k0 n) k0
def b(N:au)(kr:ax->ar R)(a:ax)(d:ai):ar R:=l2 N (λe _ _=>kr e) N a d 0
def vo:=b Lib.dE λr0=>ab r0
def c:=λa d=>(vo a d).isSome
def v:=λa d=>(vo a d).getD (0)
theorem out{x}:∀a d,vo a d=ab x->c a d=ae/\v a d=x:=λ_ _=>Lib.dN
end rP

namespace qu
def b(kr:ax->ar R)(a:ai):ar R:=bif rP.c 4294967295 a then kr (rP.v 4294967295 a)else af
def vo:=b λr0=>ab r0
def c:=λa=>(vo a).isSome
def v:=λa=>(vo a).getD (0)
theorem out{x}:∀a,vo a=ab x->c a=ae/\v a=x:=λ_=>Lib.dN
end qu

namespace nr
def b(kr:ax->ar R)(a:ax)(d:ai):ar R:=bif decide (d.size+(bytesOf (aF (aM [Ck.i aU] 1) 0 [CV.i aU (bj aU (bE (↑(db (gA (bG 64 a) (bG 64 255))):ax)))])).size<=4611686018427387904)then bif qu.c (d++bytesOf (aF (aM [Ck.i aU] 1) 0 [CV.i aU (bj aU (bE (↑(db (gA (bG 64 a) (bG 64 255))):ax)))]))then kr (bL (bE (qu.v (d++bytesOf (aF (aM [Ck.i aU] 1) 0 [CV.i aU (bj aU (bE (↑(db (gA (bG 64 a) (bG 64 255))):ax)))])))) 16)else af else af
def vo:=b λr0=>ab r0
def c:=λa d=>(vo a d).isSome
def v:=λa d=>(vo a d).getD (0)
theorem out{x}:∀a d,vo a d=ab x->c a d=ae/\v a d=x:=λ_ _=>Lib.dN
end nr

namespace lA
def Zu(N:au)(g k0:qI R)(a:au)(d e f h i j:ax)(l:aY):ar R:=bif decide (h<f)then bif decide (0<=h)&&decide (h<((ia (ao l a 0)).length:ax))then bif decide (0<=h)&&decide (h<((ia (ao l a 0)).length:ax))then g a d e f (bE (h+1)) i j (dP l a 0 [CV.l 3 (dP (ia (ao l a 0)) h.toNat 0 [.i .i64 (bE (cj (cw (ao (ia (ao l a 0)) h.toNat 0)) 2))])])else af else af else k0 a d e f h i j l
def Tv(N:au)(k0:qI R):au->qI R
 |0=>λ_ _ _ _ _ _ _ _=>af
 |n+1=>Zu N (Tv N k0 n) k0
def Zt(N:au)(g k0:lD R)(a d e f:ax)(h:aY):ar R:=bif decide (d<a)then bif decide (0<=d)&&decide (d<(h.length:ax))then Tv N (λ_ i j _ _ l m o=>g i (bE (j+1)) l m o) N d.toNat a d ((ia (ao h d.toNat 0)).length:ax) 0 e f h else af else k0 a d e f h
def Ts(N:au)(k0:lD R):au->lD R
 |0=>λ_ _ _ _ _=>af
 |n+1=>Zt N (Ts N k0 n) k0
def r5(N:au)(g k0:vV R)(a:ai)(d e f h:ax)(i:aY):ar R:=bif decide (e<d)then bif decide (0<=e)&&decide (e<(i.length:ax))then bif nr.c e a then bif decide (0<=nr.v e a)&&decide (nr.v e a<((ia (ao i e.toNat 0)).length:ax))then bif decide (0<=nr.v e a)&&decide (nr.v e a<((ia (ao i e.toNat 0)).length:ax))then g a d (bE (e+1)) f h (dP i e.toNat 0 [CV.l 3 (dP (ia (ao i e.toNat 0)) (nr.v e a).toNat 0 [.i .i64 (gj ah (bE (cw (ao (ia (ao i e.toNat 0)) (nr.v e a).toNat 0)+1)) 15)])])else af else af else af else af else k0 a d e f h i
def l5(N:au)(k0:vV R):au->vV R
 |0=>λ_ _ _ _ _ _=>af
 |n+1=>r5 N (l5 N k0 n) k0
def b(N:au)(kr:rG R)(a:aY)(d:ax)(e:ai):ar R:=bif iq.c a d then bif lJ.c a d then bif !lJ.v a d then kr (iq.v a d).1 (iq.v a d).2 else l5 N (λ_ _ _ f h i=>bif decide (bE (h+1)<64)then kr i (bE (h+1))else Ts N (λ_ _ _ j l=>kr l j) N (i.length:ax) 0 f 0 i) N e ((iq.v a d).1.length:ax) 0 0 (iq.v a d).2 (iq.v a d).1 else af else af
def vo:=b Lib.dE λr0 r1=>ab (r0,r1)
def c:=λa d e=>(vo a d e).isSome
def v:=λa d e=>(vo a d e).getD ([],0)
theorem out{x}:∀a d e,vo a d e=ab x->c a d e=ae/\v a d e=x:=λ_ _ _=>Lib.dN
end lA

namespace uT
def b(kr:aL->ar R)(a e9:ai):ar R:=kr (cC (aA a) (aA e9))
def v(a0 e9:ai):aL:=(cC (aA a0) (aA e9))
theorem jX(kr:aL->ar R)(a0 e9:ai):b kr a0 e9=kr (v a0 e9):=by first|rfl|(unfold b v;simp only[dA];(repeat' split)<;>rfl)
end uT

namespace oU
def r2(N:au)(g k0 k1:fk R)(a:aY)(d:ai)(e f h:ax):ar R:=bif decide (h<f)then bif decide (0<=h)&&decide (h<(a.length:ax))then bif uT.v (bW (ao a h.toNat 0)) d then k0 a d h f h else g a d e f (bE (h+1))else af else k1 a d e f h
def l2(N:au)(k0 k1:fk R):au->fk R
 |0=>λ_ _ _ _ _=>af
 |n+1=>r2 N (l2 N k0 k1 n) k0 k1
def b(N:au)(kr:ax->ar R)(a:aY)(e9:ai):ar R:=l2 N (λ_ _ d _ _=>kr d) (λ_ _ _ _ _=>kr (-1)) N a e9 0 (a.length:ax) 0
def vo:=b Lib.dE λr0=>ab r0
def c:=λa d=>(vo a d).isSome
def v:=λa d=>(vo a d).getD (0)
theorem out{x}:∀a d,vo a d=ab x->c a d=ae/\v a d=x:=λ_ _=>Lib.dN
end oU

namespace rM
def r5(N:au)(g k0:jB R)(a:ai)(d e:ax)(f:aY):ar R:=bif decide (e<(f.length:ax))then bif decide (0<=e)&&decide (e<(f.length:ax))then bif !uT.v (bW (ao f e.toNat 0)) a then bif decide (0<=d)&&decide (d<(f.length:ax))then g a (bE (d+1)) (bE (e+1)) (dP f d.toNat 0 [.s (bW (ao f e.toNat 0))])else af else g a d (bE (e+1)) f else af else k0 a d e f
def l5(N:au)(k0:jB R):au->jB R
 |0=>λ_ _ _ _=>af
 |n+1=>r5 N (l5 N k0 n) k0
def b(N:au)(kr:aY->ar R)(a:aY)(e9:ai):ar R:=bif oU.c a e9 then bif decide (oU.v a e9=GA 1)then kr a else l5 N (λ_ d _ e=>bif iV d (e.length:ax) (e.length:ax)then bif iV 0 d ((gE d.toNat e++aM [.s] ((e.length:ax).toNat-d.toNat)++mL (e.length:ax).toNat e).length:ax)then kr (dM (gE d.toNat e++aM [.s] ((e.length:ax).toNat-d.toNat)++mL (e.length:ax).toNat e) (aX 0) d.toNat)else af else af) N e9 (oU.v a e9) (bE (oU.v a e9+1)) a else af
def vo:=b Lib.dE λr0=>ab r0
def c:=λa d=>(vo a d).isSome
def v:=λa d=>(vo a d).getD ([])
theorem out{x}:∀a d,vo a d=ab x->c a d=ae/\v a d=x:=λ_ _=>Lib.dN
end rM

namespace ij
def b(kr:aY->ar R)(a:aY)(d:ai):ar R:=bif o8.c a then bif rM.c (o8.v a) d then kr (rM.v (o8.v a) d)else af else af
def vo:=b λr0=>ab r0
def c:=λa d=>(vo a d).isSome
def v:=λa d=>(vo a d).getD ([])
theorem out{x}:∀a d,vo a d=ab x->c a d=ae/\v a d=x:=λ_ _=>Lib.dN
end ij

namespace qR
def r5(N:au)(g k0:zK R)(a:ai)(d:ax)(e:aY)(f h:ax):ar R:=bif decide (h<f)then bif decide (0<=h)&&decide (h<(e.length:ax))then bif nr.c h a then bif decide (0<=nr.v h a)&&decide (nr.v h a<((ia (ao e h.toNat 0)).length:ax))then g a (gj ah d (cw (ao (ia (ao e h.toNat 0)) (nr.v h a).toNat 0))) e f (bE (h+1))else af else af else af else k0 a d e f h
def l5(N:au)(k0:zK R):au->zK R
 |0=>λ_ _ _ _ _=>af
 |n+1=>r5 N (l5 N k0 n) k0
def b(N:au)(kr:ax->ar R)(a:aY)(d:ax)(e:ai):ar R:=bif lJ.c a d then bif !lJ.v a d then kr 0 else l5 N (λ_ f _ _ _=>kr f) N e 15 a (a.length:ax) 0 else af
def vo:=b Lib.dE λr0=>ab r0
def c:=λa d e=>(vo a d e).isSome
def v:=λa d e=>(vo a d e).getD (0)
theorem out{x}:∀a d e,vo a d e=ab x->c a d e=ae/\v a d e=x:=λ_ _ _=>Lib.dN
end qR

namespace GI
def b(kr:EL R)(a d e:aY)(f:ax)(h:ai):ar R:=bif gD.c a d e f then bif lZ.c a d e f then bif !lZ.v a d e f then kr (gD.v a d e f).1 (gD.v a d e f).2.1 (gD.v a d e f).2.2.1 (gD.v a d e f).2.2.2 ⟨#[]⟩else bif !GJ.v h then kr (gD.v a d e f).1 (gD.v a d e f).2.1 (gD.v a d e f).2.2.1 (gD.v a d e f).2.2.2 ⟨#[]⟩else bif lA.c e f h then bif oS.c d h then bif oS.v d h then bif ij.c d h then bif cX ((ij.v d h).length+(aF (aM [.s] 1) 0 [.s h]).length) 16 then kr (gD.v a d e f).1 (ij.v d h++aF (aM [.s] 1) 0 [.s h]) (lA.v e f h).1 (lA.v e f h).2 ⟨#[]⟩else af else af else bif ij.c a h then bif cX ((ij.v a h).length+(aF (aM [.s] 1) 0 [.s h]).length) 16 then bif decide (((ij.v a h++aF (aM [.s] 1) 0 [.s h]).length:ax)<=2)then kr (ij.v a h++aF (aM [.s] 1) 0 [.s h]) (gD.v a d e f).2.1 (lA.v e f h).1 (lA.v e f h).2 ⟨#[]⟩else bif decide (0<((ij.v a h++aF (aM [.s] 1) 0 [.s h]).length:ax))then bif iV 1 ((ij.v a h++aF (aM [.s] 1) 0 [.s h]).length:ax) ((ij.v a h++aF (aM [.s] 1) 0 [.s h]).length:ax)then bif decide (((gD.v a d e f).2.1.length:ax)<4)then bif cX ((gD.v a d e f).2.1.length+(aF (aM [.s] 1) 0 [.s (bW (ao (ij.v a h++aF (aM [.s] 1) 0 [.s h]) (aX 0) 0))]).length) 16 then kr (dM (ij.v a h++aF (aM [.s] 1) 0 [.s h]) (aX 1) ((ij.v a h++aF (aM [.s] 1) 0 [.s h]).length:ax).toNat) ((gD.v a d e f).2.1++aF (aM [.s] 1) 0 [.s (bW (ao (ij.v a h++aF (aM [.s] 1) 0 [.s h]) (aX 0) 0))]) (lA.v e f h).1 (lA.v e f h).2 ⟨#[]⟩else af else bif decide (0<((gD.v a d e f).2.1.length:ax))then bif qR.c (lA.v e f h).1 (lA.v e f h).2 (bW (ao (ij.v a h++aF (aM [.s] 1) 0 [.s h]) (aX 0) 0))then bif qR.c (lA.v e f h).1 (lA.v e f h).2 (bW (ao (gD.v a d e f).2.1 (aX 0) 0))then bif decide (qR.v (lA.v e f h).1 (lA.v e f h).2 (bW (ao (ij.v a h++aF (aM [.s] 1) 0 [.s h]) (aX 0) 0))>qR.v (lA.v e f h).1 (lA.v e f h).2 (bW (ao (gD.v a d e f).2.1 (aX 0) 0)))then bif iV 1 ((gD.v a d e f).2.1.length:ax) ((gD.v a d e f).2.1.length:ax)then bif cX ((dM (gD.v a d e f).2.1 (aX 1) ((gD.v a d e f).2.1.length:ax).toNat).length+(aF (aM [.s] 1) 0 [.s (bW (ao (ij.v a h++aF (aM [.s] 1) 0 [.s h]) (aX 0) 0))]).length) 16 then kr (dM (ij.v a h++aF (aM [.s] 1) 0 [.s h]) (aX 1) ((ij.v a h++aF (aM [.s] 1) 0 [.s h]).length:ax).toNat) (dM (gD.v a d e f).2.1 (aX 1) ((gD.v a d e f).2.1.length:ax).toNat++aF (aM [.s] 1) 0 [.s (bW (ao (ij.v a h++aF (aM [.s] 1) 0 [.s h]) (aX 0) 0))]) (lA.v e f h).1 (lA.v e f h).2 (bW (ao (gD.v a d e f).2.1 (aX 0) 0))else af else af else kr (dM (ij.v a h++aF (aM [.s] 1) 0 [.s h]) (aX 1) ((ij.v a h++aF (aM [.s] 1) 0 [.s h]).length:ax).toNat) (gD.v a d e f).2.1 (lA.v e f h).1 (lA.v e f h).2 (bW (ao (ij.v a h++aF (aM [.s] 1) 0 [.s h]) (aX 0) 0))else af else af else af else af else af else af else af else af else af else af else af
def vo:=b λr0 r1 r2 r3 r4=>ab (r0,r1,r2,r3,r4)
def c:=λa d e f h=>(vo a d e f h).isSome
def v:=λa d e f h=>(vo a d e f h).getD ([],[],[],0,⟨#[]⟩)
theorem out{x}:∀a d e f h,vo a d e f h=ab x->c a d e f h=ae/\v a d e f h=x:=λ_ _ _ _ _=>Lib.dN
end GI


namespace mO
def r2(N:au)(g k0:iZ R)(a d e f h:ax)(i:ai)(j l m:ax)(o:ai)(p:ax)(q r s t u w:aY):ar R:=bif decide (a<(w.length:ax))then bif decide (0<=a)&&decide (a<(w.length:ax))then bif decide (cw (ao w a.toNat 0)<h)then g (bE (a+1)) d e f h i j l m o p q r s t u w else k0 a d e f h i j l m o p q r s t u w else af else k0 a d e f h i j l m o p q r s t u w
def l2(N:au)(k0:iZ R):au->iZ R
 |0=>λ_ _ _ _ _ _ _ _ _ _ _ _ _ _ _ _ _=>af
 |n+1=>r2 N (l2 N k0 n) k0
def b(N:au)(kr:eJ R)(a:ax)(d e f h:aY)(i:ax)(j l:aY)(m o:ax)(p:ai)(q r s:ax)(t:ai)(u:ax):ar R:=l2 N (λw y z α xa xb xc xd xe xf xg xh xi xj xk xl xm=>bif decide (0<=w)&&decide (w<=(xm.length:ax))&&cX (xm.length+(aF (aM [Ck.i aj,Ck.s,Ck.i aj,Ck.i aj,Ck.i aj,Ck.s,Ck.i aj] 1) 0 [.i .i64 xa, .s xb, .i .i64 xc, .i .i64 xd, .i .i64 xe, .s xf, .i .i64 xg]).length) 72 then kr y xh xi xj xk z xl (Pu.pr xm w.toNat (aF (aM [Ck.i aj,Ck.s,Ck.i aj,Ck.i aj,Ck.i aj,Ck.s,Ck.i aj] 1) 0 [.i .i64 xa, .s xb, .i .i64 xc, .i .i64 xd, .i .i64 xe, .s xf, .i .i64 xg])) α else af) N 0 a i m o p q r s t u d e f h j l
def vo:=b Lib.dE λr0 r1 r2 r3 r4 r5 r6 r7 r8=>ab (r0,r1,r2,r3,r4,r5,r6,r7,r8)
def c:=λa d e f h i j l m o p q r s t u=>(vo a d e f h i j l m o p q r s t u).isSome
def v:=λa d e f h i j l m o p q r s t u=>(vo a d e f h i j l m o p q r s t u).getD (0,[],[],[],[],0,[],[],0)
theorem out{x}:∀a d e f h i j l m o p q r s t u,vo a d e f h i j l m o p q r s t u=ab x->c a d e f h i j l m o p q r s t u=ae/\v a d e f h i j l m o p q r s t u=x:=λ_ _ _ _ _ _ _ _ _ _ _ _ _ _ _ _=>Lib.dN
end mO

namespace l_
def r5(N:au)(g k0:jB R)(a:ai)(d e:ax)(f:aY):ar R:=bif decide (e<(f.length:ax))then bif decide (0<=e)&&decide (e<(f.length:ax))then bif !uR.v (bW (ao f e.toNat 0)) (cw (ao f e.toNat 1)) (cw (ao f e.toNat (1+1))) (bW (ao f e.toNat (1+1+1))) a then bif decide (0<=d)&&decide (d<(f.length:ax))then g a (bE (d+1)) (bE (e+1)) (dP f d.toNat 0 [.s (bW (ao f e.toNat 0)), .i .i64 (cw (ao f e.toNat 1)), .i .i64 (cw (ao f e.toNat (1+1))), .s (bW (ao f e.toNat (1+1+1)))])else af else g a d (bE (e+1)) f else af else k0 a d e f
def l5(N:au)(k0:jB R):au->jB R
 |0=>λ_ _ _ _=>af
 |n+1=>r5 N (l5 N k0 n) k0
def b(N:au)(kr:aY->ar R)(a:aY)(e9:ai):ar R:=bif oV.c a e9 then bif decide (oV.v a e9=GA 1)then kr a else l5 N (λ_ d _ e=>bif iV d (e.length:ax) (e.length:ax)then bif iV 0 d ((gE d.toNat e++aM [Ck.s,Ck.i aj,Ck.i aj,Ck.s] ((e.length:ax).toNat-d.toNat)++mL (e.length:ax).toNat e).length:ax)then kr (dM (gE d.toNat e++aM [Ck.s,Ck.i aj,Ck.i aj,Ck.s] ((e.length:ax).toNat-d.toNat)++mL (e.length:ax).toNat e) (aX 0) d.toNat)else af else af) N e9 (oV.v a e9) (bE (oV.v a e9+1)) a else af
def vo:=b Lib.dE λr0=>ab r0
def c:=λa d=>(vo a d).isSome
def v:=λa d=>(vo a d).getD ([])
theorem out{x}:∀a d,vo a d=ab x->c a d=ae/\v a d=x:=λ_ _=>Lib.dN
end l_

namespace xT
def b(kr:aY->ar R)(a:aY)(d:ai):ar R:=bif rK.c a then bif l_.c (rK.v a) d then kr (l_.v (rK.v a) d)else af else af
def vo:=b λr0=>ab r0
def c:=λa d=>(vo a d).isSome
def v:=λa d=>(vo a d).getD ([])
theorem out{x}:∀a d,vo a d=ab x->c a d=ae/\v a d=x:=λ_ _=>Lib.dN
end xT

namespace CZ
def b(kr:vU R)(a d e:aY)(f:ax)(h:ai):ar R:=bif gD.c a d e f then bif ij.c a h then bif ij.c d h then kr (ij.v a h) (ij.v d h) (gD.v a d e f).2.2.1 (gD.v a d e f).2.2.2 else af else af else af
def vo:=b λr0 r1 r2 r3=>ab (r0,r1,r2,r3)
def c:=λa d e f h=>(vo a d e f h).isSome
def v:=λa d e f h=>(vo a d e f h).getD ([],[],[],0)
theorem out{x}:∀a d e f h,vo a d e f h=ab x->c a d e f h=ae/\v a d e f h=x:=λ_ _ _ _ _=>Lib.dN
end CZ

namespace Dp
def b(kr:zE R)(a:ax)(d e f h:aY)(i:ax)(j l:aY)(m o:ax)(p:ai):ar R:=bif pV.c a d e f h i j l m then Lib.lt (pV.v a d e f h i j l m) λq=>bif CY.c a d e f h i j l m then Lib.lt (CY.v a d e f h i j l m) λr=>bif !r then kr q.1 q.2.1 q.2.2.1 q.2.2.2.1 q.2.2.2.2.1 q.2.2.2.2.2.1 q.2.2.2.2.2.2.1 q.2.2.2.2.2.2.2.1 q.2.2.2.2.2.2.2.2 1 else bif !kR.v o 1 9 then kr q.1 q.2.1 q.2.2.1 q.2.2.2.1 q.2.2.2.2.1 q.2.2.2.2.2.1 q.2.2.2.2.2.2.1 q.2.2.2.2.2.2.2.1 q.2.2.2.2.2.2.2.2 1 else bif !GJ.v p then kr q.1 q.2.1 q.2.2.1 q.2.2.2.1 q.2.2.2.2.1 q.2.2.2.2.2.1 q.2.2.2.2.2.2.1 q.2.2.2.2.2.2.2.1 q.2.2.2.2.2.2.2.2 1 else bif Mh.c a d e f h i j l m o then Lib.lt (Mh.v a d e f h i j l m o) λs=>bif decide (s≥0)then kr q.1 q.2.1 q.2.2.1 q.2.2.2.1 q.2.2.2.2.1 q.2.2.2.2.2.1 q.2.2.2.2.2.2.1 q.2.2.2.2.2.2.2.1 q.2.2.2.2.2.2.2.2 1 else bif decide ((l.length:ax)=6)then kr q.1 q.2.1 q.2.2.1 q.2.2.2.1 q.2.2.2.2.1 q.2.2.2.2.2.1 q.2.2.2.2.2.2.1 q.2.2.2.2.2.2.2.1 q.2.2.2.2.2.2.2.2 1 else bif rR.c d p then Lib.lt (rR.v d p) λt=>bif decide (t≥0)then bif decide (0<=t)&&decide (t<(d.length:ax))then bif E_.v (bW (ao d t.toNat 0)) (cw (ao d t.toNat 1)) (cw (ao d t.toNat (1+1))) (bW (ao d t.toNat (1+1+1))) a then bif decide (0<=t)&&decide (t<(d.length:ax))then bif GI.c e f h i p then Lib.lt (GI.v e f h i p) λu=>bif mO.c q.1 q.2.1 u.1 u.2.1 u.2.2.1 u.2.2.2.1 q.2.2.2.2.2.2.1 q.2.2.2.2.2.2.2.1 q.2.2.2.2.2.2.2.2 o p 0 (cw (ao d t.toNat 1)) 2 (bW (ao d t.toNat (1+1+1))) (bE (a-cw (ao d t.toNat 1)))then Lib.lt (mO.v q.1 q.2.1 u.1 u.2.1 u.2.2.1 u.2.2.2.1 q.2.2.2.2.2.2.1 q.2.2.2.2.2.2.2.1 q.2.2.2.2.2.2.2.2 o p 0 (cw (ao d t.toNat 1)) 2 (bW (ao d t.toNat (1+1+1))) (bE (a-cw (ao d t.toNat 1)))) λw=>kr w.1 w.2.1 w.2.2.1 w.2.2.2.1 w.2.2.2.2.1 w.2.2.2.2.2.1 w.2.2.2.2.2.2.1 w.2.2.2.2.2.2.2.1 (gj ah (bE (m+1)) 1000000000) 0 else af else af else af else bif Dr.c a d e f h i j l m p then Lib.lt (Dr.v a d e f h i j l m p) λu=>bif decide (u<0)then bif decide ((j.length:ax)=20)then kr q.1 q.2.1 q.2.2.1 q.2.2.2.1 q.2.2.2.2.1 q.2.2.2.2.2.1 q.2.2.2.2.2.2.1 q.2.2.2.2.2.2.2.1 q.2.2.2.2.2.2.2.2 2 else bif decide (t≥0)then bif xT.c d p then Lib.lt (xT.v d p) λw=>bif CZ.c e f h i p then Lib.lt (CZ.v e f h i p) λy=>bif lA.c h i p then Lib.lt (lA.v h i p) λz=>bif decide (u<0)then bif cX (q.2.2.2.2.2.2.1.length+(aF (aM [Ck.s,Ck.s,Ck.i aj,Ck.i aj,Ck.i aj] 1) 0 [.s p, .s ⟨#[]⟩, .i .i64 1, .i .i64 0, .i .i64 0]).length) 56 then bif decide ((j.length:ax)<((q.2.2.2.2.2.2.1++aF (aM [Ck.s,Ck.s,Ck.i aj,Ck.i aj,Ck.i aj] 1) 0 [.s p, .s ⟨#[]⟩, .i .i64 1, .i .i64 0, .i .i64 0]).length:ax))then bif mO.c q.1 w y.1 y.2.1 z.1 z.2 (q.2.2.2.2.2.2.1++aF (aM [Ck.s,Ck.s,Ck.i aj,Ck.i aj,Ck.i aj] 1) 0 [.s p, .s ⟨#[]⟩, .i .i64 1, .i .i64 0, .i .i64 0]) q.2.2.2.2.2.2.2.1 q.2.2.2.2.2.2.2.2 o p (bE ((j.length:ax)+1)) 0 1 (bW (ao (q.2.2.2.2.2.2.1++aF (aM [Ck.s,Ck.s,Ck.i aj,Ck.i aj,Ck.i aj] 1) 0 [.s p, .s ⟨#[]⟩, .i .i64 1, .i .i64 0, .i .i64 0]) (j.length:ax).toNat 1)) 0 then Lib.lt (mO.v q.1 w y.1 y.2.1 z.1 z.2 (q.2.2.2.2.2.2.1++aF (aM [Ck.s,Ck.s,Ck.i aj,Ck.i aj,Ck.i aj] 1) 0 [.s p, .s ⟨#[]⟩, .i .i64 1, .i .i64 0, .i .i64 0]) q.2.2.2.2.2.2.2.1 q.2.2.2.2.2.2.2.2 o p (bE ((j.length:ax)+1)) 0 1 (bW (ao (q.2.2.2.2.2.2.1++aF (aM [Ck.s,Ck.s,Ck.i aj,Ck.i aj,Ck.i aj] 1) 0 [.s p, .s ⟨#[]⟩, .i .i64 1, .i .i64 0, .i .i64 0]) (j.length:ax).toNat 1)) 0) λα=>kr α.1 α.2.1 α.2.2.1 α.2.2.2.1 α.2.2.2.2.1 α.2.2.2.2.2.1 α.2.2.2.2.2.2.1 α.2.2.2.2.2.2.2.1 α.2.2.2.2.2.2.2.2 0 else af else af else af else bif decide (0<=u)&&decide (u<(q.2.2.2.2.2.2.1.length:ax))then bif mO.c q.1 w y.1 y.2.1 z.1 z.2 q.2.2.2.2.2.2.1 q.2.2.2.2.2.2.2.1 q.2.2.2.2.2.2.2.2 o p (bE (u+1)) 0 1 (bW (ao q.2.2.2.2.2.2.1 u.toNat 1)) 0 then Lib.lt (mO.v q.1 w y.1 y.2.1 z.1 z.2 q.2.2.2.2.2.2.1 q.2.2.2.2.2.2.2.1 q.2.2.2.2.2.2.2.2 o p (bE (u+1)) 0 1 (bW (ao q.2.2.2.2.2.2.1 u.toNat 1)) 0) λα=>kr α.1 α.2.1 α.2.2.1 α.2.2.2.1 α.2.2.2.2.1 α.2.2.2.2.2.1 α.2.2.2.2.2.2.1 α.2.2.2.2.2.2.2.1 α.2.2.2.2.2.2.2.2 0 else af else af else af else af else af else bif lA.c h i p then Lib.lt (lA.v h i p) λw=>bif decide (u<0)then bif cX (q.2.2.2.2.2.2.1.length+(aF (aM [Ck.s,Ck.s,Ck.i aj,Ck.i aj,Ck.i aj] 1) 0 [.s p, .s ⟨#[]⟩, .i .i64 1, .i .i64 0, .i .i64 0]).length) 56 then bif decide ((j.length:ax)<((q.2.2.2.2.2.2.1++aF (aM [Ck.s,Ck.s,Ck.i aj,Ck.i aj,Ck.i aj] 1) 0 [.s p, .s ⟨#[]⟩, .i .i64 1, .i .i64 0, .i .i64 0]).length:ax))then bif mO.c q.1 q.2.1 q.2.2.1 q.2.2.2.1 w.1 w.2 (q.2.2.2.2.2.2.1++aF (aM [Ck.s,Ck.s,Ck.i aj,Ck.i aj,Ck.i aj] 1) 0 [.s p, .s ⟨#[]⟩, .i .i64 1, .i .i64 0, .i .i64 0]) q.2.2.2.2.2.2.2.1 q.2.2.2.2.2.2.2.2 o p (bE ((j.length:ax)+1)) 0 1 (bW (ao (q.2.2.2.2.2.2.1++aF (aM [Ck.s,Ck.s,Ck.i aj,Ck.i aj,Ck.i aj] 1) 0 [.s p, .s ⟨#[]⟩, .i .i64 1, .i .i64 0, .i .i64 0]) (j.length:ax).toNat 1)) 0 then Lib.lt (mO.v q.1 q.2.1 q.2.2.1 q.2.2.2.1 w.1 w.2 (q.2.2.2.2.2.2.1++aF (aM [Ck.s,Ck.s,Ck.i aj,Ck.i aj,Ck.i aj] 1) 0 [.s p, .s ⟨#[]⟩, .i .i64 1, .i .i64 0, .i .i64 0]) q.2.2.2.2.2.2.2.1 q.2.2.2.2.2.2.2.2 o p (bE ((j.length:ax)+1)) 0 1 (bW (ao (q.2.2.2.2.2.2.1++aF (aM [Ck.s,Ck.s,Ck.i aj,Ck.i aj,Ck.i aj] 1) 0 [.s p, .s ⟨#[]⟩, .i .i64 1, .i .i64 0, .i .i64 0]) (j.length:ax).toNat 1)) 0) λy=>kr y.1 y.2.1 y.2.2.1 y.2.2.2.1 y.2.2.2.2.1 y.2.2.2.2.2.1 y.2.2.2.2.2.2.1 y.2.2.2.2.2.2.2.1 y.2.2.2.2.2.2.2.2 0 else af else af else af else bif decide (0<=u)&&decide (u<(q.2.2.2.2.2.2.1.length:ax))then bif mO.c q.1 q.2.1 q.2.2.1 q.2.2.2.1 w.1 w.2 q.2.2.2.2.2.2.1 q.2.2.2.2.2.2.2.1 q.2.2.2.2.2.2.2.2 o p (bE (u+1)) 0 1 (bW (ao q.2.2.2.2.2.2.1 u.toNat 1)) 0 then Lib.lt (mO.v q.1 q.2.1 q.2.2.1 q.2.2.2.1 w.1 w.2 q.2.2.2.2.2.2.1 q.2.2.2.2.2.2.2.1 q.2.2.2.2.2.2.2.2 o p (bE (u+1)) 0 1 (bW (ao q.2.2.2.2.2.2.1 u.toNat 1)) 0) λy=>kr y.1 y.2.1 y.2.2.1 y.2.2.2.1 y.2.2.2.2.1 y.2.2.2.2.2.1 y.2.2.2.2.2.2.1 y.2.2.2.2.2.2.2.1 y.2.2.2.2.2.2.2.2 0 else af else af else af else bif decide (t≥0)then bif xT.c d p then Lib.lt (xT.v d p) λw=>bif CZ.c e f h i p then Lib.lt (CZ.v e f h i p) λy=>bif lA.c h i p then Lib.lt (lA.v h i p) λz=>bif decide (u<0)then bif cX (q.2.2.2.2.2.2.1.length+(aF (aM [Ck.s,Ck.s,Ck.i aj,Ck.i aj,Ck.i aj] 1) 0 [.s p, .s ⟨#[]⟩, .i .i64 1, .i .i64 0, .i .i64 0]).length) 56 then bif decide ((j.length:ax)<((q.2.2.2.2.2.2.1++aF (aM [Ck.s,Ck.s,Ck.i aj,Ck.i aj,Ck.i aj] 1) 0 [.s p, .s ⟨#[]⟩, .i .i64 1, .i .i64 0, .i .i64 0]).length:ax))then bif mO.c q.1 w y.1 y.2.1 z.1 z.2 (q.2.2.2.2.2.2.1++aF (aM [Ck.s,Ck.s,Ck.i aj,Ck.i aj,Ck.i aj] 1) 0 [.s p, .s ⟨#[]⟩, .i .i64 1, .i .i64 0, .i .i64 0]) q.2.2.2.2.2.2.2.1 q.2.2.2.2.2.2.2.2 o p (bE ((j.length:ax)+1)) 0 1 (bW (ao (q.2.2.2.2.2.2.1++aF (aM [Ck.s,Ck.s,Ck.i aj,Ck.i aj,Ck.i aj] 1) 0 [.s p, .s ⟨#[]⟩, .i .i64 1, .i .i64 0, .i .i64 0]) (j.length:ax).toNat 1)) 0 then Lib.lt (mO.v q.1 w y.1 y.2.1 z.1 z.2 (q.2.2.2.2.2.2.1++aF (aM [Ck.s,Ck.s,Ck.i aj,Ck.i aj,Ck.i aj] 1) 0 [.s p, .s ⟨#[]⟩, .i .i64 1, .i .i64 0, .i .i64 0]) q.2.2.2.2.2.2.2.1 q.2.2.2.2.2.2.2.2 o p (bE ((j.length:ax)+1)) 0 1 (bW (ao (q.2.2.2.2.2.2.1++aF (aM [Ck.s,Ck.s,Ck.i aj,Ck.i aj,Ck.i aj] 1) 0 [.s p, .s ⟨#[]⟩, .i .i64 1, .i .i64 0, .i .i64 0]) (j.length:ax).toNat 1)) 0) λα=>kr α.1 α.2.1 α.2.2.1 α.2.2.2.1 α.2.2.2.2.1 α.2.2.2.2.2.1 α.2.2.2.2.2.2.1 α.2.2.2.2.2.2.2.1 α.2.2.2.2.2.2.2.2 0 else af else af else af else bif decide (0<=u)&&decide (u<(q.2.2.2.2.2.2.1.length:ax))then bif mO.c q.1 w y.1 y.2.1 z.1 z.2 q.2.2.2.2.2.2.1 q.2.2.2.2.2.2.2.1 q.2.2.2.2.2.2.2.2 o p (bE (u+1)) 0 1 (bW (ao q.2.2.2.2.2.2.1 u.toNat 1)) 0 then Lib.lt (mO.v q.1 w y.1 y.2.1 z.1 z.2 q.2.2.2.2.2.2.1 q.2.2.2.2.2.2.2.1 q.2.2.2.2.2.2.2.2 o p (bE (u+1)) 0 1 (bW (ao q.2.2.2.2.2.2.1 u.toNat 1)) 0) λα=>kr α.1 α.2.1 α.2.2.1 α.2.2.2.1 α.2.2.2.2.1 α.2.2.2.2.2.1 α.2.2.2.2.2.2.1 α.2.2.2.2.2.2.2.1 α.2.2.2.2.2.2.2.2 0 else af else af else af else af else af else bif lA.c h i p then Lib.lt (lA.v h i p) λw=>bif decide (u<0)then bif cX (q.2.2.2.2.2.2.1.length+(aF (aM [Ck.s,Ck.s,Ck.i aj,Ck.i aj,Ck.i aj] 1) 0 [.s p, .s ⟨#[]⟩, .i .i64 1, .i .i64 0, .i .i64 0]).length) 56 then bif decide ((j.length:ax)<((q.2.2.2.2.2.2.1++aF (aM [Ck.s,Ck.s,Ck.i aj,Ck.i aj,Ck.i aj] 1) 0 [.s p, .s ⟨#[]⟩, .i .i64 1, .i .i64 0, .i .i64 0]).length:ax))then bif mO.c q.1 q.2.1 q.2.2.1 q.2.2.2.1 w.1 w.2 (q.2.2.2.2.2.2.1++aF (aM [Ck.s,Ck.s,Ck.i aj,Ck.i aj,Ck.i aj] 1) 0 [.s p, .s ⟨#[]⟩, .i .i64 1, .i .i64 0, .i .i64 0]) q.2.2.2.2.2.2.2.1 q.2.2.2.2.2.2.2.2 o p (bE ((j.length:ax)+1)) 0 1 (bW (ao (q.2.2.2.2.2.2.1++aF (aM [Ck.s,Ck.s,Ck.i aj,Ck.i aj,Ck.i aj] 1) 0 [.s p, .s ⟨#[]⟩, .i .i64 1, .i .i64 0, .i .i64 0]) (j.length:ax).toNat 1)) 0 then Lib.lt (mO.v q.1 q.2.1 q.2.2.1 q.2.2.2.1 w.1 w.2 (q.2.2.2.2.2.2.1++aF (aM [Ck.s,Ck.s,Ck.i aj,Ck.i aj,Ck.i aj] 1) 0 [.s p, .s ⟨#[]⟩, .i .i64 1, .i .i64 0, .i .i64 0]) q.2.2.2.2.2.2.2.1 q.2.2.2.2.2.2.2.2 o p (bE ((j.length:ax)+1)) 0 1 (bW (ao (q.2.2.2.2.2.2.1++aF (aM [Ck.s,Ck.s,Ck.i aj,Ck.i aj,Ck.i aj] 1) 0 [.s p, .s ⟨#[]⟩, .i .i64 1, .i .i64 0, .i .i64 0]) (j.length:ax).toNat 1)) 0) λy=>kr y.1 y.2.1 y.2.2.1 y.2.2.2.1 y.2.2.2.2.1 y.2.2.2.2.2.1 y.2.2.2.2.2.2.1 y.2.2.2.2.2.2.2.1 y.2.2.2.2.2.2.2.2 0 else af else af else af else bif decide (0<=u)&&decide (u<(q.2.2.2.2.2.2.1.length:ax))then bif mO.c q.1 q.2.1 q.2.2.1 q.2.2.2.1 w.1 w.2 q.2.2.2.2.2.2.1 q.2.2.2.2.2.2.2.1 q.2.2.2.2.2.2.2.2 o p (bE (u+1)) 0 1 (bW (ao q.2.2.2.2.2.2.1 u.toNat 1)) 0 then Lib.lt (mO.v q.1 q.2.1 q.2.2.1 q.2.2.2.1 w.1 w.2 q.2.2.2.2.2.2.1 q.2.2.2.2.2.2.2.1 q.2.2.2.2.2.2.2.2 o p (bE (u+1)) 0 1 (bW (ao q.2.2.2.2.2.2.1 u.toNat 1)) 0) λy=>kr y.1 y.2.1 y.2.2.1 y.2.2.2.1 y.2.2.2.2.1 y.2.2.2.2.2.1 y.2.2.2.2.2.2.1 y.2.2.2.2.2.2.2.1 y.2.2.2.2.2.2.2.2 0 else af else af else af else af else af else bif Dr.c a d e f h i j l m p then Lib.lt (Dr.v a d e f h i j l m p) λu=>bif decide (u<0)then bif decide ((j.length:ax)=20)then kr q.1 q.2.1 q.2.2.1 q.2.2.2.1 q.2.2.2.2.1 q.2.2.2.2.2.1 q.2.2.2.2.2.2.1 q.2.2.2.2.2.2.2.1 q.2.2.2.2.2.2.2.2 2 else bif decide (t≥0)then bif xT.c d p then Lib.lt (xT.v d p) λw=>bif CZ.c e f h i p then Lib.lt (CZ.v e f h i p) λy=>bif lA.c h i p then Lib.lt (lA.v h i p) λz=>bif decide (u<0)then bif cX (q.2.2.2.2.2.2.1.length+(aF (aM [Ck.s,Ck.s,Ck.i aj,Ck.i aj,Ck.i aj] 1) 0 [.s p, .s ⟨#[]⟩, .i .i64 1, .i .i64 0, .i .i64 0]).length) 56 then bif decide ((j.length:ax)<((q.2.2.2.2.2.2.1++aF (aM [Ck.s,Ck.s,Ck.i aj,Ck.i aj,Ck.i aj] 1) 0 [.s p, .s ⟨#[]⟩, .i .i64 1, .i .i64 0, .i .i64 0]).length:ax))then bif mO.c q.1 w y.1 y.2.1 z.1 z.2 (q.2.2.2.2.2.2.1++aF (aM [Ck.s,Ck.s,Ck.i aj,Ck.i aj,Ck.i aj] 1) 0 [.s p, .s ⟨#[]⟩, .i .i64 1, .i .i64 0, .i .i64 0]) q.2.2.2.2.2.2.2.1 q.2.2.2.2.2.2.2.2 o p (bE ((j.length:ax)+1)) 0 1 (bW (ao (q.2.2.2.2.2.2.1++aF (aM [Ck.s,Ck.s,Ck.i aj,Ck.i aj,Ck.i aj] 1) 0 [.s p, .s ⟨#[]⟩, .i .i64 1, .i .i64 0, .i .i64 0]) (j.length:ax).toNat 1)) 0 then Lib.lt (mO.v q.1 w y.1 y.2.1 z.1 z.2 (q.2.2.2.2.2.2.1++aF (aM [Ck.s,Ck.s,Ck.i aj,Ck.i aj,Ck.i aj] 1) 0 [.s p, .s ⟨#[]⟩, .i .i64 1, .i .i64 0, .i .i64 0]) q.2.2.2.2.2.2.2.1 q.2.2.2.2.2.2.2.2 o p (bE ((j.length:ax)+1)) 0 1 (bW (ao (q.2.2.2.2.2.2.1++aF (aM [Ck.s,Ck.s,Ck.i aj,Ck.i aj,Ck.i aj] 1) 0 [.s p, .s ⟨#[]⟩, .i .i64 1, .i .i64 0, .i .i64 0]) (j.length:ax).toNat 1)) 0) λα=>kr α.1 α.2.1 α.2.2.1 α.2.2.2.1 α.2.2.2.2.1 α.2.2.2.2.2.1 α.2.2.2.2.2.2.1 α.2.2.2.2.2.2.2.1 α.2.2.2.2.2.2.2.2 0 else af else af else af else bif decide (0<=u)&&decide (u<(q.2.2.2.2.2.2.1.length:ax))then bif mO.c q.1 w y.1 y.2.1 z.1 z.2 q.2.2.2.2.2.2.1 q.2.2.2.2.2.2.2.1 q.2.2.2.2.2.2.2.2 o p (bE (u+1)) 0 1 (bW (ao q.2.2.2.2.2.2.1 u.toNat 1)) 0 then Lib.lt (mO.v q.1 w y.1 y.2.1 z.1 z.2 q.2.2.2.2.2.2.1 q.2.2.2.2.2.2.2.1 q.2.2.2.2.2.2.2.2 o p (bE (u+1)) 0 1 (bW (ao q.2.2.2.2.2.2.1 u.toNat 1)) 0) λα=>kr α.1 α.2.1 α.2.2.1 α.2.2.2.1 α.2.2.2.2.1 α.2.2.2.2.2.1 α.2.2.2.2.2.2.1 α.2.2.2.2.2.2.2.1 α.2.2.2.2.2.2.2.2 0 else af else af else af else af else af else bif lA.c h i p then Lib.lt (lA.v h i p) λw=>bif decide (u<0)then bif cX (q.2.2.2.2.2.2.1.length+(aF (aM [Ck.s,Ck.s,Ck.i aj,Ck.i aj,Ck.i aj] 1) 0 [.s p, .s ⟨#[]⟩, .i .i64 1, .i .i64 0, .i .i64 0]).length) 56 then bif decide ((j.length:ax)<((q.2.2.2.2.2.2.1++aF (aM [Ck.s,Ck.s,Ck.i aj,Ck.i aj,Ck.i aj] 1) 0 [.s p, .s ⟨#[]⟩, .i .i64 1, .i .i64 0, .i .i64 0]).length:ax))then bif mO.c q.1 q.2.1 q.2.2.1 q.2.2.2.1 w.1 w.2 (q.2.2.2.2.2.2.1++aF (aM [Ck.s,Ck.s,Ck.i aj,Ck.i aj,Ck.i aj] 1) 0 [.s p, .s ⟨#[]⟩, .i .i64 1, .i .i64 0, .i .i64 0]) q.2.2.2.2.2.2.2.1 q.2.2.2.2.2.2.2.2 o p (bE ((j.length:ax)+1)) 0 1 (bW (ao (q.2.2.2.2.2.2.1++aF (aM [Ck.s,Ck.s,Ck.i aj,Ck.i aj,Ck.i aj] 1) 0 [.s p, .s ⟨#[]⟩, .i .i64 1, .i .i64 0, .i .i64 0]) (j.length:ax).toNat 1)) 0 then Lib.lt (mO.v q.1 q.2.1 q.2.2.1 q.2.2.2.1 w.1 w.2 (q.2.2.2.2.2.2.1++aF (aM [Ck.s,Ck.s,Ck.i aj,Ck.i aj,Ck.i aj] 1) 0 [.s p, .s ⟨#[]⟩, .i .i64 1, .i .i64 0, .i .i64 0]) q.2.2.2.2.2.2.2.1 q.2.2.2.2.2.2.2.2 o p (bE ((j.length:ax)+1)) 0 1 (bW (ao (q.2.2.2.2.2.2.1++aF (aM [Ck.s,Ck.s,Ck.i aj,Ck.i aj,Ck.i aj] 1) 0 [.s p, .s ⟨#[]⟩, .i .i64 1, .i .i64 0, .i .i64 0]) (j.length:ax).toNat 1)) 0) λy=>kr y.1 y.2.1 y.2.2.1 y.2.2.2.1 y.2.2.2.2.1 y.2.2.2.2.2.1 y.2.2.2.2.2.2.1 y.2.2.2.2.2.2.2.1 y.2.2.2.2.2.2.2.2 0 else af else af else af else bif decide (0<=u)&&decide (u<(q.2.2.2.2.2.2.1.length:ax))then bif mO.c q.1 q.2.1 q.2.2.1 q.2.2.2.1 w.1 w.2 q.2.2.2.2.2.2.1 q.2.2.2.2.2.2.2.1 q.2.2.2.2.2.2.2.2 o p (bE (u+1)) 0 1 (bW (ao q.2.2.2.2.2.2.1 u.toNat 1)) 0 then Lib.lt (mO.v q.1 q.2.1 q.2.2.1 q.2.2.2.1 w.1 w.2 q.2.2.2.2.2.2.1 q.2.2.2.2.2.2.2.1 q.2.2.2.2.2.2.2.2 o p (bE (u+1)) 0 1 (bW (ao q.2.2.2.2.2.2.1 u.toNat 1)) 0) λy=>kr y.1 y.2.1 y.2.2.1 y.2.2.2.1 y.2.2.2.2.1 y.2.2.2.2.2.1 y.2.2.2.2.2.2.1 y.2.2.2.2.2.2.2.1 y.2.2.2.2.2.2.2.2 0 else af else af else af else bif decide (t≥0)then bif xT.c d p then Lib.lt (xT.v d p) λw=>bif CZ.c e f h i p then Lib.lt (CZ.v e f h i p) λy=>bif lA.c h i p then Lib.lt (lA.v h i p) λz=>bif decide (u<0)then bif cX (q.2.2.2.2.2.2.1.length+(aF (aM [Ck.s,Ck.s,Ck.i aj,Ck.i aj,Ck.i aj] 1) 0 [.s p, .s ⟨#[]⟩, .i .i64 1, .i .i64 0, .i .i64 0]).length) 56 then bif decide ((j.length:ax)<((q.2.2.2.2.2.2.1++aF (aM [Ck.s,Ck.s,Ck.i aj,Ck.i aj,Ck.i aj] 1) 0 [.s p, .s ⟨#[]⟩, .i .i64 1, .i .i64 0, .i .i64 0]).length:ax))then bif mO.c q.1 w y.1 y.2.1 z.1 z.2 (q.2.2.2.2.2.2.1++aF (aM [Ck.s,Ck.s,Ck.i aj,Ck.i aj,Ck.i aj] 1) 0 [.s p, .s ⟨#[]⟩, .i .i64 1, .i .i64 0, .i .i64 0]) q.2.2.2.2.2.2.2.1 q.2.2.2.2.2.2.2.2 o p (bE ((j.length:ax)+1)) 0 1 (bW (ao (q.2.2.2.2.2.2.1++aF (aM [Ck.s,Ck.s,Ck.i aj,Ck.i aj,Ck.i aj] 1) 0 [.s p, .s ⟨#[]⟩, .i .i64 1, .i .i64 0, .i .i64 0]) (j.length:ax).toNat 1)) 0 then Lib.lt (mO.v q.1 w y.1 y.2.1 z.1 z.2 (q.2.2.2.2.2.2.1++aF (aM [Ck.s,Ck.s,Ck.i aj,Ck.i aj,Ck.i aj] 1) 0 [.s p, .s ⟨#[]⟩, .i .i64 1, .i .i64 0, .i .i64 0]) q.2.2.2.2.2.2.2.1 q.2.2.2.2.2.2.2.2 o p (bE ((j.length:ax)+1)) 0 1 (bW (ao (q.2.2.2.2.2.2.1++aF (aM [Ck.s,Ck.s,Ck.i aj,Ck.i aj,Ck.i aj] 1) 0 [.s p, .s ⟨#[]⟩, .i .i64 1, .i .i64 0, .i .i64 0]) (j.length:ax).toNat 1)) 0) λα=>kr α.1 α.2.1 α.2.2.1 α.2.2.2.1 α.2.2.2.2.1 α.2.2.2.2.2.1 α.2.2.2.2.2.2.1 α.2.2.2.2.2.2.2.1 α.2.2.2.2.2.2.2.2 0 else af else af else af else bif decide (0<=u)&&decide (u<(q.2.2.2.2.2.2.1.length:ax))then bif mO.c q.1 w y.1 y.2.1 z.1 z.2 q.2.2.2.2.2.2.1 q.2.2.2.2.2.2.2.1 q.2.2.2.2.2.2.2.2 o p (bE (u+1)) 0 1 (bW (ao q.2.2.2.2.2.2.1 u.toNat 1)) 0 then Lib.lt (mO.v q.1 w y.1 y.2.1 z.1 z.2 q.2.2.2.2.2.2.1 q.2.2.2.2.2.2.2.1 q.2.2.2.2.2.2.2.2 o p (bE (u+1)) 0 1 (bW (ao q.2.2.2.2.2.2.1 u.toNat 1)) 0) λα=>kr α.1 α.2.1 α.2.2.1 α.2.2.2.1 α.2.2.2.2.1 α.2.2.2.2.2.1 α.2.2.2.2.2.2.1 α.2.2.2.2.2.2.2.1 α.2.2.2.2.2.2.2.2 0 else af else af else af else af else af else bif lA.c h i p then Lib.lt (lA.v h i p) λw=>bif decide (u<0)then bif cX (q.2.2.2.2.2.2.1.length+(aF (aM [Ck.s,Ck.s,Ck.i aj,Ck.i aj,Ck.i aj] 1) 0 [.s p, .s ⟨#[]⟩, .i .i64 1, .i .i64 0, .i .i64 0]).length) 56 then bif decide ((j.length:ax)<((q.2.2.2.2.2.2.1++aF (aM [Ck.s,Ck.s,Ck.i aj,Ck.i aj,Ck.i aj] 1) 0 [.s p, .s ⟨#[]⟩, .i .i64 1, .i .i64 0, .i .i64 0]).length:ax))then bif mO.c q.1 q.2.1 q.2.2.1 q.2.2.2.1 w.1 w.2 (q.2.2.2.2.2.2.1++aF (aM [Ck.s,Ck.s,Ck.i aj,Ck.i aj,Ck.i aj] 1) 0 [.s p, .s ⟨#[]⟩, .i .i64 1, .i .i64 0, .i .i64 0]) q.2.2.2.2.2.2.2.1 q.2.2.2.2.2.2.2.2 o p (bE ((j.length:ax)+1)) 0 1 (bW (ao (q.2.2.2.2.2.2.1++aF (aM [Ck.s,Ck.s,Ck.i aj,Ck.i aj,Ck.i aj] 1) 0 [.s p, .s ⟨#[]⟩, .i .i64 1, .i .i64 0, .i .i64 0]) (j.length:ax).toNat 1)) 0 then Lib.lt (mO.v q.1 q.2.1 q.2.2.1 q.2.2.2.1 w.1 w.2 (q.2.2.2.2.2.2.1++aF (aM [Ck.s,Ck.s,Ck.i aj,Ck.i aj,Ck.i aj] 1) 0 [.s p, .s ⟨#[]⟩, .i .i64 1, .i .i64 0, .i .i64 0]) q.2.2.2.2.2.2.2.1 q.2.2.2.2.2.2.2.2 o p (bE ((j.length:ax)+1)) 0 1 (bW (ao (q.2.2.2.2.2.2.1++aF (aM [Ck.s,Ck.s,Ck.i aj,Ck.i aj,Ck.i aj] 1) 0 [.s p, .s ⟨#[]⟩, .i .i64 1, .i .i64 0, .i .i64 0]) (j.length:ax).toNat 1)) 0) λy=>kr y.1 y.2.1 y.2.2.1 y.2.2.2.1 y.2.2.2.2.1 y.2.2.2.2.2.1 y.2.2.2.2.2.2.1 y.2.2.2.2.2.2.2.1 y.2.2.2.2.2.2.2.2 0 else af else af else af else bif decide (0<=u)&&decide (u<(q.2.2.2.2.2.2.1.length:ax))then bif mO.c q.1 q.2.1 q.2.2.1 q.2.2.2.1 w.1 w.2 q.2.2.2.2.2.2.1 q.2.2.2.2.2.2.2.1 q.2.2.2.2.2.2.2.2 o p (bE (u+1)) 0 1 (bW (ao q.2.2.2.2.2.2.1 u.toNat 1)) 0 then Lib.lt (mO.v q.1 q.2.1 q.2.2.1 q.2.2.2.1 w.1 w.2 q.2.2.2.2.2.2.1 q.2.2.2.2.2.2.2.1 q.2.2.2.2.2.2.2.2 o p (bE (u+1)) 0 1 (bW (ao q.2.2.2.2.2.2.1 u.toNat 1)) 0) λy=>kr y.1 y.2.1 y.2.2.1 y.2.2.2.1 y.2.2.2.2.1 y.2.2.2.2.2.1 y.2.2.2.2.2.2.1 y.2.2.2.2.2.2.2.1 y.2.2.2.2.2.2.2.2 0 else af else af else af else af else af else af else af else af
def vo:=b λr0 r1 r2 r3 r4 r5 r6 r7 r8 r9=>ab (r0,r1,r2,r3,r4,r5,r6,r7,r8,r9)
def c:=λa d e f h i j l m o p=>(vo a d e f h i j l m o p).isSome
def v:=λa d e f h i j l m o p=>(vo a d e f h i j l m o p).getD (0,[],[],[],[],0,[],[],0,0)
theorem out{x}:∀a d e f h i j l m o p,vo a d e f h i j l m o p=ab x->c a d e f h i j l m o p=ae/\v a d e f h i j l m o p=x:=λ_ _ _ _ _ _ _ _ _ _ _=>Lib.dN
end Dp

namespace GK
def b(kr:aL->ar R)(a:ax)(d e f h:aY)(i:ax)(j l:aY)(m o:ax):ar R:=bif CY.c a d e f h i j l m then bif CY.v a d e f h i j l m then kr (kR.v o 0 (bE ((j.length:ax)-1)))else kr ah else af
def vo:=b λr0=>ab r0
def c:=λa d e f h i j l m o=>(vo a d e f h i j l m o).isSome
def v:=λa d e f h i j l m o=>(vo a d e f h i j l m o).getD ah
theorem out{x}:∀a d e f h i j l m o,vo a d e f h i j l m o=ab x->c a d e f h i j l m o=ae/\v a d e f h i j l m o=x:=λ_ _ _ _ _ _ _ _ _ _=>Lib.dN
end GK

namespace Dn
def b(kr:EK R)(a:ax)(d:ai)(e:aY):ar R:=bif cX ((aM [Ck.i aj,Ck.i aj] 0).length+e.length) 16 then kr a d (aM [Ck.i aj,Ck.i aj] 0++e)else af
def v(CG:ax)(CH:ai)(u5:aY):ax×ai×aY:=(CG,CH,u5)
def c(CG:ax)(CH:ai)(u5:aY):aL:=decide (u5.length<=4294967296)
theorem jX(kr:EK R)(CG:ax)(CH:ai)(u5:aY)(hc:c CG CH u5=ae):b kr CG CH u5=kr (v CG CH u5).1 (v CG CH u5).2.1 (v CG CH u5).2.2:=by have h:u5.length<=4294967296:=bU hc;unfold b;rw[show cq (aM [Ck.i aj,Ck.i aj] 0)+u5.length=u5.length by simp[aM],Lib.dH (by omega) (by omega)];rfl
end Dn

namespace qs
def r2(N:au)(g k0 k1:s8 R)(a:aL)(d:aY)(e f h:ax)(i:ai)(j:aY):ar R:=bif decide (f<e)then bif decide (0<=f)&&decide (f<(d.length:ax))then bif !kR.v (cw (ao d f.toNat 0)) 1 9 then k0 ah d e f h i j else bif !kR.v (cw (ao d f.toNat 1)) 0 (i.size:ax)then k0 ah d e f h i j else bif decide (f>0)then bif decide (0<=bE (f-1))&&decide (bE (f-1)<(j.length:ax))then bif decide (cw (ao j (bE (f-1)).toNat 0)≥cw (ao d f.toNat 0))then k0 ah d e f h i j else g a d e (bE (f+1)) h i j else af else g a d e (bE (f+1)) h i j else af else k1 a d e f h i j
def l2(N:au)(k0 k1:s8 R):au->s8 R
 |0=>λ_ _ _ _ _ _ _=>af
 |n+1=>r2 N (l2 N k0 k1 n) k0 k1
def b(N:au)(kr:aL->ar R)(a:ax)(d:ai)(e:aY):ar R:=l2 N (λf _ _ _ _ _ _=>kr f) (λ_ _ _ _ f h i=>bif kR.v f 1 3 then bif decide ((h.size:ax)<=400)then kr (decide ((i.length:ax)<=6))else kr ah else kr ah) N ah e (e.length:ax) 0 a d e
def vo:=b Lib.dE λr0=>ab r0
def c:=λa d e=>(vo a d e).isSome
def v:=λa d e=>(vo a d e).getD ah
theorem out{x}:∀a d e,vo a d e=ab x->c a d e=ae/\v a d e=x:=λ_ _ _=>Lib.dN
end qs

namespace H3
def b(kr:Rw R)(a:ax)(d:ai)(e:aY)(f:ai):ar R:=bif Dn.c a d e then bif qs.c a d e then bif !qs.v a d e then kr a d e ah else bif a !=1 then kr a d e ah else bif !kR.v (f.size:ax) 1 40 then kr a d e ah else bif decide (bE ((d.size:ax)+(f.size:ax))>400)then kr a d e ah else bif decide (d.size+f.size<=4611686018427387904)then kr a (d++f) e ae else af else af else af
def vo:=b λr0 r1 r2 r3=>ab (r0,r1,r2,r3)
def c:=λa d e f=>(vo a d e f).isSome
def v:=λa d e f=>(vo a d e f).getD (0,⟨#[]⟩,[],ah)
theorem out{x}:∀a d e f,vo a d e f=ab x->c a d e f=ae/\v a d e f=x:=λ_ _ _ _=>Lib.dN
end H3

namespace H4
def r1(N:au)(g k0:jS R)(a d e f h i:ax)(j l m o p q:aY):ar R:=bif decide (e<d)then bif decide (0<=e)&&decide (e<(j.length:ax))then bif decide (cw (ao j e.toNat (1+1))=bE (a+1))then bif decide (cw (ao j e.toNat (1+1+1+1))=1)then bif decide (0<=a)&&decide (a<(q.length:ax))then bif decide (0<=e)&&decide (e<(j.length:ax))then g a d (bE (e+1)) f h i (dP j e.toNat 5 [.s (bW (ao q a.toNat 1))]) l m o p q else af else af else g a d (bE (e+1)) f h i j l m o p q else g a d (bE (e+1)) f h i j l m o p q else af else k0 a d e f h i j l m o p q
def l1(N:au)(k0:jS R):au->jS R
 |0=>λ_ _ _ _ _ _ _ _ _ _ _ _=>af
 |n+1=>r1 N (l1 N k0 n) k0
def b(N:au)(kr:eJ R)(a:ax)(d e f h:aY)(i:ax)(j l:aY)(m o:ax):ar R:=l1 N (λ_ _ _ p q r s t u w y z=>kr p t u w y q z s r) N o (l.length:ax) 0 a i m l d e f h j
def vo:=b Lib.dE λr0 r1 r2 r3 r4 r5 r6 r7 r8=>ab (r0,r1,r2,r3,r4,r5,r6,r7,r8)
def c:=λa d e f h i j l m o=>(vo a d e f h i j l m o).isSome
def v:=λa d e f h i j l m o=>(vo a d e f h i j l m o).getD (0,[],[],[],[],0,[],[],0)
theorem out{x}:∀a d e f h i j l m o,vo a d e f h i j l m o=ab x->c a d e f h i j l m o=ae/\v a d e f h i j l m o=x:=λ_ _ _ _ _ _ _ _ _ _=>Lib.dN
end H4

namespace Jg
def b(kr:rE R)(a:ax)(d e f h:aY)(i:ax)(j l:aY)(m o:ax)(p:ai):ar R:=bif pV.c a d e f h i j l m then Lib.lt (pV.v a d e f h i j l m) λq=>bif GK.c a d e f h i j l m o then Lib.lt (GK.v a d e f h i j l m o) λr=>bif !r then kr q.1 q.2.1 q.2.2.1 q.2.2.2.1 q.2.2.2.2.1 q.2.2.2.2.2.1 q.2.2.2.2.2.2.1 q.2.2.2.2.2.2.2.1 q.2.2.2.2.2.2.2.2 ah else bif decide (0<=o)&&decide (o<(j.length:ax))then bif decide (0<=o)&&decide (o<(j.length:ax))then bif H3.c (cw (ao j o.toNat 2)) (bW (ao j o.toNat 1)) [] p then Lib.lt (H3.v (cw (ao j o.toNat 2)) (bW (ao j o.toNat 1)) [] p) λs=>bif !s.2.2.2 then kr q.1 q.2.1 q.2.2.1 q.2.2.2.1 q.2.2.2.2.1 q.2.2.2.2.2.1 q.2.2.2.2.2.2.1 q.2.2.2.2.2.2.2.1 q.2.2.2.2.2.2.2.2 ah else bif decide (0<=o)&&decide (o<(q.2.2.2.2.2.2.1.length:ax))then bif H4.c q.1 q.2.1 q.2.2.1 q.2.2.2.1 q.2.2.2.2.1 q.2.2.2.2.2.1 (dP q.2.2.2.2.2.2.1 o.toNat 1 [.s s.2.1]) q.2.2.2.2.2.2.2.1 q.2.2.2.2.2.2.2.2 o then Lib.lt (H4.v q.1 q.2.1 q.2.2.1 q.2.2.2.1 q.2.2.2.2.1 q.2.2.2.2.2.1 (dP q.2.2.2.2.2.2.1 o.toNat 1 [.s s.2.1]) q.2.2.2.2.2.2.2.1 q.2.2.2.2.2.2.2.2 o) λt=>kr t.1 t.2.1 t.2.2.1 t.2.2.2.1 t.2.2.2.2.1 t.2.2.2.2.2.1 t.2.2.2.2.2.2.1 t.2.2.2.2.2.2.2.1 t.2.2.2.2.2.2.2.2 ae else af else af else af else af else af else af else af
def vo:=b λr0 r1 r2 r3 r4 r5 r6 r7 r8 r9=>ab (r0,r1,r2,r3,r4,r5,r6,r7,r8,r9)
def c:=λa d e f h i j l m o p=>(vo a d e f h i j l m o p).isSome
def v:=λa d e f h i j l m o p=>(vo a d e f h i j l m o p).getD (0,[],[],[],[],0,[],[],0,ah)
theorem out{x}:∀a d e f h i j l m o p,vo a d e f h i j l m o p=ab x->c a d e f h i j l m o p=ae/\v a d e f h i j l m o p=x:=λ_ _ _ _ _ _ _ _ _ _ _=>Lib.dN
end Jg

namespace H5
def r1(N:au)(g k0:jt R)(a d e f h i j:ax)(l m o p q r:aY):ar R:=bif decide (f<e)then bif decide (0<=f)&&decide (f<(l.length:ax))then bif decide (cw (ao l f.toNat (1+1))=bE (a+1))then bif decide (cw (ao l f.toNat (1+1+1+1))=1)then bif decide (0<=a)&&decide (a<(r.length:ax))then bif decide (0<=f)&&decide (f<(l.length:ax))then bif decide (0<=f)&&decide (f<((dP l f.toNat 4 [.i .i64 d]).length:ax))then g a d e (bE (f+1)) h i j (dP (dP l f.toNat 4 [.i .i64 d]) f.toNat 5 [.s (bW (ao r a.toNat 1))]) m o p q r else af else af else af else g a d e (bE (f+1)) h i j l m o p q r else g a d e (bE (f+1)) h i j l m o p q r else af else k0 a d e f h i j l m o p q r
def l1(N:au)(k0:jt R):au->jt R
 |0=>λ_ _ _ _ _ _ _ _ _ _ _ _ _=>af
 |n+1=>r1 N (l1 N k0 n) k0
def b(N:au)(kr:eJ R)(a:ax)(d e f h:aY)(i:ax)(j l:aY)(m o p:ax):ar R:=l1 N (λ_ _ _ _ q r s t u w y z α=>kr q u w y z r α t s) N o p (l.length:ax) 0 a i m l d e f h j
def vo:=b Lib.dE λr0 r1 r2 r3 r4 r5 r6 r7 r8=>ab (r0,r1,r2,r3,r4,r5,r6,r7,r8)
def c:=λa d e f h i j l m o p=>(vo a d e f h i j l m o p).isSome
def v:=λa d e f h i j l m o p=>(vo a d e f h i j l m o p).getD (0,[],[],[],[],0,[],[],0)
theorem out{x}:∀a d e f h i j l m o p,vo a d e f h i j l m o p=ab x->c a d e f h i j l m o p=ae/\v a d e f h i j l m o p=x:=λ_ _ _ _ _ _ _ _ _ _ _=>Lib.dN
end H5


namespace E9
def r3(N:au)(g k0:rF R)(a:ax)(d:ai)(e f:ax)(h:ai)(i:aY):ar R:=bif decide (a<(i.length:ax))then bif decide (0<=a)&&decide (a<(i.length:ax))then bif bZ (bW (ao i a.toNat 0)).toList (aA d)then g (bE (a+1)) d e f h i else k0 a d e f h i else af else k0 a d e f h i
def l3(N:au)(k0:rF R):au->rF R
 |0=>λ_ _ _ _ _ _=>af
 |n+1=>r3 N (l3 N k0 n) k0
def b(N:au)(kr:aY->ar R)(a:aY)(d:ai)(e f:ax)(h:ai):ar R:=bif xT.c a d then l3 N (λi j l m o p=>bif decide (0<=i)&&decide (i<=(p.length:ax))&&cX (p.length+(aF (aM [Ck.s,Ck.i aj,Ck.i aj,Ck.s] 1) 0 [.s j, .i .i64 l, .i .i64 m, .s o]).length) 48 then kr (Pu.pr p i.toNat (aF (aM [Ck.s,Ck.i aj,Ck.i aj,Ck.s] 1) 0 [.s j, .i .i64 l, .i .i64 m, .s o]))else af) N 0 d e f h (xT.v a d)else af
def vo:=b Lib.dE λr0=>ab r0
def c:=λa d e f h=>(vo a d e f h).isSome
def v:=λa d e f h=>(vo a d e f h).getD ([])
theorem out{x}:∀a d e f h,vo a d e f h=ab x->c a d e f h=ae/\v a d e f h=x:=λ_ _ _ _ _=>Lib.dN
end E9

namespace Mi
def b(kr:eJ R)(a:ax)(d e f h:aY)(i:ax)(j l:aY)(m:ax)(o:ai)(p q:ax)(r:ai):ar R:=bif GI.c e f h i o then Lib.lt (GI.v e f h i o) λs=>bif xT.c d s.2.2.2.2 then Lib.lt (xT.v d s.2.2.2.2) λt=>bif qS.c s.1 s.2.1 s.2.2.1 s.2.2.2.1 o then Lib.lt (qS.v s.1 s.2.1 s.2.2.1 s.2.2.2.1 o) λu=>bif u then bif E9.c t o p q r then Lib.lt (E9.v t o p q r) λw=>kr a w s.1 s.2.1 s.2.2.1 s.2.2.2.1 j l m else af else kr a t s.1 s.2.1 s.2.2.1 s.2.2.2.1 j l m else af else af else af
def vo:=b λr0 r1 r2 r3 r4 r5 r6 r7 r8=>ab (r0,r1,r2,r3,r4,r5,r6,r7,r8)
def c:=λa d e f h i j l m o p q r=>(vo a d e f h i j l m o p q r).isSome
def v:=λa d e f h i j l m o p q r=>(vo a d e f h i j l m o p q r).getD (0,[],[],[],[],0,[],[],0)
theorem out{x}:∀a d e f h i j l m o p q r,vo a d e f h i j l m o p q r=ab x->c a d e f h i j l m o p q r=ae/\v a d e f h i j l m o p q r=x:=λ_ _ _ _ _ _ _ _ _ _ _ _ _=>Lib.dN
end Mi

namespace Jh
def b(kr:rE R)(a:ax)(d e f h:aY)(i:ax)(j l:aY)(m o p:ax):ar R:=bif pV.c a d e f h i j l m then Lib.lt (pV.v a d e f h i j l m) λq=>bif GK.c a d e f h i j l m o then Lib.lt (GK.v a d e f h i j l m o) λr=>bif !r then kr q.1 q.2.1 q.2.2.1 q.2.2.2.1 q.2.2.2.2.1 q.2.2.2.2.2.1 q.2.2.2.2.2.2.1 q.2.2.2.2.2.2.2.1 q.2.2.2.2.2.2.2.2 ah else bif decide (0<=o)&&decide (o<(j.length:ax))then bif cw (ao j o.toNat 2) !=1 then kr q.1 q.2.1 q.2.2.1 q.2.2.2.1 q.2.2.2.2.1 q.2.2.2.2.2.1 q.2.2.2.2.2.2.1 q.2.2.2.2.2.2.2.1 q.2.2.2.2.2.2.2.2 ah else bif !kR.v p 0 999999 then kr q.1 q.2.1 q.2.2.1 q.2.2.2.1 q.2.2.2.2.1 q.2.2.2.2.2.1 q.2.2.2.2.2.2.1 q.2.2.2.2.2.2.2.1 q.2.2.2.2.2.2.2.2 ah else bif decide (0<=o)&&decide (o<(q.2.2.2.2.2.2.1.length:ax))then bif H5.c q.1 q.2.1 q.2.2.1 q.2.2.2.1 q.2.2.2.2.1 q.2.2.2.2.2.1 (dP (dP (dP q.2.2.2.2.2.2.1 o.toNat 2 [.i .i64 2]) o.toNat 3 [.i .i64 p]) o.toNat 4 [.i .i64 a]) q.2.2.2.2.2.2.2.1 q.2.2.2.2.2.2.2.2 o 2 then Lib.lt (H5.v q.1 q.2.1 q.2.2.1 q.2.2.2.1 q.2.2.2.2.1 q.2.2.2.2.2.1 (dP (dP (dP q.2.2.2.2.2.2.1 o.toNat 2 [.i .i64 2]) o.toNat 3 [.i .i64 p]) o.toNat 4 [.i .i64 a]) q.2.2.2.2.2.2.2.1 q.2.2.2.2.2.2.2.2 o 2) λs=>bif decide (p>0)then bif Mi.c s.1 s.2.1 s.2.2.1 s.2.2.2.1 s.2.2.2.2.1 s.2.2.2.2.2.1 s.2.2.2.2.2.2.1 s.2.2.2.2.2.2.2.1 s.2.2.2.2.2.2.2.2 (bW (ao s.2.2.2.2.2.2.1 o.toNat 0)) a p (bW (ao s.2.2.2.2.2.2.1 o.toNat 1))then Lib.lt (Mi.v s.1 s.2.1 s.2.2.1 s.2.2.2.1 s.2.2.2.2.1 s.2.2.2.2.2.1 s.2.2.2.2.2.2.1 s.2.2.2.2.2.2.2.1 s.2.2.2.2.2.2.2.2 (bW (ao s.2.2.2.2.2.2.1 o.toNat 0)) a p (bW (ao s.2.2.2.2.2.2.1 o.toNat 1))) λt=>kr t.1 t.2.1 t.2.2.1 t.2.2.2.1 t.2.2.2.2.1 t.2.2.2.2.2.1 t.2.2.2.2.2.2.1 t.2.2.2.2.2.2.2.1 t.2.2.2.2.2.2.2.2 ae else af else kr s.1 s.2.1 s.2.2.1 s.2.2.2.1 s.2.2.2.2.1 s.2.2.2.2.2.1 s.2.2.2.2.2.2.1 s.2.2.2.2.2.2.2.1 s.2.2.2.2.2.2.2.2 ae else af else af else af else af else af
def vo:=b λr0 r1 r2 r3 r4 r5 r6 r7 r8 r9=>ab (r0,r1,r2,r3,r4,r5,r6,r7,r8,r9)
def c:=λa d e f h i j l m o p=>(vo a d e f h i j l m o p).isSome
def v:=λa d e f h i j l m o p=>(vo a d e f h i j l m o p).getD (0,[],[],[],[],0,[],[],0,ah)
theorem out{x}:∀a d e f h i j l m o p,vo a d e f h i j l m o p=ab x->c a d e f h i j l m o p=ae/\v a d e f h i j l m o p=x:=λ_ _ _ _ _ _ _ _ _ _ _=>Lib.dN
end Jh

namespace HZ
def r2(N:au)(g k0 k1:il R)(a:ax)(d:aL)(e f:ax)(h i j l:aY)(m:ax)(o p:aY)(q r:ax)(s:ai)(t u w:ax)(y:ai)(z:ax):ar R:=bif decide (e<(p.length:ax))then bif decide (0<=e)&&decide (e<(p.length:ax))then bif decide (cw (ao p e.toNat 0)=a)then bif decide (0<=e)&&decide (e<(p.length:ax))then k0 a ae e f h i j l m o p q (cw (ao p e.toNat 0)) (bW (ao p e.toNat 1)) (cw (ao p e.toNat (1+1))) (cw (ao p e.toNat (1+1+1))) (cw (ao p e.toNat (1+1+1+1))) (bW (ao p e.toNat (1+1+1+1+1))) (cw (ao p e.toNat (1+1+1+1+1+1)))else af else g a d (bE (e+1)) f h i j l m o p q r s t u w y z else af else k1 a d e f h i j l m o p q r s t u w y z
def l2(N:au)(k0 k1:il R):au->il R
 |0=>λ_ _ _ _ _ _ _ _ _ _ _ _ _ _ _ _ _ _ _=>af
 |n+1=>r2 N (l2 N k0 k1 n) k0 k1
def b(N:au)(kr:C8 R)(a:ax)(d e f h:aY)(i:ax)(j l:aY)(m o:ax):ar R:=l2 N (λ_ p _ _ _ _ _ _ _ _ _ _ q r s t u w y=>kr q r s t u w y p) (λ_ _ _ _ _ _ _ _ _ _ _ _ _ _ _ _ _ _ _=>kr 0 ⟨#[]⟩ 0 0 0 ⟨#[]⟩ 0 ah) N o ah 0 a d e f h i j l m 0 ⟨#[]⟩ 0 0 0 ⟨#[]⟩ 0
def vo:=b Lib.dE λr0 r1 r2 r3 r4 r5 r6 r7=>ab (r0,r1,r2,r3,r4,r5,r6,r7)
def c:=λa d e f h i j l m o=>(vo a d e f h i j l m o).isSome
def v:=λa d e f h i j l m o=>(vo a d e f h i j l m o).getD (0,⟨#[]⟩,0,0,0,⟨#[]⟩,0,ah)
theorem out{x}:∀a d e f h i j l m o,vo a d e f h i j l m o=ab x->c a d e f h i j l m o=ae/\v a d e f h i j l m o=x:=λ_ _ _ _ _ _ _ _ _ _=>Lib.dN
end HZ

namespace U4
def b(kr:aL->ar R)(a:aY):ar R:=bif RZ.v a then kr ae else bif HY.c a then Lib.lt (HY.v a) λd=>bif decide (0<(d.length:ax))then bif decide (1<(d.length:ax))then bif E7.c wc.v.1 wc.v.2.1 wc.v.2.2.1 wc.v.2.2.2.1 wc.v.2.2.2.2.1 wc.v.2.2.2.2.2.1 wc.v.2.2.2.2.2.2.1 wc.v.2.2.2.2.2.2.2.1 wc.v.2.2.2.2.2.2.2.2 (bL (cw (ao d (aX 1) 0)) 1000)then Lib.lt (E7.v wc.v.1 wc.v.2.1 wc.v.2.2.1 wc.v.2.2.2.1 wc.v.2.2.2.2.1 wc.v.2.2.2.2.2.1 wc.v.2.2.2.2.2.2.1 wc.v.2.2.2.2.2.2.2.1 wc.v.2.2.2.2.2.2.2.2 (bL (cw (ao d (aX 1) 0)) 1000)) λe=>bif Dp.c e.1 e.2.1 e.2.2.1 e.2.2.2.1 e.2.2.2.2.1 e.2.2.2.2.2.1 e.2.2.2.2.2.2.1 e.2.2.2.2.2.2.2.1 e.2.2.2.2.2.2.2.2 1 {data:= #[ay 47,ay 107]}then Lib.lt (Dp.v e.1 e.2.1 e.2.2.1 e.2.2.2.1 e.2.2.2.2.1 e.2.2.2.2.2.1 e.2.2.2.2.2.2.1 e.2.2.2.2.2.2.2.1 e.2.2.2.2.2.2.2.2 1 {data:= #[ay 47,ay 107]}) λf=>bif Jg.c f.1 f.2.1 f.2.2.1 f.2.2.2.1 f.2.2.2.2.1 f.2.2.2.2.2.1 f.2.2.2.2.2.2.1 f.2.2.2.2.2.2.2.1 f.2.2.2.2.2.2.2.2.1 0 {data:= #[ay 98,ay 111,ay 100,ay 121]}then Lib.lt (Jg.v f.1 f.2.1 f.2.2.1 f.2.2.2.1 f.2.2.2.2.1 f.2.2.2.2.2.1 f.2.2.2.2.2.2.1 f.2.2.2.2.2.2.2.1 f.2.2.2.2.2.2.2.2.1 0 {data:= #[ay 98,ay 111,ay 100,ay 121]}) λh=>bif Jh.c h.1 h.2.1 h.2.2.1 h.2.2.2.1 h.2.2.2.2.1 h.2.2.2.2.2.1 h.2.2.2.2.2.2.1 h.2.2.2.2.2.2.2.1 h.2.2.2.2.2.2.2.2.1 0 (bE (1+bL (cw (ao d (aX 0) 0)) 500))then Lib.lt (Jh.v h.1 h.2.1 h.2.2.1 h.2.2.2.1 h.2.2.2.2.1 h.2.2.2.2.2.1 h.2.2.2.2.2.2.1 h.2.2.2.2.2.2.2.1 h.2.2.2.2.2.2.2.2.1 0 (bE (1+bL (cw (ao d (aX 0) 0)) 500))) λi=>bif decide (2<(d.length:ax))then bif E7.c i.1 i.2.1 i.2.2.1 i.2.2.2.1 i.2.2.2.2.1 i.2.2.2.2.2.1 i.2.2.2.2.2.2.1 i.2.2.2.2.2.2.2.1 i.2.2.2.2.2.2.2.2.1 (bL (cw (ao d (aX 2) 0)) 700)then Lib.lt (E7.v i.1 i.2.1 i.2.2.1 i.2.2.2.1 i.2.2.2.2.1 i.2.2.2.2.2.1 i.2.2.2.2.2.2.1 i.2.2.2.2.2.2.2.1 i.2.2.2.2.2.2.2.2.1 (bL (cw (ao d (aX 2) 0)) 700)) λj=>bif Dp.c j.1 j.2.1 j.2.2.1 j.2.2.2.1 j.2.2.2.2.1 j.2.2.2.2.2.1 j.2.2.2.2.2.2.1 j.2.2.2.2.2.2.2.1 j.2.2.2.2.2.2.2.2 2 {data:= #[ay 47,ay 107]}then Lib.lt (Dp.v j.1 j.2.1 j.2.2.1 j.2.2.2.1 j.2.2.2.2.1 j.2.2.2.2.2.1 j.2.2.2.2.2.2.1 j.2.2.2.2.2.2.2.1 j.2.2.2.2.2.2.2.2 2 {data:= #[ay 47,ay 107]}) λl=>bif HZ.c l.1 l.2.1 l.2.2.1 l.2.2.2.1 l.2.2.2.2.1 l.2.2.2.2.2.1 l.2.2.2.2.2.2.1 l.2.2.2.2.2.2.2.1 l.2.2.2.2.2.2.2.2.1 2 then Lib.lt (HZ.v l.1 l.2.1 l.2.2.1 l.2.2.2.1 l.2.2.2.2.1 l.2.2.2.2.2.1 l.2.2.2.2.2.2.1 l.2.2.2.2.2.2.2.1 l.2.2.2.2.2.2.2.2.1 2) λm=>bif f.2.2.2.2.2.2.2.2.2 !=0 then kr ah else bif l.2.2.2.2.2.2.2.2.2 !=0 then kr ah else bif !i.2.2.2.2.2.2.2.2.2 then kr ah else bif !m.2.2.2.2.2.2.2 then kr ah else bif CY.c l.1 l.2.1 l.2.2.1 l.2.2.2.1 l.2.2.2.2.1 l.2.2.2.2.2.1 l.2.2.2.2.2.2.1 l.2.2.2.2.2.2.2.1 l.2.2.2.2.2.2.2.2.1 then Lib.lt (CY.v l.1 l.2.1 l.2.2.1 l.2.2.2.1 l.2.2.2.2.1 l.2.2.2.2.2.1 l.2.2.2.2.2.2.1 l.2.2.2.2.2.2.2.1 l.2.2.2.2.2.2.2.2.1) λo=>bif !o then kr ah else bif decide (bL (cw (ao d (aX 2) 0)) 700<bE (1+bL (cw (ao d (aX 0) 0)) 500))then bif decide (m.2.2.2.2.1=2)then bif cC (aA m.2.2.2.2.2.1) (aA {data:= #[ay 98,ay 111,ay 100,ay 121]})then bif decide (m.2.2.2.2.2.2.1=bL (cw (ao d (aX 2) 0)) 700)then bif decide ((l.2.2.2.2.2.2.1.length:ax)=1)then kr (decide (l.2.2.2.2.2.2.2.2.1=1))else kr ah else kr ah else kr ah else kr ah else bif decide (m.2.2.2.2.1=1)then bif cC (aA m.2.2.2.2.2.1) (aA ⟨#[]⟩)then bif decide ((l.2.2.2.2.2.2.1.length:ax)=2)then bif decide (l.2.2.2.2.2.2.2.2.1=0)then kr (decide ((l.2.1.length:ax)=0))else kr ah else kr ah else kr ah else kr ah else af else af else af else af else af else af else af else af else af else af else af else af
def vo:=b λr0=>ab r0
def c:=λa=>(vo a).isSome
def v:=λa=>(vo a).getD ah
theorem out{x}:∀a,vo a=ab x->c a=ae/\v a=x:=λ_=>Lib.dN
end U4

namespace fC
def r2(N:au)(g k0 k1:C9 R)(a:aY)(d:ai)(e:aL)(f:ax):ar R:=bif decide (f<(a.length:ax))then bif decide (0<=f)&&decide (f<(a.length:ax))then bif cC (bW (ao a f.toNat 0)).toList (aA d)then k0 a d ae f else g a d e (bE (f+1))else af else k1 a d e f
def l2(N:au)(k0 k1:C9 R):au->C9 R
 |0=>λ_ _ _ _=>af
 |n+1=>r2 N (l2 N k0 k1 n) k0 k1
def b(N:au)(kr:aL->ar R)(a:aY)(d:ai):ar R:=l2 N (λ_ _ e _=>kr e) (λ_ _ _ _=>kr ah) N a d ah 0
def vo:=b Lib.dE λr0=>ab r0
def c:=λa d=>(vo a d).isSome
def v:=λa d=>(vo a d).getD ah
end fC

namespace fX
def b(kr:aL->ar R)(a d e:ax):ar R:=bif decide (a≥d)then kr (decide (a<=e))else kr ah
def v(a0 a1 a2:ax):aL:=bif decide (a0≥a1)then decide (a0<=a2)else ah
end fX

namespace tG
def b(kr:aL->ar R)(a:ai):ar R:=kr (fX.v (a.size:ax) 1 30)
def v(a0:ai):aL:=(fX.v (a0.size:ax) 1 30)
end tG

namespace e_
def r9(N:au)(g k0 k1:zA R)(a:aL)(d e:ax)(f:aY)(h:ax):ar R:=bif decide (0<=d)&&decide (d<(f.length:ax))then bif decide (e<((ia (ao f d.toNat 0)).length:ax))then bif decide (0<=d)&&decide (d<(f.length:ax))then bif decide (0<=e)&&decide (e<((ia (ao f d.toNat 0)).length:ax))then bif !fX.v (cw (ao (ia (ao f d.toNat 0)) e.toNat 0)) 0 15 then k0 ah d e f h else g a d (bE (e+1)) f h else af else af else k1 a d e f h else af
def l9(N:au)(k0 k1:zA R):au->zA R
 |0=>λ_ _ _ _ _=>af
 |n+1=>r9 N (l9 N k0 k1 n) k0 k1
def r4(N:au)(g k0 k1:C6 R)(a:aL)(d:ax)(e:aY)(f:ax):ar R:=bif decide (d<(e.length:ax))then bif decide (0<=d)&&decide (d<(e.length:ax))then bif((ia (ao e d.toNat 0)).length:ax) !=16 then k0 ah d e f else l9 N (λh i _ j l=>k0 h i j l) (λh i _ j l=>g h (bE (i+1)) j l) N a d 0 e f else af else k1 a d e f
def l4(N:au)(k0 k1:C6 R):au->C6 R
 |0=>λ_ _ _ _=>af
 |n+1=>r4 N (l4 N k0 k1 n) k0 k1
def b(N:au)(kr:aL->ar R)(a:aY)(d:ax):ar R:=bif(a.length:ax) !=3 then kr ah else bif !fX.v d 0 63 then kr ah else l4 N (λe _ _ _=>kr e) (λ_ _ _ _=>kr ae) N ah 0 a d
def vo:=b Lib.dE λr0=>ab r0
def c:=λa d=>(vo a d).isSome
def v:=λa d=>(vo a d).getD ah
theorem out{x}:∀a d,vo a d=ab x->c a d=ae/\v a d=x:=λ_ _=>Lib.dN
end e_

namespace jW
def r3(N:au)(g k0 k1:s7 R)(a:aL)(d:ax)(e f h:aY)(i:ax)(j:aY):ar R:=bif decide (d<(j.length:ax))then bif decide (0<=d)&&decide (d<(j.length:ax))then bif !tG.v (bW (ao j d.toNat 0))then k0 ah d e f h i j else bif iV 0 d (j.length:ax)then bif decide (0<=d)&&decide (d<(j.length:ax))then bif fC.c (dM j (aX 0) d.toNat) (bW (ao j d.toNat 0))then bif fC.v (dM j (aX 0) d.toNat) (bW (ao j d.toNat 0))then k0 ah d e f h i j else g a (bE (d+1)) e f h i j else af else af else af else af else k1 a d e f h i j
def l3(N:au)(k0 k1:s7 R):au->s7 R
 |0=>λ_ _ _ _ _ _ _=>af
 |n+1=>r3 N (l3 N k0 k1 n) k0 k1
def b(N:au)(kr:aL->ar R)(a d e:aY)(f:ax):ar R:=bif cX ((aM [.s] 0).length+a.length) 16 then bif cX ((aM [.s] 0++a).length+d.length) 16 then l3 N (λh _ _ _ _ _ _=>kr h) (λ_ _ h i j l _=>bif decide ((h.length:ax)<=2)then bif decide ((i.length:ax)<=4)then bif e_.c j l then kr (e_.v j l)else af else kr ah else kr ah) N ah 0 a d e f (aM [.s] 0++a++d)else af else af
def vo:=b Lib.dE λr0=>ab r0
def c:=λa d e f=>(vo a d e f).isSome
def v:=λa d e f=>(vo a d e f).getD ah
end jW

namespace jD
def b(kr:aL->ar R)(a:ai)(d e:ax)(f:ai):ar R:=bif tG.v a then bif fX.v d 0 1000000000 then bif fX.v e 1 999999 then kr (decide ((f.size:ax)<=400))else kr ah else kr ah else kr ah
def v(a0:ai)(a1 a2:ax)(a3:ai):aL:=bif tG.v a0 then bif fX.v a1 0 1000000000 then bif fX.v a2 1 999999 then decide ((a3.size:ax)<=400)else ah else ah else ah
theorem Mt{k:ai}{s l:ax}{b:ai}(h:v k s l b=ae):(1<=k.size/\k.size<=30)/\(0<=s/\s<=1000000000)/\(1<=l/\l<=999999)/\b.size<=400:=by unfold v at h;cases h1:tG.v k<;>rw[h1]at h<;>simp only[aw,aC,cJ]at h;cases h2:fX.v s 0 1000000000<;>rw[h2]at h<;>simp only[aw,aC,cJ]at h;cases h3:fX.v l 1 999999<;>rw[h3]at h<;>simp only[aw,aC,cJ]at h;simp[tG.v,fX.v]at h1 h2 h3;have:=bU h;omega
end jD

namespace zZ
def b(kr:aL->ar R)(a d e:aY)(f:ax)(h:ai):ar R:=bif fC.c a h then bif fC.v a h then kr ae else bif fC.c d h then kr (fC.v d h)else af else af
def vo:=b λr0=>ab r0
def c:=λa d e f h=>(vo a d e f h).isSome
def v:=λa d e f h=>(vo a d e f h).getD ah
end zZ

namespace mH
def r2(N:au)(g k0 k1:fj R)(a:aL)(d e:ax)(f h i j:aY)(l:ax)(m o:aY)(p:ax):ar R:=bif decide (d<(f.length:ax))then bif decide (0<=d)&&decide (d<(f.length:ax))then bif !jD.v (bW (ao f d.toNat 0)) (cw (ao f d.toNat 1)) (cw (ao f d.toNat (1+1))) (bW (ao f d.toNat (1+1+1)))then k0 ah d e f h i j l m o p else bif decide (d>0)then bif decide (0<=bE (d-1))&&decide (bE (d-1)<(f.length:ax))then bif decide (0<=d)&&decide (d<(f.length:ax))then bif !Op.bytesLess (bW (ao f (bE (d-1)).toNat 0)).toList (bW (ao f d.toNat 0)).toList then k0 ah d e f h i j l m o p else bif decide (0<=d)&&decide (d<(f.length:ax))then bif zZ.c h i j l (bW (ao f d.toNat 0))then bif !zZ.v h i j l (bW (ao f d.toNat 0))then k0 ah d e f h i j l m o p else g a (bE (d+1)) e f h i j l m o p else af else af else af else af else bif decide (0<=d)&&decide (d<(f.length:ax))then bif zZ.c h i j l (bW (ao f d.toNat 0))then bif !zZ.v h i j l (bW (ao f d.toNat 0))then k0 ah d e f h i j l m o p else g a (bE (d+1)) e f h i j l m o p else af else af else af else k1 a d e f h i j l m o p
def l2(N:au)(k0 k1:fj R):au->fj R
 |0=>λ_ _ _ _ _ _ _ _ _ _ _=>af
 |n+1=>r2 N (l2 N k0 k1 n) k0 k1
def b(N:au)(kr:aL->ar R)(a:ax)(d e f h:aY)(i:ax)(j l:aY)(m:ax):ar R:=l2 N (λo _ _ _ _ _ _ _ _ _ _=>kr o) (λ_ _ _ o p q r s _ _ _=>bif jW.c p q r s then bif jW.v p q r s then kr (decide ((o.length:ax)=bE ((p.length:ax)+(q.length:ax))))else kr ah else af) N ah 0 a d e f h i j l m
def vo:=b Lib.dE λr0=>ab r0
def c:=λa d e f h i j l m=>(vo a d e f h i j l m).isSome
def v:=λa d e f h i j l m=>(vo a d e f h i j l m).getD ah
end mH

namespace nV
def r5(N:au)(g k0 k1:iY R)(a:ax)(d:aL)(e f:ax)(h i j l:aY)(m:ax)(o p:aY)(q:ax)(r s:ai)(t u w:ax):ar R:=bif decide (e<a)then bif decide (0<=e)&&decide (e<(o.length:ax))then bif cC (bW (ao o e.toNat 0)).toList (aA r)then bif decide (0<=e)&&decide (e<(o.length:ax))then bif decide (cw (ao o e.toNat 2)=1)then bif decide (t=1)then k0 a ah e f h i j l m o p q r s t u w else g a d (bE (e+1)) f h i j l m o p q r s t u w else g a d (bE (e+1)) f h i j l m o p q r s t u w else af else g a d (bE (e+1)) f h i j l m o p q r s t u w else af else k1 a d e f h i j l m o p q r s t u w
def l5(N:au)(k0 k1:iY R):au->iY R
 |0=>λ_ _ _ _ _ _ _ _ _ _ _ _ _ _ _ _ _=>af
 |n+1=>r5 N (l5 N k0 k1 n) k0 k1
def b(N:au)(kr:aL->ar R)(a:ax)(d e f h:aY)(i:ax)(j l:aY)(m o:ax):ar R:=bif decide (0<=o)&&decide (o<(j.length:ax))then bif !tG.v (bW (ao j o.toNat 0))then kr ah else bif decide (((bW (ao j o.toNat 1)).size:ax)>400)then kr ah else bif !fX.v (cw (ao j o.toNat (1+1))) 1 3 then kr ah else bif !fX.v (cw (ao j o.toNat (1+1+1))) 0 999999 then kr ah else bif !fX.v (cw (ao j o.toNat (1+1+1+1))) 0 a then kr ah else l5 N (λ_ p _ _ _ _ _ _ _ _ _ _ _ _ _ _ _=>kr p) (λ_ _ _ _ _ _ _ _ _ _ _ _ _ _ _ _ _=>kr ae) N o ah 0 a d e f h i j l m (bW (ao j o.toNat 0)) (bW (ao j o.toNat 1)) (cw (ao j o.toNat (1+1))) (cw (ao j o.toNat (1+1+1))) (cw (ao j o.toNat (1+1+1+1)))else af
def vo:=b Lib.dE λr0=>ab r0
def c:=λa d e f h i j l m o=>(vo a d e f h i j l m o).isSome
def v:=λa d e f h i j l m o=>(vo a d e f h i j l m o).getD ah
end nV

namespace sW
def r9(N:au)(g k0 k1:fj R)(a:aL)(d e:ax)(f h i j:aY)(l:ax)(m o:aY)(p:ax):ar R:=bif decide (d<(o.length:ax))then bif decide (0<=d)&&decide (d<(o.length:ax))then bif !fX.v (cw (ao o d.toNat 0)) 1 9 then k0 ah d e f h i j l m o p else bif decide (d>0)then bif decide (0<=bE (d-1))&&decide (bE (d-1)<(o.length:ax))then bif decide (cw (ao o (bE (d-1)).toNat 0)≥cw (ao o d.toNat 0))then k0 ah d e f h i j l m o p else bif !tG.v (bW (ao o d.toNat 1))then k0 ah d e f h i j l m o p else bif !fX.v (cw (ao o d.toNat (1+1+1+1))) 1 3 then k0 ah d e f h i j l m o p else bif !fX.v (cw (ao o d.toNat (1+1))) 0 (m.length:ax)then k0 ah d e f h i j l m o p else bif decide (((bW (ao o d.toNat (1+1+1+1+1))).size:ax)>400)then k0 ah d e f h i j l m o p else bif !fX.v (cw (ao o d.toNat (1+1+1))) 0 e then k0 ah d e f h i j l m o p else bif decide (cw (ao o d.toNat (1+1+1+1+1+1))<0)then k0 ah d e f h i j l m o p else g a (bE (d+1)) e f h i j l m o p else af else bif !tG.v (bW (ao o d.toNat 1))then k0 ah d e f h i j l m o p else bif !fX.v (cw (ao o d.toNat (1+1+1+1))) 1 3 then k0 ah d e f h i j l m o p else bif !fX.v (cw (ao o d.toNat (1+1))) 0 (m.length:ax)then k0 ah d e f h i j l m o p else bif decide (((bW (ao o d.toNat (1+1+1+1+1))).size:ax)>400)then k0 ah d e f h i j l m o p else bif !fX.v (cw (ao o d.toNat (1+1+1))) 0 e then k0 ah d e f h i j l m o p else bif decide (cw (ao o d.toNat (1+1+1+1+1+1))<0)then k0 ah d e f h i j l m o p else g a (bE (d+1)) e f h i j l m o p else af else k1 a d e f h i j l m o p
def l9(N:au)(k0 k1:fj R):au->fj R
 |0=>λ_ _ _ _ _ _ _ _ _ _ _=>af
 |n+1=>r9 N (l9 N k0 k1 n) k0 k1
def r4(N:au)(g k0 k1:fj R)(a:aL)(d e:ax)(f h i j:aY)(l:ax)(m o:aY)(p:ax):ar R:=bif decide (d<(m.length:ax))then bif nV.c e f h i j l m o p d then bif !nV.v e f h i j l m o p d then k0 ah d e f h i j l m o p else g a (bE (d+1)) e f h i j l m o p else af else k1 a d e f h i j l m o p
def l4(N:au)(k0 k1:fj R):au->fj R
 |0=>λ_ _ _ _ _ _ _ _ _ _ _=>af
 |n+1=>r4 N (l4 N k0 k1 n) k0 k1
def b(N:au)(kr:aL->ar R)(a:ax)(d e f h:aY)(i:ax)(j l:aY)(m:ax):ar R:=bif !fX.v a 1 1000000000 then kr ah else bif mH.c a d e f h i j l m then bif !mH.v a d e f h i j l m then kr ah else bif decide ((j.length:ax)>20)then kr ah else bif decide ((l.length:ax)>6)then kr ah else bif !fX.v m 0 1000000000 then kr ah else l4 N (λo _ _ _ _ _ _ _ _ _ _=>kr o) (λo _ p q r s t u w y z=>l9 N (λα _ _ _ _ _ _ _ _ _ _=>kr α) (λ_ _ _ _ _ _ _ _ _ _ _=>kr ae) N o 0 p q r s t u w y z) N ah 0 a d e f h i j l m else af
def vo:=b Lib.dE λr0=>ab r0
def c:=λa d e f h i j l m=>(vo a d e f h i j l m).isSome
def v:=λa d e f h i j l m=>(vo a d e f h i j l m).getD ah
end sW

namespace k9
def r9(N:au)(g k0:lO R)(a:aY)(d:ax)(e:ai)(f h:ax)(i:ai)(j:aY):ar R:=bif decide (d<(a.length:ax))then bif decide (0<=d)&&decide (d<(a.length:ax))then bif !(bZ (bW (ao a d.toNat 0)).toList (aA e)||List.beq (bW (ao a d.toNat 0)).toList (aA e))then bif decide (0<=d)&&decide (d<(a.length:ax))then bif cX (j.length+(aF (aM [Ck.s,Ck.i aj,Ck.i aj,Ck.s] 1) 0 [.s (bW (ao a d.toNat 0)), .i .i64 (cw (ao a d.toNat 1)), .i .i64 (cw (ao a d.toNat (1+1))), .s (bW (ao a d.toNat (1+1+1)))]).length) 48 then g a (bE (d+1)) e f h i (j++aF (aM [Ck.s,Ck.i aj,Ck.i aj,Ck.s] 1) 0 [.s (bW (ao a d.toNat 0)), .i .i64 (cw (ao a d.toNat 1)), .i .i64 (cw (ao a d.toNat (1+1))), .s (bW (ao a d.toNat (1+1+1)))])else af else af else g a (bE (d+1)) e f h i j else af else k0 a d e f h i j
def l9(N:au)(k0:lO R):au->lO R
 |0=>λ_ _ _ _ _ _ _=>af
 |n+1=>r9 N (l9 N k0 n) k0
def r3(N:au)(g k0:lO R)(a:aY)(d:ax)(e:ai)(f h:ax)(i:ai)(j:aY):ar R:=bif decide (d<(a.length:ax))then bif decide (0<=d)&&decide (d<(a.length:ax))then bif bZ (bW (ao a d.toNat 0)).toList (aA e)then bif decide (0<=d)&&decide (d<(a.length:ax))then bif cX (j.length+(aF (aM [Ck.s,Ck.i aj,Ck.i aj,Ck.s] 1) 0 [.s (bW (ao a d.toNat 0)), .i .i64 (cw (ao a d.toNat 1)), .i .i64 (cw (ao a d.toNat (1+1))), .s (bW (ao a d.toNat (1+1+1)))]).length) 48 then g a (bE (d+1)) e f h i (j++aF (aM [Ck.s,Ck.i aj,Ck.i aj,Ck.s] 1) 0 [.s (bW (ao a d.toNat 0)), .i .i64 (cw (ao a d.toNat 1)), .i .i64 (cw (ao a d.toNat (1+1))), .s (bW (ao a d.toNat (1+1+1)))])else af else af else g a (bE (d+1)) e f h i j else af else k0 a d e f h i j
def l3(N:au)(k0:lO R):au->lO R
 |0=>λ_ _ _ _ _ _ _=>af
 |n+1=>r3 N (l3 N k0 n) k0
def b(N:au)(kr:aY->ar R)(a:aY)(d:ai)(e f:ax)(h:ai):ar R:=l3 N (λi _ j l m o p=>bif cX (p.length+(aF (aM [Ck.s,Ck.i aj,Ck.i aj,Ck.s] 1) 0 [.s j, .i .i64 l, .i .i64 m, .s o]).length) 48 then l9 N (λ_ _ _ _ _ _ q=>kr q) N i 0 j l m o (p++aF (aM [Ck.s,Ck.i aj,Ck.i aj,Ck.s] 1) 0 [.s j, .i .i64 l, .i .i64 m, .s o])else af) N a 0 d e f h (aM [Ck.s,Ck.i aj,Ck.i aj,Ck.s] 0)
def vo:=b Lib.dE λr0=>ab r0
def c:=λa d e f h=>(vo a d e f h).isSome
def v:=λa d e f h=>(vo a d e f h).getD ([])
end k9

namespace R0
def b(kr:aL->ar R)(a:ai):ar R:=kr (fX.v (a.size:ax) 1 8)
def v(a0:ai):aL:=(fX.v (a0.size:ax) 1 8)
end R0

namespace rQ
def r4(N:au)(g k0 k1:Im R)(a:aL)(d:ax)(e:aY):ar R:=bif decide (d<(e.length:ax))then bif decide (0<=d)&&decide (d<(e.length:ax))then bif !R0.v (bW (ao e d.toNat 0))then k0 ah d e else bif decide (((bW (ao e d.toNat 1)).size:ax)>20000)then k0 ah d e else bif !fX.v (cw (ao e d.toNat (1+1))) 0 ((bW (ao e d.toNat 1)).size:ax)then k0 ah d e else bif decide (d>0)then bif decide (0<=bE (d-1))&&decide (bE (d-1)<(e.length:ax))then bif !Op.bytesLess (bW (ao e (bE (d-1)).toNat 0)).toList (bW (ao e d.toNat 0)).toList then k0 ah d e else g a (bE (d+1)) e else af else g a (bE (d+1)) e else af else k1 a d e
def l4(N:au)(k0 k1:Im R):au->Im R
 |0=>λ_ _ _=>af
 |n+1=>r4 N (l4 N k0 k1 n) k0 k1
def b(N:au)(kr:aL->ar R)(a:aY):ar R:=bif decide ((a.length:ax)>30)then kr ah else l4 N (λd _ _=>kr d) (λ_ _ _=>kr ae) N ah 0 a
def vo:=b Lib.dE λr0=>ab r0
def c:=λa=>(vo a).isSome
def v:=λa=>(vo a).getD ah
end rQ

namespace Jf
def b(kr:aL->ar R)(a d:ai)(e:ax)(kX:ai):ar R:=kr (cC (aA a) (aA kX))
def v(a0 a1:ai)(a2:ax)(kX:ai):aL:=(cC (aA a0) (aA kX))
end Jf

namespace rN
def r2(N:au)(g k0 k1:fk R)(a:aY)(d:ai)(e f h:ax):ar R:=bif decide (h<f)then bif decide (0<=h)&&decide (h<(a.length:ax))then bif Jf.v (bW (ao a h.toNat 0)) (bW (ao a h.toNat 1)) (cw (ao a h.toNat (1+1))) d then k0 a d h f h else g a d e f (bE (h+1))else af else k1 a d e f h
def l2(N:au)(k0 k1:fk R):au->fk R
 |0=>λ_ _ _ _ _=>af
 |n+1=>r2 N (l2 N k0 k1 n) k0 k1
def b(N:au)(kr:ax->ar R)(a:aY)(kX:ai):ar R:=l2 N (λ_ _ d _ _=>kr d) (λ_ _ _ _ _=>kr (-1)) N a kX 0 (a.length:ax) 0
def vo:=b Lib.dE λr0=>ab r0
def c:=λa d=>(vo a d).isSome
def v:=λa d=>(vo a d).getD (0)
theorem out{x}:∀a d,vo a d=ab x->c a d=ae/\v a d=x:=λ_ _=>Lib.dN
end rN

namespace yb
def b(kr:aL->ar R)(a d:ai)(e:ax)(kX:ai):ar R:=kr (cC (aA a) (aA kX))
def v(a0 a1:ai)(a2:ax)(kX:ai):aL:=(cC (aA a0) (aA kX))
end yb

namespace ma
def r2(N:au)(g k0 k1:fk R)(a:aY)(d:ai)(e f h:ax):ar R:=bif decide (h<f)then bif decide (0<=h)&&decide (h<(a.length:ax))then bif yb.v (bW (ao a h.toNat 0)) (bW (ao a h.toNat 1)) (cw (ao a h.toNat (1+1))) d then k0 a d h f h else g a d e f (bE (h+1))else af else k1 a d e f h
def l2(N:au)(k0 k1:fk R):au->fk R
 |0=>λ_ _ _ _ _=>af
 |n+1=>r2 N (l2 N k0 k1 n) k0 k1
def b(N:au)(kr:ax->ar R)(a:aY)(kX:ai):ar R:=l2 N (λ_ _ d _ _=>kr d) (λ_ _ _ _ _=>kr (-1)) N a kX 0 (a.length:ax) 0
def vo:=b Lib.dE λr0=>ab r0
def c:=λa d=>(vo a d).isSome
def v:=λa d=>(vo a d).getD (0)
theorem out{x}:∀a d,vo a d=ab x->c a d=ae/\v a d=x:=λ_ _=>Lib.dN
end ma

namespace v_
def r5(N:au)(g k0:jB R)(a:ai)(d e:ax)(f:aY):ar R:=bif decide (e<(f.length:ax))then bif decide (0<=e)&&decide (e<(f.length:ax))then bif !yb.v (bW (ao f e.toNat 0)) (bW (ao f e.toNat 1)) (cw (ao f e.toNat (1+1))) a then bif decide (0<=d)&&decide (d<(f.length:ax))then g a (bE (d+1)) (bE (e+1)) (dP f d.toNat 0 [.s (bW (ao f e.toNat 0)), .s (bW (ao f e.toNat 1)), .i .i64 (cw (ao f e.toNat (1+1)))])else af else g a d (bE (e+1)) f else af else k0 a d e f
def l5(N:au)(k0:jB R):au->jB R
 |0=>λ_ _ _ _=>af
 |n+1=>r5 N (l5 N k0 n) k0
def b(N:au)(kr:aY->ar R)(a:aY)(kX:ai):ar R:=bif ma.c a kX then bif decide (ma.v a kX=GA 1)then kr a else l5 N (λ_ d _ e=>bif iV d (e.length:ax) (e.length:ax)then bif iV 0 d ((gE d.toNat e++aM [Ck.s,Ck.s,Ck.i aj] ((e.length:ax).toNat-d.toNat)++mL (e.length:ax).toNat e).length:ax)then kr (dM (gE d.toNat e++aM [Ck.s,Ck.s,Ck.i aj] ((e.length:ax).toNat-d.toNat)++mL (e.length:ax).toNat e) (aX 0) d.toNat)else af else af) N kX (ma.v a kX) (bE (ma.v a kX+1)) a else af
def vo:=b Lib.dE λr0=>ab r0
def c:=λa d=>(vo a d).isSome
def v:=λa d=>(vo a d).getD ([])
theorem out{x}:∀a d,vo a d=ab x->c a d=ae/\v a d=x:=λ_ _=>Lib.dN
end v_

namespace ko
def r2(N:au)(g k0:s9 R)(a:ax)(d:aY):ar R:=bif decide (a>127)then bif cX (d.length+(aF (aM [Ck.i aU] 1) 0 [CV.i aU (bj aU (bE (bL a 128+128)))]).length) 1 then g (bE (cj a 128)) (d++aF (aM [Ck.i aU] 1) 0 [CV.i aU (bj aU (bE (bL a 128+128)))])else af else k0 a d
def l2(N:au)(k0:s9 R):au->s9 R
 |0=>λ_ _=>af
 |n+1=>r2 N (l2 N k0 n) k0
def b(N:au)(kr:ai->ar R)(a:ax):ar R:=l2 N (λd e=>bif cX (e.length+(aF (aM [Ck.i aU] 1) 0 [CV.i aU (bj aU d)]).length) 1 then bif decide ((e++aF (aM [Ck.i aU] 1) 0 [CV.i aU (bj aU d)]).length<=4611686018427387904)then kr (bytesOf (e++aF (aM [Ck.i aU] 1) 0 [CV.i aU (bj aU d)]))else af else af) N a (aM [Ck.i aU] 0)
def v(n0:ax):ai:=bytesOf (Lib.vb n0)
def c(n0:ax):aL:=decide (n0<=9223372036854775807)
end ko

namespace iw
def r6(N:au)(g k0:s_ R)(a:ax)(d:ai)(e f:ax):ar R:=bif decide (f<8)then bif decide (bL a 2=1)then g (bj dx (↑(db (jA (bG 32 (bj dx (cj a 2))) (bG 32 3558460437))):ax)) d e (bE (f+1))else g (bj dx (cj a 2)) d e (bE (f+1))else k0 a d e f
def l6(N:au)(k0:s_ R):au->s_ R
 |0=>λ_ _ _ _=>af
 |n+1=>r6 N (l6 N k0 n) k0
def r2(N:au)(g k0:vS R)(a:ax)(d:ai)(e:ax):ar R:=bif decide (e<(d.size:ax))then bif decide (0<=e)&&decide (e<(d.size:ax))then l6 N (λf h i _=>g f h (bE (i+1))) N (bj dx (↑(db (jA (bG 32 a) (bG 32 (bj dx (↑(iI d e.toNat):ax))))):ax)) d e 0 else af else k0 a d e
def l2(N:au)(k0:vS R):au->vS R
 |0=>λ_ _ _=>af
 |n+1=>r2 N (l2 N k0 n) k0
def b(N:au)(kr:ax->ar R)(a:ax)(d:ai):ar R:=l2 N (λe _ _=>kr e) N a d 0
def vo:=b Lib.dE λr0=>ab r0
def c:=λa d=>(vo a d).isSome
def v:=λa d=>(vo a d).getD (0)
theorem out{x}:∀a d,vo a d=ab x->c a d=ae/\v a d=x:=λ_ _=>Lib.dN
end iw

namespace tH
def b(kr:ax->ar R)(a:ai):ar R:=bif iw.c 4294967295 a then kr (iw.v 4294967295 a)else af
def vo:=b λr0=>ab r0
def c:=λa=>(vo a).isSome
def v:=λa=>(vo a).getD (0)
theorem out{x}:∀a,vo a=ab x->c a=ae/\v a=x:=λ_=>Lib.dN
end tH

namespace nW
def b(kr:ai->ar R)(a:ax):ar R:=kr (bytesOf (aF (aF (aF (aF (aM [Ck.i aU] 4) 0 [CV.i aU (bj aU (iU a (fB 2 (if aX 24<=32 then aX 24 else 32))))]) 1 [CV.i aU (bj aU (iU a (fB 2 (if aX 16<=32 then aX 16 else 32))))]) 2 [CV.i aU (bj aU (iU a (fB 2 (if aX 8<=32 then aX 8 else 32))))]) 3 [CV.i aU (bj aU a)]))
def v(a0:ax):ai:=(bytesOf (aF (aF (aF (aF (aM [Ck.i aU] 4) 0 [CV.i aU (bj aU (iU a0 (fB 2 (if aX 24<=32 then aX 24 else 32))))]) 1 [CV.i aU (bj aU (iU a0 (fB 2 (if aX 16<=32 then aX 16 else 32))))]) 2 [CV.i aU (bj aU (iU a0 (fB 2 (if aX 8<=32 then aX 8 else 32))))]) 3 [CV.i aU (bj aU a0)]))
end nW

namespace nX
def b(kr:x8 R)(a:ai):ar R:=bif !fX.v (a.size:ax) 1 9000 then kr ⟨#[]⟩ ah else bif ko.c (a.size:ax)then bif tH.c a then bif decide ((ko.v (a.size:ax)).size+(nW.v (tH.v a)).size<=4611686018427387904)then bif decide ((ko.v (a.size:ax)++nW.v (tH.v a)).size+a.size<=4611686018427387904)then kr (ko.v (a.size:ax)++nW.v (tH.v a)++a) ae else af else af else af else af
def vo:=b λr0 r1=>ab (r0,r1)
def c:=λa=>(vo a).isSome
def v:=λa=>(vo a).getD (⟨#[]⟩,ah)
theorem out{x}:∀a,vo a=ab x->c a=ae/\v a=x:=λ_=>Lib.dN
end nX

namespace eG
def r6(N:au)(g k0 k1:qK R)(a:ai)(d e f:ax)(h:aL)(i j l:ax):ar R:=bif decide (l<(a.size:ax))then bif decide (l<bE (d+5))then bif decide (0<=l)&&decide (l<(a.size:ax))then bif decide (0<=l)&&decide (l<(a.size:ax))then bif decide ((↑(iI a l.toNat):ax)<128)then bif decide (bE (i+bE (bL (bE (↑(iI a l.toNat):ax)) 128*j))>1000000000)then k0 a d 0 0 ah (bE (i+bE (bL (bE (↑(iI a l.toNat):ax)) 128*j))) (bE (j*128)) l else bif ko.c (bE (i+bE (bL (bE (↑(iI a l.toNat):ax)) 128*j)))then bif iV d (bE (l+1)) (a.size:ax)then bif !List.beq (ko.v (bE (i+bE (bL (bE (↑(iI a l.toNat):ax)) 128*j)))).toList (cg a d.toNat (bE (l+1)).toNat).toList then k0 a d 0 0 ah (bE (i+bE (bL (bE (↑(iI a l.toNat):ax)) 128*j))) (bE (j*128)) l else k0 a d (bE (i+bE (bL (bE (↑(iI a l.toNat):ax)) 128*j))) (bE (l+1)) ae (bE (i+bE (bL (bE (↑(iI a l.toNat):ax)) 128*j))) (bE (j*128)) l else af else af else g a d e f h (bE (i+bE (bL (bE (↑(iI a l.toNat):ax)) 128*j))) (bE (j*128)) (bE (l+1))else af else af else k1 a d e f h i j l else k1 a d e f h i j l
def l6(N:au)(k0 k1:qK R):au->qK R
 |0=>λ_ _ _ _ _ _ _ _=>af
 |n+1=>r6 N (l6 N k0 k1 n) k0 k1
def b(N:au)(kr:Pc R)(a:ai)(d:ax):ar R:=bif !fX.v d 0 (a.size:ax)then kr 0 0 ah else l6 N (λ_ _ e f h _ _ _=>kr e f h) (λ_ _ _ _ _ _ _ _=>kr 0 0 ah) N a d 0 0 ah 0 1 d
def v(sN:ai)(kB:ax):ax×ax×aL:=if 0<=kB/\kB<=sN.size then Lib.rv sN kB.toNat 5 0 0 else(0,0,ah)
end eG

namespace oT
def b(kr:Io R)(a:ai)(d:ax):ar R:=bif !(eG.v a d).2.2 then kr ⟨#[]⟩ 0 ah else bif decide ((eG.v a d).1>20000)then kr ⟨#[]⟩ 0 ah else bif decide ((eG.v a d).1>bE ((a.size:ax)-(eG.v a d).2.1))then kr ⟨#[]⟩ 0 ah else bif iV (eG.v a d).2.1 (bE ((eG.v a d).2.1+(eG.v a d).1)) (a.size:ax)then kr (cg a (eG.v a d).2.1.toNat (bE ((eG.v a d).2.1+(eG.v a d).1)).toNat) (bE ((eG.v a d).2.1+(eG.v a d).1)) ae else af
def v(sN:ai)(kB:ax):ai×ax×aL:=Lib.tZ sN kB
end oT

namespace Dq
def b(kr:x8 R)(a:ai)(d e:ax)(f:ai):ar R:=bif !jD.v a d e f then kr ⟨#[]⟩ ah else bif ko.c (a.size:ax)then bif decide ((ko.v (a.size:ax)).size+a.size<=4611686018427387904)then bif ko.c d then bif decide ((ko.v (a.size:ax)++a).size+(ko.v d).size<=4611686018427387904)then bif ko.c e then bif decide ((ko.v (a.size:ax)++a++ko.v d).size+(ko.v e).size<=4611686018427387904)then bif decide ((ko.v (a.size:ax)++a++ko.v d++ko.v e).size+f.size<=4611686018427387904)then kr (ko.v (a.size:ax)++a++ko.v d++ko.v e++f) ae else af else af else af else af else af else af else af
def Gi(k:ai)(s l:ax)(b:ai):ai:=bytesOf (Lib.vb k.size)++k++bytesOf (Lib.vb s)++bytesOf (Lib.vb l)++b
def v(M7:ai)(M8:ax)(M9:ax)(M_:ai):ai×aL:=if jD.v M7 M8 M9 M_=ae then(Gi M7 M8 M9 M_,ae)else(⟨#[]⟩,ah)
end Dq

namespace z6
def b(kr:EM R)(a:ai):ar R:=bif !(oT.v a 0).2.2 then kr ⟨#[]⟩ 0 0 ⟨#[]⟩ ah else bif !(eG.v a (oT.v a 0).2.1).2.2 then kr ⟨#[]⟩ 0 0 ⟨#[]⟩ ah else bif !(eG.v a (eG.v a (oT.v a 0).2.1).2.1).2.2 then kr ⟨#[]⟩ 0 0 ⟨#[]⟩ ah else bif iV (eG.v a (eG.v a (oT.v a 0).2.1).2.1).2.1 (a.size:ax) (a.size:ax)then bif !(Dq.v (oT.v a 0).1 (eG.v a (oT.v a 0).2.1).1 (eG.v a (eG.v a (oT.v a 0).2.1).2.1).1 (cg a (eG.v a (eG.v a (oT.v a 0).2.1).2.1).2.1.toNat (a.size:ax).toNat)).2 then kr ⟨#[]⟩ 0 0 ⟨#[]⟩ ah else bif !List.beq (Dq.v (oT.v a 0).1 (eG.v a (oT.v a 0).2.1).1 (eG.v a (eG.v a (oT.v a 0).2.1).2.1).1 (cg a (eG.v a (eG.v a (oT.v a 0).2.1).2.1).2.1.toNat (a.size:ax).toNat)).1.toList (aA a)then kr ⟨#[]⟩ 0 0 ⟨#[]⟩ ah else kr (oT.v a 0).1 (eG.v a (oT.v a 0).2.1).1 (eG.v a (eG.v a (oT.v a 0).2.1).2.1).1 (cg a (eG.v a (eG.v a (oT.v a 0).2.1).2.1).2.1.toNat (a.size:ax).toNat) ae else af
def no:ai×ax×ax×ai×aL:=(⟨#[]⟩,0,0,⟨#[]⟩,ah)
def v(t0:ai):ai×ax×ax×ai×aL:=
 match Lib.tZ t0 0 with
 |(k,a,ae)=>(match Lib.gL t0 a with
  |(s,x,ae)=>(match Lib.gL t0 x with
   |(l,y,ae)=>if jD.v k s l (t0.extract y.toNat t0.size)=ae then(k,s,l,t0.extract y.toNat t0.size,ae)else no
   |_=>no)
  |_=>no)
 |_=>no
end z6

namespace eW
def r5(N:au)(g k0 k1:tc R)(a:ai)(d e f:ax)(h:aL)(i j:ax):ar R:=bif decide (j<5)then bif decide (bE (d+j)<(a.size:ax))then bif decide (0<=bE (d+j))&&decide (bE (d+j)<(a.size:ax))then bif decide (0<=bE (7*j))then bif decide (bE (↑(iI a (bE (d+j)).toNat):ax)>127)then g a d e f h (bE (i+bE (bL (bE (↑(iI a (bE (d+j)).toNat):ax)) 128*fB 2 (if(bE (7*j)).toNat<=64 then(bE (7*j)).toNat else 64)))) (bE (j+1))else bif decide (j>0)then bif decide (bE (↑(iI a (bE (d+j)).toNat):ax)=0)then k0 a d 0 0 ah (bE (i+bE (bL (bE (↑(iI a (bE (d+j)).toNat):ax)) 128*fB 2 (if(bE (7*j)).toNat<=64 then(bE (7*j)).toNat else 64)))) j else bif decide (bE (i+bE (bL (bE (↑(iI a (bE (d+j)).toNat):ax)) 128*fB 2 (if(bE (7*j)).toNat<=64 then(bE (7*j)).toNat else 64)))>1000000000)then k0 a d 0 0 ah (bE (i+bE (bL (bE (↑(iI a (bE (d+j)).toNat):ax)) 128*fB 2 (if(bE (7*j)).toNat<=64 then(bE (7*j)).toNat else 64)))) j else k0 a d (bE (i+bE (bL (bE (↑(iI a (bE (d+j)).toNat):ax)) 128*fB 2 (if(bE (7*j)).toNat<=64 then(bE (7*j)).toNat else 64)))) (bE (bE (d+j)+1)) ae (bE (i+bE (bL (bE (↑(iI a (bE (d+j)).toNat):ax)) 128*fB 2 (if(bE (7*j)).toNat<=64 then(bE (7*j)).toNat else 64)))) j else bif decide (bE (i+bE (bL (bE (↑(iI a (bE (d+j)).toNat):ax)) 128*fB 2 (if(bE (7*j)).toNat<=64 then(bE (7*j)).toNat else 64)))>1000000000)then k0 a d 0 0 ah (bE (i+bE (bL (bE (↑(iI a (bE (d+j)).toNat):ax)) 128*fB 2 (if(bE (7*j)).toNat<=64 then(bE (7*j)).toNat else 64)))) j else k0 a d (bE (i+bE (bL (bE (↑(iI a (bE (d+j)).toNat):ax)) 128*fB 2 (if(bE (7*j)).toNat<=64 then(bE (7*j)).toNat else 64)))) (bE (bE (d+j)+1)) ae (bE (i+bE (bL (bE (↑(iI a (bE (d+j)).toNat):ax)) 128*fB 2 (if(bE (7*j)).toNat<=64 then(bE (7*j)).toNat else 64)))) j else af else af else k1 a d e f h i j else k1 a d e f h i j
def l5(N:au)(k0 k1:tc R):au->tc R
 |0=>λ_ _ _ _ _ _ _=>af
 |n+1=>r5 N (l5 N k0 k1 n) k0 k1
def b(N:au)(kr:Pc R)(a:ai)(d:ax):ar R:=bif !kR.v d 0 (a.size:ax)then kr 0 0 ah else l5 N (λ_ _ e f h _ _=>kr e f h) (λ_ _ _ _ _ _ _=>kr 0 0 ah) N a d 0 0 ah 0 0
def v(sN:ai)(kB:ax):ax×ax×aL:=if 0<=kB/\kB<=sN.size then Lib.rv sN kB.toNat 5 0 0 else(0,0,ah)
end eW

namespace tI
def b(kr:ai->ar R)(a:ai):ar R:=bif qu.c a then kr (bytesOf (aF (aF (aF (aF (aM [Ck.i aU] 4) 0 [CV.i aU (bj aU (iU (qu.v a) (fB 2 (if aX 24<=32 then aX 24 else 32))))]) 1 [CV.i aU (bj aU (iU (qu.v a) (fB 2 (if aX 16<=32 then aX 16 else 32))))]) 2 [CV.i aU (bj aU (iU (qu.v a) (fB 2 (if aX 8<=32 then aX 8 else 32))))]) 3 [CV.i aU (bj aU (qu.v a))]))else af
def vo:=b λr0=>ab r0
def c:=λa=>(vo a).isSome
def v:=λa=>(vo a).getD (⟨#[]⟩)
theorem out{x}:∀a,vo a=ab x->c a=ae/\v a=x:=λ_=>Lib.dN
end tI

namespace U67
def r3(N:au)(g k0:yC R)(a:ai)(d:ax)(e:aY):ar R:=bif decide ((a.size:ax)<=20000)then bif !(eW.v a d).2.2 then k0 a d e else bif !kR.v (eW.v a d).1 1 9000 then k0 a d e else bif decide (bE ((eW.v a d).1+4)>bE ((a.size:ax)-(eW.v a d).2.1))then k0 a d e else bif iV (bE ((eW.v a d).2.1+4)) (bE (bE ((eW.v a d).2.1+4)+(eW.v a d).1)) (a.size:ax)then bif tI.c (cg a (bE ((eW.v a d).2.1+4)).toNat (bE (bE ((eW.v a d).2.1+4)+(eW.v a d).1)).toNat)then bif iV (eW.v a d).2.1 (bE ((eW.v a d).2.1+4)) (a.size:ax)then bif !List.beq (tI.v (cg a (bE ((eW.v a d).2.1+4)).toNat (bE (bE ((eW.v a d).2.1+4)+(eW.v a d).1)).toNat)).toList (cg a (eW.v a d).2.1.toNat (bE ((eW.v a d).2.1+4)).toNat).toList then k0 a d e else bif cX (e.length+(aF (aM [.s] 1) 0 [.s (cg a (bE ((eW.v a d).2.1+4)).toNat (bE (bE ((eW.v a d).2.1+4)+(eW.v a d).1)).toNat)]).length) 16 then g a (bE (bE ((eW.v a d).2.1+4)+(eW.v a d).1)) (e++aF (aM [.s] 1) 0 [.s (cg a (bE ((eW.v a d).2.1+4)).toNat (bE (bE ((eW.v a d).2.1+4)+(eW.v a d).1)).toNat)])else af else af else af else af else k0 a d e
def l3(N:au)(k0:yC R):au->yC R
 |0=>λ_ _ _=>af
 |n+1=>r3 N (l3 N k0 n) k0
def b(N:au)(kr:rG R)(a:ai):ar R:=l3 N (λ_ d e=>kr e d) N a 0 (aM [.s] 0)
def vo:=b Lib.dE λr0 r1=>ab (r0,r1)
def c:=λa=>(vo a).isSome
def v:=λa=>(vo a).getD ([],0)
theorem out{x}:∀a,vo a=ab x->c a=ae/\v a=x:=λ_=>Lib.dN
end U67

namespace E8
def r5(N:au)(g k0 k1:jB R)(a:ai)(d e:ax)(f:aY):ar R:=bif decide (e<(a.size:ax))then bif !(eG.v a e).2.2 then k0 a e e f else bif decide ((eG.v a e).1>bE (bE ((a.size:ax)-(eG.v a e).2.1)-4))then k0 a e e f else bif iV (bE ((eG.v a e).2.1+4)) (bE (bE ((eG.v a e).2.1+4)+(eG.v a e).1)) (a.size:ax)then bif nX.c (cg a (bE ((eG.v a e).2.1+4)).toNat (bE (bE ((eG.v a e).2.1+4)+(eG.v a e).1)).toNat)then bif !(nX.v (cg a (bE ((eG.v a e).2.1+4)).toNat (bE (bE ((eG.v a e).2.1+4)+(eG.v a e).1)).toNat)).2 then k0 a e e f else bif iV e (bE (bE ((eG.v a e).2.1+4)+(eG.v a e).1)) (a.size:ax)then bif !List.beq (nX.v (cg a (bE ((eG.v a e).2.1+4)).toNat (bE (bE ((eG.v a e).2.1+4)+(eG.v a e).1)).toNat)).1.toList (cg a e.toNat (bE (bE ((eG.v a e).2.1+4)+(eG.v a e).1)).toNat).toList then k0 a e e f else bif cX (f.length+(aF (aM [.s] 1) 0 [.s (cg a (bE ((eG.v a e).2.1+4)).toNat (bE (bE ((eG.v a e).2.1+4)+(eG.v a e).1)).toNat)]).length) 16 then g a d (bE (bE ((eG.v a e).2.1+4)+(eG.v a e).1)) (f++aF (aM [.s] 1) 0 [.s (cg a (bE ((eG.v a e).2.1+4)).toNat (bE (bE ((eG.v a e).2.1+4)+(eG.v a e).1)).toNat)])else af else af else af else af else k1 a d e f
def l5(N:au)(k0 k1:jB R):au->jB R
 |0=>λ_ _ _ _=>af
 |n+1=>r5 N (l5 N k0 k1 n) k0 k1
def b(N:au)(kr:rG R)(a:ai):ar R:=bif decide ((a.size:ax)>20000)then kr (aM [.s] 0) 0 else l5 N (λ_ d _ e=>kr e d) (λ_ _ d e=>kr e d) N a 0 0 (aM [.s] 0)
def vo:=b Lib.dE λr0 r1=>ab (r0,r1)
def c:=λa=>(vo a).isSome
def v:=λa=>(vo a).getD ([],0)
theorem out{x}:∀a,vo a=ab x->c a=ae/\v a=x:=λ_=>Lib.dN
end E8

namespace qT
def r4(N:au)(g k0:s9 R)(a:ax)(d:aY):ar R:=bif decide (a>127)then bif cX (d.length+(aF (aM [Ck.i aU] 1) 0 [CV.i aU (bj aU (bE (bL a 128+128)))]).length) 1 then g (bE (cj a 128)) (d++aF (aM [Ck.i aU] 1) 0 [CV.i aU (bj aU (bE (bL a 128+128)))])else af else k0 a d
def l4(N:au)(k0:s9 R):au->s9 R
 |0=>λ_ _=>af
 |n+1=>r4 N (l4 N k0 n) k0
def b(N:au)(kr:x8 R)(a:ax):ar R:=bif !kR.v a 0 1000000000 then kr ⟨#[]⟩ ah else l4 N (λd e=>bif cX (e.length+(aF (aM [Ck.i aU] 1) 0 [CV.i aU (bj aU d)]).length) 1 then bif decide ((e++aF (aM [Ck.i aU] 1) 0 [CV.i aU (bj aU d)]).length<=4611686018427387904)then kr (bytesOf (e++aF (aM [Ck.i aU] 1) 0 [CV.i aU (bj aU d)])) ae else af else af) N a (aM [Ck.i aU] 0)
def v(n0:ax):ai×aL:=if 0<=n0/\n0<=1000000000 then(bytesOf (Lib.vb n0),ae)else(⟨#[]⟩,ah)
end qT

namespace GH
def b(kr:x8 R)(a:ai):ar R:=bif decide ((a.size:ax)>20000)then kr ⟨#[]⟩ ah else bif decide ((qT.v (a.size:ax)).1.size+a.size<=4611686018427387904)then kr ((qT.v (a.size:ax)).1++a) ae else af
def v(s0:ai):ai×aL:=if s0.size>20000 then(⟨#[]⟩,ah)else(bytesOf (Lib.vb s0.size)++s0,ae)
end GH

namespace GG
def b(kr:x8 R)(a:ai)(d e:ax)(f:ai):ar R:=bif !uQ.v a d e f then kr ⟨#[]⟩ ah else bif decide ((GH.v a).1.size+(qT.v d).1.size<=4611686018427387904)then bif decide (((GH.v a).1++(qT.v d).1).size+(qT.v e).1.size<=4611686018427387904)then bif decide (((GH.v a).1++(qT.v d).1++(qT.v e).1).size+f.size<=4611686018427387904)then kr ((GH.v a).1++(qT.v d).1++(qT.v e).1++f) ae else af else af else af
def v(M7:ai)(M8:ax)(M9:ax)(M_:ai):ai×aL:=Dq.v M7 M8 M9 M_
end GG

namespace Bt
def b(kr:x8 R)(a:ai):ar R:=bif !kR.v (a.size:ax) 1 9000 then kr ⟨#[]⟩ ah else bif tI.c a then bif decide ((qT.v (a.size:ax)).1.size+(tI.v a).size<=4611686018427387904)then bif decide (((qT.v (a.size:ax)).1++tI.v a).size+a.size<=4611686018427387904)then kr ((qT.v (a.size:ax)).1++tI.v a++a) ae else af else af else af
def vo:=b λr0 r1=>ab (r0,r1)
def c:=λa=>(vo a).isSome
def v:=λa=>(vo a).getD (⟨#[]⟩,ah)
end Bt

namespace PM
def b(kr:x8 R)(a:ai)(d e:ax)(f:ai):ar R:=bif !(GG.v a d e f).2 then kr ⟨#[]⟩ ah else bif Bt.c (GG.v a d e f).1 then kr (Bt.v (GG.v a d e f).1).1 (Bt.v (GG.v a d e f).1).2 else af
def vo:=b λr0 r1=>ab (r0,r1)
def c:=λa d e f=>(vo a d e f).isSome
def v:=λa d e f=>(vo a d e f).getD (⟨#[]⟩,ah)
end PM

namespace l8
def r2(N:au)(g k0 k1:jB R)(a:ai)(d e:ax)(f:aY):ar R:=bif decide (e<(f.length:ax))then bif decide (0<=e)&&decide (e<(f.length:ax))then bif cC (bW (ao f e.toNat 0)).toList (aA a)then k0 a e e f else g a d (bE (e+1)) f else af else k1 a d e f
def l2(N:au)(k0 k1:jB R):au->jB R
 |0=>λ_ _ _ _=>af
 |n+1=>r2 N (l2 N k0 k1 n) k0 k1
def b(N:au)(kr:ax->ar R)(a:aY)(d:ai):ar R:=l2 N (λ_ e _ _=>kr e) (λ_ _ _ _=>kr (-1)) N d 0 0 a
def vo:=b Lib.dE λr0=>ab r0
def c:=λa d=>(vo a d).isSome
def v:=λa d=>(vo a d).getD (0)
end l8

namespace Ji
def b(kr:x8 R)(a:aY)(d:ai):ar R:=bif l8.c a d then bif decide (l8.v a d<0)then kr ⟨#[]⟩ ah else bif decide (0<=l8.v a d)&&decide (l8.v a d<(a.length:ax))then kr (bW (ao a (l8.v a d).toNat 1)) ae else af else af
def vo:=b λr0 r1=>ab (r0,r1)
def c:=λa d=>(vo a d).isSome
def v:=λa d=>(vo a d).getD (⟨#[]⟩,ah)
end Ji

namespace fG
def b(kr:ax->ar R)(a:aY)(d:ai):ar R:=bif rN.c a d then kr (rN.v a d)else af
def vo:=b λr0=>ab r0
def c:=λa d=>(vo a d).isSome
def v:=λa d=>(vo a d).getD (0)
theorem out{x}:∀a d,vo a d=ab x->c a d=ae/\v a d=x:=λ_ _=>Lib.dN
end fG

namespace qV
def r2(N:au)(g k0 k1:zC R)(a:aL)(d:aY)(e f:ax)(h:aY):ar R:=bif decide (f<e)then bif decide (0<=f)&&decide (f<(d.length:ax))then bif !kR.v ((bW (ao d f.toNat 0)).size:ax) 1 8 then k0 ah d e f h else bif decide (((bW (ao d f.toNat 1)).size:ax)>20000)then k0 ah d e f h else bif !kR.v (cw (ao d f.toNat (1+1))) 0 ((bW (ao d f.toNat 1)).size:ax)then k0 ah d e f h else bif decide (f>0)then bif decide (0<=bE (f-1))&&decide (bE (f-1)<(h.length:ax))then bif !Op.bytesLess (bW (ao h (bE (f-1)).toNat 0)).toList (bW (ao d f.toNat 0)).toList then k0 ah d e f h else g a d e (bE (f+1)) h else af else g a d e (bE (f+1)) h else af else k1 a d e f h
def l2(N:au)(k0 k1:zC R):au->zC R
 |0=>λ_ _ _ _ _=>af
 |n+1=>r2 N (l2 N k0 k1 n) k0 k1
def b(N:au)(kr:aL->ar R)(a:aY):ar R:=l2 N (λd _ _ _ _=>kr d) (λ_ _ _ _ d=>kr (decide ((d.length:ax)<=30))) N ah a (a.length:ax) 0 a
def vo:=b Lib.dE λr0=>ab r0
def c:=λa=>(vo a).isSome
def v:=λa=>(vo a).getD ah
theorem out{x}:∀a,vo a=ab x->c a=ae/\v a=x:=λ_=>Lib.dN
end qV

namespace Jc
def b(kr:aL->ar R)(a:ax)(d e f:ai):ar R:=bif kR.v a 1 4 then bif cC (aA e) (aA ⟨#[]⟩)then bif cC (aA f) (aA ⟨#[]⟩)then kr ae else kr (decide (a=3))else bif decide (a=1)then bif cC (aA f) (aA ⟨#[]⟩)then kr ae else kr (decide (a=3))else kr ah else kr ah
def v(a0:ax)(a1 a2 a3:ai):aL:=bif kR.v a0 1 4 then bif cC (aA a2) (aA {data:= #[]})then bif cC (aA a3) (aA {data:= #[]})then ae else decide (a0=3)else bif decide (a0=1)then bif cC (aA a3) (aA {data:= #[]})then ae else decide (a0=3)else ah else ah
end Jc

namespace Jj
def b(kr:aY->ar R)(a:aY):ar R:=bif cX ((aM [Ck.s,Ck.s,Ck.i aj] 0).length+a.length) 40 then kr (aM [Ck.s,Ck.s,Ck.i aj] 0++a)else af
def vo:=b λr0=>ab r0
def c:=λa=>(vo a).isSome
def v:=λa=>(vo a).getD ([])
theorem out{x}:∀a,vo a=ab x->c a=ae/\v a=x:=λ_=>Lib.dN
end Jj

namespace kq
def b(kr:aY->ar R)(a:aY)(d:ai):ar R:=bif Jj.c a then bif v_.c (Jj.v a) d then kr (v_.v (Jj.v a) d)else af else af
def vo:=b λr0=>ab r0
def c:=λa d=>(vo a d).isSome
def v:=λa d=>(vo a d).getD ([])
theorem out{x}:∀a d,vo a d=ab x->c a d=ae/\v a d=x:=λ_ _=>Lib.dN
end kq


namespace jE
def r3(N:au)(g k0:zF R)(a:ax)(d e:ai)(f:ax)(h:aY):ar R:=bif decide (a<(h.length:ax))then bif decide (0<=a)&&decide (a<(h.length:ax))then bif bZ (bW (ao h a.toNat 0)).toList (aA d)then g (bE (a+1)) d e f h else k0 a d e f h else af else k0 a d e f h
def l3(N:au)(k0:zF R):au->zF R
 |0=>λ_ _ _ _ _=>af
 |n+1=>r3 N (l3 N k0 n) k0
def b(N:au)(kr:aY->ar R)(a:aY)(d e:ai)(f:ax):ar R:=bif kq.c a d then l3 N (λh i j l m=>bif decide (0<=h)&&decide (h<=(m.length:ax))&&cX (m.length+(aF (aM [Ck.s,Ck.s,Ck.i aj] 1) 0 [.s i, .s j, .i .i64 l]).length) 40 then kr (Pu.pr m h.toNat (aF (aM [Ck.s,Ck.s,Ck.i aj] 1) 0 [.s i, .s j, .i .i64 l]))else af) N 0 d e f (kq.v a d)else af
def vo:=b Lib.dE λr0=>ab r0
def c:=λa d e f=>(vo a d e f).isSome
def v:=λa d e f=>(vo a d e f).getD ([])
theorem out{x}:∀a d e f,vo a d e f=ab x->c a d e f=ae/\v a d e f=x:=λ_ _ _ _=>Lib.dN
end jE

namespace VB
abbrev h0{R:Type}(kr:Gx R)(a:aY)(d:ax)(e f h:ai):ar R:=bif decide (fG.v a e≥0)then bif decide (0<=fG.v a e)&&decide (fG.v a e<(a.length:ax))then bif decide (d=1)then bif decide ((bW (ao a (fG.v a e).toNat 1)).size+f.size<=4611686018427387904)then bif jE.c a (bW (ao a (fG.v a e).toNat 0)) (bW (ao a (fG.v a e).toNat 1)++f) (cw (ao a (fG.v a e).toNat (1+1)))then bif qV.c (jE.v a (bW (ao a (fG.v a e).toNat 0)) (bW (ao a (fG.v a e).toNat 1)++f) (cw (ao a (fG.v a e).toNat (1+1))))then bif !qV.v (jE.v a (bW (ao a (fG.v a e).toNat 0)) (bW (ao a (fG.v a e).toNat 1)++f) (cw (ao a (fG.v a e).toNat (1+1))))then kr [] ah else kr (jE.v a (bW (ao a (fG.v a e).toNat 0)) (bW (ao a (fG.v a e).toNat 1)++f) (cw (ao a (fG.v a e).toNat (1+1)))) ae else af else af else af else bif decide (d=2)then bif jE.c a (bW (ao a (fG.v a e).toNat 0)) (bW (ao a (fG.v a e).toNat 1)) ((bW (ao a (fG.v a e).toNat 1)).size:ax)then bif qV.c (jE.v a (bW (ao a (fG.v a e).toNat 0)) (bW (ao a (fG.v a e).toNat 1)) ((bW (ao a (fG.v a e).toNat 1)).size:ax))then bif !qV.v (jE.v a (bW (ao a (fG.v a e).toNat 0)) (bW (ao a (fG.v a e).toNat 1)) ((bW (ao a (fG.v a e).toNat 1)).size:ax))then kr [] ah else kr (jE.v a (bW (ao a (fG.v a e).toNat 0)) (bW (ao a (fG.v a e).toNat 1)) ((bW (ao a (fG.v a e).toNat 1)).size:ax)) ae else af else af else bif decide (d=3)then bif cw (ao a (fG.v a e).toNat (1+1)) !=((bW (ao a (fG.v a e).toNat 1)).size:ax)then kr [] ah else bif cC (aA h) (aA e)then kr [] ah else bif kq.c a e then bif jE.c (kq.v a e) h (bW (ao a (fG.v a e).toNat 1)) (cw (ao a (fG.v a e).toNat (1+1)))then bif qV.c (jE.v (kq.v a e) h (bW (ao a (fG.v a e).toNat 1)) (cw (ao a (fG.v a e).toNat (1+1))))then bif !qV.v (jE.v (kq.v a e) h (bW (ao a (fG.v a e).toNat 1)) (cw (ao a (fG.v a e).toNat (1+1))))then kr [] ah else kr (jE.v (kq.v a e) h (bW (ao a (fG.v a e).toNat 1)) (cw (ao a (fG.v a e).toNat (1+1)))) ae else af else af else af else bif kq.c a e then bif qV.c (kq.v a e)then bif !qV.v (kq.v a e)then kr [] ah else kr (kq.v a e) ae else af else af else af else bif decide (d=1)then bif decide (fW ⟨#[]⟩+f.size<=4611686018427387904)then bif jE.c a e ({data:= #[]}++f) 0 then bif qV.c (jE.v a e ({data:= #[]}++f) 0)then bif !qV.v (jE.v a e ({data:= #[]}++f) 0)then kr [] ah else kr (jE.v a e ({data:= #[]}++f) 0) ae else af else af else af else bif decide (d=2)then bif jE.c a e ⟨#[]⟩ (fW ⟨#[]⟩:ax)then bif qV.c (jE.v a e ⟨#[]⟩ (fW ⟨#[]⟩:ax))then bif !qV.v (jE.v a e ⟨#[]⟩ (fW ⟨#[]⟩:ax))then kr [] ah else kr (jE.v a e ⟨#[]⟩ (fW ⟨#[]⟩:ax)) ae else af else af else bif decide (d=3)then bif cC (aA h) (aA e)then kr [] ah else bif kq.c a e then bif jE.c (kq.v a e) h ⟨#[]⟩ 0 then bif qV.c (jE.v (kq.v a e) h ⟨#[]⟩ 0)then bif !qV.v (jE.v (kq.v a e) h ⟨#[]⟩ 0)then kr [] ah else kr (jE.v (kq.v a e) h ⟨#[]⟩ 0) ae else af else af else af else bif kq.c a e then bif qV.c (kq.v a e)then bif !qV.v (kq.v a e)then kr [] ah else kr (kq.v a e) ae else af else af
def b(kr:Gx R)(a:aY)(d:ax)(e f h:ai):ar R:=bif fG.c a e then bif qV.c a then bif !qV.v a then kr [] ah else bif !Jc.v d e f h then kr [] ah else bif decide (fG.v a e<0)then bif d !=1 then kr [] ah else h0 kr a d e f h else h0 kr a d e f h else af else af
def vo:=b λr0 r1=>ab (r0,r1)
def c:=λa d e f h=>(vo a d e f h).isSome
def v:=λa d e f h=>(vo a d e f h).getD ([],ah)
theorem out{x}:∀a d e f h,vo a d e f h=ab x->c a d e f h=ae/\v a d e f h=x:=λ_ _ _ _ _=>Lib.dN
end VB

namespace MS
def b(kr:x8 R)(a:aY)(d:ai):ar R:=bif fG.c a d then bif decide (fG.v a d<0)then kr ⟨#[]⟩ ah else bif decide (0<=fG.v a d)&&decide (fG.v a d<(a.length:ax))then kr (bW (ao a (fG.v a d).toNat 1)) ae else af else af
def vo:=b λr0 r1=>ab (r0,r1)
def c:=λa d=>(vo a d).isSome
def v:=λa d=>(vo a d).getD (⟨#[]⟩,ah)
end MS

namespace rJ
def b(kr:Io R)(a:ai)(d:ax):ar R:=bif !(eW.v a d).2.2 then kr ⟨#[]⟩ 0 ah else bif decide ((eW.v a d).1>20000)then kr ⟨#[]⟩ 0 ah else bif decide ((eW.v a d).1>bE ((a.size:ax)-(eW.v a d).2.1))then kr ⟨#[]⟩ 0 ah else bif iV (eW.v a d).2.1 (bE ((eW.v a d).2.1+(eW.v a d).1)) (a.size:ax)then kr (cg a (eW.v a d).2.1.toNat (bE ((eW.v a d).2.1+(eW.v a d).1)).toNat) (bE ((eW.v a d).2.1+(eW.v a d).1)) ae else af
def v(sN:ai)(kB:ax):ai×ax×aL:=Lib.tZ sN kB
end rJ

namespace Jk
def b(kr:EM R)(a:ai):ar R:=bif !(rJ.v a 0).2.2 then kr ⟨#[]⟩ 0 0 ⟨#[]⟩ ah else bif !(eW.v a (rJ.v a 0).2.1).2.2 then kr ⟨#[]⟩ 0 0 ⟨#[]⟩ ah else bif !(eW.v a (eW.v a (rJ.v a 0).2.1).2.1).2.2 then kr ⟨#[]⟩ 0 0 ⟨#[]⟩ ah else bif iV (eW.v a (eW.v a (rJ.v a 0).2.1).2.1).2.1 (a.size:ax) (a.size:ax)then bif !uQ.v (rJ.v a 0).1 (eW.v a (rJ.v a 0).2.1).1 (eW.v a (eW.v a (rJ.v a 0).2.1).2.1).1 (cg a (eW.v a (eW.v a (rJ.v a 0).2.1).2.1).2.1.toNat (a.size:ax).toNat)then kr ⟨#[]⟩ 0 0 ⟨#[]⟩ ah else kr (rJ.v a 0).1 (eW.v a (rJ.v a 0).2.1).1 (eW.v a (eW.v a (rJ.v a 0).2.1).2.1).1 (cg a (eW.v a (eW.v a (rJ.v a 0).2.1).2.1).2.1.toNat (a.size:ax).toNat) ae else af
def v(t0:ai):ai×ax×ax×ai×aL:=z6.v t0
end Jk

namespace Y0
def r7(N:au)(g k0:C7 R)(a d:ax)(e f:aY):ar R:=bif decide (d<a)then bif decide (0<=d)&&decide (d<(f.length:ax))then bif(Jk.v (bW (ao f d.toNat 0))).2.2.2.2 then bif E9.c e (Jk.v (bW (ao f d.toNat 0))).1 (Jk.v (bW (ao f d.toNat 0))).2.1 (Jk.v (bW (ao f d.toNat 0))).2.2.1 (Jk.v (bW (ao f d.toNat 0))).2.2.2.1 then g a (bE (d+1)) (E9.v e (Jk.v (bW (ao f d.toNat 0))).1 (Jk.v (bW (ao f d.toNat 0))).2.1 (Jk.v (bW (ao f d.toNat 0))).2.2.1 (Jk.v (bW (ao f d.toNat 0))).2.2.2.1) f else af else g a (bE (d+1)) e f else af else k0 a d e f
def l7(N:au)(k0:C7 R):au->C7 R
 |0=>λ_ _ _ _=>af
 |n+1=>r7 N (l7 N k0 n) k0
def b(N:au)(kr:aY->ar R)(a:aY):ar R:=bif qV.c a then bif !qV.v a then kr (aM [Ck.s,Ck.i aj,Ck.i aj,Ck.s] 0)else bif MS.c a {data:= #[ay 107,ay 101,ay 112,ay 116]}then bif U67.c (MS.v a {data:= #[ay 107,ay 101,ay 112,ay 116]}).1 then l7 N (λ_ _ d _=>kr d) N ((U67.v (MS.v a {data:= #[ay 107,ay 101,ay 112,ay 116]}).1).1.length:ax) 0 (aM [Ck.s,Ck.i aj,Ck.i aj,Ck.s] 0) (U67.v (MS.v a {data:= #[ay 107,ay 101,ay 112,ay 116]}).1).1 else af else af else af
def vo:=b Lib.dE λr0=>ab r0
def c:=λa=>(vo a).isSome
def v:=λa=>(vo a).getD ([])
end Y0

namespace Ut
def r7(N:au)(g k0:Bl R)(a:ax)(d e:aY):ar R:=bif decide (a<(e.length:ax))then bif decide (0<=a)&&decide (a<(e.length:ax))then bif(z6.v (bW (ao e a.toNat 0))).2.2.2.2 then bif k9.c d (z6.v (bW (ao e a.toNat 0))).1 (z6.v (bW (ao e a.toNat 0))).2.1 (z6.v (bW (ao e a.toNat 0))).2.2.1 (z6.v (bW (ao e a.toNat 0))).2.2.2.1 then g (bE (a+1)) (k9.v d (z6.v (bW (ao e a.toNat 0))).1 (z6.v (bW (ao e a.toNat 0))).2.1 (z6.v (bW (ao e a.toNat 0))).2.2.1 (z6.v (bW (ao e a.toNat 0))).2.2.2.1) e else af else g (bE (a+1)) d e else af else k0 a d e
def l7(N:au)(k0:Bl R):au->Bl R
 |0=>λ_ _ _=>af
 |n+1=>r7 N (l7 N k0 n) k0
def b(N:au)(kr:aY->ar R)(a:aY):ar R:=bif rQ.c a then bif !rQ.v a then kr (aM [Ck.s,Ck.i aj,Ck.i aj,Ck.s] 0)else bif Ji.c a {data:= #[ay 107,ay 101,ay 112,ay 116]}then bif E8.c (Ji.v a {data:= #[ay 107,ay 101,ay 112,ay 116]}).1 then l7 N (λ_ d _=>kr d) N 0 (aM [Ck.s,Ck.i aj,Ck.i aj,Ck.s] 0) (E8.v (Ji.v a {data:= #[ay 107,ay 101,ay 112,ay 116]}).1).1 else af else af else af
def vo:=b Lib.dE λr0=>ab r0
def c:=λa=>(vo a).isSome
def v:=λa=>(vo a).getD ([])
end Ut

namespace VA
def b(kr:Gx R)(a:ai)(d e:ax)(f:ai):ar R:=bif PM.c a d e f then bif !(PM.v a d e f).2 then kr [] ah else kr (aF (aF (aM [Ck.i aj,Ck.s,Ck.s,Ck.s] 2) 0 [.i .i64 1, .s {data:= #[ay 107,ay 101,ay 112,ay 116]}, .s (PM.v a d e f).1, .s ⟨#[]⟩]) 1 [.i .i64 2, .s {data:= #[ay 107,ay 101,ay 112,ay 116]}, .s ⟨#[]⟩, .s ⟨#[]⟩]) ae else af
def vo:=b λr0 r1=>ab (r0,r1)
def c:=λa d e f=>(vo a d e f).isSome
def v:=λa d e f=>(vo a d e f).getD ([],ah)
end VA

namespace qt
def r3(N:au)(g:nP R)(g1:lU R)(k0:nP R)(k1:lU R)(a:ax)(d:aY)(e f h:ax):ar R:=bif decide (a<(d.length:ax))then bif decide (0<=a)&&decide (a<(d.length:ax))then bif cX ((aM [Ck.i aj] 0).length+(ia (ao d a.toNat 0)).length) 8 then g1 (bE (a+1)) d e f h ([]++aF (aM [Ck.l 3] 1) 0 [CV.l 3 (aM [Ck.i aj] 0++ia (ao d a.toNat 0))])else af else af else k0 a d e f h
def K5(N:au)(g:nP R)(g1:lU R)(k0:nP R)(k1:lU R)(a:ax)(d:aY)(e f h:ax)(i:aY):ar R:=bif decide (a<(d.length:ax))then bif decide (0<=a)&&decide (a<(d.length:ax))then bif cX ((aM [Ck.i aj] 0).length+(ia (ao d a.toNat 0)).length) 8 then bif cX (i.length+(aF (aM [Ck.l 3] 1) 0 [CV.l 3 (aM [Ck.i aj] 0++ia (ao d a.toNat 0))]).length) 24 then g1 (bE (a+1)) d e f h (i++aF (aM [Ck.l 3] 1) 0 [CV.l 3 (aM [Ck.i aj] 0++ia (ao d a.toNat 0))])else af else af else af else k1 a d e f h i
def Ce(N:au)(k0:nP R)(k1:lU R):au->lU R
 |0=>λ_ _ _ _ _ _=>af
 |n+1=>K5 N (λx0 x1 x2 x3 x4=>af) (Ce N k0 k1 n) k0 k1
def l3(N:au)(k0:nP R)(k1:lU R):au->nP R
 |0=>λ_ _ _ _ _=>af
 |n+1=>r3 N (l3 N k0 k1 n) (Ce N k0 k1 n) k0 k1
def b(N:au)(kr:rG R)(a:aY)(d:ax):ar R:=l3 N (λ_ _ _ _ e=>kr [] e) (λ_ _ _ _ e f=>kr f e) N 0 a d 0 d
def vo:=b Lib.dE λr0 r1=>ab (r0,r1)
def c:=λa d=>(vo a d).isSome
def v:=λa d=>(vo a d).getD ([],0)
theorem out{x}:∀a d,vo a d=ab x->c a d=ae/\v a d=x:=λ_ _=>Lib.dN
end qt

namespace jQ
def b(kr:vU R)(a d e:aY)(f:ax):ar R:=bif cX ((aM [.s] 0).length+a.length) 16 then bif cX ((aM [.s] 0).length+d.length) 16 then bif qt.c e f then kr (aM [.s] 0++a) (aM [.s] 0++d) (qt.v e f).1 (qt.v e f).2 else af else af else af
def vo:=b λr0 r1 r2 r3=>ab (r0,r1,r2,r3)
def c:=λa d e f=>(vo a d e f).isSome
def v:=λa d e f=>(vo a d e f).getD ([],[],[],0)
end jQ

namespace fu
def b(kr:ax->ar R)(a:ax)(d:ai):ar R:=bif decide (d.size+(bytesOf (aF (aM [Ck.i aU] 1) 0 [CV.i aU (bj aU a)])).size<=4611686018427387904)then bif tH.c (d++bytesOf (aF (aM [Ck.i aU] 1) 0 [CV.i aU (bj aU a)]))then kr (bE (bL (tH.v (d++bytesOf (aF (aM [Ck.i aU] 1) 0 [CV.i aU (bj aU a)]))) 16))else af else af
def vo:=b λr0=>ab r0
def c:=λa d=>(vo a d).isSome
def v:=λa d=>(vo a d).getD (0)
theorem out{x}:∀a d,vo a d=ab x->c a d=ae/\v a d=x:=λ_ _=>Lib.dN
end fu

namespace dm
def r17(N:au)(g k0:lD R)(a d e f:ax)(h:aY):ar R:=bif decide (0<=a)&&decide (a<(h.length:ax))then bif decide (d<((ia (ao h a.toNat 0)).length:ax))then bif decide (0<=a)&&decide (a<(h.length:ax))then bif decide (0<=a)&&decide (a<(h.length:ax))then bif decide (0<=d)&&decide (d<((ia (ao h a.toNat 0)).length:ax))then bif decide (0<=d)&&decide (d<((ia (ao h a.toNat 0)).length:ax))then g a (bE (d+1)) e f (dP h a.toNat 0 [CV.l 3 (dP (ia (ao h a.toNat 0)) d.toNat 0 [.i .i64 (bE (cj (cw (ao (ia (ao h a.toNat 0)) d.toNat 0)) 2))])])else af else af else af else af else k0 a d e f h else af
def Tt(N:au)(k0:lD R):au->lD R
 |0=>λ_ _ _ _ _=>af
 |n+1=>r17 N (Tt N k0 n) k0
def r14(N:au)(g k0:kh R)(a d e:ax)(f:aY):ar R:=bif decide (a<(f.length:ax))then Tt N (λh _ i j l=>g (bE (h+1)) i j l) N a 0 d e f else k0 a d e f
def Tq(N:au)(k0:kh R):au->kh R
 |0=>λ_ _ _ _=>af
 |n+1=>r14 N (Tq N k0 n) k0
def r5(N:au)(g k0:zI R)(a:ai)(d e f:ax)(h:aY):ar R:=bif decide (d<(h.length:ax))then bif fu.c d a then bif decide (0<=d)&&decide (d<(h.length:ax))then bif decide (0<=fu.v d a)&&decide (fu.v d a<((ia (ao h d.toNat 0)).length:ax))then bif decide (cw (ao (ia (ao h d.toNat 0)) (fu.v d a).toNat 0)<15)then bif decide (0<=d)&&decide (d<(h.length:ax))then bif decide (0<=fu.v d a)&&decide (fu.v d a<((ia (ao h d.toNat 0)).length:ax))then bif decide (0<=fu.v d a)&&decide (fu.v d a<((ia (ao h d.toNat 0)).length:ax))then g a (bE (d+1)) e f (dP h d.toNat 0 [CV.l 3 (dP (ia (ao h d.toNat 0)) (fu.v d a).toNat 0 [.i .i64 (bE (cw (ao (ia (ao h d.toNat 0)) (fu.v d a).toNat 0)+1))])])else af else af else af else g a (bE (d+1)) e f h else af else af else af else k0 a d e f h
def l5(N:au)(k0:zI R):au->zI R
 |0=>λ_ _ _ _ _=>af
 |n+1=>r5 N (l5 N k0 n) k0
def b(N:au)(kr:rG R)(a:aY)(d:ax)(e:ai):ar R:=bif qt.c a d then bif e_.c a d then bif !e_.v a d then kr (qt.v a d).1 (qt.v a d).2 else l5 N (λ_ _ f h i=>bif decide (bE (h+1)=64)then Tq N (λ_ _ j l=>kr l j) N 0 f 0 i else kr i (bE (h+1))) N e 0 0 (qt.v a d).2 (qt.v a d).1 else af else af
def vo:=b Lib.dE λr0 r1=>ab (r0,r1)
def c:=λa d e=>(vo a d e).isSome
def v:=λa d e=>(vo a d e).getD ([],0)
theorem out{x}:∀a d e,vo a d e=ab x->c a d e=ae/\v a d e=x:=λ_ _ _=>Lib.dN
end dm

namespace uP
def r3(N:au)(g k0:C_ R)(a:aY)(d:ai)(e:ax)(f:aY):ar R:=bif decide (e<(a.length:ax))then bif decide (0<=e)&&decide (e<(a.length:ax))then bif !List.beq (bW (ao a e.toNat 0)).toList (aA d)then bif decide (0<=e)&&decide (e<(a.length:ax))then bif cX (f.length+(aF (aM [.s] 1) 0 [.s (bW (ao a e.toNat 0))]).length) 16 then g a d (bE (e+1)) (f++aF (aM [.s] 1) 0 [.s (bW (ao a e.toNat 0))])else af else af else g a d (bE (e+1)) f else af else k0 a d e f
def l3(N:au)(k0:C_ R):au->C_ R
 |0=>λ_ _ _ _=>af
 |n+1=>r3 N (l3 N k0 n) k0
def b(N:au)(kr:aY->ar R)(a:aY)(d:ai):ar R:=l3 N (λ_ _ _ e=>kr e) N a d 0 (aM [.s] 0)
def vo:=b Lib.dE λr0=>ab r0
def c:=λa d=>(vo a d).isSome
def v:=λa d=>(vo a d).getD ([])
end uP

namespace lY
def r5(N:au)(g k0:zJ R)(a:ai)(d e:ax)(f:aY)(h:ax):ar R:=bif decide (e<(f.length:ax))then bif decide (0<=e)&&decide (e<(f.length:ax))then bif fu.c e a then bif decide (0<=fu.v e a)&&decide (fu.v e a<((ia (ao f e.toNat 0)).length:ax))then bif decide (cw (ao (ia (ao f e.toNat 0)) (fu.v e a).toNat 0)<d)then g a (cw (ao (ia (ao f e.toNat 0)) (fu.v e a).toNat 0)) (bE (e+1)) f h else g a d (bE (e+1)) f h else af else af else af else k0 a d e f h
def l5(N:au)(k0:zJ R):au->zJ R
 |0=>λ_ _ _ _ _=>af
 |n+1=>r5 N (l5 N k0 n) k0
def b(N:au)(kr:ax->ar R)(a:aY)(d:ax)(e:ai):ar R:=bif e_.c a d then bif !e_.v a d then kr 0 else l5 N (λ_ f _ _ _=>kr f) N e 15 0 a d else af
def vo:=b Lib.dE λr0=>ab r0
def c:=λa d e=>(vo a d e).isSome
def v:=λa d e=>(vo a d e).getD (0)
end lY

namespace iy
def b(kr:EL R)(a d e:aY)(f:ax)(h:ai):ar R:=bif jQ.c a d e f then bif jW.c a d e f then bif !jW.v a d e f then kr (jQ.v a d e f).1 (jQ.v a d e f).2.1 (jQ.v a d e f).2.2.1 (jQ.v a d e f).2.2.2 ⟨#[]⟩else bif !tG.v h then kr (jQ.v a d e f).1 (jQ.v a d e f).2.1 (jQ.v a d e f).2.2.1 (jQ.v a d e f).2.2.2 ⟨#[]⟩else bif dm.c e f h then bif fC.c a h then bif fC.v a h then bif uP.c a h then bif cX ((uP.v a h).length+(aF (aM [.s] 1) 0 [.s h]).length) 16 then kr (uP.v a h++aF (aM [.s] 1) 0 [.s h]) (jQ.v a d e f).2.1 (dm.v e f h).1 (dm.v e f h).2 ⟨#[]⟩else af else af else bif fC.c d h then bif fC.v d h then bif uP.c d h then bif cX ((uP.v d h).length+(aF (aM [.s] 1) 0 [.s h]).length) 16 then kr (jQ.v a d e f).1 (uP.v d h++aF (aM [.s] 1) 0 [.s h]) (dm.v e f h).1 (dm.v e f h).2 ⟨#[]⟩else af else af else bif cX ((jQ.v a d e f).1.length+(aF (aM [.s] 1) 0 [.s h]).length) 16 then bif decide ((((jQ.v a d e f).1++aF (aM [.s] 1) 0 [.s h]).length:ax)<=2)then kr ((jQ.v a d e f).1++aF (aM [.s] 1) 0 [.s h]) (jQ.v a d e f).2.1 (dm.v e f h).1 (dm.v e f h).2 ⟨#[]⟩else bif decide (0<(((jQ.v a d e f).1++aF (aM [.s] 1) 0 [.s h]).length:ax))then bif iV 1 (((jQ.v a d e f).1++aF (aM [.s] 1) 0 [.s h]).length:ax) (((jQ.v a d e f).1++aF (aM [.s] 1) 0 [.s h]).length:ax)then bif cX ((aM [.s] 0).length+(dM ((jQ.v a d e f).1++aF (aM [.s] 1) 0 [.s h]) (aX 1) (((jQ.v a d e f).1++aF (aM [.s] 1) 0 [.s h]).length:ax).toNat).length) 16 then bif decide (((jQ.v a d e f).2.1.length:ax)<4)then bif cX ((jQ.v a d e f).2.1.length+(aF (aM [.s] 1) 0 [.s (bW (ao ((jQ.v a d e f).1++aF (aM [.s] 1) 0 [.s h]) (aX 0) 0))]).length) 16 then kr (aM [.s] 0++dM ((jQ.v a d e f).1++aF (aM [.s] 1) 0 [.s h]) (aX 1) (((jQ.v a d e f).1++aF (aM [.s] 1) 0 [.s h]).length:ax).toNat) ((jQ.v a d e f).2.1++aF (aM [.s] 1) 0 [.s (bW (ao ((jQ.v a d e f).1++aF (aM [.s] 1) 0 [.s h]) (aX 0) 0))]) (dm.v e f h).1 (dm.v e f h).2 ⟨#[]⟩else af else bif lY.c (dm.v e f h).1 (dm.v e f h).2 (bW (ao ((jQ.v a d e f).1++aF (aM [.s] 1) 0 [.s h]) (aX 0) 0))then bif decide (0<((jQ.v a d e f).2.1.length:ax))then bif lY.c (dm.v e f h).1 (dm.v e f h).2 (bW (ao (jQ.v a d e f).2.1 (aX 0) 0))then bif decide (lY.v (dm.v e f h).1 (dm.v e f h).2 (bW (ao ((jQ.v a d e f).1++aF (aM [.s] 1) 0 [.s h]) (aX 0) 0))>lY.v (dm.v e f h).1 (dm.v e f h).2 (bW (ao (jQ.v a d e f).2.1 (aX 0) 0)))then bif decide (0<((jQ.v a d e f).2.1.length:ax))then bif iV 1 ((jQ.v a d e f).2.1.length:ax) ((jQ.v a d e f).2.1.length:ax)then bif cX ((aM [.s] 0).length+(dM (jQ.v a d e f).2.1 (aX 1) ((jQ.v a d e f).2.1.length:ax).toNat).length) 16 then bif cX ((aM [.s] 0++dM (jQ.v a d e f).2.1 (aX 1) ((jQ.v a d e f).2.1.length:ax).toNat).length+(aF (aM [.s] 1) 0 [.s (bW (ao ((jQ.v a d e f).1++aF (aM [.s] 1) 0 [.s h]) (aX 0) 0))]).length) 16 then kr (aM [.s] 0++dM ((jQ.v a d e f).1++aF (aM [.s] 1) 0 [.s h]) (aX 1) (((jQ.v a d e f).1++aF (aM [.s] 1) 0 [.s h]).length:ax).toNat) (aM [.s] 0++dM (jQ.v a d e f).2.1 (aX 1) ((jQ.v a d e f).2.1.length:ax).toNat++aF (aM [.s] 1) 0 [.s (bW (ao ((jQ.v a d e f).1++aF (aM [.s] 1) 0 [.s h]) (aX 0) 0))]) (dm.v e f h).1 (dm.v e f h).2 (bW (ao (jQ.v a d e f).2.1 (aX 0) 0))else af else af else af else af else kr (aM [.s] 0++dM ((jQ.v a d e f).1++aF (aM [.s] 1) 0 [.s h]) (aX 1) (((jQ.v a d e f).1++aF (aM [.s] 1) 0 [.s h]).length:ax).toNat) (jQ.v a d e f).2.1 (dm.v e f h).1 (dm.v e f h).2 (bW (ao ((jQ.v a d e f).1++aF (aM [.s] 1) 0 [.s h]) (aX 0) 0))else af else af else af else af else af else af else af else af else af else af else af else af
def vo:=b λr0 r1 r2 r3 r4=>ab (r0,r1,r2,r3,r4)
def c:=λa d e f h=>(vo a d e f h).isSome
def v:=λa d e f h=>(vo a d e f h).getD ([],[],[],0,⟨#[]⟩)
end iy

namespace PN
def r5(N:au)(g k0:zH R)(a d:aY)(e f:ax)(h:aY):ar R:=bif decide (f<e)then bif decide (0<=f)&&decide (f<(d.length:ax))then bif decide (f<(a.length:ax))then bif decide (0<=f)&&decide (f<(a.length:ax))then bif iV 0 (gj ae (cw (ao d f.toNat (1+1))) (gj ah (cw (ao a f.toNat 0)) ((bW (ao d f.toNat 1)).size:ax))) ((bW (ao d f.toNat 1)).size:ax)then bif decide (0<=f)&&decide (f<(h.length:ax))then g a d e (bE (f+1)) (dP h f.toNat 0 [.s (bW (ao d f.toNat 0)), .s (cg (bW (ao d f.toNat 1)) (aX 0) (gj ae (cw (ao d f.toNat (1+1))) (gj ah (cw (ao a f.toNat 0)) ((bW (ao d f.toNat 1)).size:ax))).toNat), .i .i64 (gj ae (cw (ao d f.toNat (1+1))) (gj ah (cw (ao a f.toNat 0)) ((bW (ao d f.toNat 1)).size:ax)))])else af else af else af else bif iV 0 (cw (ao d f.toNat (1+1))) ((bW (ao d f.toNat 1)).size:ax)then bif decide (0<=f)&&decide (f<(h.length:ax))then g a d e (bE (f+1)) (dP h f.toNat 0 [.s (bW (ao d f.toNat 0)), .s (cg (bW (ao d f.toNat 1)) (aX 0) (cw (ao d f.toNat (1+1))).toNat), .i .i64 (cw (ao d f.toNat (1+1)))])else af else af else af else k0 a d e f h
def l5(N:au)(k0:zH R):au->zH R
 |0=>λ_ _ _ _ _=>af
 |n+1=>r5 N (l5 N k0 n) k0
def b(N:au)(kr:Gx R)(a d:aY):ar R:=bif qV.c a then bif !qV.v a then kr [] ah else bif Jj.c a then l5 N (λ_ _ _ _ e=>kr e ae) N d a (a.length:ax) 0 (Jj.v a)else af else af
def vo:=b Lib.dE λr0 r1=>ab (r0,r1)
def c:=λa d=>(vo a d).isSome
def v:=λa d=>(vo a d).getD ([],ah)
end PN

namespace Uu
def r9(N:au)(g:vd R)(k0:Bm R)(k1:vd R)(a:aY)(d:aL)(e:ai)(f:ax)(h:aY):ar R:=bif decide (f<(a.length:ax))then bif decide (0<=f)&&decide (f<(a.length:ax))then bif nX.c (Dq.v (bW (ao a f.toNat 0)) (cw (ao a f.toNat 1)) (cw (ao a f.toNat (1+1))) (bW (ao a f.toNat (1+1+1)))).1 then bif !(Dq.v (bW (ao a f.toNat 0)) (cw (ao a f.toNat 1)) (cw (ao a f.toNat (1+1))) (bW (ao a f.toNat (1+1+1)))).2 then k0 a ah e f (aM [Ck.i aj,Ck.s,Ck.s,Ck.s] 0) h else bif !(nX.v (Dq.v (bW (ao a f.toNat 0)) (cw (ao a f.toNat 1)) (cw (ao a f.toNat (1+1))) (bW (ao a f.toNat (1+1+1)))).1).2 then k0 a ah e f (aM [Ck.i aj,Ck.s,Ck.s,Ck.s] 0) h else bif decide (e.size+(nX.v (Dq.v (bW (ao a f.toNat 0)) (cw (ao a f.toNat 1)) (cw (ao a f.toNat (1+1))) (bW (ao a f.toNat (1+1+1)))).1).1.size<=4611686018427387904)then g a d (e++(nX.v (Dq.v (bW (ao a f.toNat 0)) (cw (ao a f.toNat 1)) (cw (ao a f.toNat (1+1))) (bW (ao a f.toNat (1+1+1)))).1).1) (bE (f+1)) h else af else af else af else k1 a d e f h
def l9(N:au)(k0:Bm R)(k1:vd R):au->vd R
 |0=>λ_ _ _ _ _=>af
 |n+1=>r9 N (l9 N k0 k1 n) k0 k1
def b(N:au)(kr:Gx R)(a d:aY):ar R:=bif rQ.c a then bif !rQ.v a then kr (aM [Ck.i aj,Ck.s,Ck.s,Ck.s] 0) ah else bif Ji.c a {data:= #[ay 110,ay 101,ay 119]}then bif(Ji.v a {data:= #[ay 110,ay 101,ay 119]}).2 then l9 N (λ_ e _ _ f _=>kr f e) (λ_ _ e _ f=>bif cX (f.length+(aF (aF (aF (aM [Ck.i aj,Ck.s,Ck.s,Ck.s] 3) 0 [.i .i64 1, .s {data:= #[ay 110,ay 101,ay 119]}, .s e, .s ⟨#[]⟩]) 1 [.i .i64 2, .s {data:= #[ay 110,ay 101,ay 119]}, .s ⟨#[]⟩, .s ⟨#[]⟩]) 2 [.i .i64 3, .s {data:= #[ay 110,ay 101,ay 119]}, .s ⟨#[]⟩, .s {data:= #[ay 107,ay 101,ay 112,ay 116]}]).length) 56 then kr (f++aF (aF (aF (aM [Ck.i aj,Ck.s,Ck.s,Ck.s] 3) 0 [.i .i64 1, .s {data:= #[ay 110,ay 101,ay 119]}, .s e, .s ⟨#[]⟩]) 1 [.i .i64 2, .s {data:= #[ay 110,ay 101,ay 119]}, .s ⟨#[]⟩, .s ⟨#[]⟩]) 2 [.i .i64 3, .s {data:= #[ay 110,ay 101,ay 119]}, .s ⟨#[]⟩, .s {data:= #[ay 107,ay 101,ay 112,ay 116]}]) ae else af) N d ah ⟨#[]⟩ 0 (aM [Ck.i aj,Ck.s,Ck.s,Ck.s] 0++aF (aM [Ck.i aj,Ck.s,Ck.s,Ck.s] 1) 0 [.i .i64 4, .s {data:= #[ay 110,ay 101,ay 119]}, .s ⟨#[]⟩, .s ⟨#[]⟩])else l9 N (λ_ e _ _ f _=>kr f e) (λ_ _ e _ f=>bif cX (f.length+(aF (aF (aF (aM [Ck.i aj,Ck.s,Ck.s,Ck.s] 3) 0 [.i .i64 1, .s {data:= #[ay 110,ay 101,ay 119]}, .s e, .s ⟨#[]⟩]) 1 [.i .i64 2, .s {data:= #[ay 110,ay 101,ay 119]}, .s ⟨#[]⟩, .s ⟨#[]⟩]) 2 [.i .i64 3, .s {data:= #[ay 110,ay 101,ay 119]}, .s ⟨#[]⟩, .s {data:= #[ay 107,ay 101,ay 112,ay 116]}]).length) 56 then kr (f++aF (aF (aF (aM [Ck.i aj,Ck.s,Ck.s,Ck.s] 3) 0 [.i .i64 1, .s {data:= #[ay 110,ay 101,ay 119]}, .s e, .s ⟨#[]⟩]) 1 [.i .i64 2, .s {data:= #[ay 110,ay 101,ay 119]}, .s ⟨#[]⟩, .s ⟨#[]⟩]) 2 [.i .i64 3, .s {data:= #[ay 110,ay 101,ay 119]}, .s ⟨#[]⟩, .s {data:= #[ay 107,ay 101,ay 112,ay 116]}]) ae else af) N d ah ⟨#[]⟩ 0 (aM [Ck.i aj,Ck.s,Ck.s,Ck.s] 0)else af else af
def vo:=b Lib.dE λr0 r1=>ab (r0,r1)
def c:=λa d=>(vo a d).isSome
def v:=λa d=>(vo a d).getD ([],ah)
end Uu

namespace fF
def b(kr:eJ R)(a:ax)(d e f h:aY)(i:ax)(j l:aY)(m:ax):ar R:=bif cX ((aM [Ck.s,Ck.i aj,Ck.i aj,Ck.s] 0).length+d.length) 48 then bif jQ.c e f h i then bif cX ((aM [Ck.s,Ck.s,Ck.i aj,Ck.i aj,Ck.i aj] 0).length+j.length) 56 then bif cX ((aM [Ck.i aj,Ck.s,Ck.i aj,Ck.i aj,Ck.i aj,Ck.s,Ck.i aj] 0).length+l.length) 72 then kr a (aM [Ck.s,Ck.i aj,Ck.i aj,Ck.s] 0++d) (jQ.v e f h i).1 (jQ.v e f h i).2.1 (jQ.v e f h i).2.2.1 (jQ.v e f h i).2.2.2 (aM [Ck.s,Ck.s,Ck.i aj,Ck.i aj,Ck.i aj] 0++j) (aM [Ck.i aj,Ck.s,Ck.i aj,Ck.i aj,Ck.i aj,Ck.s,Ck.i aj] 0++l) m else af else af else af else af
def vo:=b λr0 r1 r2 r3 r4 r5 r6 r7 r8=>ab (r0,r1,r2,r3,r4,r5,r6,r7,r8)
def c:=λa d e f h i j l m=>(vo a d e f h i j l m).isSome
def v:=λa d e f h i j l m=>(vo a d e f h i j l m).getD (0,[],[],[],[],0,[],[],0)
end fF

namespace z5
def b(kr:eJ R)(a:ax)(d e f h:aY)(i:ax)(j l:aY)(m o:ax):ar R:=bif fF.c a d e f h i j l m then bif decide (bL o 1000<0)then bif decide ((fF.v a d e f h i j l m).1>bE (1000000000-bE (bL o 1000+1000)))then kr 1000000000 (fF.v a d e f h i j l m).2.1 (fF.v a d e f h i j l m).2.2.1 (fF.v a d e f h i j l m).2.2.2.1 (fF.v a d e f h i j l m).2.2.2.2.1 (fF.v a d e f h i j l m).2.2.2.2.2.1 (fF.v a d e f h i j l m).2.2.2.2.2.2.1 (fF.v a d e f h i j l m).2.2.2.2.2.2.2.1 (fF.v a d e f h i j l m).2.2.2.2.2.2.2.2 else kr (bE ((fF.v a d e f h i j l m).1+bE (bL o 1000+1000))) (fF.v a d e f h i j l m).2.1 (fF.v a d e f h i j l m).2.2.1 (fF.v a d e f h i j l m).2.2.2.1 (fF.v a d e f h i j l m).2.2.2.2.1 (fF.v a d e f h i j l m).2.2.2.2.2.1 (fF.v a d e f h i j l m).2.2.2.2.2.2.1 (fF.v a d e f h i j l m).2.2.2.2.2.2.2.1 (fF.v a d e f h i j l m).2.2.2.2.2.2.2.2 else bif decide ((fF.v a d e f h i j l m).1>bE (1000000000-bL o 1000))then kr 1000000000 (fF.v a d e f h i j l m).2.1 (fF.v a d e f h i j l m).2.2.1 (fF.v a d e f h i j l m).2.2.2.1 (fF.v a d e f h i j l m).2.2.2.2.1 (fF.v a d e f h i j l m).2.2.2.2.2.1 (fF.v a d e f h i j l m).2.2.2.2.2.2.1 (fF.v a d e f h i j l m).2.2.2.2.2.2.2.1 (fF.v a d e f h i j l m).2.2.2.2.2.2.2.2 else kr (bE ((fF.v a d e f h i j l m).1+bL o 1000)) (fF.v a d e f h i j l m).2.1 (fF.v a d e f h i j l m).2.2.1 (fF.v a d e f h i j l m).2.2.2.1 (fF.v a d e f h i j l m).2.2.2.2.1 (fF.v a d e f h i j l m).2.2.2.2.2.1 (fF.v a d e f h i j l m).2.2.2.2.2.2.1 (fF.v a d e f h i j l m).2.2.2.2.2.2.2.1 (fF.v a d e f h i j l m).2.2.2.2.2.2.2.2 else af
def vo:=b λr0 r1 r2 r3 r4 r5 r6 r7 r8=>ab (r0,r1,r2,r3,r4,r5,r6,r7,r8)
def c:=λa d e f h i j l m o=>(vo a d e f h i j l m o).isSome
def v:=λa d e f h i j l m o=>(vo a d e f h i j l m o).getD (0,[],[],[],[],0,[],[],0)
end z5

namespace R2
def r4(N:au)(g k0:gi R)(a d e:ax)(f h i j:aY)(l:ax)(m o:aY)(p q r s t u w:ax)(y z α xa xb xc:aY):ar R:=bif decide (d<(o.length:ax))then bif decide (0<=d)&&decide (d<(o.length:ax))then bif cw (ao o d.toNat 0) !=a then bif decide (0<=d)&&decide (d<(o.length:ax))then bif cX (xc.length+(aF (aM [Ck.i aj,Ck.s,Ck.i aj,Ck.i aj,Ck.i aj,Ck.s,Ck.i aj] 1) 0 [.i .i64 (cw (ao o d.toNat 0)), .s (bW (ao o d.toNat 1)), .i .i64 (cw (ao o d.toNat (1+1))), .i .i64 (cw (ao o d.toNat (1+1+1))), .i .i64 (cw (ao o d.toNat (1+1+1+1))), .s (bW (ao o d.toNat (1+1+1+1+1))), .i .i64 (cw (ao o d.toNat (1+1+1+1+1+1)))]).length) 72 then g a (bE (d+1)) e f h i j l m o p q r s t u w y z α xa xb (xc++aF (aM [Ck.i aj,Ck.s,Ck.i aj,Ck.i aj,Ck.i aj,Ck.s,Ck.i aj] 1) 0 [.i .i64 (cw (ao o d.toNat 0)), .s (bW (ao o d.toNat 1)), .i .i64 (cw (ao o d.toNat (1+1))), .i .i64 (cw (ao o d.toNat (1+1+1))), .i .i64 (cw (ao o d.toNat (1+1+1+1))), .s (bW (ao o d.toNat (1+1+1+1+1))), .i .i64 (cw (ao o d.toNat (1+1+1+1+1+1)))])else af else af else g a (bE (d+1)) e f h i j l m o p q r s t u w y z α xa xb xc else af else k0 a d e f h i j l m o p q r s t u w y z α xa xb xc
def l4(N:au)(k0:gi R):au->gi R
 |0=>λ_ _ _ _ _ _ _ _ _ _ _ _ _ _ _ _ _ _ _ _ _ _ _=>af
 |n+1=>r4 N (l4 N k0 n) k0
def b(N:au)(kr:eJ R)(a:ax)(d e f h:aY)(i:ax)(j l:aY)(m o:ax):ar R:=bif fF.c a d e f h i j l m then l4 N (λ_ _ _ _ _ _ _ _ _ _ _ _ _ _ p q r s t u w y z=>kr p s t u w q y z r) N o 0 a d e f h i j l m 0 0 0 (fF.v a d e f h i j l m).1 (fF.v a d e f h i j l m).2.2.2.2.2.1 (fF.v a d e f h i j l m).2.2.2.2.2.2.2.2 (fF.v a d e f h i j l m).2.1 (fF.v a d e f h i j l m).2.2.1 (fF.v a d e f h i j l m).2.2.2.1 (fF.v a d e f h i j l m).2.2.2.2.1 (fF.v a d e f h i j l m).2.2.2.2.2.2.1 (aM [Ck.i aj,Ck.s,Ck.i aj,Ck.i aj,Ck.i aj,Ck.s,Ck.i aj] 0)else af
def vo:=b Lib.dE λr0 r1 r2 r3 r4 r5 r6 r7 r8=>ab (r0,r1,r2,r3,r4,r5,r6,r7,r8)
def c:=λa d e f h i j l m o=>(vo a d e f h i j l m o).isSome
def v:=λa d e f h i j l m o=>(vo a d e f h i j l m o).getD (0,[],[],[],[],0,[],[],0)
end R2

namespace Je
def b(kr:va R)(a:aY)(d e:ax)(f:aY):ar R:=bif vh.c a d e (f.length:ax)then bif decide (0<=(vh.v a d e (f.length:ax)).1)&&decide ((vh.v a d e (f.length:ax)).1<(f.length:ax))then kr (cw (ao f (vh.v a d e (f.length:ax)).1.toNat 0)) (vh.v a d e (f.length:ax)).2.1 (vh.v a d e (f.length:ax)).2.2.1 (vh.v a d e (f.length:ax)).2.2.2 f else af else af
def vo:=b λr0 r1 r2 r3 r4=>ab (r0,r1,r2,r3,r4)
def c:=λa d e f=>(vo a d e f).isSome
def v:=λa d e f=>(vo a d e f).getD (0,[],0,0,[])
end Je

namespace ya
def b(kr:MB R)(a:aY)(d e:ax)(f:aY):ar R:=bif vh.c a d e (f.length:ax)then bif decide (0<=(vh.v a d e (f.length:ax)).1)&&decide ((vh.v a d e (f.length:ax)).1<(f.length:ax))then kr (bW (ao f (vh.v a d e (f.length:ax)).1.toNat 0)) (vh.v a d e (f.length:ax)).2.1 (vh.v a d e (f.length:ax)).2.2.1 (vh.v a d e (f.length:ax)).2.2.2 f else af else af
def vo:=b λr0 r1 r2 r3 r4=>ab (r0,r1,r2,r3,r4)
def c:=λa d e f=>(vo a d e f).isSome
def v:=λa d e f=>(vo a d e f).getD (⟨#[]⟩,[],0,0,[])
end ya

namespace Jd
def b(kr:Rx R)(a:aY)(d e:ax):ar R:=bif ya.c a d e (aF (aF (aF (aF (aF (aF (aF (aF (aM [.s] 8) 0 [.s {data:= #[ay 47,ay 97]}]) 1 [.s {data:= #[ay 47,ay 98]}]) 2 [.s {data:= #[ay 47,ay 99]}]) 3 [.s {data:= #[ay 47,ay 100]}]) 4 [.s {data:= #[ay 47,ay 101]}]) 5 [.s {data:= #[ay 47,ay 102]}]) 6 [.s {data:= #[ay 47,ay 103]}]) 7 [.s {data:= #[ay 47,ay 104]}])then kr (ya.v a d e (aF (aF (aF (aF (aF (aF (aF (aF (aM [.s] 8) 0 [.s {data:= #[ay 47,ay 97]}]) 1 [.s {data:= #[ay 47,ay 98]}]) 2 [.s {data:= #[ay 47,ay 99]}]) 3 [.s {data:= #[ay 47,ay 100]}]) 4 [.s {data:= #[ay 47,ay 101]}]) 5 [.s {data:= #[ay 47,ay 102]}]) 6 [.s {data:= #[ay 47,ay 103]}]) 7 [.s {data:= #[ay 47,ay 104]}])).1 (ya.v a d e (aF (aF (aF (aF (aF (aF (aF (aF (aM [.s] 8) 0 [.s {data:= #[ay 47,ay 97]}]) 1 [.s {data:= #[ay 47,ay 98]}]) 2 [.s {data:= #[ay 47,ay 99]}]) 3 [.s {data:= #[ay 47,ay 100]}]) 4 [.s {data:= #[ay 47,ay 101]}]) 5 [.s {data:= #[ay 47,ay 102]}]) 6 [.s {data:= #[ay 47,ay 103]}]) 7 [.s {data:= #[ay 47,ay 104]}])).2.1 (ya.v a d e (aF (aF (aF (aF (aF (aF (aF (aF (aM [.s] 8) 0 [.s {data:= #[ay 47,ay 97]}]) 1 [.s {data:= #[ay 47,ay 98]}]) 2 [.s {data:= #[ay 47,ay 99]}]) 3 [.s {data:= #[ay 47,ay 100]}]) 4 [.s {data:= #[ay 47,ay 101]}]) 5 [.s {data:= #[ay 47,ay 102]}]) 6 [.s {data:= #[ay 47,ay 103]}]) 7 [.s {data:= #[ay 47,ay 104]}])).2.2.1 (ya.v a d e (aF (aF (aF (aF (aF (aF (aF (aF (aM [.s] 8) 0 [.s {data:= #[ay 47,ay 97]}]) 1 [.s {data:= #[ay 47,ay 98]}]) 2 [.s {data:= #[ay 47,ay 99]}]) 3 [.s {data:= #[ay 47,ay 100]}]) 4 [.s {data:= #[ay 47,ay 101]}]) 5 [.s {data:= #[ay 47,ay 102]}]) 6 [.s {data:= #[ay 47,ay 103]}]) 7 [.s {data:= #[ay 47,ay 104]}])).2.2.2.1 else af
def vo:=b λr0 r1 r2 r3=>ab (r0,r1,r2,r3)
def c:=λa d e=>(vo a d e).isSome
def v:=λa d e=>(vo a d e).getD (⟨#[]⟩,[],0,0)
end Jd

end Go.FG
