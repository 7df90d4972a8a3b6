/- Functions of the program, told as functions of numbers, texts and lists, and what each comes to. No condition but those that each states. -/
import Derived.Test.YtilcgpcemjeaeaaGreatLib
import Derived.Test.YtilcgpcemjeaeaaGreatPExactRunLifea
set_option linter.unusedVariables false
set_option linter.unusedSimpArgs false
set_option maxRecDepth 100000
open Bool renaming false->ak,true->ai,cond_eq_ite->ca
open ByteArray renaming toList->aA,size->b8
open Go.IntKind renaming u8->ba,wrap->bE
open Int renaming tmod->cT,tdiv->c7
open List renaming set->aL
open Option renaming none->aj,some->ah
open UInt8 renaming ofNat->aP
open _root_ renaming Bool->aY,Option->ay,ByteArray->aq,Int->aw,Nat->aC
namespace Go.FG
variable {R:Type}
namespace LB
def b(kr:aY->ay R)(a d:aq)(e f h:aw)(i j:aq)(l m o:aw):ay R:=bif !List.beq (aA a) (aA i)then kr ak else bif !List.beq (aA d) (aA j)then kr ak else bif e !=l then kr ak else bif f !=m then kr ak else bif h !=o then kr ak else kr ai
def v(a0 a1:aq)(a2 a3 a4:aw)(a5 a6:aq)(a7 a8 a9:aw):aY:=bif !List.beq (aA a0) (aA a5)then ak else bif !List.beq (aA a1) (aA a6)then ak else bif a2 !=a7 then ak else bif a3 !=a8 then ak else bif a4 !=a9 then ak else ai
theorem dP(kr:aY->ay R)(a0 a1:aq)(a2 a3 a4:aw)(a5 a6:aq)(a7 a8 a9:aw):b kr a0 a1 a2 a3 a4 a5 a6 a7 a8 a9=kr (v a0 a1 a2 a3 a4 a5 a6 a7 a8 a9):=by first|rfl|(unfold b v;simp only[ca];(repeat' split)<;>rfl)
end LB

namespace BN
def r4(N:aC)(g k0 k1:iL R)(a d:aQ)(e:aY)(f:aw):ay R:=bif decide (f<(a.length:aw))then bif decide (0<=f)&&decide (f<(a.length:aw))then bif decide (0<=f)&&decide (f<(d.length:aw))then bif !LB.v (bz (ar a f.toNat 0)) (bz (ar a f.toNat 1)) (bF (ar a f.toNat (1+1))) (bF (ar a f.toNat (1+1+1))) (bF (ar a f.toNat (1+1+1+1))) (bz (ar d f.toNat 0)) (bz (ar d f.toNat 1)) (bF (ar d f.toNat (1+1))) (bF (ar d f.toNat (1+1+1))) (bF (ar d f.toNat (1+1+1+1)))then k0 a d ak f else g a d e (br (f+1))else aj else aj else k1 a d e f
def l4(N:aC)(k0 k1:iL R):aC->iL R
 |0=>λ_ _ _ _=>aj
 |n+1=>r4 N (l4 N k0 k1 n) k0 k1
def b(N:aC)(kr:aY->ay R)(a d:aQ):ay R:=bif(a.length:aw) !=(d.length:aw)then kr ak else l4 N (λ_ _ e _=>kr e) (λ_ _ _ _=>kr ai) N a d ak 0
def vo:=b Lib.cy λr0=>ah r0
def c:=λa d=>(vo a d).isSome
def v:=λa d=>(vo a d).getD ak
theorem out{x}:∀a d,vo a d=ah x->c a d=ai/\v a d=x:=λ_ _=>Lib.cY
end BN

namespace LC
def b(kr:aY->ay R)(a:aw)(d:aq)(e f h:aw)(i:aq)(j l:aw)(m:aq)(o p q:aw)(r:aq)(s:aw):ay R:=bif a !=l then kr ak else bif !List.beq (aA d) (aA m)then kr ak else bif e !=o then kr ak else bif f !=p then kr ak else bif h !=q then kr ak else bif !List.beq (aA i) (aA r)then kr ak else bif j !=s then kr ak else kr ai
def v(a0:aw)(a1:aq)(a2 a3 a4:aw)(a5:aq)(a6 a7:aw)(a8:aq)(a9 a10 a11:aw)(a12:aq)(a13:aw):aY:=bif a0 !=a7 then ak else bif !List.beq (aA a1) (aA a8)then ak else bif a2 !=a9 then ak else bif a3 !=a10 then ak else bif a4 !=a11 then ak else bif !List.beq (aA a5) (aA a12)then ak else bif a6 !=a13 then ak else ai
theorem dP(kr:aY->ay R)(a0:aw)(a1:aq)(a2 a3 a4:aw)(a5:aq)(a6 a7:aw)(a8:aq)(a9 a10 a11:aw)(a12:aq)(a13:aw):b kr a0 a1 a2 a3 a4 a5 a6 a7 a8 a9 a10 a11 a12 a13=kr (v a0 a1 a2 a3 a4 a5 a6 a7 a8 a9 a10 a11 a12 a13):=by first|rfl|(unfold b v;simp only[ca];(repeat' split)<;>rfl)
end LC

namespace BO
def r4(N:aC)(g k0 k1:iL R)(a d:aQ)(e:aY)(f:aw):ay R:=bif decide (f<(a.length:aw))then bif decide (0<=f)&&decide (f<(a.length:aw))then bif decide (0<=f)&&decide (f<(d.length:aw))then bif !LC.v (bF (ar a f.toNat 0)) (bz (ar a f.toNat 1)) (bF (ar a f.toNat (1+1))) (bF (ar a f.toNat (1+1+1))) (bF (ar a f.toNat (1+1+1+1))) (bz (ar a f.toNat (1+1+1+1+1))) (bF (ar a f.toNat (1+1+1+1+1+1))) (bF (ar d f.toNat 0)) (bz (ar d f.toNat 1)) (bF (ar d f.toNat (1+1))) (bF (ar d f.toNat (1+1+1))) (bF (ar d f.toNat (1+1+1+1))) (bz (ar d f.toNat (1+1+1+1+1))) (bF (ar d f.toNat (1+1+1+1+1+1)))then k0 a d ak f else g a d e (br (f+1))else aj else aj else k1 a d e f
def l4(N:aC)(k0 k1:iL R):aC->iL R
 |0=>λ_ _ _ _=>aj
 |n+1=>r4 N (l4 N k0 k1 n) k0 k1
def b(N:aC)(kr:aY->ay R)(a d:aQ):ay R:=bif(a.length:aw) !=(d.length:aw)then kr ak else l4 N (λ_ _ e _=>kr e) (λ_ _ _ _=>kr ai) N a d ak 0
def vo:=b Lib.cy λr0=>ah r0
def c:=λa d=>(vo a d).isSome
def v:=λa d=>(vo a d).getD ak
theorem out{x}:∀a d,vo a d=ah x->c a d=ai/\v a d=x:=λ_ _=>Lib.cY
end BO

namespace XA
def b(kr:aY->ay R)(a:aw)(d e f h:aQ)(i:aw)(j l:aQ)(m o:aw)(p q r s:aQ)(t:aw)(u w:aQ)(y:aw):ay R:=bif a !=o then kr ak else bif LK.c d p then bif !LK.v d p then kr ak else bif EN.c e f h i q r s t then bif !EN.v e f h i q r s t then kr ak else bif BN.c j u then bif !BN.v j u then kr ak else bif BO.c l w then bif !BO.v l w then kr ak else bif m !=y then kr ak else kr ai else aj else aj else aj else aj
def vo:=b λr0=>ah r0
def c:=λa d e f h i j l m o p q r s t u w y=>(vo a d e f h i j l m o p q r s t u w y).isSome
def v:=λa d e f h i j l m o p q r s t u w y=>(vo a d e f h i j l m o p q r s t u w y).getD ak
theorem out{x}:∀a d e f h i j l m o p q r s t u w y,vo a d e f h i j l m o p q r s t u w y=ah x->c a d e f h i j l m o p q r s t u w y=ai/\v a d e f h i j l m o p q r s t u w y=x:=λ_ _ _ _ _ _ _ _ _ _ _ _ _ _ _ _ _ _=>Lib.cY
end XA

namespace LD
def b(kr:aY->ay R)(a d:aq)(e:aw)(f h:aq)(i:aw):ay R:=bif !List.beq (aA a) (aA f)then kr ak else bif !List.beq (aA d) (aA h)then kr ak else bif e !=i then kr ak else kr ai
def v(a0 a1:aq)(a2:aw)(a3 a4:aq)(a5:aw):aY:=bif !List.beq (aA a0) (aA a3)then ak else bif !List.beq (aA a1) (aA a4)then ak else bif a2 !=a5 then ak else ai
theorem dP(kr:aY->ay R)(a0 a1:aq)(a2:aw)(a3 a4:aq)(a5:aw):b kr a0 a1 a2 a3 a4 a5=kr (v a0 a1 a2 a3 a4 a5):=by first|rfl|(unfold b v;simp only[ca];(repeat' split)<;>rfl)
end LD

namespace BP
def r4(N:aC)(g k0 k1:iL R)(a d:aQ)(e:aY)(f:aw):ay R:=bif decide (f<(a.length:aw))then bif decide (0<=f)&&decide (f<(a.length:aw))then bif decide (0<=f)&&decide (f<(d.length:aw))then bif !LD.v (bz (ar a f.toNat 0)) (bz (ar a f.toNat 1)) (bF (ar a f.toNat (1+1))) (bz (ar d f.toNat 0)) (bz (ar d f.toNat 1)) (bF (ar d f.toNat (1+1)))then k0 a d ak f else g a d e (br (f+1))else aj else aj else k1 a d e f
def l4(N:aC)(k0 k1:iL R):aC->iL R
 |0=>λ_ _ _ _=>aj
 |n+1=>r4 N (l4 N k0 k1 n) k0 k1
def b(N:aC)(kr:aY->ay R)(a d:aQ):ay R:=bif(a.length:aw) !=(d.length:aw)then kr ak else l4 N (λ_ _ e _=>kr e) (λ_ _ _ _=>kr ai) N a d ak 0
def vo:=b Lib.cy λr0=>ah r0
def c:=λa d=>(vo a d).isSome
def v:=λa d=>(vo a d).getD ak
theorem out{x}:∀a d,vo a d=ah x->c a d=ai/\v a d=x:=λ_ _=>Lib.cY
end BP

namespace XB
def b(kr:aY->ay R)(a d:aQ):ay R:=bif BP.c a d then bif !BP.v a d then kr ak else kr ai else aj
def vo:=b λr0=>ah r0
def c:=λa d=>(vo a d).isSome
def v:=λa d=>(vo a d).getD ak
theorem out{x}:∀a d,vo a d=ah x->c a d=ai/\v a d=x:=λ_ _=>Lib.cY
end XB

namespace Rw
def b(kr:aY->ay R)(a:aw)(d e f h:aQ)(i:aw)(j l:aQ)(m:aw)(o p q:aQ)(r:aw)(s t u w:aQ)(y:aw)(z α:aQ)(xa:aw)(xb xc xd:aQ):ay R:=bif XA.c a d e f h i j l m r s t u w y z α xa then bif !XA.v a d e f h i j l m r s t u w y z α xa then kr ak else bif XB.c o xb then bif !XB.v o xb then kr ak else bif !Qc.v p xc then kr ak else bif LK.c q xd then bif !LK.v q xd then kr ak else kr ai else aj else aj else aj
def vo:=b λr0=>ah r0
def c:=λa d e f h i j l m o p q r s t u w y z α xa xb xc xd=>(vo a d e f h i j l m o p q r s t u w y z α xa xb xc xd).isSome
def v:=λa d e f h i j l m o p q r s t u w y z α xa xb xc xd=>(vo a d e f h i j l m o p q r s t u w y z α xa xb xc xd).getD ak
theorem out{x}:∀a d e f h i j l m o p q r s t u w y z α xa xb xc xd,vo a d e f h i j l m o p q r s t u w y z α xa xb xc xd=ah x->c a d e f h i j l m o p q r s t u w y z α xa xb xc xd=ai/\v a d e f h i j l m o p q r s t u w y z α xa xb xc xd=x:=λ_ _ _ _ _ _ _ _ _ _ _ _ _ _ _ _ _ _ _ _ _ _ _ _=>Lib.cY
end Rw

namespace U70
def b(kr:aY->ay R)(a d:aw)(e:aq)(f:aw)(h:aQ)(i j:aw)(l:aq)(m:aw)(o:aQ):ay R:=bif a !=i then kr ak else bif d !=j then kr ak else bif !List.beq (aA e) (aA l)then kr ak else bif f !=m then kr ak else bif !Qc.v h o then kr ak else kr ai
def v(a0 a1:aw)(a2:aq)(a3:aw)(a4:aQ)(a5 a6:aw)(a7:aq)(a8:aw)(a9:aQ):aY:=bif a0 !=a5 then ak else bif a1 !=a6 then ak else bif !List.beq (aA a2) (aA a7)then ak else bif a3 !=a8 then ak else bif !Qc.v a4 a9 then ak else ai
theorem dP(kr:aY->ay R)(a0 a1:aw)(a2:aq)(a3:aw)(a4:aQ)(a5 a6:aw)(a7:aq)(a8:aw)(a9:aQ):b kr a0 a1 a2 a3 a4 a5 a6 a7 a8 a9=kr (v a0 a1 a2 a3 a4 a5 a6 a7 a8 a9):=by first|rfl|(unfold b v;simp only[ca];(repeat' split)<;>rfl)
end U70

namespace Rx
def r4(N:aC)(g k0 k1:iL R)(a d:aQ)(e:aY)(f:aw):ay R:=bif decide (f<(a.length:aw))then bif decide (0<=f)&&decide (f<(a.length:aw))then bif decide (0<=f)&&decide (f<(d.length:aw))then bif !U70.v (bF (ar a f.toNat 0)) (bF (ar a f.toNat 1)) (bz (ar a f.toNat (1+1))) (bF (ar a f.toNat (1+1+1))) (gD (ar a f.toNat (1+1+1+1))) (bF (ar d f.toNat 0)) (bF (ar d f.toNat 1)) (bz (ar d f.toNat (1+1))) (bF (ar d f.toNat (1+1+1))) (gD (ar d f.toNat (1+1+1+1)))then k0 a d ak f else g a d e (br (f+1))else aj else aj else k1 a d e f
def l4(N:aC)(k0 k1:iL R):aC->iL R
 |0=>λ_ _ _ _=>aj
 |n+1=>r4 N (l4 N k0 k1 n) k0 k1
def b(N:aC)(kr:aY->ay R)(a d:aQ):ay R:=bif(a.length:aw) !=(d.length:aw)then kr ak else l4 N (λ_ _ e _=>kr e) (λ_ _ _ _=>kr ai) N a d ak 0
def vo:=b Lib.cy λr0=>ah r0
def c:=λa d=>(vo a d).isSome
def v:=λa d=>(vo a d).getD ak
theorem out{x}:∀a d,vo a d=ah x->c a d=ai/\v a d=x:=λ_ _=>Lib.cY
end Rx

namespace ic
def r4(N:aC)(g k0:agf R)(a:aw)(d:aq):ay R:=bif decide (a>0)then bif decide ((bytesOf (aL (aN [Ck.i ba] 1) 0 [CV.i ba (bE ba (br (48+cT a 10)))])).size+d.size<=4611686018427387904)then g (br (c7 a 10)) (bytesOf (aL (aN [Ck.i ba] 1) 0 [CV.i ba (bE ba (br (48+cT a 10)))])++d)else aj else k0 a d
def l4(N:aC)(k0:agf R):aC->agf R
 |0=>λ_ _=>aj
 |n+1=>r4 N (l4 N k0 n) k0
def b(N:aC)(kr:aq->ay R)(a:aw):ay R:=bif decide (a<=0)then kr ({data:= #[aP 109,aP 48]})else l4 N (λ_ d=>bif decide (b8 {data:= #[aP 109]}+d.size<=4611686018427387904)then kr ({data:= #[aP 109]}++d)else aj) N a ⟨#[]⟩
def vo:=b Lib.cy λr0=>ah r0
def c:=λa=>(vo a).isSome
def v:=λa=>(vo a).getD (⟨#[]⟩)
theorem out{x}:∀a,vo a=ah x->c a=ai/\v a=x:=λ_=>Lib.cY
end ic

namespace sP
def r2(N:aC)(g k0:kh R)(a d:aw)(e:aQ):ay R:=bif decide (d<(e.length:aw))then bif decide (0<=d)&&decide (d<(e.length:aw))then g (br (a+1)) (br (d+1)) (cK e d.toNat 0 [.i .i64 a])else aj else k0 a d e
def l2(N:aC)(k0:kh R):aC->kh R
 |0=>λ_ _ _=>aj
 |n+1=>r2 N (l2 N k0 n) k0
def b(N:aC)(kr:uO R)(a:aQ)(d:aw):ay R:=l2 N (λe _ f=>kr e f) N d 0 a
def vo:=b Lib.cy λr0 r1=>ah (r0,r1)
def c:=λa d=>(vo a d).isSome
def v:=λa d=>(vo a d).getD (0,[])
theorem out{x}:∀a d,vo a d=ah x->c a d=ai/\v a d=x:=λ_ _=>Lib.cY
end sP

namespace K9
def r2(N:aC)(g k0:kh R)(a d:aw)(e:aQ):ay R:=bif decide (d<(e.length:aw))then bif decide (0<=d)&&decide (d<(e.length:aw))then bif decide (0<=d)&&decide (d<((cK e d.toNat 0 [.i .i64 a]).length:aw))then bif ic.c (br (br (a+1)+1))then bif decide (0<=d)&&decide (d<((cK (cK e d.toNat 0 [.i .i64 a]) d.toNat 1 [.i .i64 (br (a+1))]).length:aw))then bif decide (0<=d)&&decide (d<((cK (cK (cK e d.toNat 0 [.i .i64 a]) d.toNat 1 [.i .i64 (br (a+1))]) d.toNat 2 [.s (ic.v (br (br (a+1)+1)))]).length:aw))then bif decide (0<=d)&&decide (d<((cK (cK (cK (cK e d.toNat 0 [.i .i64 a]) d.toNat 1 [.i .i64 (br (a+1))]) d.toNat 2 [.s (ic.v (br (br (a+1)+1)))]) d.toNat 3 [.i .i64 (br (br (br (a+1)+1)+1))]).length:aw))then bif sP.c (gD (ar (cK (cK (cK (cK e d.toNat 0 [.i .i64 a]) d.toNat 1 [.i .i64 (br (a+1))]) d.toNat 2 [.s (ic.v (br (br (a+1)+1)))]) d.toNat 3 [.i .i64 (br (br (br (a+1)+1)+1))]) d.toNat 4)) (br (br (br (br (a+1)+1)+1)+1))then g (sP.v (gD (ar (cK (cK (cK (cK e d.toNat 0 [.i .i64 a]) d.toNat 1 [.i .i64 (br (a+1))]) d.toNat 2 [.s (ic.v (br (br (a+1)+1)))]) d.toNat 3 [.i .i64 (br (br (br (a+1)+1)+1))]) d.toNat 4)) (br (br (br (br (a+1)+1)+1)+1))).1 (br (d+1)) (cK (cK (cK (cK (cK e d.toNat 0 [.i .i64 a]) d.toNat 1 [.i .i64 (br (a+1))]) d.toNat 2 [.s (ic.v (br (br (a+1)+1)))]) d.toNat 3 [.i .i64 (br (br (br (a+1)+1)+1))]) d.toNat 4 [CV.l 3 (sP.v (gD (ar (cK (cK (cK (cK e d.toNat 0 [.i .i64 a]) d.toNat 1 [.i .i64 (br (a+1))]) d.toNat 2 [.s (ic.v (br (br (a+1)+1)))]) d.toNat 3 [.i .i64 (br (br (br (a+1)+1)+1))]) d.toNat 4)) (br (br (br (br (a+1)+1)+1)+1))).2])else aj else aj else aj else aj else aj else aj else aj else k0 a d e
def l2(N:aC)(k0:kh R):aC->kh R
 |0=>λ_ _ _=>aj
 |n+1=>r2 N (l2 N k0 n) k0
def b(N:aC)(kr:uO R)(a:aQ)(d:aw):ay R:=l2 N (λe _ f=>kr e f) N d 0 a
def vo:=b Lib.cy λr0 r1=>ah (r0,r1)
def c:=λa d=>(vo a d).isSome
def v:=λa d=>(vo a d).getD (0,[])
theorem out{x}:∀a d,vo a d=ah x->c a d=ai/\v a d=x:=λ_ _=>Lib.cY
end K9

namespace qS
def r2(N:aC)(g k0:kh R)(a d:aw)(e:aQ):ay R:=bif decide (d<(e.length:aw))then bif ic.c a then bif decide (0<=d)&&decide (d<(e.length:aw))then bif decide (0<=d)&&decide (d<((cK e d.toNat 0 [.s (ic.v a)]).length:aw))then bif decide (0<=d)&&decide (d<((cK (cK e d.toNat 0 [.s (ic.v a)]) d.toNat 1 [.i .i64 (br (a+1))]).length:aw))then bif ic.c (br (br (br (a+1)+1)+1))then bif decide (0<=d)&&decide (d<((cK (cK (cK e d.toNat 0 [.s (ic.v a)]) d.toNat 1 [.i .i64 (br (a+1))]) d.toNat 2 [.i .i64 (br (br (a+1)+1))]).length:aw))then g (br (br (br (br (a+1)+1)+1)+1)) (br (d+1)) (cK (cK (cK (cK e d.toNat 0 [.s (ic.v a)]) d.toNat 1 [.i .i64 (br (a+1))]) d.toNat 2 [.i .i64 (br (br (a+1)+1))]) d.toNat 3 [.s (ic.v (br (br (br (a+1)+1)+1)))])else aj else aj else aj else aj else aj else aj else k0 a d e
def l2(N:aC)(k0:kh R):aC->kh R
 |0=>λ_ _ _=>aj
 |n+1=>r2 N (l2 N k0 n) k0
def b(N:aC)(kr:uO R)(a:aQ)(d:aw):ay R:=l2 N (λe _ f=>kr e f) N d 0 a
def vo:=b Lib.cy λr0 r1=>ah (r0,r1)
def c:=λa d=>(vo a d).isSome
def v:=λa d=>(vo a d).getD (0,[])
theorem out{x}:∀a d,vo a d=ah x->c a d=ai/\v a d=x:=λ_ _=>Lib.cY
end qS

namespace j6
def r2(N:aC)(g k0:kh R)(a d:aw)(e:aQ):ay R:=bif decide (d<(e.length:aw))then bif ic.c a then bif decide (0<=d)&&decide (d<(e.length:aw))then g (br (a+1)) (br (d+1)) (cK e d.toNat 0 [.s (ic.v a)])else aj else aj else k0 a d e
def l2(N:aC)(k0:kh R):aC->kh R
 |0=>λ_ _ _=>aj
 |n+1=>r2 N (l2 N k0 n) k0
def b(N:aC)(kr:uO R)(a:aQ)(d:aw):ay R:=l2 N (λe _ f=>kr e f) N d 0 a
def vo:=b Lib.cy λr0 r1=>ah (r0,r1)
def c:=λa d=>(vo a d).isSome
def v:=λa d=>(vo a d).getD (0,[])
theorem out{x}:∀a d,vo a d=ah x->c a d=ai/\v a d=x:=λ_ _=>Lib.cY
end j6

namespace rF
def r2(N:aC)(g k0:kh R)(a d:aw)(e:aQ):ay R:=bif decide (d<(e.length:aw))then bif decide (0<=d)&&decide (d<(e.length:aw))then bif sP.c (gD (ar e d.toNat 0)) a then g (sP.v (gD (ar e d.toNat 0)) a).1 (br (d+1)) (cK e d.toNat 0 [CV.l 3 (sP.v (gD (ar e d.toNat 0)) a).2])else aj else aj else k0 a d e
def l2(N:aC)(k0:kh R):aC->kh R
 |0=>λ_ _ _=>aj
 |n+1=>r2 N (l2 N k0 n) k0
def b(N:aC)(kr:uO R)(a:aQ)(d:aw):ay R:=l2 N (λe _ f=>kr e f) N d 0 a
def vo:=b Lib.cy λr0 r1=>ah (r0,r1)
def c:=λa d=>(vo a d).isSome
def v:=λa d=>(vo a d).getD (0,[])
theorem out{x}:∀a d,vo a d=ah x->c a d=ai/\v a d=x:=λ_ _=>Lib.cY
end rF

namespace C2
def b(kr:uO R)(a:aQ)(d e:aw):ay R:=bif rF.c a e then kr (rF.v a e).1 (rF.v a e).2 else aj
def vo:=b λr0 r1=>ah (r0,r1)
def c:=λa d e=>(vo a d e).isSome
def v:=λa d e=>(vo a d e).getD (0,[])
theorem out{x}:∀a d e,vo a d e=ah x->c a d e=ai/\v a d e=x:=λ_ _ _=>Lib.cY
end C2

namespace rD
def b(kr:agd R)(a d e:aQ)(f h:aw):ay R:=bif j6.c a h then bif j6.c d (j6.v a h).1 then bif C2.c e f (j6.v d (j6.v a h).1).1 then kr (C2.v e f (j6.v d (j6.v a h).1).1).1 (j6.v a h).2 (j6.v d (j6.v a h).1).2 (C2.v e f (j6.v d (j6.v a h).1).1).2 else aj else aj else aj
def vo:=b λr0 r1 r2 r3=>ah (r0,r1,r2,r3)
def c:=λa d e f h=>(vo a d e f h).isSome
def v:=λa d e f h=>(vo a d e f h).getD (0,[],[],[])
theorem out{x}:∀a d e f h,vo a d e f h=ah x->c a d e f h=ai/\v a d e f h=x:=λ_ _ _ _ _=>Lib.cY
end rD

namespace lL
def r2(N:aC)(g k0:kh R)(a d:aw)(e:aQ):ay R:=bif decide (d<(e.length:aw))then bif ic.c a then bif decide (0<=d)&&decide (d<(e.length:aw))then bif ic.c (br (a+1))then bif decide (0<=d)&&decide (d<((cK e d.toNat 0 [.s (ic.v a)]).length:aw))then bif decide (0<=d)&&decide (d<((cK (cK e d.toNat 0 [.s (ic.v a)]) d.toNat 1 [.s (ic.v (br (a+1)))]).length:aw))then bif decide (0<=d)&&decide (d<((cK (cK (cK e d.toNat 0 [.s (ic.v a)]) d.toNat 1 [.s (ic.v (br (a+1)))]) d.toNat 2 [.i .i64 (br (br (a+1)+1))]).length:aw))then bif decide (0<=d)&&decide (d<((cK (cK (cK (cK e d.toNat 0 [.s (ic.v a)]) d.toNat 1 [.s (ic.v (br (a+1)))]) d.toNat 2 [.i .i64 (br (br (a+1)+1))]) d.toNat 3 [.i .i64 (br (br (br (a+1)+1)+1))]).length:aw))then g (br (br (br (br (br (a+1)+1)+1)+1)+1)) (br (d+1)) (cK (cK (cK (cK (cK e d.toNat 0 [.s (ic.v a)]) d.toNat 1 [.s (ic.v (br (a+1)))]) d.toNat 2 [.i .i64 (br (br (a+1)+1))]) d.toNat 3 [.i .i64 (br (br (br (a+1)+1)+1))]) d.toNat 4 [.i .i64 (br (br (br (br (a+1)+1)+1)+1))])else aj else aj else aj else aj else aj else aj else aj else k0 a d e
def l2(N:aC)(k0:kh R):aC->kh R
 |0=>λ_ _ _=>aj
 |n+1=>r2 N (l2 N k0 n) k0
def b(N:aC)(kr:uO R)(a:aQ)(d:aw):ay R:=l2 N (λe _ f=>kr e f) N d 0 a
def vo:=b Lib.cy λr0 r1=>ah (r0,r1)
def c:=λa d=>(vo a d).isSome
def v:=λa d=>(vo a d).getD (0,[])
theorem out{x}:∀a d,vo a d=ah x->c a d=ai/\v a d=x:=λ_ _=>Lib.cY
end lL

namespace kX
def r2(N:aC)(g k0:kh R)(a d:aw)(e:aQ):ay R:=bif decide (d<(e.length:aw))then bif decide (0<=d)&&decide (d<(e.length:aw))then bif ic.c (br (a+1))then bif decide (0<=d)&&decide (d<((cK e d.toNat 0 [.i .i64 a]).length:aw))then bif decide (0<=d)&&decide (d<((cK (cK e d.toNat 0 [.i .i64 a]) d.toNat 1 [.s (ic.v (br (a+1)))]).length:aw))then bif decide (0<=d)&&decide (d<((cK (cK (cK e d.toNat 0 [.i .i64 a]) d.toNat 1 [.s (ic.v (br (a+1)))]) d.toNat 2 [.i .i64 (br (br (a+1)+1))]).length:aw))then bif decide (0<=d)&&decide (d<((cK (cK (cK (cK e d.toNat 0 [.i .i64 a]) d.toNat 1 [.s (ic.v (br (a+1)))]) d.toNat 2 [.i .i64 (br (br (a+1)+1))]) d.toNat 3 [.i .i64 (br (br (br (a+1)+1)+1))]).length:aw))then bif ic.c (br (br (br (br (br (a+1)+1)+1)+1)+1))then bif decide (0<=d)&&decide (d<((cK (cK (cK (cK (cK e d.toNat 0 [.i .i64 a]) d.toNat 1 [.s (ic.v (br (a+1)))]) d.toNat 2 [.i .i64 (br (br (a+1)+1))]) d.toNat 3 [.i .i64 (br (br (br (a+1)+1)+1))]) d.toNat 4 [.i .i64 (br (br (br (br (a+1)+1)+1)+1))]).length:aw))then bif decide (0<=d)&&decide (d<((cK (cK (cK (cK (cK (cK e d.toNat 0 [.i .i64 a]) d.toNat 1 [.s (ic.v (br (a+1)))]) d.toNat 2 [.i .i64 (br (br (a+1)+1))]) d.toNat 3 [.i .i64 (br (br (br (a+1)+1)+1))]) d.toNat 4 [.i .i64 (br (br (br (br (a+1)+1)+1)+1))]) d.toNat 5 [.s (ic.v (br (br (br (br (br (a+1)+1)+1)+1)+1)))]).length:aw))then g (br (br (br (br (br (br (br (a+1)+1)+1)+1)+1)+1)+1)) (br (d+1)) (cK (cK (cK (cK (cK (cK (cK e d.toNat 0 [.i .i64 a]) d.toNat 1 [.s (ic.v (br (a+1)))]) d.toNat 2 [.i .i64 (br (br (a+1)+1))]) d.toNat 3 [.i .i64 (br (br (br (a+1)+1)+1))]) d.toNat 4 [.i .i64 (br (br (br (br (a+1)+1)+1)+1))]) d.toNat 5 [.s (ic.v (br (br (br (br (br (a+1)+1)+1)+1)+1)))]) d.toNat 6 [.i .i64 (br (br (br (br (br (br (a+1)+1)+1)+1)+1)+1))])else aj else aj else aj else aj else aj else aj else aj else aj else aj else k0 a d e
def l2(N:aC)(k0:kh R):aC->kh R
 |0=>λ_ _ _=>aj
 |n+1=>r2 N (l2 N k0 n) k0
def b(N:aC)(kr:uO R)(a:aQ)(d:aw):ay R:=l2 N (λe _ f=>kr e f) N d 0 a
def vo:=b Lib.cy λr0 r1=>ah (r0,r1)
def c:=λa d=>(vo a d).isSome
def v:=λa d=>(vo a d).getD (0,[])
theorem out{x}:∀a d,vo a d=ah x->c a d=ai/\v a d=x:=λ_ _=>Lib.cY
end kX

namespace Cj
def b(kr:P6 R)(a:aw)(d e f h:aQ)(i:aw)(j l:aQ)(m o:aw):ay R:=bif qS.c d o then bif rD.c e f h i (qS.v d o).1 then bif lL.c j (rD.v e f h i (qS.v d o).1).1 then bif kX.c l (lL.v j (rD.v e f h i (qS.v d o).1).1).1 then kr (kX.v l (lL.v j (rD.v e f h i (qS.v d o).1).1).1).1 (qS.v d o).2 (rD.v e f h i (qS.v d o).1).2.1 (rD.v e f h i (qS.v d o).1).2.2.1 (rD.v e f h i (qS.v d o).1).2.2.2 (lL.v j (rD.v e f h i (qS.v d o).1).1).2 (kX.v l (lL.v j (rD.v e f h i (qS.v d o).1).1).1).2 else aj else aj else aj else aj
def vo:=b λr0 r1 r2 r3 r4 r5 r6=>ah (r0,r1,r2,r3,r4,r5,r6)
def c:=λa d e f h i j l m o=>(vo a d e f h i j l m o).isSome
def v:=λa d e f h i j l m o=>(vo a d e f h i j l m o).getD (0,[],[],[],[],[],[])
theorem out{x}:∀a d e f h i j l m o,vo a d e f h i j l m o=ah x->c a d e f h i j l m o=ai/\v a d e f h i j l m o=x:=λ_ _ _ _ _ _ _ _ _ _=>Lib.cY
end Cj

namespace mL
def r2(N:aC)(g k0:kh R)(a d:aw)(e:aQ):ay R:=bif decide (d<(e.length:aw))then bif ic.c a then bif decide (0<=d)&&decide (d<(e.length:aw))then bif ic.c (br (a+1))then bif decide (0<=d)&&decide (d<((cK e d.toNat 0 [.s (ic.v a)]).length:aw))then bif decide (0<=d)&&decide (d<((cK (cK e d.toNat 0 [.s (ic.v a)]) d.toNat 1 [.s (ic.v (br (a+1)))]).length:aw))then g (br (br (br (a+1)+1)+1)) (br (d+1)) (cK (cK (cK e d.toNat 0 [.s (ic.v a)]) d.toNat 1 [.s (ic.v (br (a+1)))]) d.toNat 2 [.i .i64 (br (br (a+1)+1))])else aj else aj else aj else aj else aj else k0 a d e
def l2(N:aC)(k0:kh R):aC->kh R
 |0=>λ_ _ _=>aj
 |n+1=>r2 N (l2 N k0 n) k0
def b(N:aC)(kr:uO R)(a:aQ)(d:aw):ay R:=l2 N (λe _ f=>kr e f) N d 0 a
def vo:=b Lib.cy λr0 r1=>ah (r0,r1)
def c:=λa d=>(vo a d).isSome
def v:=λa d=>(vo a d).getD (0,[])
theorem out{x}:∀a d,vo a d=ah x->c a d=ai/\v a d=x:=λ_ _=>Lib.cY
end mL

namespace LL
def b(kr:uO R)(a:aQ)(d:aw):ay R:=bif mL.c a d then kr (mL.v a d).1 (mL.v a d).2 else aj
def vo:=b λr0 r1=>ah (r0,r1)
def c:=λa d=>(vo a d).isSome
def v:=λa d=>(vo a d).getD (0,[])
theorem out{x}:∀a d,vo a d=ah x->c a d=ai/\v a d=x:=λ_ _=>Lib.cY
end LL

namespace Ry
def b(kr:GU R)(a:aw)(d e f h:aQ)(i:aw)(j l:aQ)(m:aw)(o p q:aQ)(r:aw):ay R:=bif Cj.c a d e f h i j l m r then bif LL.c o (Cj.v a d e f h i j l m r).1 then bif sP.c p (LL.v o (Cj.v a d e f h i j l m r).1).1 then bif qS.c q (sP.v p (LL.v o (Cj.v a d e f h i j l m r).1).1).1 then kr (qS.v q (sP.v p (LL.v o (Cj.v a d e f h i j l m r).1).1).1).1 (Cj.v a d e f h i j l m r).2.1 (Cj.v a d e f h i j l m r).2.2.1 (Cj.v a d e f h i j l m r).2.2.2.1 (Cj.v a d e f h i j l m r).2.2.2.2.1 (Cj.v a d e f h i j l m r).2.2.2.2.2.1 (Cj.v a d e f h i j l m r).2.2.2.2.2.2 (LL.v o (Cj.v a d e f h i j l m r).1).2 (sP.v p (LL.v o (Cj.v a d e f h i j l m r).1).1).2 (qS.v q (sP.v p (LL.v o (Cj.v a d e f h i j l m r).1).1).1).2 else aj else aj else aj else aj
def vo:=b λr0 r1 r2 r3 r4 r5 r6 r7 r8 r9=>ah (r0,r1,r2,r3,r4,r5,r6,r7,r8,r9)
def c:=λa d e f h i j l m o p q r=>(vo a d e f h i j l m o p q r).isSome
def v:=λa d e f h i j l m o p q r=>(vo a d e f h i j l m o p q r).getD (0,[],[],[],[],[],[],[],[],[])
theorem out{x}:∀a d e f h i j l m o p q r,vo a d e f h i j l m o p q r=ah x->c a d e f h i j l m o p q r=ai/\v a d e f h i j l m o p q r=x:=λ_ _ _ _ _ _ _ _ _ _ _ _ _=>Lib.cY
end Ry

namespace C6
def r2(N:aC)(g k0 k1:iK R)(a:aQ)(d e f:aw):ay R:=bif decide (f<(a.length:aw))then bif decide (0<=f)&&decide (f<(a.length:aw))then bif ic.c d then bif !List.beq (bz (ar a f.toNat 0)).toList (ic.v d).toList then k0 a d (-1) f else bif decide (0<=f)&&decide (f<(a.length:aw))then bif bF (ar a f.toNat 1) !=br (d+1)then k0 a (br (d+1)) (-1) f else bif decide (0<=f)&&decide (f<(a.length:aw))then bif bF (ar a f.toNat 2) !=br (br (d+1)+1)then k0 a (br (br (d+1)+1)) (-1) f else bif decide (0<=f)&&decide (f<(a.length:aw))then bif ic.c (br (br (br (d+1)+1)+1))then bif !List.beq (bz (ar a f.toNat 3)).toList (ic.v (br (br (br (d+1)+1)+1))).toList then k0 a (br (br (br (d+1)+1)+1)) (-1) f else g a (br (br (br (br (d+1)+1)+1)+1)) e (br (f+1))else aj else aj else aj else aj else aj else aj else k1 a d e f
def l2(N:aC)(k0 k1:iK R):aC->iK R
 |0=>λ_ _ _ _=>aj
 |n+1=>r2 N (l2 N k0 k1 n) k0 k1
def b(N:aC)(kr:aw->ay R)(a:aQ)(d:aw):ay R:=l2 N (λ_ _ e _=>kr e) (λ_ f _ _=>kr f) N a d 0 0
def vo:=b Lib.cy λr0=>ah r0
def c:=λa d=>(vo a d).isSome
def v:=λa d=>(vo a d).getD (0)
theorem out{x}:∀a d,vo a d=ah x->c a d=ai/\v a d=x:=λ_ _=>Lib.cY
end C6

namespace o7
def r2(N:aC)(g k0 k1:iK R)(a:aQ)(d e f:aw):ay R:=bif decide (f<(a.length:aw))then bif decide (0<=f)&&decide (f<(a.length:aw))then bif ic.c d then bif !List.beq (bz (ar a f.toNat 0)).toList (ic.v d).toList then k0 a d (-1) f else g a (br (d+1)) e (br (f+1))else aj else aj else k1 a d e f
def l2(N:aC)(k0 k1:iK R):aC->iK R
 |0=>λ_ _ _ _=>aj
 |n+1=>r2 N (l2 N k0 k1 n) k0 k1
def b(N:aC)(kr:aw->ay R)(a:aQ)(d:aw):ay R:=l2 N (λ_ _ e _=>kr e) (λ_ f _ _=>kr f) N a d 0 0
def vo:=b Lib.cy λr0=>ah r0
def c:=λa d=>(vo a d).isSome
def v:=λa d=>(vo a d).getD (0)
theorem out{x}:∀a d,vo a d=ah x->c a d=ai/\v a d=x:=λ_ _=>Lib.cY
end o7

namespace FW
def r2(N:aC)(g k0 k1:iK R)(a:aQ)(d e f:aw):ay R:=bif decide (f<(a.length:aw))then bif decide (0<=f)&&decide (f<(a.length:aw))then bif bF (ar a f.toNat 0) !=d then k0 a d (-1) f else g a (br (d+1)) e (br (f+1))else aj else k1 a d e f
def l2(N:aC)(k0 k1:iK R):aC->iK R
 |0=>λ_ _ _ _=>aj
 |n+1=>r2 N (l2 N k0 k1 n) k0 k1
def b(N:aC)(kr:aw->ay R)(a:aQ)(d:aw):ay R:=l2 N (λ_ _ e _=>kr e) (λ_ f _ _=>kr f) N a d 0 0
def vo:=b Lib.cy λr0=>ah r0
def c:=λa d=>(vo a d).isSome
def v:=λa d=>(vo a d).getD (0)
theorem out{x}:∀a d,vo a d=ah x->c a d=ai/\v a d=x:=λ_ _=>Lib.cY
end FW

namespace u_
def r2(N:aC)(g k0 k1:iK R)(a:aQ)(d e f:aw):ay R:=bif decide (f<(a.length:aw))then bif decide (0<=f)&&decide (f<(a.length:aw))then bif FW.c (gD (ar a f.toNat 0)) d then bif decide (FW.v (gD (ar a f.toNat 0)) d<0)then k0 a (FW.v (gD (ar a f.toNat 0)) d) (-1) f else g a (FW.v (gD (ar a f.toNat 0)) d) e (br (f+1))else aj else aj else k1 a d e f
def l2(N:aC)(k0 k1:iK R):aC->iK R
 |0=>λ_ _ _ _=>aj
 |n+1=>r2 N (l2 N k0 k1 n) k0 k1
def b(N:aC)(kr:aw->ay R)(a:aQ)(d:aw):ay R:=l2 N (λ_ _ e _=>kr e) (λ_ f _ _=>kr f) N a d 0 0
def vo:=b Lib.cy λr0=>ah r0
def c:=λa d=>(vo a d).isSome
def v:=λa d=>(vo a d).getD (0)
theorem out{x}:∀a d,vo a d=ah x->c a d=ai/\v a d=x:=λ_ _=>Lib.cY
end u_

namespace C3
def b(kr:aw->ay R)(a:aQ)(d e:aw):ay R:=bif u_.c a e then bif decide (u_.v a e<0)then kr (-1)else kr (u_.v a e)else aj
def vo:=b λr0=>ah r0
def c:=λa d e=>(vo a d e).isSome
def v:=λa d e=>(vo a d e).getD (0)
theorem out{x}:∀a d e,vo a d e=ah x->c a d e=ai/\v a d e=x:=λ_ _ _=>Lib.cY
end C3

namespace vS
def b(kr:aw->ay R)(a d e:aQ)(f h:aw):ay R:=bif o7.c a h then bif decide (o7.v a h<0)then kr (-1)else bif o7.c d (o7.v a h)then bif decide (o7.v d (o7.v a h)<0)then kr (-1)else bif C3.c e f (o7.v d (o7.v a h))then bif decide (C3.v e f (o7.v d (o7.v a h))<0)then kr (-1)else kr (C3.v e f (o7.v d (o7.v a h)))else aj else aj else aj
def vo:=b λr0=>ah r0
def c:=λa d e f h=>(vo a d e f h).isSome
def v:=λa d e f h=>(vo a d e f h).getD (0)
theorem out{x}:∀a d e f h,vo a d e f h=ah x->c a d e f h=ai/\v a d e f h=x:=λ_ _ _ _ _=>Lib.cY
end vS

namespace vT
def r2(N:aC)(g k0 k1:iK R)(a:aQ)(d e f:aw):ay R:=bif decide (f<(a.length:aw))then bif decide (0<=f)&&decide (f<(a.length:aw))then bif ic.c d then bif !List.beq (bz (ar a f.toNat 0)).toList (ic.v d).toList then k0 a d (-1) f else bif decide (0<=f)&&decide (f<(a.length:aw))then bif ic.c (br (d+1))then bif !List.beq (bz (ar a f.toNat 1)).toList (ic.v (br (d+1))).toList then k0 a (br (d+1)) (-1) f else bif decide (0<=f)&&decide (f<(a.length:aw))then bif bF (ar a f.toNat 2) !=br (br (d+1)+1)then k0 a (br (br (d+1)+1)) (-1) f else bif decide (0<=f)&&decide (f<(a.length:aw))then bif bF (ar a f.toNat 3) !=br (br (br (d+1)+1)+1)then k0 a (br (br (br (d+1)+1)+1)) (-1) f else bif decide (0<=f)&&decide (f<(a.length:aw))then bif bF (ar a f.toNat 4) !=br (br (br (br (d+1)+1)+1)+1)then k0 a (br (br (br (br (d+1)+1)+1)+1)) (-1) f else g a (br (br (br (br (br (d+1)+1)+1)+1)+1)) e (br (f+1))else aj else aj else aj else aj else aj else aj else aj else k1 a d e f
def l2(N:aC)(k0 k1:iK R):aC->iK R
 |0=>λ_ _ _ _=>aj
 |n+1=>r2 N (l2 N k0 k1 n) k0 k1
def b(N:aC)(kr:aw->ay R)(a:aQ)(d:aw):ay R:=l2 N (λ_ _ e _=>kr e) (λ_ f _ _=>kr f) N a d 0 0
def vo:=b Lib.cy λr0=>ah r0
def c:=λa d=>(vo a d).isSome
def v:=λa d=>(vo a d).getD (0)
theorem out{x}:∀a d,vo a d=ah x->c a d=ai/\v a d=x:=λ_ _=>Lib.cY
end vT

namespace Aw
def r2(N:aC)(g k0 k1:iK R)(a:aQ)(d e f:aw):ay R:=bif decide (f<(a.length:aw))then bif decide (0<=f)&&decide (f<(a.length:aw))then bif bF (ar a f.toNat 0) !=d then k0 a d (-1) f else bif decide (0<=f)&&decide (f<(a.length:aw))then bif ic.c (br (d+1))then bif !List.beq (bz (ar a f.toNat 1)).toList (ic.v (br (d+1))).toList then k0 a (br (d+1)) (-1) f else bif decide (0<=f)&&decide (f<(a.length:aw))then bif bF (ar a f.toNat 2) !=br (br (d+1)+1)then k0 a (br (br (d+1)+1)) (-1) f else bif decide (0<=f)&&decide (f<(a.length:aw))then bif bF (ar a f.toNat 3) !=br (br (br (d+1)+1)+1)then k0 a (br (br (br (d+1)+1)+1)) (-1) f else bif decide (0<=f)&&decide (f<(a.length:aw))then bif bF (ar a f.toNat 4) !=br (br (br (br (d+1)+1)+1)+1)then k0 a (br (br (br (br (d+1)+1)+1)+1)) (-1) f else bif decide (0<=f)&&decide (f<(a.length:aw))then bif ic.c (br (br (br (br (br (d+1)+1)+1)+1)+1))then bif !List.beq (bz (ar a f.toNat 5)).toList (ic.v (br (br (br (br (br (d+1)+1)+1)+1)+1))).toList then k0 a (br (br (br (br (br (d+1)+1)+1)+1)+1)) (-1) f else bif decide (0<=f)&&decide (f<(a.length:aw))then bif bF (ar a f.toNat 6) !=br (br (br (br (br (br (d+1)+1)+1)+1)+1)+1)then k0 a (br (br (br (br (br (br (d+1)+1)+1)+1)+1)+1)) (-1) f else g a (br (br (br (br (br (br (br (d+1)+1)+1)+1)+1)+1)+1)) e (br (f+1))else aj else aj else aj else aj else aj else aj else aj else aj else aj else k1 a d e f
def l2(N:aC)(k0 k1:iK R):aC->iK R
 |0=>λ_ _ _ _=>aj
 |n+1=>r2 N (l2 N k0 k1 n) k0 k1
def b(N:aC)(kr:aw->ay R)(a:aQ)(d:aw):ay R:=l2 N (λ_ _ e _=>kr e) (λ_ f _ _=>kr f) N a d 0 0
def vo:=b Lib.cy λr0=>ah r0
def c:=λa d=>(vo a d).isSome
def v:=λa d=>(vo a d).getD (0)
theorem out{x}:∀a d,vo a d=ah x->c a d=ai/\v a d=x:=λ_ _=>Lib.cY
end Aw

namespace Jc
def b(kr:aw->ay R)(a:aw)(d e f h:aQ)(i:aw)(j l:aQ)(m o:aw):ay R:=bif C6.c d o then bif decide (C6.v d o<0)then kr (-1)else bif vS.c e f h i (C6.v d o)then bif decide (vS.v e f h i (C6.v d o)<0)then kr (-1)else bif vT.c j (vS.v e f h i (C6.v d o))then bif decide (vT.v j (vS.v e f h i (C6.v d o))<0)then kr (-1)else bif Aw.c l (vT.v j (vS.v e f h i (C6.v d o)))then bif decide (Aw.v l (vT.v j (vS.v e f h i (C6.v d o)))<0)then kr (-1)else kr (Aw.v l (vT.v j (vS.v e f h i (C6.v d o))))else aj else aj else aj else aj
def vo:=b λr0=>ah r0
def c:=λa d e f h i j l m o=>(vo a d e f h i j l m o).isSome
def v:=λa d e f h i j l m o=>(vo a d e f h i j l m o).getD (0)
theorem out{x}:∀a d e f h i j l m o,vo a d e f h i j l m o=ah x->c a d e f h i j l m o=ai/\v a d e f h i j l m o=x:=λ_ _ _ _ _ _ _ _ _ _=>Lib.cY
end Jc

namespace Ax
def r2(N:aC)(g k0 k1:iK R)(a:aQ)(d e f:aw):ay R:=bif decide (f<(a.length:aw))then bif decide (0<=f)&&decide (f<(a.length:aw))then bif ic.c d then bif !List.beq (bz (ar a f.toNat 0)).toList (ic.v d).toList then k0 a d (-1) f else bif decide (0<=f)&&decide (f<(a.length:aw))then bif ic.c (br (d+1))then bif !List.beq (bz (ar a f.toNat 1)).toList (ic.v (br (d+1))).toList then k0 a (br (d+1)) (-1) f else bif decide (0<=f)&&decide (f<(a.length:aw))then bif bF (ar a f.toNat 2) !=br (br (d+1)+1)then k0 a (br (br (d+1)+1)) (-1) f else g a (br (br (br (d+1)+1)+1)) e (br (f+1))else aj else aj else aj else aj else aj else k1 a d e f
def l2(N:aC)(k0 k1:iK R):aC->iK R
 |0=>λ_ _ _ _=>aj
 |n+1=>r2 N (l2 N k0 k1 n) k0 k1
def b(N:aC)(kr:aw->ay R)(a:aQ)(d:aw):ay R:=l2 N (λ_ _ e _=>kr e) (λ_ f _ _=>kr f) N a d 0 0
def vo:=b Lib.cy λr0=>ah r0
def c:=λa d=>(vo a d).isSome
def v:=λa d=>(vo a d).getD (0)
theorem out{x}:∀a d,vo a d=ah x->c a d=ai/\v a d=x:=λ_ _=>Lib.cY
end Ax

namespace LM
def b(kr:aw->ay R)(a:aQ)(d:aw):ay R:=bif Ax.c a d then bif decide (Ax.v a d<0)then kr (-1)else kr (Ax.v a d)else aj
def vo:=b λr0=>ah r0
def c:=λa d=>(vo a d).isSome
def v:=λa d=>(vo a d).getD (0)
theorem out{x}:∀a d,vo a d=ah x->c a d=ai/\v a d=x:=λ_ _=>Lib.cY
end LM

namespace Ty
def b(kr:aw->ay R)(a:aw)(d e f h:aQ)(i:aw)(j l:aQ)(m:aw)(o p q:aQ)(r:aw):ay R:=bif Jc.c a d e f h i j l m r then bif decide (Jc.v a d e f h i j l m r<0)then kr (-1)else bif LM.c o (Jc.v a d e f h i j l m r)then bif decide (LM.v o (Jc.v a d e f h i j l m r)<0)then kr (-1)else bif FW.c p (LM.v o (Jc.v a d e f h i j l m r))then bif decide (FW.v p (LM.v o (Jc.v a d e f h i j l m r))<0)then kr (-1)else bif C6.c q (FW.v p (LM.v o (Jc.v a d e f h i j l m r)))then bif decide (C6.v q (FW.v p (LM.v o (Jc.v a d e f h i j l m r)))<0)then kr (-1)else kr (C6.v q (FW.v p (LM.v o (Jc.v a d e f h i j l m r))))else aj else aj else aj else aj
def vo:=b λr0=>ah r0
def c:=λa d e f h i j l m o p q r=>(vo a d e f h i j l m o p q r).isSome
def v:=λa d e f h i j l m o p q r=>(vo a d e f h i j l m o p q r).getD (0)
theorem out{x}:∀a d e f h i j l m o p q r,vo a d e f h i j l m o p q r=ah x->c a d e f h i j l m o p q r=ai/\v a d e f h i j l m o p q r=x:=λ_ _ _ _ _ _ _ _ _ _ _ _ _=>Lib.cY
end Ty

namespace U5
def b(kr:aY->ay R)(a:aQ):ay R:=bif Jv.c a 1048576 then Lib.lt (Jv.v a 1048576) λd=>bif decide (d<0)then kr ai else bif LF.c a then Lib.lt (LF.v a) λe=>bif Ob.c e then Lib.lt (Ob.v e) λf=>bif LF.c a then bif Lw.c e then Lib.lt (Lw.v e) λh=>bif Rw.c h.1 h.2.1 h.2.2.1 h.2.2.2.1 h.2.2.2.2.1 h.2.2.2.2.2.1 h.2.2.2.2.2.2.1 h.2.2.2.2.2.2.2.1 h.2.2.2.2.2.2.2.2.1 h.2.2.2.2.2.2.2.2.2.1 h.2.2.2.2.2.2.2.2.2.2.1 h.2.2.2.2.2.2.2.2.2.2.2.1 f.1 f.2.1 f.2.2.1 f.2.2.2.1 f.2.2.2.2.1 f.2.2.2.2.2.1 f.2.2.2.2.2.2.1 f.2.2.2.2.2.2.2.1 f.2.2.2.2.2.2.2.2.1 f.2.2.2.2.2.2.2.2.2.1 f.2.2.2.2.2.2.2.2.2.2.1 f.2.2.2.2.2.2.2.2.2.2.2.1 then Lib.lt (Rw.v h.1 h.2.1 h.2.2.1 h.2.2.2.1 h.2.2.2.2.1 h.2.2.2.2.2.1 h.2.2.2.2.2.2.1 h.2.2.2.2.2.2.2.1 h.2.2.2.2.2.2.2.2.1 h.2.2.2.2.2.2.2.2.2.1 h.2.2.2.2.2.2.2.2.2.2.1 h.2.2.2.2.2.2.2.2.2.2.2.1 f.1 f.2.1 f.2.2.1 f.2.2.2.1 f.2.2.2.2.1 f.2.2.2.2.2.1 f.2.2.2.2.2.2.1 f.2.2.2.2.2.2.2.1 f.2.2.2.2.2.2.2.2.1 f.2.2.2.2.2.2.2.2.2.1 f.2.2.2.2.2.2.2.2.2.2.1 f.2.2.2.2.2.2.2.2.2.2.2.1) λi=>bif !i then kr ak else bif !decide (h.2.2.2.2.2.2.2.2.2.2.2.2=f.2.2.2.2.2.2.2.2.2.2.2.2)then kr ak else bif LF.c a then bif Rx.c e e then Lib.lt (Rx.v e e) λj=>bif !j then kr ak else bif K9.c e 1 then Lib.lt (K9.v e 1) λl=>bif decide (l.1<0)then kr ak else bif Rw.c h.1 h.2.1 h.2.2.1 h.2.2.2.1 h.2.2.2.2.1 h.2.2.2.2.2.1 h.2.2.2.2.2.2.1 h.2.2.2.2.2.2.2.1 h.2.2.2.2.2.2.2.2.1 h.2.2.2.2.2.2.2.2.2.1 h.2.2.2.2.2.2.2.2.2.2.1 h.2.2.2.2.2.2.2.2.2.2.2.1 f.1 f.2.1 f.2.2.1 f.2.2.2.1 f.2.2.2.2.1 f.2.2.2.2.2.1 f.2.2.2.2.2.2.1 f.2.2.2.2.2.2.2.1 f.2.2.2.2.2.2.2.2.1 f.2.2.2.2.2.2.2.2.2.1 f.2.2.2.2.2.2.2.2.2.2.1 f.2.2.2.2.2.2.2.2.2.2.2.1 then bif !i then kr ak else bif !decide (h.2.2.2.2.2.2.2.2.2.2.2.2=f.2.2.2.2.2.2.2.2.2.2.2.2)then kr ak else bif Ry.c h.1 h.2.1 h.2.2.1 h.2.2.2.1 h.2.2.2.2.1 h.2.2.2.2.2.1 h.2.2.2.2.2.2.1 h.2.2.2.2.2.2.2.1 h.2.2.2.2.2.2.2.2.1 h.2.2.2.2.2.2.2.2.2.1 h.2.2.2.2.2.2.2.2.2.2.1 h.2.2.2.2.2.2.2.2.2.2.2.1 1 then Lib.lt (Ry.v h.1 h.2.1 h.2.2.1 h.2.2.2.1 h.2.2.2.2.1 h.2.2.2.2.2.1 h.2.2.2.2.2.2.1 h.2.2.2.2.2.2.2.1 h.2.2.2.2.2.2.2.2.1 h.2.2.2.2.2.2.2.2.2.1 h.2.2.2.2.2.2.2.2.2.2.1 h.2.2.2.2.2.2.2.2.2.2.2.1 1) λm=>bif Ty.c h.1 m.2.1 m.2.2.1 m.2.2.2.1 m.2.2.2.2.1 h.2.2.2.2.2.1 m.2.2.2.2.2.1 m.2.2.2.2.2.2.1 h.2.2.2.2.2.2.2.2.1 m.2.2.2.2.2.2.2.1 m.2.2.2.2.2.2.2.2.1 m.2.2.2.2.2.2.2.2.2 1 then Lib.lt (Ty.v h.1 m.2.1 m.2.2.1 m.2.2.2.1 m.2.2.2.2.1 h.2.2.2.2.2.1 m.2.2.2.2.2.1 m.2.2.2.2.2.2.1 h.2.2.2.2.2.2.2.2.1 m.2.2.2.2.2.2.2.1 m.2.2.2.2.2.2.2.2.1 m.2.2.2.2.2.2.2.2.2 1) λo=>bif decide (o<0)then kr ak else bif o !=m.1 then kr ak else bif LF.c a then bif Lw.c e then bif Rw.c h.1 h.2.1 h.2.2.1 h.2.2.2.1 h.2.2.2.2.1 h.2.2.2.2.2.1 h.2.2.2.2.2.2.1 h.2.2.2.2.2.2.2.1 h.2.2.2.2.2.2.2.2.1 h.2.2.2.2.2.2.2.2.2.1 h.2.2.2.2.2.2.2.2.2.2.1 h.2.2.2.2.2.2.2.2.2.2.2.1 f.1 f.2.1 f.2.2.1 f.2.2.2.1 f.2.2.2.2.1 f.2.2.2.2.2.1 f.2.2.2.2.2.2.1 f.2.2.2.2.2.2.2.1 f.2.2.2.2.2.2.2.2.1 f.2.2.2.2.2.2.2.2.2.1 f.2.2.2.2.2.2.2.2.2.2.1 f.2.2.2.2.2.2.2.2.2.2.2.1 then bif !i then kr ak else bif !decide (h.2.2.2.2.2.2.2.2.2.2.2.2=f.2.2.2.2.2.2.2.2.2.2.2.2)then kr ak else bif Ty.c h.1 m.2.1 m.2.2.1 m.2.2.2.1 m.2.2.2.2.1 h.2.2.2.2.2.1 m.2.2.2.2.2.1 m.2.2.2.2.2.2.1 h.2.2.2.2.2.2.2.2.1 m.2.2.2.2.2.2.2.1 m.2.2.2.2.2.2.2.2.1 m.2.2.2.2.2.2.2.2.2 1 then bif decide (o<0)then kr ak else bif o !=m.1 then kr ak else kr ai else aj else aj else aj else aj else aj else aj else aj else aj else aj else aj else aj else aj else aj else aj else aj else aj
def vo:=b λr0=>ah r0
def c:=λa=>(vo a).isSome
def v:=λa=>(vo a).getD ak
theorem out{x}:∀a,vo a=ah x->c a=ai/\v a=x:=λ_=>Lib.cY
end U5

end Go.FG
