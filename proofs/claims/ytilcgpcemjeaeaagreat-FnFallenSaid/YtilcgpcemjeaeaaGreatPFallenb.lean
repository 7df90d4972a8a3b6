/- Functions of the program, told as functions of numbers, texts and lists, and what each comes to. No condition but those that each states. -/
import Derived.Test.YtilcgpcemjeaeaaGreatLib
import Derived.Test.YtilcgpcemjeaeaaGreatPFallena
set_option linter.unusedVariables false
set_option linter.unusedSimpArgs false
set_option maxRecDepth 100000
open Bool renaming true->ai,false->ak,cond_eq_ite->cM
open ByteArray renaming toList->aC,extract->bO
open Go.IntKind renaming i64->ao
open Int renaming toNat->aW,tmod->cz
open List renaming set->aD,beq->bZ
open Option renaming none->aj,some->ah
open UInt8 renaming ofNat->ay
open _root_ renaming Nat->aF,Int->aw,Option->az,Bool->aX,ByteArray->aq
namespace Go.FG
variable {R:Type}
namespace U61
def r7(N:aF)(g k0:Kj R)(a d:aw)(e f:aQ):az R:=bif decide (d<a)then bif decide (0<=d)&&decide (d<(f.length:aw))then bif(vQ.v (bw (ar f d.toNat 0))).2.2.2.2 then bif uY.c e (vQ.v (bw (ar f d.toNat 0))).1 (vQ.v (bw (ar f d.toNat 0))).2.1 (vQ.v (bw (ar f d.toNat 0))).2.2.1 (vQ.v (bw (ar f d.toNat 0))).2.2.2.1 then g a (bJ (d+1)) (uY.v e (vQ.v (bw (ar f d.toNat 0))).1 (vQ.v (bw (ar f d.toNat 0))).2.1 (vQ.v (bw (ar f d.toNat 0))).2.2.1 (vQ.v (bw (ar f d.toNat 0))).2.2.2.1) f else aj else g a (bJ (d+1)) e f else aj else k0 a d e f
def l7(N:aF)(k0:Kj R):aF->Kj R
 |0=>λ_ _ _ _=>aj
 |n+1=>r7 N (l7 N k0 n) k0
def b(N:aF)(kr:aQ->az R)(a:aQ):az R:=bif ik.c a then bif !ik.v a then kr (aP [Ck.s,Ck.i ao,Ck.i ao,Ck.s] 0)else bif uX.c a {data:= #[ay 107,ay 101,ay 112,ay 116]}then bif U122.c (uX.v a {data:= #[ay 107,ay 101,ay 112,ay 116]}).1 then l7 N (λ_ _ d _=>kr d) N ((U122.v (uX.v a {data:= #[ay 107,ay 101,ay 112,ay 116]}).1).1.length:aw) 0 (aP [Ck.s,Ck.i ao,Ck.i ao,Ck.s] 0) (U122.v (uX.v a {data:= #[ay 107,ay 101,ay 112,ay 116]}).1).1 else aj else aj else aj
def vo:=b Lib.cW λr0=>ah r0
def c:=λa=>(vo a).isSome
def v:=λa=>(vo a).getD ([])
theorem out{x}:∀a,vo a=ah x->c a=ai/\v a=x:=λ_=>Lib.dh
end U61

namespace AO
def r5(N:aF)(g k0 k1:BL R)(a:aX)(d:aq)(e:aQ)(f h:aw)(i:aQ):az R:=bif decide (h<f)then bif decide (0<=h)&&decide (h<(e.length:aw))then bif mU.c (bw (ar e h.toNat 0)) (bF (ar e h.toNat 1)) (bF (ar e h.toNat (1+1))) (bw (ar e h.toNat (1+1+1)))then bif !(mU.v (bw (ar e h.toNat 0)) (bF (ar e h.toNat 1)) (bF (ar e h.toNat (1+1))) (bw (ar e h.toNat (1+1+1)))).2 then k0 ak d e f h i else bif decide (d.size+(mU.v (bw (ar e h.toNat 0)) (bF (ar e h.toNat 1)) (bF (ar e h.toNat (1+1))) (bw (ar e h.toNat (1+1+1)))).1.size<=4611686018427387904)then g a (d++(mU.v (bw (ar e h.toNat 0)) (bF (ar e h.toNat 1)) (bF (ar e h.toNat (1+1))) (bw (ar e h.toNat (1+1+1)))).1) e f (bJ (h+1)) i else aj else aj else aj else k1 a d e f h i
def l5(N:aF)(k0 k1:BL R):aF->BL R
 |0=>λ_ _ _ _ _ _=>aj
 |n+1=>r5 N (l5 N k0 k1 n) k0 k1
def b(N:aF)(kr:H3 R)(a d:aQ):az R:=bif ik.c a then bif !ik.v a then kr [] ak else l5 N (λe _ _ _ _ _=>kr [] e) (λ_ e _ _ _ f=>bif uX.c f {data:= #[ay 110,ay 101,ay 119]}then bif(uX.v f {data:= #[ay 110,ay 101,ay 119]}).2 then kr (aP [Ck.i ao,Ck.s,Ck.s,Ck.s] 0++aD (aP [Ck.i ao,Ck.s,Ck.s,Ck.s] 1) 0 [.i .i64 4, .s {data:= #[ay 110,ay 101,ay 119]}, .s ⟨#[]⟩, .s ⟨#[]⟩]++aD (aD (aD (aP [Ck.i ao,Ck.s,Ck.s,Ck.s] 3) 0 [.i .i64 1, .s {data:= #[ay 110,ay 101,ay 119]}, .s e, .s ⟨#[]⟩]) 1 [.i .i64 2, .s {data:= #[ay 110,ay 101,ay 119]}, .s ⟨#[]⟩, .s ⟨#[]⟩]) 2 [.i .i64 3, .s {data:= #[ay 110,ay 101,ay 119]}, .s ⟨#[]⟩, .s {data:= #[ay 107,ay 101,ay 112,ay 116]}]) ai else kr (aP [Ck.i ao,Ck.s,Ck.s,Ck.s] 0++aD (aD (aD (aP [Ck.i ao,Ck.s,Ck.s,Ck.s] 3) 0 [.i .i64 1, .s {data:= #[ay 110,ay 101,ay 119]}, .s e, .s ⟨#[]⟩]) 1 [.i .i64 2, .s {data:= #[ay 110,ay 101,ay 119]}, .s ⟨#[]⟩, .s ⟨#[]⟩]) 2 [.i .i64 3, .s {data:= #[ay 110,ay 101,ay 119]}, .s ⟨#[]⟩, .s {data:= #[ay 107,ay 101,ay 112,ay 116]}]) ai else aj) N ak ⟨#[]⟩ d (d.length:aw) 0 a else aj
def vo:=b Lib.cW λr0 r1=>ah (r0,r1)
def c:=λa d=>(vo a d).isSome
def v:=λa d=>(vo a d).getD ([],ak)
theorem out{x}:∀a d,vo a d=ah x->c a d=ai/\v a d=x:=λ_ _=>Lib.dh
end AO

namespace Qs
def r4(N:aF)(g k0:mj R)(a:aw)(d:aQ)(e f h i j l m o:aw)(p q r s t u:aQ):az R:=bif decide (f<e)then bif decide (0<=f)&&decide (f<(d.length:aw))then bif GG.v (bw (ar d f.toNat 0)) (bF (ar d f.toNat 1)) (bF (ar d f.toNat (1+1))) (bw (ar d f.toNat (1+1+1))) a then bif OQ.c l p q r s m t u o (bw (ar d f.toNat 0)) (bF (ar d f.toNat 1)) (bF (ar d f.toNat (1+1))) (bw (ar d f.toNat (1+1+1)))then Lib.lt (OQ.v l p q r s m t u o (bw (ar d f.toNat 0)) (bF (ar d f.toNat 1)) (bF (ar d f.toNat (1+1))) (bw (ar d f.toNat (1+1+1)))) λw=>g a d e (bJ (f+1)) h i j w.1 w.2.2.2.2.2.1 w.2.2.2.2.2.2.2.2 w.2.1 w.2.2.1 w.2.2.2.1 w.2.2.2.2.1 w.2.2.2.2.2.2.1 w.2.2.2.2.2.2.2.1 else aj else g a d e (bJ (f+1)) h i j l m o p q r s t u else aj else k0 a d e f h i j l m o p q r s t u
def l4(N:aF)(k0:mj R):aF->mj R
 |0=>λ_ _ _ _ _ _ _ _ _ _ _ _ _ _ _ _=>aj
 |n+1=>r4 N (l4 N k0 n) k0
def b(N:aF)(kr:eR R)(a:aw)(d:aQ):az R:=l4 N (λ_ _ _ _ _ _ _ e f h i j l m o p=>kr e i j l m f o p h) N a d (d.length:aw) 0 0 0 0 a 0 0 [] [] [] ([]++aD (aP [Ck.l 3] 1) 0 [CV.l 3 (aP [Ck.i ao] (aW 16))]++aD (aP [Ck.l 3] 1) 0 [CV.l 3 (aP [Ck.i ao] (aW 16))]++aD (aP [Ck.l 3] 1) 0 [CV.l 3 (aP [Ck.i ao] (aW 16))]) [] []
def vo:=b Lib.cW λr0 r1 r2 r3 r4 r5 r6 r7 r8=>ah (r0,r1,r2,r3,r4,r5,r6,r7,r8)
def c:=λa d=>(vo a d).isSome
def v:=λa d=>(vo a d).getD (0,[],[],[],[],0,[],[],0)
theorem out{x}:∀a d,vo a d=ah x->c a d=ai/\v a d=x:=λ_ _=>Lib.dh
end Qs

namespace AG
def r3(N:aF)(g k0:mi R)(a d e f h:aw)(i j l m o p q r s t u:aQ):az R:=bif decide (d<a)then bif decide (0<=d)&&decide (d<(j.length:aw))then bif GG.v (bw (ar j d.toNat 0)) (bF (ar j d.toNat 1)) (bF (ar j d.toNat (1+1))) (bw (ar j d.toNat (1+1+1))) e then bif cy (i.length+(aD (aP [Ck.s,Ck.i ao,Ck.i ao,Ck.s] 1) 0 [.s (bw (ar j d.toNat 0)), .i .i64 (bF (ar j d.toNat 1)), .i .i64 (bF (ar j d.toNat (1+1))), .s (bw (ar j d.toNat (1+1+1)))]).length) 48 then g a (bJ (d+1)) e f h (i++aD (aP [Ck.s,Ck.i ao,Ck.i ao,Ck.s] 1) 0 [.s (bw (ar j d.toNat 0)), .i .i64 (bF (ar j d.toNat 1)), .i .i64 (bF (ar j d.toNat (1+1))), .s (bw (ar j d.toNat (1+1+1)))]) j l m o p q r s t u else aj else g a (bJ (d+1)) e f h i j l m o p q r s t u else aj else k0 a d e f h i j l m o p q r s t u
def l3(N:aF)(k0:mi R):aF->mi R
 |0=>λ_ _ _ _ _ _ _ _ _ _ _ _ _ _ _ _=>aj
 |n+1=>r3 N (l3 N k0 n) k0
def b(N:aF)(kr:o4 R)(a:aw)(d e f h:aQ)(i:aw)(j l:aQ)(m:aw)(o p q r:aQ):az R:=bif wL.c o r then Lib.lt (wL.v o r) λs=>bif U61.c s.1 then Lib.lt (U61.v s.1) λt=>l3 N (λ_ _ u _ _ w _ _ _ _ _ _ _ y z α=>bif AO.c y w then Lib.lt (AO.v y w) λxa=>bif vS.c y xa.1 then Lib.lt (vS.v y xa.1) λxb=>bif Qs.c u w then Lib.lt (Qs.v u w) λxc=>kr xc.1 xc.2.1 xc.2.2.1 xc.2.2.2.1 xc.2.2.2.2.1 xc.2.2.2.2.2.1 xc.2.2.2.2.2.2.1 xc.2.2.2.2.2.2.2.1 xc.2.2.2.2.2.2.2.2 xb.1 z α else aj else aj else aj) N (t.length:aw) 0 a i m (aP [Ck.s,Ck.i ao,Ck.i ao,Ck.s] 0) t d e f h j l s.1 p q else aj else aj
def vo:=b Lib.cW λr0 r1 r2 r3 r4 r5 r6 r7 r8 r9 JH Ap=>ah (r0,r1,r2,r3,r4,r5,r6,r7,r8,r9,JH,Ap)
def c:=λa d e f h i j l m o p q r=>(vo a d e f h i j l m o p q r).isSome
def v:=λa d e f h i j l m o p q r=>(vo a d e f h i j l m o p q r).getD (0,[],[],[],[],0,[],[],0,[],[],[])
theorem out{x}:∀a d e f h i j l m o p q r,vo a d e f h i j l m o p q r=ah x->c a d e f h i j l m o p q r=ai/\v a d e f h i j l m o p q r=x:=λ_ _ _ _ _ _ _ _ _ _ _ _ _=>Lib.dh
end AG

namespace GA
def b(kr:aw->az R)(a:aX):az R:=bif a then kr 0 else kr 1
def v(a0:aX):aw:=bif a0 then 0 else 1
theorem eG(kr:aw->az R)(a0:aX):b kr a0=kr (v a0):=by first|rfl|(unfold b v;simp only[cM];(repeat' split)<;>rfl)
end GA

namespace Wk
def b(kr:n6 R)(a:aw)(d e f h:aQ)(i:aw)(j l:aQ)(m:aw)(o p q:aQ)(r s:aw)(t:aq)(u:aw)(w:aQ):az R:=bif decide (r=1)then bif R7.c a d e f h i j l m s t then Lib.lt (R7.v a d e f h i j l m s t) λy=>kr y.2.2.2.2.2.2.2.2.2 y.1 y.2.1 y.2.2.1 y.2.2.2.1 y.2.2.2.2.1 y.2.2.2.2.2.1 y.2.2.2.2.2.2.1 y.2.2.2.2.2.2.2.1 y.2.2.2.2.2.2.2.2.1 o p q else aj else bif decide (r=2)then bif Wl.c a d e f h i j l m s t then Lib.lt (Wl.v a d e f h i j l m s t) λy=>kr (GA.v y.2.2.2.2.2.2.2.2.2) y.1 y.2.1 y.2.2.1 y.2.2.2.1 y.2.2.2.2.1 y.2.2.2.2.2.1 y.2.2.2.2.2.2.1 y.2.2.2.2.2.2.2.1 y.2.2.2.2.2.2.2.2.1 o p q else aj else bif decide (r=3)then bif Wm.c a d e f h i j l m o p q s (cz u 1000000)then Lib.lt (Wm.v a d e f h i j l m o p q s (cz u 1000000)) λy=>kr (GA.v y.1) y.2.1 y.2.2.1 y.2.2.2.1 y.2.2.2.2.1 y.2.2.2.2.2.1 y.2.2.2.2.2.2.1 y.2.2.2.2.2.2.2.1 y.2.2.2.2.2.2.2.2.1 y.2.2.2.2.2.2.2.2.2.1 y.2.2.2.2.2.2.2.2.2.2.1 y.2.2.2.2.2.2.2.2.2.2.2.1 y.2.2.2.2.2.2.2.2.2.2.2.2 else aj else bif decide (r=4)then bif Wn.c a d e f h i j l m s then Lib.lt (Wn.v a d e f h i j l m s) λy=>kr (GA.v y.2.2.2.2.2.2.2.2.2) y.1 y.2.1 y.2.2.1 y.2.2.2.1 y.2.2.2.2.1 y.2.2.2.2.2.1 y.2.2.2.2.2.2.1 y.2.2.2.2.2.2.2.1 y.2.2.2.2.2.2.2.2.1 o p q else aj else bif decide (r=5)then bif DF.c a d e f h i j l m u then Lib.lt (DF.v a d e f h i j l m u) λy=>kr 0 y.1 y.2.1 y.2.2.1 y.2.2.2.1 y.2.2.2.2.1 y.2.2.2.2.2.1 y.2.2.2.2.2.2.1 y.2.2.2.2.2.2.2.1 y.2.2.2.2.2.2.2.2 o p q else aj else bif decide (r=6)then bif zp.c a d e f h i j l m s then Lib.lt (zp.v a d e f h i j l m s) λy=>bif DG.c a d e f h i j l m s then Lib.lt (DG.v a d e f h i j l m s) λz=>kr (GA.v (decide (y≥0))) z.1 z.2.1 z.2.2.1 z.2.2.2.1 z.2.2.2.2.1 z.2.2.2.2.2.1 z.2.2.2.2.2.2.1 z.2.2.2.2.2.2.2.1 z.2.2.2.2.2.2.2.2 o p q else aj else aj else bif AG.c a d e f h i j l m o p q w then Lib.lt (AG.v a d e f h i j l m o p q w) λy=>kr 0 y.1 y.2.1 y.2.2.1 y.2.2.2.1 y.2.2.2.2.1 y.2.2.2.2.2.1 y.2.2.2.2.2.2.1 y.2.2.2.2.2.2.2.1 y.2.2.2.2.2.2.2.2.1 y.2.2.2.2.2.2.2.2.2.1 y.2.2.2.2.2.2.2.2.2.2.1 y.2.2.2.2.2.2.2.2.2.2.2 else aj
def vo:=b λr0 r1 r2 r3 r4 r5 r6 r7 r8 r9 JH Ap US=>ah (r0,r1,r2,r3,r4,r5,r6,r7,r8,r9,JH,Ap,US)
def c:=λa d e f h i j l m o p q r s t u w=>(vo a d e f h i j l m o p q r s t u w).isSome
def v:=λa d e f h i j l m o p q r s t u w=>(vo a d e f h i j l m o p q r s t u w).getD (0,0,[],[],[],[],0,[],[],0,[],[],[])
theorem out{x}:∀a d e f h i j l m o p q r s t u w,vo a d e f h i j l m o p q r s t u w=ah x->c a d e f h i j l m o p q r s t u w=ai/\v a d e f h i j l m o p q r s t u w=x:=λ_ _ _ _ _ _ _ _ _ _ _ _ _ _ _ _ _=>Lib.dh
end Wk

namespace DH
def Ap(N:aF)(g k0:kH R)(a:aQ)(d e f h i j l m:aw)(o p q r s t u w y:aQ):az R:=bif decide (e<d)then bif decide (0<=e)&&decide (e<(a.length:aw))then bif Wk.c j o p q r l s t m u w y (bF (ar a e.toNat 0)) (bF (ar a e.toNat 1)) (bw (ar a e.toNat (1+1))) (bF (ar a e.toNat (1+1+1))) (jx (ar a e.toNat (1+1+1+1)))then Lib.lt (Wk.v j o p q r l s t m u w y (bF (ar a e.toNat 0)) (bF (ar a e.toNat 1)) (bw (ar a e.toNat (1+1))) (bF (ar a e.toNat (1+1+1))) (jx (ar a e.toNat (1+1+1+1)))) λz=>bif cy (z.2.2.2.2.2.2.2.2.2.2.2.1.length+(aD (aP [Ck.i ao] 1) 0 [.i .i64 z.1]).length) 8 then g a d (bJ (e+1)) f h i z.2.1 z.2.2.2.2.2.2.1 z.2.2.2.2.2.2.2.2.2.1 z.2.2.1 z.2.2.2.1 z.2.2.2.2.1 z.2.2.2.2.2.1 z.2.2.2.2.2.2.2.1 z.2.2.2.2.2.2.2.2.1 z.2.2.2.2.2.2.2.2.2.2.1 (z.2.2.2.2.2.2.2.2.2.2.2.1++aD (aP [Ck.i ao] 1) 0 [.i .i64 z.1]) z.2.2.2.2.2.2.2.2.2.2.2.2 else aj else aj else aj else k0 a d e f h i j l m o p q r s t u w y
def PD(N:aF)(k0:kH R):aF->kH R
 |0=>λ_ _ _ _ _ _ _ _ _ _ _ _ _ _ _ _ _ _=>aj
 |n+1=>Ap N (PD N k0 n) k0
def r4(N:aF)(g k0 k1:vF R)(a:aQ)(d:aX)(e:aQ)(f h i j l:aw):az R:=bif decide (h<f)then bif decide (0<=h)&&decide (h<(e.length:aw))then bif !U31.v (bF (ar e h.toNat 0)) (bF (ar e h.toNat 1)) (bw (ar e h.toNat (1+1))) (bF (ar e h.toNat (1+1+1))) (jx (ar e h.toNat (1+1+1+1)))then k0 a ak e f h 0 0 0 else g a d e f (bJ (h+1)) i j l else aj else k1 a d e f h i j l
def l4(N:aF)(k0 k1:vF R):aF->vF R
 |0=>λ_ _ _ _ _ _ _ _=>aj
 |n+1=>r4 N (l4 N k0 k1 n) k0 k1
def b(N:aF)(kr:AB R)(a:aQ):az R:=bif decide ((a.length:aw)>70)then kr 0 [] [] [] [] 0 [] [] 0 [] [] [] ak else l4 N (λ_ d _ _ _ e f h=>kr e [] [] [] [] f [] [] h [] [] [] d) (λd _ _ _ _ e f h=>PD N (λ_ _ _ _ _ _ i j l m o p q r s t u w=>kr i m o p q j r s l t u w ai) N d (d.length:aw) 0 e f h 1 0 0 [] [] [] ([]++aD (aP [Ck.l 3] 1) 0 [CV.l 3 (aP [Ck.i ao] (aW 16))]++aD (aP [Ck.l 3] 1) 0 [CV.l 3 (aP [Ck.i ao] (aW 16))]++aD (aP [Ck.l 3] 1) 0 [CV.l 3 (aP [Ck.i ao] (aW 16))]) [] [] [] [] []) N a ak a (a.length:aw) 0 0 0 0
def vo:=b Lib.cW λr0 r1 r2 r3 r4 r5 r6 r7 r8 r9 JH Ap US=>ah (r0,r1,r2,r3,r4,r5,r6,r7,r8,r9,JH,Ap,US)
def c:=λa=>(vo a).isSome
def v:=λa=>(vo a).getD (0,[],[],[],[],0,[],[],0,[],[],[],ak)
theorem out{x}:∀a,vo a=ah x->c a=ai/\v a=x:=λ_=>Lib.dh
end DH

namespace Bf
def r2(N:aF)(g k0 k1:yL R)(a:aQ)(d:aX)(e:aw)(f:aq)(h i:aw)(j:aq):az R:=bif decide (e<(a.length:aw))then bif decide (0<=e)&&decide (e<(a.length:aw))then bif bZ (bw (ar a e.toNat 0)).toList (aC f)&&(decide (bF (ar a e.toNat 1)=h)&&(decide (bF (ar a e.toNat (1+1))=i)&&(bZ (bw (ar a e.toNat (1+1+1))).toList (aC j)&&ai)))then k0 a ai e f h i j else g a d (bJ (e+1)) f h i j else aj else k1 a d e f h i j
def l2(N:aF)(k0 k1:yL R):aF->yL R
 |0=>λ_ _ _ _ _ _ _=>aj
 |n+1=>r2 N (l2 N k0 k1 n) k0 k1
def b(N:aF)(kr:aX->az R)(a:aQ)(d:aq)(e f:aw)(h:aq):az R:=l2 N (λ_ i _ _ _ _ _=>kr i) (λ_ _ _ _ _ _ _=>kr ak) N a ak 0 d e f h
def vo:=b Lib.cW λr0=>ah r0
def c:=λa d e f h=>(vo a d e f h).isSome
def v:=λa d e f h=>(vo a d e f h).getD ak
theorem out{x}:∀a d e f h,vo a d e f h=ah x->c a d e f h=ai/\v a d e f h=x:=λ_ _ _ _ _=>Lib.dh
end Bf

namespace MZ
def r5(N:aF)(g k0 k1:oZ R)(a:aX)(d e f:aw)(h i j l:aQ)(m:aw)(o p:aQ)(q:aw):az R:=bif decide (e<d)then bif decide (0<=d)&&decide (d<(o.length:aw))then bif decide (bF (ar o d.toNat 2)=1)then bif decide (0<=e)&&decide (e<(o.length:aw))then bif decide (bF (ar o e.toNat 2)=1)then bif decide (0<=d)&&decide (d<(o.length:aw))then bif decide (0<=e)&&decide (e<(o.length:aw))then bif bZ (bw (ar o d.toNat 0)).toList (bw (ar o e.toNat 0)).toList then k0 ak d e f h i j l m o p q else g a d (bJ (e+1)) f h i j l m o p q else aj else aj else g a d (bJ (e+1)) f h i j l m o p q else aj else g a d (bJ (e+1)) f h i j l m o p q else aj else k1 a d e f h i j l m o p q
def l5(N:aF)(k0 k1:oZ R):aF->oZ R
 |0=>λ_ _ _ _ _ _ _ _ _ _ _ _=>aj
 |n+1=>r5 N (l5 N k0 k1 n) k0 k1
def r2(N:aF)(g k0 k1:fI R)(a:aX)(d e:aw)(f h i j:aQ)(l:aw)(m o:aQ)(p:aw):az R:=bif decide (d<(m.length:aw))then l5 N (λq r _ s t u w y z α xa xb=>k0 q r s t u w y z α xa xb) (λq r _ s t u w y z α xa xb=>g q (bJ (r+1)) s t u w y z α xa xb) N a d 0 e f h i j l m o p else k1 a d e f h i j l m o p
def l2(N:aF)(k0 k1:fI R):aF->fI R
 |0=>λ_ _ _ _ _ _ _ _ _ _ _=>aj
 |n+1=>r2 N (l2 N k0 k1 n) k0 k1
def b(N:aF)(kr:aX->az R)(a:aw)(d e f h:aQ)(i:aw)(j l:aQ)(m:aw):az R:=l2 N (λo _ _ _ _ _ _ _ _ _ _=>kr o) (λ_ _ _ _ _ _ _ _ _ _ _=>kr ai) N ak 0 a d e f h i j l m
def vo:=b Lib.cW λr0=>ah r0
def c:=λa d e f h i j l m=>(vo a d e f h i j l m).isSome
def v:=λa d e f h i j l m=>(vo a d e f h i j l m).getD ak
theorem out{x}:∀a d e f h i j l m,vo a d e f h i j l m=ah x->c a d e f h i j l m=ai/\v a d e f h i j l m=x:=λ_ _ _ _ _ _ _ _ _=>Lib.dh
end MZ

namespace DL
def b(kr:aX->az R)(a d:aq):az R:=bif decide ((a.size:aw)≥(d.size:aw))then bif g7 0 (d.size:aw) (a.size:aw)then kr (bZ (bO a (aW 0) (d.size:aw).toNat).toList (aC d))else aj else kr ak
def vo:=b λr0=>ah r0
def c:=λa d=>(vo a d).isSome
def v:=λa d=>(vo a d).getD ak
theorem out{x}:∀a d,vo a d=ah x->c a d=ai/\v a d=x:=λ_ _=>Lib.dh
end DL

namespace AH
def r3(N:aF)(g k0 k1:jH R)(a:aX)(d e:aw)(f h i j:aQ)(l:aw)(m o:aQ)(p:aw)(q r s:aQ)(t:aw)(u:aq)(w y z:aw)(α:aq)(xa:aw):az R:=bif decide (d<(s.length:aw))then bif decide (0<=d)&&decide (d<(s.length:aw))then bif bZ (bw (ar s d.toNat 0)).toList (aC u)then bif decide (bF (ar s d.toNat 1)=y)then bif bZ (bw (ar s d.toNat (1+1+1))).toList (aC α)then bif decide (bF (ar s d.toNat (1+1))>xa)then k0 (decide (z=2)) d e f h i j l m o p q r s t u w y z α xa else g a (bJ (d+1)) e f h i j l m o p q r s t u w y z α xa else g a (bJ (d+1)) e f h i j l m o p q r s t u w y z α xa else g a (bJ (d+1)) e f h i j l m o p q r s t u w y z α xa else g a (bJ (d+1)) e f h i j l m o p q r s t u w y z α xa else aj else k1 a d e f h i j l m o p q r s t u w y z α xa
def l3(N:aF)(k0 k1:jH R):aF->jH R
 |0=>λ_ _ _ _ _ _ _ _ _ _ _ _ _ _ _ _ _ _ _ _ _=>aj
 |n+1=>r3 N (l3 N k0 k1 n) k0 k1
def b(N:aF)(kr:aX->az R)(a:aw)(d e f h:aQ)(i:aw)(j l:aQ)(m:aw)(o p q:aQ)(r:aw)(s:aq)(t u w:aw)(y:aq)(z:aw):az R:=bif decide (t=0)then l3 N (λα _ _ _ _ _ _ _ _ _ _ _ _ _ _ _ _ _ _ _ _=>kr α) (λ_ _ _ _ _ _ _ _ _ _ _ _ _ _ _ _ _ _ _ _ _=>kr ak) N ak 0 a d e f h i j l m o p q r s t u w y z else bif !kl.v t 1 (j.length:aw)then kr ak else bif decide (0<=bJ (t-1))&&decide (bJ (t-1)<(j.length:aw))then bif !List.beq (bw (ar j (bJ (t-1)).toNat 0)).toList (aC s)then kr ak else bif decide (w=1)then bif bZ (aC y) (bw (ar j (bJ (t-1)).toNat 1)).toList then kr (decide (bF (ar j (bJ (t-1)).toNat (1+1))=1))else kr ak else bif decide (w=2)then bif bZ (aC y) (bw (ar j (bJ (t-1)).toNat 1)).toList then kr (decide (bF (ar j (bJ (t-1)).toNat (1+1))=2))else kr ak else bif decide (w=3)then bif decide (bF (ar j (bJ (t-1)).toNat (1+1))=3)then bif DL.c (bw (ar j (bJ (t-1)).toNat 1)) y then Lib.lt (DL.v (bw (ar j (bJ (t-1)).toNat 1)) y) λα=>kr α else aj else kr ak else kr ak else aj
def vo:=b Lib.cW λr0=>ah r0
def c:=λa d e f h i j l m o p q r s t u w y z=>(vo a d e f h i j l m o p q r s t u w y z).isSome
def v:=λa d e f h i j l m o p q r s t u w y z=>(vo a d e f h i j l m o p q r s t u w y z).getD ak
theorem out{x}:∀a d e f h i j l m o p q r s t u w y z,vo a d e f h i j l m o p q r s t u w y z=ah x->c a d e f h i j l m o p q r s t u w y z=ai/\v a d e f h i j l m o p q r s t u w y z=x:=λ_ _ _ _ _ _ _ _ _ _ _ _ _ _ _ _ _ _ _=>Lib.dh
end AH

namespace Qu
def r2(N:aF)(g k0 k1:iW R)(a:aX)(d e:aw)(f h i j:aQ)(l:aw)(m o:aQ)(p:aw)(q r s:aQ):az R:=bif decide (d<(o.length:aw))then bif decide (0<=d)&&decide (d<(o.length:aw))then bif AH.c e f h i j l m o p q r s (bF (ar o d.toNat 0)) (bw (ar o d.toNat 1)) (bF (ar o d.toNat (1+1))) (bF (ar o d.toNat (1+1+1))) (bF (ar o d.toNat (1+1+1+1))) (bw (ar o d.toNat (1+1+1+1+1))) (bF (ar o d.toNat (1+1+1+1+1+1)))then bif !AH.v e f h i j l m o p q r s (bF (ar o d.toNat 0)) (bw (ar o d.toNat 1)) (bF (ar o d.toNat (1+1))) (bF (ar o d.toNat (1+1+1))) (bF (ar o d.toNat (1+1+1+1))) (bw (ar o d.toNat (1+1+1+1+1))) (bF (ar o d.toNat (1+1+1+1+1+1)))then k0 ak d e f h i j l m o p q r s else g a (bJ (d+1)) e f h i j l m o p q r s else aj else aj else k1 a d e f h i j l m o p q r s
def l2(N:aF)(k0 k1:iW R):aF->iW R
 |0=>λ_ _ _ _ _ _ _ _ _ _ _ _ _ _=>aj
 |n+1=>r2 N (l2 N k0 k1 n) k0 k1
def b(N:aF)(kr:aX->az R)(a:aw)(d e f h:aQ)(i:aw)(j l:aQ)(m:aw)(o p q:aQ):az R:=l2 N (λr _ _ _ _ _ _ _ _ _ _ _ _ _=>kr r) (λ_ _ _ _ _ _ _ _ _ _ _ _ _ _=>kr ai) N ak 0 a d e f h i j l m o p q
def vo:=b Lib.cW λr0=>ah r0
def c:=λa d e f h i j l m o p q=>(vo a d e f h i j l m o p q).isSome
def v:=λa d e f h i j l m o p q=>(vo a d e f h i j l m o p q).getD ak
theorem out{x}:∀a d e f h i j l m o p q,vo a d e f h i j l m o p q=ah x->c a d e f h i j l m o p q=ai/\v a d e f h i j l m o p q=x:=λ_ _ _ _ _ _ _ _ _ _ _ _=>Lib.dh
end Qu

namespace Ic
def r2(N:aF)(g k0 k1:iW R)(a:aX)(d e:aw)(f h i j:aQ)(l:aw)(m o:aQ)(p:aw)(q r s:aQ):az R:=bif decide (d<(f.length:aw))then bif decide (0<=d)&&decide (d<(f.length:aw))then bif Bf.c s (bw (ar f d.toNat 0)) (bF (ar f d.toNat 1)) (bF (ar f d.toNat (1+1))) (bw (ar f d.toNat (1+1+1)))then bif !Bf.v s (bw (ar f d.toNat 0)) (bF (ar f d.toNat 1)) (bF (ar f d.toNat (1+1))) (bw (ar f d.toNat (1+1+1)))then k0 ak d e f h i j l m o p q r s else g a (bJ (d+1)) e f h i j l m o p q r s else aj else aj else k1 a d e f h i j l m o p q r s
def l2(N:aF)(k0 k1:iW R):aF->iW R
 |0=>λ_ _ _ _ _ _ _ _ _ _ _ _ _ _=>aj
 |n+1=>r2 N (l2 N k0 k1 n) k0 k1
def b(N:aF)(kr:aX->az R)(a:aw)(d e f h:aQ)(i:aw)(j l:aQ)(m:aw)(o p q:aQ):az R:=l2 N (λr _ _ _ _ _ _ _ _ _ _ _ _ _=>kr r) (λ_ _ _ _ _ _ _ _ _ _ _ _ _ _=>kr ai) N ak 0 a d e f h i j l m o p q
def vo:=b Lib.cW λr0=>ah r0
def c:=λa d e f h i j l m o p q=>(vo a d e f h i j l m o p q).isSome
def v:=λa d e f h i j l m o p q=>(vo a d e f h i j l m o p q).getD ak
theorem out{x}:∀a d e f h i j l m o p q,vo a d e f h i j l m o p q=ah x->c a d e f h i j l m o p q=ai/\v a d e f h i j l m o p q=x:=λ_ _ _ _ _ _ _ _ _ _ _ _=>Lib.dh
end Ic

namespace MW
def r3(N:aF)(g k0 k1:mO R)(a:aX)(d e:aw)(f h i j:aQ)(l:aw)(m o:aQ)(p:aw)(q r s t:aQ):az R:=bif decide (d<(f.length:aw))then bif decide (0<=d)&&decide (d<(f.length:aw))then bif vR.v (bw (ar f d.toNat 0)) (bF (ar f d.toNat 1)) (bF (ar f d.toNat (1+1))) (bw (ar f d.toNat (1+1+1))) e then bif Bf.c t (bw (ar f d.toNat 0)) (bF (ar f d.toNat 1)) (bF (ar f d.toNat (1+1))) (bw (ar f d.toNat (1+1+1)))then bif !Bf.v t (bw (ar f d.toNat 0)) (bF (ar f d.toNat 1)) (bF (ar f d.toNat (1+1))) (bw (ar f d.toNat (1+1+1)))then k0 ak d e f h i j l m o p q r s t else g a (bJ (d+1)) e f h i j l m o p q r s t else aj else g a (bJ (d+1)) e f h i j l m o p q r s t else aj else k1 a d e f h i j l m o p q r s t
def l3(N:aF)(k0 k1:mO R):aF->mO R
 |0=>λ_ _ _ _ _ _ _ _ _ _ _ _ _ _ _=>aj
 |n+1=>r3 N (l3 N k0 k1 n) k0 k1
def b(N:aF)(kr:aX->az R)(a:aw)(d e f h:aQ)(i:aw)(j l:aQ)(m:aw)(o p q:aQ):az R:=bif yF.c o then l3 N (λr _ _ _ _ _ _ _ _ _ _ _ _ _ _=>kr r) (λ_ _ r s t u w y z α xa xb xc xd _=>bif pe.c r s t u w y z α xa then bif pe.v r s t u w y z α xa then bif MZ.c r s t u w y z α xa then bif MZ.v r s t u w y z α xa then bif Qu.c r s t u w y z α xa xb xc xd then bif Qu.v r s t u w y z α xa xb xc xd then bif Ic.c r s t u w y z α xa xb xc xd then kr (Ic.v r s t u w y z α xa xb xc xd)else aj else kr ak else aj else kr ak else aj else kr ak else aj) N ak 0 a d e f h i j l m o p q (yF.v o)else aj
def vo:=b Lib.cW λr0=>ah r0
def c:=λa d e f h i j l m o p q=>(vo a d e f h i j l m o p q).isSome
def v:=λa d e f h i j l m o p q=>(vo a d e f h i j l m o p q).getD ak
theorem out{x}:∀a d e f h i j l m o p q,vo a d e f h i j l m o p q=ah x->c a d e f h i j l m o p q=ai/\v a d e f h i j l m o p q=x:=λ_ _ _ _ _ _ _ _ _ _ _ _=>Lib.dh
end MW

namespace MX
def r4(N:aF)(g k0 k1:El R)(a:aX)(d:aw)(e:aQ):az R:=bif decide (d<(e.length:aw))then bif decide (0<=d)&&decide (d<(e.length:aw))then bif decide (0<=d)&&decide (d<(e.length:aw))then bif decide (bF (ar e d.toNat 2)<((bw (ar e d.toNat 1)).size:aw))then k0 ak d e else g a (bJ (d+1)) e else aj else aj else k1 a d e
def l4(N:aF)(k0 k1:El R):aF->El R
 |0=>λ_ _ _=>aj
 |n+1=>r4 N (l4 N k0 k1 n) k0 k1
def b(N:aF)(kr:aX->az R)(a:aQ):az R:=bif gE.c a then bif !gE.v a then kr ak else l4 N (λd _ _=>kr d) (λ_ _ _=>kr ai) N ak 0 a else aj
def vo:=b Lib.cW λr0=>ah r0
def c:=λa=>(vo a).isSome
def v:=λa=>(vo a).getD ak
theorem out{x}:∀a,vo a=ah x->c a=ai/\v a=x:=λ_=>Lib.dh
end MX

namespace U3
def QF(N:aF)(g k0:im R)(a:aX)(d e f h i j l m:aw)(o p q r s t u w y z α xa xb xc xd xe xf xg:aQ):az R:=bif decide (e<(o.length:aw))then bif decide (0<=e)&&decide (e<(o.length:aw))then bif vR.v (bw (ar o e.toNat 0)) (bF (ar o e.toNat 1)) (bF (ar o e.toNat (1+1))) (bw (ar o e.toNat (1+1+1))) f then g a (bJ (d+1)) (bJ (e+1)) f h i j l m o p q r s t u w y z α xa xb xc xd xe xf xg else g a d (bJ (e+1)) f h i j l m o p q r s t u w y z α xa xb xc xd xe xf xg else aj else k0 a d e f h i j l m o p q r s t u w y z α xa xb xc xd xe xf xg
def Jp(N:aF)(k0:im R):aF->im R
 |0=>λ_ _ _ _ _ _ _ _ _ _ _ _ _ _ _ _ _ _ _ _ _ _ _ _ _ _ _=>aj
 |n+1=>QF N (Jp N k0 n) k0
def b(N:aF)(kr:aX->az R)(a:aQ):az R:=bif U8.v a then kr ai else bif U9.c a then Lib.lt (U9.v a) λd=>bif decide ((d.length:aw)>65)then bif MV.c a then Lib.lt (MV.v a) λe=>bif g7 0 65 (d.length:aw)then bif cy ((aP [Ck.i ao,Ck.i ao,Ck.s,Ck.i ao,Ck.l 3] 0).length+(eA d (aW 0) (aW 65)).length) 64 then bif decide (0<(e.length:aw))then bif cy ((aP [Ck.i ao,Ck.i ao,Ck.s,Ck.i ao,Ck.l 3] 0++eA d (aW 0) (aW 65)).length+(aD (aP [Ck.i ao,Ck.i ao,Ck.s,Ck.i ao,Ck.l 3] 1) 0 [.i .i64 7, .i .i64 0, .s ⟨#[]⟩, .i .i64 0,CV.l 3 (aD (aP [Ck.i ao] 1) 0 [.i .i64 (cz (bF (ar e (aW 0) 0)) 50)])]).length) 64 then bif g7 0 65 (d.length:aw)then bif DH.c (eA d (aW 0) (aW 65))then Lib.lt (DH.v (eA d (aW 0) (aW 65))) λf=>bif DH.c (aP [Ck.i ao,Ck.i ao,Ck.s,Ck.i ao,Ck.l 3] 0++eA d (aW 0) (aW 65)++aD (aP [Ck.i ao,Ck.i ao,Ck.s,Ck.i ao,Ck.l 3] 1) 0 [.i .i64 7, .i .i64 0, .s ⟨#[]⟩, .i .i64 0,CV.l 3 (aD (aP [Ck.i ao] 1) 0 [.i .i64 (cz (bF (ar e (aW 0) 0)) 50)])])then Lib.lt (DH.v (aP [Ck.i ao,Ck.i ao,Ck.s,Ck.i ao,Ck.l 3] 0++eA d (aW 0) (aW 65)++aD (aP [Ck.i ao,Ck.i ao,Ck.s,Ck.i ao,Ck.l 3] 1) 0 [.i .i64 7, .i .i64 0, .s ⟨#[]⟩, .i .i64 0,CV.l 3 (aD (aP [Ck.i ao] 1) 0 [.i .i64 (cz (bF (ar e (aW 0) 0)) 50)])])) λh=>bif !f.2.2.2.2.2.2.2.2.2.2.2.2 then kr ak else bif !h.2.2.2.2.2.2.2.2.2.2.2.2 then kr ak else bif(h.2.2.2.2.2.2.2.2.2.2.1.length:aw) !=bJ (65+1)then kr ak else bif MW.c h.1 h.2.1 h.2.2.1 h.2.2.2.1 h.2.2.2.2.1 h.2.2.2.2.2.1 h.2.2.2.2.2.2.1 h.2.2.2.2.2.2.2.1 h.2.2.2.2.2.2.2.2.1 h.2.2.2.2.2.2.2.2.2.1 h.2.2.2.2.2.2.2.2.2.2.1 h.2.2.2.2.2.2.2.2.2.2.2.1 then Lib.lt (MW.v h.1 h.2.1 h.2.2.1 h.2.2.2.1 h.2.2.2.2.1 h.2.2.2.2.2.1 h.2.2.2.2.2.2.1 h.2.2.2.2.2.2.2.1 h.2.2.2.2.2.2.2.2.1 h.2.2.2.2.2.2.2.2.2.1 h.2.2.2.2.2.2.2.2.2.2.1 h.2.2.2.2.2.2.2.2.2.2.2.1) λi=>bif !i then kr ak else bif h.1 !=f.1 then kr ak else bif decide ((h.2.2.2.2.2.2.2.1.length:aw)>0)then kr ak else Jp N (λ_ j _ _ _ _ _ _ _ _ _ _ _ _ _ _ _ _ l _ _ _ _ _ m _ _=>bif yF.c m then Lib.lt (yF.v m) λo=>bif decide ((l.length:aw)<=(o.length:aw))then bif decide ((o.length:aw)≥j)then bif MX.c m then Lib.lt (MX.v m) λp=>kr p else aj else kr ak else kr ak else aj) N ak 0 0 f.1 f.2.2.2.2.2.1 f.2.2.2.2.2.2.2.2.1 h.1 h.2.2.2.2.2.1 h.2.2.2.2.2.2.2.2.1 f.2.1 f.2.2.1 f.2.2.2.1 f.2.2.2.2.1 f.2.2.2.2.2.2.1 f.2.2.2.2.2.2.2.1 f.2.2.2.2.2.2.2.2.2.1 f.2.2.2.2.2.2.2.2.2.2.1 f.2.2.2.2.2.2.2.2.2.2.2.1 h.2.1 h.2.2.1 h.2.2.2.1 h.2.2.2.2.1 h.2.2.2.2.2.2.1 h.2.2.2.2.2.2.2.1 h.2.2.2.2.2.2.2.2.2.1 h.2.2.2.2.2.2.2.2.2.2.1 h.2.2.2.2.2.2.2.2.2.2.2.1 else aj else aj else aj else aj else aj else aj else aj else aj else aj else bif MV.c a then Lib.lt (MV.v a) λe=>bif g7 0 (d.length:aw) (d.length:aw)then bif cy ((aP [Ck.i ao,Ck.i ao,Ck.s,Ck.i ao,Ck.l 3] 0).length+(eA d (aW 0) (d.length:aw).toNat).length) 64 then bif decide (0<(e.length:aw))then bif cy ((aP [Ck.i ao,Ck.i ao,Ck.s,Ck.i ao,Ck.l 3] 0++eA d (aW 0) (d.length:aw).toNat).length+(aD (aP [Ck.i ao,Ck.i ao,Ck.s,Ck.i ao,Ck.l 3] 1) 0 [.i .i64 7, .i .i64 0, .s ⟨#[]⟩, .i .i64 0,CV.l 3 (aD (aP [Ck.i ao] 1) 0 [.i .i64 (cz (bF (ar e (aW 0) 0)) 50)])]).length) 64 then bif g7 0 (d.length:aw) (d.length:aw)then bif DH.c (eA d (aW 0) (d.length:aw).toNat)then Lib.lt (DH.v (eA d (aW 0) (d.length:aw).toNat)) λf=>bif DH.c (aP [Ck.i ao,Ck.i ao,Ck.s,Ck.i ao,Ck.l 3] 0++eA d (aW 0) (d.length:aw).toNat++aD (aP [Ck.i ao,Ck.i ao,Ck.s,Ck.i ao,Ck.l 3] 1) 0 [.i .i64 7, .i .i64 0, .s ⟨#[]⟩, .i .i64 0,CV.l 3 (aD (aP [Ck.i ao] 1) 0 [.i .i64 (cz (bF (ar e (aW 0) 0)) 50)])])then Lib.lt (DH.v (aP [Ck.i ao,Ck.i ao,Ck.s,Ck.i ao,Ck.l 3] 0++eA d (aW 0) (d.length:aw).toNat++aD (aP [Ck.i ao,Ck.i ao,Ck.s,Ck.i ao,Ck.l 3] 1) 0 [.i .i64 7, .i .i64 0, .s ⟨#[]⟩, .i .i64 0,CV.l 3 (aD (aP [Ck.i ao] 1) 0 [.i .i64 (cz (bF (ar e (aW 0) 0)) 50)])])) λh=>bif !f.2.2.2.2.2.2.2.2.2.2.2.2 then kr ak else bif !h.2.2.2.2.2.2.2.2.2.2.2.2 then kr ak else bif(h.2.2.2.2.2.2.2.2.2.2.1.length:aw) !=bJ ((d.length:aw)+1)then kr ak else bif MW.c h.1 h.2.1 h.2.2.1 h.2.2.2.1 h.2.2.2.2.1 h.2.2.2.2.2.1 h.2.2.2.2.2.2.1 h.2.2.2.2.2.2.2.1 h.2.2.2.2.2.2.2.2.1 h.2.2.2.2.2.2.2.2.2.1 h.2.2.2.2.2.2.2.2.2.2.1 h.2.2.2.2.2.2.2.2.2.2.2.1 then Lib.lt (MW.v h.1 h.2.1 h.2.2.1 h.2.2.2.1 h.2.2.2.2.1 h.2.2.2.2.2.1 h.2.2.2.2.2.2.1 h.2.2.2.2.2.2.2.1 h.2.2.2.2.2.2.2.2.1 h.2.2.2.2.2.2.2.2.2.1 h.2.2.2.2.2.2.2.2.2.2.1 h.2.2.2.2.2.2.2.2.2.2.2.1) λi=>bif !i then kr ak else bif h.1 !=f.1 then kr ak else bif decide ((h.2.2.2.2.2.2.2.1.length:aw)>0)then kr ak else Jp N (λ_ j _ _ _ _ _ _ _ _ _ _ _ _ _ _ _ _ l _ _ _ _ _ m _ _=>bif yF.c m then Lib.lt (yF.v m) λo=>bif decide ((l.length:aw)<=(o.length:aw))then bif decide ((o.length:aw)≥j)then bif MX.c m then Lib.lt (MX.v m) λp=>kr p else aj else kr ak else kr ak else aj) N ak 0 0 f.1 f.2.2.2.2.2.1 f.2.2.2.2.2.2.2.2.1 h.1 h.2.2.2.2.2.1 h.2.2.2.2.2.2.2.2.1 f.2.1 f.2.2.1 f.2.2.2.1 f.2.2.2.2.1 f.2.2.2.2.2.2.1 f.2.2.2.2.2.2.2.1 f.2.2.2.2.2.2.2.2.2.1 f.2.2.2.2.2.2.2.2.2.2.1 f.2.2.2.2.2.2.2.2.2.2.2.1 h.2.1 h.2.2.1 h.2.2.2.1 h.2.2.2.2.1 h.2.2.2.2.2.2.1 h.2.2.2.2.2.2.2.1 h.2.2.2.2.2.2.2.2.2.1 h.2.2.2.2.2.2.2.2.2.2.1 h.2.2.2.2.2.2.2.2.2.2.2.1 else aj else aj else aj else aj else aj else aj else aj else aj else aj else aj
def vo:=b Lib.cW λr0=>ah r0
def c:=λa=>(vo a).isSome
def v:=λa=>(vo a).getD ak
theorem out{x}:∀a,vo a=ah x->c a=ai/\v a=x:=λ_=>Lib.dh
end U3

namespace U56
def b(kr:aX->az R)(a d:aw)(e:aq)(f:aw)(h:aQ):az R:=bif kl.v a 1 7 then bif kl.v d 0 30 then bif decide ((e.size:aw)<=60)then bif decide (f≥0)then kr (decide ((h.length:aw)<=4))else kr ak else kr ak else kr ak else kr ak
def v(a0 a1:aw)(a2:aq)(a3:aw)(a4:aQ):aX:=bif kl.v a0 1 7 then bif kl.v a1 0 30 then bif decide ((a2.size:aw)<=60)then bif decide (a3≥0)then decide ((a4.length:aw)<=4)else ak else ak else ak else ak
end U56

end Go.FG
