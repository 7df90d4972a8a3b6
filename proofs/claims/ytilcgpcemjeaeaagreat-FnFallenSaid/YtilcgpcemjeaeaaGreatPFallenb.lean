/- Functions of the program, told as functions of numbers, texts and lists, and what each comes to. No condition but those that each states. -/
import Derived.Test.YtilcgpcemjeaeaaGreatLib
import Derived.Test.YtilcgpcemjeaeaaGreatPFallena
set_option linter.unusedVariables false
set_option linter.unusedSimpArgs false
set_option maxRecDepth 100000
open Bool renaming false->ak,true->ai,cond_eq_ite->cL
open ByteArray renaming toList->aA,extract->bO
open Go.IntKind renaming i64->ao
open Int renaming toNat->aW,tmod->cy
open List renaming set->aD,beq->bZ
open Option renaming none->aj,some->ah
open UInt8 renaming ofNat->ay
open _root_ renaming Nat->aF,Bool->aX,ByteArray->aq,Int->aw,Option->aC
namespace Go.FG
variable {R:Type}
namespace AX
def r5(N:aF)(g k0 k1:BQ R)(a:aX)(d:aq)(e:aR)(f h:aw)(i:aR):aC R:=bif decide (h<f)then bif decide (0<=h)&&decide (h<(e.length:aw))then bif mY.c (bw (ar e h.toNat 0)) (bF (ar e h.toNat 1)) (bF (ar e h.toNat (1+1))) (bw (ar e h.toNat (1+1+1)))then bif !(mY.v (bw (ar e h.toNat 0)) (bF (ar e h.toNat 1)) (bF (ar e h.toNat (1+1))) (bw (ar e h.toNat (1+1+1)))).2 then k0 ak d e f h i else bif decide (d.size+(mY.v (bw (ar e h.toNat 0)) (bF (ar e h.toNat 1)) (bF (ar e h.toNat (1+1))) (bw (ar e h.toNat (1+1+1)))).1.size<=4611686018427387904)then g a (d++(mY.v (bw (ar e h.toNat 0)) (bF (ar e h.toNat 1)) (bF (ar e h.toNat (1+1))) (bw (ar e h.toNat (1+1+1)))).1) e f (bJ (h+1)) i else aj else aj else aj else k1 a d e f h i
def l5(N:aF)(k0 k1:BQ R):aF->BQ R
 |0=>λ_ _ _ _ _ _=>aj
 |n+1=>r5 N (l5 N k0 k1 n) k0 k1
def b(N:aF)(kr:DG R)(a d:aR):aC R:=bif il.c a then bif !il.v a then kr [] ak else l5 N (λe _ _ _ _ _=>kr [] e) (λ_ e _ _ _ f=>bif u6.c f {data:= #[ay 110,ay 101,ay 119]}then bif(u6.v f {data:= #[ay 110,ay 101,ay 119]}).2 then kr (aP [Ck.i ao,Ck.s,Ck.s,Ck.s] 0++aD (aP [Ck.i ao,Ck.s,Ck.s,Ck.s] 1) 0 [.i .i64 4, .s {data:= #[ay 110,ay 101,ay 119]}, .s ⟨#[]⟩, .s ⟨#[]⟩]++aD (aD (aD (aP [Ck.i ao,Ck.s,Ck.s,Ck.s] 3) 0 [.i .i64 1, .s {data:= #[ay 110,ay 101,ay 119]}, .s e, .s ⟨#[]⟩]) 1 [.i .i64 2, .s {data:= #[ay 110,ay 101,ay 119]}, .s ⟨#[]⟩, .s ⟨#[]⟩]) 2 [.i .i64 3, .s {data:= #[ay 110,ay 101,ay 119]}, .s ⟨#[]⟩, .s {data:= #[ay 107,ay 101,ay 112,ay 116]}]) ai else kr (aP [Ck.i ao,Ck.s,Ck.s,Ck.s] 0++aD (aD (aD (aP [Ck.i ao,Ck.s,Ck.s,Ck.s] 3) 0 [.i .i64 1, .s {data:= #[ay 110,ay 101,ay 119]}, .s e, .s ⟨#[]⟩]) 1 [.i .i64 2, .s {data:= #[ay 110,ay 101,ay 119]}, .s ⟨#[]⟩, .s ⟨#[]⟩]) 2 [.i .i64 3, .s {data:= #[ay 110,ay 101,ay 119]}, .s ⟨#[]⟩, .s {data:= #[ay 107,ay 101,ay 112,ay 116]}]) ai else aj) N ak ⟨#[]⟩ d (d.length:aw) 0 a else aj
def vo:=b Lib.cU λr0 r1=>ah (r0,r1)
def c:=λa d=>(vo a d).isSome
def v:=λa d=>(vo a d).getD ([],ak)
theorem out{x}:∀a d,vo a d=ah x->c a d=ai/\v a d=x:=λ_ _=>Lib.dg
end AX

namespace Qw
def r4(N:aF)(g k0:mo R)(a:aw)(d:aR)(e f h i j l m o:aw)(p q r s t u:aR):aC R:=bif decide (f<e)then bif decide (0<=f)&&decide (f<(d.length:aw))then bif GN.v (bw (ar d f.toNat 0)) (bF (ar d f.toNat 1)) (bF (ar d f.toNat (1+1))) (bw (ar d f.toNat (1+1+1))) a then bif OU.c l p q r s m t u o (bw (ar d f.toNat 0)) (bF (ar d f.toNat 1)) (bF (ar d f.toNat (1+1))) (bw (ar d f.toNat (1+1+1)))then Lib.lt (OU.v l p q r s m t u o (bw (ar d f.toNat 0)) (bF (ar d f.toNat 1)) (bF (ar d f.toNat (1+1))) (bw (ar d f.toNat (1+1+1)))) λw=>g a d e (bJ (f+1)) h i j w.1 w.2.2.2.2.2.1 w.2.2.2.2.2.2.2.2 w.2.1 w.2.2.1 w.2.2.2.1 w.2.2.2.2.1 w.2.2.2.2.2.2.1 w.2.2.2.2.2.2.2.1 else aj else g a d e (bJ (f+1)) h i j l m o p q r s t u else aj else k0 a d e f h i j l m o p q r s t u
def l4(N:aF)(k0:mo R):aF->mo R
 |0=>λ_ _ _ _ _ _ _ _ _ _ _ _ _ _ _ _=>aj
 |n+1=>r4 N (l4 N k0 n) k0
def b(N:aF)(kr:ed R)(a:aw)(d:aR):aC R:=l4 N (λ_ _ _ _ _ _ _ e f h i j l m o p=>kr e i j l m f o p h) N a d (d.length:aw) 0 0 0 0 a 0 0 [] [] [] ([]++aD (aP [Ck.l 3] 1) 0 [CV.l 3 (aP [Ck.i ao] (aW 16))]++aD (aP [Ck.l 3] 1) 0 [CV.l 3 (aP [Ck.i ao] (aW 16))]++aD (aP [Ck.l 3] 1) 0 [CV.l 3 (aP [Ck.i ao] (aW 16))]) [] []
def vo:=b Lib.cU λr0 r1 r2 r3 r4 r5 r6 r7 r8=>ah (r0,r1,r2,r3,r4,r5,r6,r7,r8)
def c:=λa d=>(vo a d).isSome
def v:=λa d=>(vo a d).getD (0,[],[],[],[],0,[],[],0)
theorem out{x}:∀a d,vo a d=ah x->c a d=ai/\v a d=x:=λ_ _=>Lib.dg
end Qw

namespace AP
def r3(N:aF)(g k0:mn R)(a d e f h:aw)(i j l m o p q r s t u:aR):aC R:=bif decide (d<a)then bif decide (0<=d)&&decide (d<(j.length:aw))then bif GN.v (bw (ar j d.toNat 0)) (bF (ar j d.toNat 1)) (bF (ar j d.toNat (1+1))) (bw (ar j d.toNat (1+1+1))) e then bif cw (i.length+(aD (aP [Ck.s,Ck.i ao,Ck.i ao,Ck.s] 1) 0 [.s (bw (ar j d.toNat 0)), .i .i64 (bF (ar j d.toNat 1)), .i .i64 (bF (ar j d.toNat (1+1))), .s (bw (ar j d.toNat (1+1+1)))]).length) 48 then g a (bJ (d+1)) e f h (i++aD (aP [Ck.s,Ck.i ao,Ck.i ao,Ck.s] 1) 0 [.s (bw (ar j d.toNat 0)), .i .i64 (bF (ar j d.toNat 1)), .i .i64 (bF (ar j d.toNat (1+1))), .s (bw (ar j d.toNat (1+1+1)))]) j l m o p q r s t u else aj else g a (bJ (d+1)) e f h i j l m o p q r s t u else aj else k0 a d e f h i j l m o p q r s t u
def l3(N:aF)(k0:mn R):aF->mn R
 |0=>λ_ _ _ _ _ _ _ _ _ _ _ _ _ _ _ _=>aj
 |n+1=>r3 N (l3 N k0 n) k0
def b(N:aF)(kr:kI R)(a:aw)(d e f h:aR)(i:aw)(j l:aR)(m:aw)(o p q r:aR):aC R:=bif wR.c o r then Lib.lt (wR.v o r) λs=>bif U61.c s.1 then Lib.lt (U61.v s.1) λt=>l3 N (λ_ _ u _ _ w _ _ _ _ _ _ _ y z α=>bif AX.c y w then Lib.lt (AX.v y w) λxa=>bif vU.c y xa.1 then Lib.lt (vU.v y xa.1) λxb=>bif Qw.c u w then Lib.lt (Qw.v u w) λxc=>kr xc.1 xc.2.1 xc.2.2.1 xc.2.2.2.1 xc.2.2.2.2.1 xc.2.2.2.2.2.1 xc.2.2.2.2.2.2.1 xc.2.2.2.2.2.2.2.1 xc.2.2.2.2.2.2.2.2 xb.1 z α else aj else aj else aj) N (t.length:aw) 0 a i m (aP [Ck.s,Ck.i ao,Ck.i ao,Ck.s] 0) t d e f h j l s.1 p q else aj else aj
def vo:=b Lib.cU λr0 r1 r2 r3 r4 r5 r6 r7 r8 r9 JN Aw=>ah (r0,r1,r2,r3,r4,r5,r6,r7,r8,r9,JN,Aw)
def c:=λa d e f h i j l m o p q r=>(vo a d e f h i j l m o p q r).isSome
def v:=λa d e f h i j l m o p q r=>(vo a d e f h i j l m o p q r).getD (0,[],[],[],[],0,[],[],0,[],[],[])
theorem out{x}:∀a d e f h i j l m o p q r,vo a d e f h i j l m o p q r=ah x->c a d e f h i j l m o p q r=ai/\v a d e f h i j l m o p q r=x:=λ_ _ _ _ _ _ _ _ _ _ _ _ _=>Lib.dg
end AP

namespace GJ
def b(kr:aw->aC R)(a:aX):aC R:=bif a then kr 0 else kr 1
def v(a0:aX):aw:=bif a0 then 0 else 1
theorem eG(kr:aw->aC R)(a0:aX):b kr a0=kr (v a0):=by first|rfl|(unfold b v;simp only[cL];(repeat' split)<;>rfl)
end GJ

namespace Wn
def b(kr:mc R)(a:aw)(d e f h:aR)(i:aw)(j l:aR)(m:aw)(o p q:aR)(r s:aw)(t:aq)(u:aw)(w:aR):aC R:=bif decide (r=1)then bif R_.c a d e f h i j l m s t then Lib.lt (R_.v a d e f h i j l m s t) λy=>kr y.2.2.2.2.2.2.2.2.2 y.1 y.2.1 y.2.2.1 y.2.2.2.1 y.2.2.2.2.1 y.2.2.2.2.2.1 y.2.2.2.2.2.2.1 y.2.2.2.2.2.2.2.1 y.2.2.2.2.2.2.2.2.1 o p q else aj else bif decide (r=2)then bif Wp.c a d e f h i j l m s t then Lib.lt (Wp.v a d e f h i j l m s t) λy=>kr (GJ.v y.2.2.2.2.2.2.2.2.2) y.1 y.2.1 y.2.2.1 y.2.2.2.1 y.2.2.2.2.1 y.2.2.2.2.2.1 y.2.2.2.2.2.2.1 y.2.2.2.2.2.2.2.1 y.2.2.2.2.2.2.2.2.1 o p q else aj else bif decide (r=3)then bif Wq.c a d e f h i j l m o p q s (cy u 1000000)then Lib.lt (Wq.v a d e f h i j l m o p q s (cy u 1000000)) λy=>kr (GJ.v y.1) y.2.1 y.2.2.1 y.2.2.2.1 y.2.2.2.2.1 y.2.2.2.2.2.1 y.2.2.2.2.2.2.1 y.2.2.2.2.2.2.2.1 y.2.2.2.2.2.2.2.2.1 y.2.2.2.2.2.2.2.2.2.1 y.2.2.2.2.2.2.2.2.2.2.1 y.2.2.2.2.2.2.2.2.2.2.2.1 y.2.2.2.2.2.2.2.2.2.2.2.2 else aj else bif decide (r=4)then bif Wr.c a d e f h i j l m s then Lib.lt (Wr.v a d e f h i j l m s) λy=>kr (GJ.v y.2.2.2.2.2.2.2.2.2) y.1 y.2.1 y.2.2.1 y.2.2.2.1 y.2.2.2.2.1 y.2.2.2.2.2.1 y.2.2.2.2.2.2.1 y.2.2.2.2.2.2.2.1 y.2.2.2.2.2.2.2.2.1 o p q else aj else bif decide (r=5)then bif DK.c a d e f h i j l m u then Lib.lt (DK.v a d e f h i j l m u) λy=>kr 0 y.1 y.2.1 y.2.2.1 y.2.2.2.1 y.2.2.2.2.1 y.2.2.2.2.2.1 y.2.2.2.2.2.2.1 y.2.2.2.2.2.2.2.1 y.2.2.2.2.2.2.2.2 o p q else aj else bif decide (r=6)then bif zu.c a d e f h i j l m s then Lib.lt (zu.v a d e f h i j l m s) λy=>bif DL.c a d e f h i j l m s then Lib.lt (DL.v a d e f h i j l m s) λz=>kr (GJ.v (decide (y≥0))) z.1 z.2.1 z.2.2.1 z.2.2.2.1 z.2.2.2.2.1 z.2.2.2.2.2.1 z.2.2.2.2.2.2.1 z.2.2.2.2.2.2.2.1 z.2.2.2.2.2.2.2.2 o p q else aj else aj else bif AP.c a d e f h i j l m o p q w then Lib.lt (AP.v a d e f h i j l m o p q w) λy=>kr 0 y.1 y.2.1 y.2.2.1 y.2.2.2.1 y.2.2.2.2.1 y.2.2.2.2.2.1 y.2.2.2.2.2.2.1 y.2.2.2.2.2.2.2.1 y.2.2.2.2.2.2.2.2.1 y.2.2.2.2.2.2.2.2.2.1 y.2.2.2.2.2.2.2.2.2.2.1 y.2.2.2.2.2.2.2.2.2.2.2 else aj
def vo:=b λr0 r1 r2 r3 r4 r5 r6 r7 r8 r9 JN Aw UW=>ah (r0,r1,r2,r3,r4,r5,r6,r7,r8,r9,JN,Aw,UW)
def c:=λa d e f h i j l m o p q r s t u w=>(vo a d e f h i j l m o p q r s t u w).isSome
def v:=λa d e f h i j l m o p q r s t u w=>(vo a d e f h i j l m o p q r s t u w).getD (0,0,[],[],[],[],0,[],[],0,[],[],[])
theorem out{x}:∀a d e f h i j l m o p q r s t u w,vo a d e f h i j l m o p q r s t u w=ah x->c a d e f h i j l m o p q r s t u w=ai/\v a d e f h i j l m o p q r s t u w=x:=λ_ _ _ _ _ _ _ _ _ _ _ _ _ _ _ _ _=>Lib.dg
end Wn

namespace DM
def Aw(N:aF)(g k0:kJ R)(a:aR)(d e f h i j l m:aw)(o p q r s t u w y:aR):aC R:=bif decide (e<d)then bif decide (0<=e)&&decide (e<(a.length:aw))then bif Wn.c j o p q r l s t m u w y (bF (ar a e.toNat 0)) (bF (ar a e.toNat 1)) (bw (ar a e.toNat (1+1))) (bF (ar a e.toNat (1+1+1))) (jz (ar a e.toNat (1+1+1+1)))then Lib.lt (Wn.v j o p q r l s t m u w y (bF (ar a e.toNat 0)) (bF (ar a e.toNat 1)) (bw (ar a e.toNat (1+1))) (bF (ar a e.toNat (1+1+1))) (jz (ar a e.toNat (1+1+1+1)))) λz=>bif cw (z.2.2.2.2.2.2.2.2.2.2.2.1.length+(aD (aP [Ck.i ao] 1) 0 [.i .i64 z.1]).length) 8 then g a d (bJ (e+1)) f h i z.2.1 z.2.2.2.2.2.2.1 z.2.2.2.2.2.2.2.2.2.1 z.2.2.1 z.2.2.2.1 z.2.2.2.2.1 z.2.2.2.2.2.1 z.2.2.2.2.2.2.2.1 z.2.2.2.2.2.2.2.2.1 z.2.2.2.2.2.2.2.2.2.2.1 (z.2.2.2.2.2.2.2.2.2.2.2.1++aD (aP [Ck.i ao] 1) 0 [.i .i64 z.1]) z.2.2.2.2.2.2.2.2.2.2.2.2 else aj else aj else aj else k0 a d e f h i j l m o p q r s t u w y
def PH(N:aF)(k0:kJ R):aF->kJ R
 |0=>λ_ _ _ _ _ _ _ _ _ _ _ _ _ _ _ _ _ _=>aj
 |n+1=>Aw N (PH N k0 n) k0
def r4(N:aF)(g k0 k1:vI R)(a:aR)(d:aX)(e:aR)(f h i j l:aw):aC R:=bif decide (h<f)then bif decide (0<=h)&&decide (h<(e.length:aw))then bif !U31.v (bF (ar e h.toNat 0)) (bF (ar e h.toNat 1)) (bw (ar e h.toNat (1+1))) (bF (ar e h.toNat (1+1+1))) (jz (ar e h.toNat (1+1+1+1)))then k0 a ak e f h 0 0 0 else g a d e f (bJ (h+1)) i j l else aj else k1 a d e f h i j l
def l4(N:aF)(k0 k1:vI R):aF->vI R
 |0=>λ_ _ _ _ _ _ _ _=>aj
 |n+1=>r4 N (l4 N k0 k1 n) k0 k1
def b(N:aF)(kr:AJ R)(a:aR):aC R:=bif decide ((a.length:aw)>70)then kr 0 [] [] [] [] 0 [] [] 0 [] [] [] ak else l4 N (λ_ d _ _ _ e f h=>kr e [] [] [] [] f [] [] h [] [] [] d) (λd _ _ _ _ e f h=>PH N (λ_ _ _ _ _ _ i j l m o p q r s t u w=>kr i m o p q j r s l t u w ai) N d (d.length:aw) 0 e f h 1 0 0 [] [] [] ([]++aD (aP [Ck.l 3] 1) 0 [CV.l 3 (aP [Ck.i ao] (aW 16))]++aD (aP [Ck.l 3] 1) 0 [CV.l 3 (aP [Ck.i ao] (aW 16))]++aD (aP [Ck.l 3] 1) 0 [CV.l 3 (aP [Ck.i ao] (aW 16))]) [] [] [] [] []) N a ak a (a.length:aw) 0 0 0 0
def vo:=b Lib.cU λr0 r1 r2 r3 r4 r5 r6 r7 r8 r9 JN Aw UW=>ah (r0,r1,r2,r3,r4,r5,r6,r7,r8,r9,JN,Aw,UW)
def c:=λa=>(vo a).isSome
def v:=λa=>(vo a).getD (0,[],[],[],[],0,[],[],0,[],[],[],ak)
theorem out{x}:∀a,vo a=ah x->c a=ai/\v a=x:=λ_=>Lib.dg
end DM

namespace Bk
def r2(N:aF)(g k0 k1:yR R)(a:aR)(d:aX)(e:aw)(f:aq)(h i:aw)(j:aq):aC R:=bif decide (e<(a.length:aw))then bif decide (0<=e)&&decide (e<(a.length:aw))then bif bZ (bw (ar a e.toNat 0)).toList (aA f)&&(decide (bF (ar a e.toNat 1)=h)&&(decide (bF (ar a e.toNat (1+1))=i)&&(bZ (bw (ar a e.toNat (1+1+1))).toList (aA j)&&ai)))then k0 a ai e f h i j else g a d (bJ (e+1)) f h i j else aj else k1 a d e f h i j
def l2(N:aF)(k0 k1:yR R):aF->yR R
 |0=>λ_ _ _ _ _ _ _=>aj
 |n+1=>r2 N (l2 N k0 k1 n) k0 k1
def b(N:aF)(kr:aX->aC R)(a:aR)(d:aq)(e f:aw)(h:aq):aC R:=l2 N (λ_ i _ _ _ _ _=>kr i) (λ_ _ _ _ _ _ _=>kr ak) N a ak 0 d e f h
def vo:=b Lib.cU λr0=>ah r0
def c:=λa d e f h=>(vo a d e f h).isSome
def v:=λa d e f h=>(vo a d e f h).getD ak
theorem out{x}:∀a d e f h,vo a d e f h=ah x->c a d e f h=ai/\v a d e f h=x:=λ_ _ _ _ _=>Lib.dg
end Bk

namespace M5
def r5(N:aF)(g k0 k1:o7 R)(a:aX)(d e f:aw)(h i j l:aR)(m:aw)(o p:aR)(q:aw):aC R:=bif decide (e<d)then bif decide (0<=d)&&decide (d<(o.length:aw))then bif decide (bF (ar o d.toNat 2)=1)then bif decide (0<=e)&&decide (e<(o.length:aw))then bif decide (bF (ar o e.toNat 2)=1)then bif decide (0<=d)&&decide (d<(o.length:aw))then bif decide (0<=e)&&decide (e<(o.length:aw))then bif bZ (bw (ar o d.toNat 0)).toList (bw (ar o e.toNat 0)).toList then k0 ak d e f h i j l m o p q else g a d (bJ (e+1)) f h i j l m o p q else aj else aj else g a d (bJ (e+1)) f h i j l m o p q else aj else g a d (bJ (e+1)) f h i j l m o p q else aj else k1 a d e f h i j l m o p q
def l5(N:aF)(k0 k1:o7 R):aF->o7 R
 |0=>λ_ _ _ _ _ _ _ _ _ _ _ _=>aj
 |n+1=>r5 N (l5 N k0 k1 n) k0 k1
def r2(N:aF)(g k0 k1:fH R)(a:aX)(d e:aw)(f h i j:aR)(l:aw)(m o:aR)(p:aw):aC R:=bif decide (d<(m.length:aw))then l5 N (λq r _ s t u w y z α xa xb=>k0 q r s t u w y z α xa xb) (λq r _ s t u w y z α xa xb=>g q (bJ (r+1)) s t u w y z α xa xb) N a d 0 e f h i j l m o p else k1 a d e f h i j l m o p
def l2(N:aF)(k0 k1:fH R):aF->fH R
 |0=>λ_ _ _ _ _ _ _ _ _ _ _=>aj
 |n+1=>r2 N (l2 N k0 k1 n) k0 k1
def b(N:aF)(kr:aX->aC R)(a:aw)(d e f h:aR)(i:aw)(j l:aR)(m:aw):aC R:=l2 N (λo _ _ _ _ _ _ _ _ _ _=>kr o) (λ_ _ _ _ _ _ _ _ _ _ _=>kr ai) N ak 0 a d e f h i j l m
def vo:=b Lib.cU λr0=>ah r0
def c:=λa d e f h i j l m=>(vo a d e f h i j l m).isSome
def v:=λa d e f h i j l m=>(vo a d e f h i j l m).getD ak
theorem out{x}:∀a d e f h i j l m,vo a d e f h i j l m=ah x->c a d e f h i j l m=ai/\v a d e f h i j l m=x:=λ_ _ _ _ _ _ _ _ _=>Lib.dg
end M5

namespace DQ
def b(kr:aX->aC R)(a d:aq):aC R:=bif decide ((a.size:aw)≥(d.size:aw))then bif g8 0 (d.size:aw) (a.size:aw)then kr (bZ (bO a (aW 0) (d.size:aw).toNat).toList (aA d))else aj else kr ak
def vo:=b λr0=>ah r0
def c:=λa d=>(vo a d).isSome
def v:=λa d=>(vo a d).getD ak
theorem out{x}:∀a d,vo a d=ah x->c a d=ai/\v a d=x:=λ_ _=>Lib.dg
end DQ

namespace AQ
def r3(N:aF)(g k0 k1:jK R)(a:aX)(d e:aw)(f h i j:aR)(l:aw)(m o:aR)(p:aw)(q r s:aR)(t:aw)(u:aq)(w y z:aw)(α:aq)(xa:aw):aC R:=bif decide (d<(s.length:aw))then bif decide (0<=d)&&decide (d<(s.length:aw))then bif bZ (bw (ar s d.toNat 0)).toList (aA u)then bif decide (bF (ar s d.toNat 1)=y)then bif bZ (bw (ar s d.toNat (1+1+1))).toList (aA α)then bif decide (bF (ar s d.toNat (1+1))>xa)then k0 (decide (z=2)) d e f h i j l m o p q r s t u w y z α xa else g a (bJ (d+1)) e f h i j l m o p q r s t u w y z α xa else g a (bJ (d+1)) e f h i j l m o p q r s t u w y z α xa else g a (bJ (d+1)) e f h i j l m o p q r s t u w y z α xa else g a (bJ (d+1)) e f h i j l m o p q r s t u w y z α xa else aj else k1 a d e f h i j l m o p q r s t u w y z α xa
def l3(N:aF)(k0 k1:jK R):aF->jK R
 |0=>λ_ _ _ _ _ _ _ _ _ _ _ _ _ _ _ _ _ _ _ _ _=>aj
 |n+1=>r3 N (l3 N k0 k1 n) k0 k1
def b(N:aF)(kr:aX->aC R)(a:aw)(d e f h:aR)(i:aw)(j l:aR)(m:aw)(o p q:aR)(r:aw)(s:aq)(t u w:aw)(y:aq)(z:aw):aC R:=bif decide (t=0)then l3 N (λα _ _ _ _ _ _ _ _ _ _ _ _ _ _ _ _ _ _ _ _=>kr α) (λ_ _ _ _ _ _ _ _ _ _ _ _ _ _ _ _ _ _ _ _ _=>kr ak) N ak 0 a d e f h i j l m o p q r s t u w y z else bif !km.v t 1 (j.length:aw)then kr ak else bif decide (0<=bJ (t-1))&&decide (bJ (t-1)<(j.length:aw))then bif !List.beq (bw (ar j (bJ (t-1)).toNat 0)).toList (aA s)then kr ak else bif decide (w=1)then bif bZ (aA y) (bw (ar j (bJ (t-1)).toNat 1)).toList then kr (decide (bF (ar j (bJ (t-1)).toNat (1+1))=1))else kr ak else bif decide (w=2)then bif bZ (aA y) (bw (ar j (bJ (t-1)).toNat 1)).toList then kr (decide (bF (ar j (bJ (t-1)).toNat (1+1))=2))else kr ak else bif decide (w=3)then bif decide (bF (ar j (bJ (t-1)).toNat (1+1))=3)then bif DQ.c (bw (ar j (bJ (t-1)).toNat 1)) y then Lib.lt (DQ.v (bw (ar j (bJ (t-1)).toNat 1)) y) λα=>kr α else aj else kr ak else kr ak else aj
def vo:=b Lib.cU λr0=>ah r0
def c:=λa d e f h i j l m o p q r s t u w y z=>(vo a d e f h i j l m o p q r s t u w y z).isSome
def v:=λa d e f h i j l m o p q r s t u w y z=>(vo a d e f h i j l m o p q r s t u w y z).getD ak
theorem out{x}:∀a d e f h i j l m o p q r s t u w y z,vo a d e f h i j l m o p q r s t u w y z=ah x->c a d e f h i j l m o p q r s t u w y z=ai/\v a d e f h i j l m o p q r s t u w y z=x:=λ_ _ _ _ _ _ _ _ _ _ _ _ _ _ _ _ _ _ _=>Lib.dg
end AQ

namespace Qy
def r2(N:aF)(g k0 k1:iW R)(a:aX)(d e:aw)(f h i j:aR)(l:aw)(m o:aR)(p:aw)(q r s:aR):aC R:=bif decide (d<(o.length:aw))then bif decide (0<=d)&&decide (d<(o.length:aw))then bif AQ.c e f h i j l m o p q r s (bF (ar o d.toNat 0)) (bw (ar o d.toNat 1)) (bF (ar o d.toNat (1+1))) (bF (ar o d.toNat (1+1+1))) (bF (ar o d.toNat (1+1+1+1))) (bw (ar o d.toNat (1+1+1+1+1))) (bF (ar o d.toNat (1+1+1+1+1+1)))then bif !AQ.v e f h i j l m o p q r s (bF (ar o d.toNat 0)) (bw (ar o d.toNat 1)) (bF (ar o d.toNat (1+1))) (bF (ar o d.toNat (1+1+1))) (bF (ar o d.toNat (1+1+1+1))) (bw (ar o d.toNat (1+1+1+1+1))) (bF (ar o d.toNat (1+1+1+1+1+1)))then k0 ak d e f h i j l m o p q r s else g a (bJ (d+1)) e f h i j l m o p q r s else aj else aj else k1 a d e f h i j l m o p q r s
def l2(N:aF)(k0 k1:iW R):aF->iW R
 |0=>λ_ _ _ _ _ _ _ _ _ _ _ _ _ _=>aj
 |n+1=>r2 N (l2 N k0 k1 n) k0 k1
def b(N:aF)(kr:aX->aC R)(a:aw)(d e f h:aR)(i:aw)(j l:aR)(m:aw)(o p q:aR):aC R:=l2 N (λr _ _ _ _ _ _ _ _ _ _ _ _ _=>kr r) (λ_ _ _ _ _ _ _ _ _ _ _ _ _ _=>kr ai) N ak 0 a d e f h i j l m o p q
def vo:=b Lib.cU λr0=>ah r0
def c:=λa d e f h i j l m o p q=>(vo a d e f h i j l m o p q).isSome
def v:=λa d e f h i j l m o p q=>(vo a d e f h i j l m o p q).getD ak
theorem out{x}:∀a d e f h i j l m o p q,vo a d e f h i j l m o p q=ah x->c a d e f h i j l m o p q=ai/\v a d e f h i j l m o p q=x:=λ_ _ _ _ _ _ _ _ _ _ _ _=>Lib.dg
end Qy

namespace Ik
def r2(N:aF)(g k0 k1:iW R)(a:aX)(d e:aw)(f h i j:aR)(l:aw)(m o:aR)(p:aw)(q r s:aR):aC R:=bif decide (d<(f.length:aw))then bif decide (0<=d)&&decide (d<(f.length:aw))then bif Bk.c s (bw (ar f d.toNat 0)) (bF (ar f d.toNat 1)) (bF (ar f d.toNat (1+1))) (bw (ar f d.toNat (1+1+1)))then bif !Bk.v s (bw (ar f d.toNat 0)) (bF (ar f d.toNat 1)) (bF (ar f d.toNat (1+1))) (bw (ar f d.toNat (1+1+1)))then k0 ak d e f h i j l m o p q r s else g a (bJ (d+1)) e f h i j l m o p q r s else aj else aj else k1 a d e f h i j l m o p q r s
def l2(N:aF)(k0 k1:iW R):aF->iW R
 |0=>λ_ _ _ _ _ _ _ _ _ _ _ _ _ _=>aj
 |n+1=>r2 N (l2 N k0 k1 n) k0 k1
def b(N:aF)(kr:aX->aC R)(a:aw)(d e f h:aR)(i:aw)(j l:aR)(m:aw)(o p q:aR):aC R:=l2 N (λr _ _ _ _ _ _ _ _ _ _ _ _ _=>kr r) (λ_ _ _ _ _ _ _ _ _ _ _ _ _ _=>kr ai) N ak 0 a d e f h i j l m o p q
def vo:=b Lib.cU λr0=>ah r0
def c:=λa d e f h i j l m o p q=>(vo a d e f h i j l m o p q).isSome
def v:=λa d e f h i j l m o p q=>(vo a d e f h i j l m o p q).getD ak
theorem out{x}:∀a d e f h i j l m o p q,vo a d e f h i j l m o p q=ah x->c a d e f h i j l m o p q=ai/\v a d e f h i j l m o p q=x:=λ_ _ _ _ _ _ _ _ _ _ _ _=>Lib.dg
end Ik

namespace M1
def r3(N:aF)(g k0 k1:mS R)(a:aX)(d e:aw)(f h i j:aR)(l:aw)(m o:aR)(p:aw)(q r s t:aR):aC R:=bif decide (d<(f.length:aw))then bif decide (0<=d)&&decide (d<(f.length:aw))then bif vT.v (bw (ar f d.toNat 0)) (bF (ar f d.toNat 1)) (bF (ar f d.toNat (1+1))) (bw (ar f d.toNat (1+1+1))) e then bif Bk.c t (bw (ar f d.toNat 0)) (bF (ar f d.toNat 1)) (bF (ar f d.toNat (1+1))) (bw (ar f d.toNat (1+1+1)))then bif !Bk.v t (bw (ar f d.toNat 0)) (bF (ar f d.toNat 1)) (bF (ar f d.toNat (1+1))) (bw (ar f d.toNat (1+1+1)))then k0 ak d e f h i j l m o p q r s t else g a (bJ (d+1)) e f h i j l m o p q r s t else aj else g a (bJ (d+1)) e f h i j l m o p q r s t else aj else k1 a d e f h i j l m o p q r s t
def l3(N:aF)(k0 k1:mS R):aF->mS R
 |0=>λ_ _ _ _ _ _ _ _ _ _ _ _ _ _ _=>aj
 |n+1=>r3 N (l3 N k0 k1 n) k0 k1
def b(N:aF)(kr:aX->aC R)(a:aw)(d e f h:aR)(i:aw)(j l:aR)(m:aw)(o p q:aR):aC R:=bif yL.c o then l3 N (λr _ _ _ _ _ _ _ _ _ _ _ _ _ _=>kr r) (λ_ _ r s t u w y z α xa xb xc xd _=>bif pj.c r s t u w y z α xa then bif pj.v r s t u w y z α xa then bif M5.c r s t u w y z α xa then bif M5.v r s t u w y z α xa then bif Qy.c r s t u w y z α xa xb xc xd then bif Qy.v r s t u w y z α xa xb xc xd then bif Ik.c r s t u w y z α xa xb xc xd then kr (Ik.v r s t u w y z α xa xb xc xd)else aj else kr ak else aj else kr ak else aj else kr ak else aj) N ak 0 a d e f h i j l m o p q (yL.v o)else aj
def vo:=b Lib.cU λr0=>ah r0
def c:=λa d e f h i j l m o p q=>(vo a d e f h i j l m o p q).isSome
def v:=λa d e f h i j l m o p q=>(vo a d e f h i j l m o p q).getD ak
theorem out{x}:∀a d e f h i j l m o p q,vo a d e f h i j l m o p q=ah x->c a d e f h i j l m o p q=ai/\v a d e f h i j l m o p q=x:=λ_ _ _ _ _ _ _ _ _ _ _ _=>Lib.dg
end M1

namespace M3
def r4(N:aF)(g k0 k1:Es R)(a:aX)(d:aw)(e:aR):aC R:=bif decide (d<(e.length:aw))then bif decide (0<=d)&&decide (d<(e.length:aw))then bif decide (0<=d)&&decide (d<(e.length:aw))then bif decide (bF (ar e d.toNat 2)<((bw (ar e d.toNat 1)).size:aw))then k0 ak d e else g a (bJ (d+1)) e else aj else aj else k1 a d e
def l4(N:aF)(k0 k1:Es R):aF->Es R
 |0=>λ_ _ _=>aj
 |n+1=>r4 N (l4 N k0 k1 n) k0 k1
def b(N:aF)(kr:aX->aC R)(a:aR):aC R:=bif gD.c a then bif !gD.v a then kr ak else l4 N (λd _ _=>kr d) (λ_ _ _=>kr ai) N ak 0 a else aj
def vo:=b Lib.cU λr0=>ah r0
def c:=λa=>(vo a).isSome
def v:=λa=>(vo a).getD ak
theorem out{x}:∀a,vo a=ah x->c a=ai/\v a=x:=λ_=>Lib.dg
end M3

namespace U3
def QJ(N:aF)(g k0:iq R)(a:aX)(d e f h i j l m:aw)(o p q r s t u w y z α xa xb xc xd xe xf xg:aR):aC R:=bif decide (e<(o.length:aw))then bif decide (0<=e)&&decide (e<(o.length:aw))then bif vT.v (bw (ar o e.toNat 0)) (bF (ar o e.toNat 1)) (bF (ar o e.toNat (1+1))) (bw (ar o e.toNat (1+1+1))) f then g a (bJ (d+1)) (bJ (e+1)) f h i j l m o p q r s t u w y z α xa xb xc xd xe xf xg else g a d (bJ (e+1)) f h i j l m o p q r s t u w y z α xa xb xc xd xe xf xg else aj else k0 a d e f h i j l m o p q r s t u w y z α xa xb xc xd xe xf xg
def Jv(N:aF)(k0:iq R):aF->iq R
 |0=>λ_ _ _ _ _ _ _ _ _ _ _ _ _ _ _ _ _ _ _ _ _ _ _ _ _ _ _=>aj
 |n+1=>QJ N (Jv N k0 n) k0
def b(N:aF)(kr:aX->aC R)(a:aR):aC R:=bif U8.v a then kr ai else bif U9.c a then Lib.lt (U9.v a) λd=>bif decide ((d.length:aw)>65)then bif M0.c a then Lib.lt (M0.v a) λe=>bif g8 0 65 (d.length:aw)then bif cw ((aP [Ck.i ao,Ck.i ao,Ck.s,Ck.i ao,Ck.l 3] 0).length+(eA d (aW 0) (aW 65)).length) 64 then bif decide (0<(e.length:aw))then bif cw ((aP [Ck.i ao,Ck.i ao,Ck.s,Ck.i ao,Ck.l 3] 0++eA d (aW 0) (aW 65)).length+(aD (aP [Ck.i ao,Ck.i ao,Ck.s,Ck.i ao,Ck.l 3] 1) 0 [.i .i64 7, .i .i64 0, .s ⟨#[]⟩, .i .i64 0,CV.l 3 (aD (aP [Ck.i ao] 1) 0 [.i .i64 (cy (bF (ar e (aW 0) 0)) 50)])]).length) 64 then bif g8 0 65 (d.length:aw)then bif DM.c (eA d (aW 0) (aW 65))then Lib.lt (DM.v (eA d (aW 0) (aW 65))) λf=>bif DM.c (aP [Ck.i ao,Ck.i ao,Ck.s,Ck.i ao,Ck.l 3] 0++eA d (aW 0) (aW 65)++aD (aP [Ck.i ao,Ck.i ao,Ck.s,Ck.i ao,Ck.l 3] 1) 0 [.i .i64 7, .i .i64 0, .s ⟨#[]⟩, .i .i64 0,CV.l 3 (aD (aP [Ck.i ao] 1) 0 [.i .i64 (cy (bF (ar e (aW 0) 0)) 50)])])then Lib.lt (DM.v (aP [Ck.i ao,Ck.i ao,Ck.s,Ck.i ao,Ck.l 3] 0++eA d (aW 0) (aW 65)++aD (aP [Ck.i ao,Ck.i ao,Ck.s,Ck.i ao,Ck.l 3] 1) 0 [.i .i64 7, .i .i64 0, .s ⟨#[]⟩, .i .i64 0,CV.l 3 (aD (aP [Ck.i ao] 1) 0 [.i .i64 (cy (bF (ar e (aW 0) 0)) 50)])])) λh=>bif !f.2.2.2.2.2.2.2.2.2.2.2.2 then kr ak else bif !h.2.2.2.2.2.2.2.2.2.2.2.2 then kr ak else bif(h.2.2.2.2.2.2.2.2.2.2.1.length:aw) !=bJ (65+1)then kr ak else bif M1.c h.1 h.2.1 h.2.2.1 h.2.2.2.1 h.2.2.2.2.1 h.2.2.2.2.2.1 h.2.2.2.2.2.2.1 h.2.2.2.2.2.2.2.1 h.2.2.2.2.2.2.2.2.1 h.2.2.2.2.2.2.2.2.2.1 h.2.2.2.2.2.2.2.2.2.2.1 h.2.2.2.2.2.2.2.2.2.2.2.1 then Lib.lt (M1.v h.1 h.2.1 h.2.2.1 h.2.2.2.1 h.2.2.2.2.1 h.2.2.2.2.2.1 h.2.2.2.2.2.2.1 h.2.2.2.2.2.2.2.1 h.2.2.2.2.2.2.2.2.1 h.2.2.2.2.2.2.2.2.2.1 h.2.2.2.2.2.2.2.2.2.2.1 h.2.2.2.2.2.2.2.2.2.2.2.1) λi=>bif !i then kr ak else bif h.1 !=f.1 then kr ak else bif decide ((h.2.2.2.2.2.2.2.1.length:aw)>0)then kr ak else Jv N (λ_ j _ _ _ _ _ _ _ _ _ _ _ _ _ _ _ _ l _ _ _ _ _ m _ _=>bif yL.c m then Lib.lt (yL.v m) λo=>bif decide ((l.length:aw)<=(o.length:aw))then bif decide ((o.length:aw)≥j)then bif M3.c m then Lib.lt (M3.v m) λp=>kr p else aj else kr ak else kr ak else aj) N ak 0 0 f.1 f.2.2.2.2.2.1 f.2.2.2.2.2.2.2.2.1 h.1 h.2.2.2.2.2.1 h.2.2.2.2.2.2.2.2.1 f.2.1 f.2.2.1 f.2.2.2.1 f.2.2.2.2.1 f.2.2.2.2.2.2.1 f.2.2.2.2.2.2.2.1 f.2.2.2.2.2.2.2.2.2.1 f.2.2.2.2.2.2.2.2.2.2.1 f.2.2.2.2.2.2.2.2.2.2.2.1 h.2.1 h.2.2.1 h.2.2.2.1 h.2.2.2.2.1 h.2.2.2.2.2.2.1 h.2.2.2.2.2.2.2.1 h.2.2.2.2.2.2.2.2.2.1 h.2.2.2.2.2.2.2.2.2.2.1 h.2.2.2.2.2.2.2.2.2.2.2.1 else aj else aj else aj else aj else aj else aj else aj else aj else aj else bif M0.c a then Lib.lt (M0.v a) λe=>bif g8 0 (d.length:aw) (d.length:aw)then bif cw ((aP [Ck.i ao,Ck.i ao,Ck.s,Ck.i ao,Ck.l 3] 0).length+(eA d (aW 0) (d.length:aw).toNat).length) 64 then bif decide (0<(e.length:aw))then bif cw ((aP [Ck.i ao,Ck.i ao,Ck.s,Ck.i ao,Ck.l 3] 0++eA d (aW 0) (d.length:aw).toNat).length+(aD (aP [Ck.i ao,Ck.i ao,Ck.s,Ck.i ao,Ck.l 3] 1) 0 [.i .i64 7, .i .i64 0, .s ⟨#[]⟩, .i .i64 0,CV.l 3 (aD (aP [Ck.i ao] 1) 0 [.i .i64 (cy (bF (ar e (aW 0) 0)) 50)])]).length) 64 then bif g8 0 (d.length:aw) (d.length:aw)then bif DM.c (eA d (aW 0) (d.length:aw).toNat)then Lib.lt (DM.v (eA d (aW 0) (d.length:aw).toNat)) λf=>bif DM.c (aP [Ck.i ao,Ck.i ao,Ck.s,Ck.i ao,Ck.l 3] 0++eA d (aW 0) (d.length:aw).toNat++aD (aP [Ck.i ao,Ck.i ao,Ck.s,Ck.i ao,Ck.l 3] 1) 0 [.i .i64 7, .i .i64 0, .s ⟨#[]⟩, .i .i64 0,CV.l 3 (aD (aP [Ck.i ao] 1) 0 [.i .i64 (cy (bF (ar e (aW 0) 0)) 50)])])then Lib.lt (DM.v (aP [Ck.i ao,Ck.i ao,Ck.s,Ck.i ao,Ck.l 3] 0++eA d (aW 0) (d.length:aw).toNat++aD (aP [Ck.i ao,Ck.i ao,Ck.s,Ck.i ao,Ck.l 3] 1) 0 [.i .i64 7, .i .i64 0, .s ⟨#[]⟩, .i .i64 0,CV.l 3 (aD (aP [Ck.i ao] 1) 0 [.i .i64 (cy (bF (ar e (aW 0) 0)) 50)])])) λh=>bif !f.2.2.2.2.2.2.2.2.2.2.2.2 then kr ak else bif !h.2.2.2.2.2.2.2.2.2.2.2.2 then kr ak else bif(h.2.2.2.2.2.2.2.2.2.2.1.length:aw) !=bJ ((d.length:aw)+1)then kr ak else bif M1.c h.1 h.2.1 h.2.2.1 h.2.2.2.1 h.2.2.2.2.1 h.2.2.2.2.2.1 h.2.2.2.2.2.2.1 h.2.2.2.2.2.2.2.1 h.2.2.2.2.2.2.2.2.1 h.2.2.2.2.2.2.2.2.2.1 h.2.2.2.2.2.2.2.2.2.2.1 h.2.2.2.2.2.2.2.2.2.2.2.1 then Lib.lt (M1.v h.1 h.2.1 h.2.2.1 h.2.2.2.1 h.2.2.2.2.1 h.2.2.2.2.2.1 h.2.2.2.2.2.2.1 h.2.2.2.2.2.2.2.1 h.2.2.2.2.2.2.2.2.1 h.2.2.2.2.2.2.2.2.2.1 h.2.2.2.2.2.2.2.2.2.2.1 h.2.2.2.2.2.2.2.2.2.2.2.1) λi=>bif !i then kr ak else bif h.1 !=f.1 then kr ak else bif decide ((h.2.2.2.2.2.2.2.1.length:aw)>0)then kr ak else Jv N (λ_ j _ _ _ _ _ _ _ _ _ _ _ _ _ _ _ _ l _ _ _ _ _ m _ _=>bif yL.c m then Lib.lt (yL.v m) λo=>bif decide ((l.length:aw)<=(o.length:aw))then bif decide ((o.length:aw)≥j)then bif M3.c m then Lib.lt (M3.v m) λp=>kr p else aj else kr ak else kr ak else aj) N ak 0 0 f.1 f.2.2.2.2.2.1 f.2.2.2.2.2.2.2.2.1 h.1 h.2.2.2.2.2.1 h.2.2.2.2.2.2.2.2.1 f.2.1 f.2.2.1 f.2.2.2.1 f.2.2.2.2.1 f.2.2.2.2.2.2.1 f.2.2.2.2.2.2.2.1 f.2.2.2.2.2.2.2.2.2.1 f.2.2.2.2.2.2.2.2.2.2.1 f.2.2.2.2.2.2.2.2.2.2.2.1 h.2.1 h.2.2.1 h.2.2.2.1 h.2.2.2.2.1 h.2.2.2.2.2.2.1 h.2.2.2.2.2.2.2.1 h.2.2.2.2.2.2.2.2.2.1 h.2.2.2.2.2.2.2.2.2.2.1 h.2.2.2.2.2.2.2.2.2.2.2.1 else aj else aj else aj else aj else aj else aj else aj else aj else aj else aj
def vo:=b Lib.cU λr0=>ah r0
def c:=λa=>(vo a).isSome
def v:=λa=>(vo a).getD ak
theorem out{x}:∀a,vo a=ah x->c a=ai/\v a=x:=λ_=>Lib.dg
end U3

namespace U56
def b(kr:aX->aC R)(a d:aw)(e:aq)(f:aw)(h:aR):aC R:=bif km.v a 1 7 then bif km.v d 0 30 then bif decide ((e.size:aw)<=60)then bif decide (f≥0)then kr (decide ((h.length:aw)<=4))else kr ak else kr ak else kr ak else kr ak
def v(a0 a1:aw)(a2:aq)(a3:aw)(a4:aR):aX:=bif km.v a0 1 7 then bif km.v a1 0 30 then bif decide ((a2.size:aw)<=60)then bif decide (a3≥0)then decide ((a4.length:aw)<=4)else ak else ak else ak else ak
end U56

end Go.FG
