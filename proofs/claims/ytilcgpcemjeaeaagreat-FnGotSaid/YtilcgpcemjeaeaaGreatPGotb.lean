/- Functions of the program, told as functions of numbers, texts and lists, and what each comes to. No condition but those that each states. -/
import Derived.Test.YtilcgpcemjeaeaaGreatLib
import Derived.Test.YtilcgpcemjeaeaaGreatPGota
set_option linter.unusedVariables false
set_option linter.unusedSimpArgs false
set_option maxRecDepth 100000
open Bool renaming false->ak,true->ai,cond_eq_ite->cK
open ByteArray renaming extract->bK,toList->aC
open Go.IntKind renaming i64->ao
open Int renaming toNat->aY,tmod->cO
open List renaming set->aD,beq->bZ
open Option renaming none->aj,some->ah
open UInt8 renaming ofNat->ay
open _root_ renaming Nat->aF,Bool->aW,ByteArray->aq,Int->aw,Option->az
namespace Go.FG
variable {R:Type}
namespace AB
def r5(N:aF)(g k0 k1:Bx R)(a:aW)(d:aq)(e:aQ)(f h:aw)(i:aQ):az R:=bif decide (h<f)then bif decide (0<=h)&&decide (h<(e.length:aw))then bif mR.c (bu (ar e h.toNat 0)) (bE (ar e h.toNat 1)) (bE (ar e h.toNat (1+1))) (bu (ar e h.toNat (1+1+1)))then bif !(mR.v (bu (ar e h.toNat 0)) (bE (ar e h.toNat 1)) (bE (ar e h.toNat (1+1))) (bu (ar e h.toNat (1+1+1)))).2 then k0 ak d e f h i else bif decide (d.size+(mR.v (bu (ar e h.toNat 0)) (bE (ar e h.toNat 1)) (bE (ar e h.toNat (1+1))) (bu (ar e h.toNat (1+1+1)))).1.size<=4611686018427387904)then g a (d++(mR.v (bu (ar e h.toNat 0)) (bE (ar e h.toNat 1)) (bE (ar e h.toNat (1+1))) (bu (ar e h.toNat (1+1+1)))).1) e f (bJ (h+1)) i else aj else aj else aj else k1 a d e f h i
def l5(N:aF)(k0 k1:Bx R):aF->Bx R
 |0=>λ_ _ _ _ _ _=>aj
 |n+1=>r5 N (l5 N k0 k1 n) k0 k1
def b(N:aF)(kr:HV R)(a d:aQ):az R:=bif ia.c a then bif !ia.v a then kr [] ak else l5 N (λe _ _ _ _ _=>kr [] e) (λ_ e _ _ _ f=>bif uP.c f {data:= #[ay 110,ay 101,ay 119]}then bif(uP.v f {data:= #[ay 110,ay 101,ay 119]}).2 then kr (aP [Ck.i ao,Ck.s,Ck.s,Ck.s] 0++aD (aP [Ck.i ao,Ck.s,Ck.s,Ck.s] 1) 0 [.i .i64 4, .s {data:= #[ay 110,ay 101,ay 119]}, .s ⟨#[]⟩, .s ⟨#[]⟩]++aD (aD (aD (aP [Ck.i ao,Ck.s,Ck.s,Ck.s] 3) 0 [.i .i64 1, .s {data:= #[ay 110,ay 101,ay 119]}, .s e, .s ⟨#[]⟩]) 1 [.i .i64 2, .s {data:= #[ay 110,ay 101,ay 119]}, .s ⟨#[]⟩, .s ⟨#[]⟩]) 2 [.i .i64 3, .s {data:= #[ay 110,ay 101,ay 119]}, .s ⟨#[]⟩, .s {data:= #[ay 107,ay 101,ay 112,ay 116]}]) ai else kr (aP [Ck.i ao,Ck.s,Ck.s,Ck.s] 0++aD (aD (aD (aP [Ck.i ao,Ck.s,Ck.s,Ck.s] 3) 0 [.i .i64 1, .s {data:= #[ay 110,ay 101,ay 119]}, .s e, .s ⟨#[]⟩]) 1 [.i .i64 2, .s {data:= #[ay 110,ay 101,ay 119]}, .s ⟨#[]⟩, .s ⟨#[]⟩]) 2 [.i .i64 3, .s {data:= #[ay 110,ay 101,ay 119]}, .s ⟨#[]⟩, .s {data:= #[ay 107,ay 101,ay 112,ay 116]}]) ai else aj) N ak ⟨#[]⟩ d (d.length:aw) 0 a else aj
def vo:=b Lib.cZ λr0 r1=>ah (r0,r1)
def c:=λa d=>(vo a d).isSome
def v:=λa d=>(vo a d).getD ([],ak)
theorem out{x}:∀a d,vo a d=ah x->c a d=ai/\v a d=x:=λ_ _=>Lib.de
end AB

namespace P_
def r4(N:aF)(g k0:mh R)(a:aw)(d:aQ)(e f h i j l m o:aw)(p q r s t u:aQ):az R:=bif decide (f<e)then bif decide (0<=f)&&decide (f<(d.length:aw))then bif Gl.v (bu (ar d f.toNat 0)) (bE (ar d f.toNat 1)) (bE (ar d f.toNat (1+1))) (bu (ar d f.toNat (1+1+1))) a then bif Ox.c l p q r s m t u o (bu (ar d f.toNat 0)) (bE (ar d f.toNat 1)) (bE (ar d f.toNat (1+1))) (bu (ar d f.toNat (1+1+1)))then Lib.lt (Ox.v l p q r s m t u o (bu (ar d f.toNat 0)) (bE (ar d f.toNat 1)) (bE (ar d f.toNat (1+1))) (bu (ar d f.toNat (1+1+1)))) λw=>g a d e (bJ (f+1)) h i j w.1 w.2.2.2.2.2.1 w.2.2.2.2.2.2.2.2 w.2.1 w.2.2.1 w.2.2.2.1 w.2.2.2.2.1 w.2.2.2.2.2.2.1 w.2.2.2.2.2.2.2.1 else aj else g a d e (bJ (f+1)) h i j l m o p q r s t u else aj else k0 a d e f h i j l m o p q r s t u
def l4(N:aF)(k0:mh R):aF->mh R
 |0=>λ_ _ _ _ _ _ _ _ _ _ _ _ _ _ _ _=>aj
 |n+1=>r4 N (l4 N k0 n) k0
def b(N:aF)(kr:eN R)(a:aw)(d:aQ):az R:=l4 N (λ_ _ _ _ _ _ _ e f h i j l m o p=>kr e i j l m f o p h) N a d (d.length:aw) 0 0 0 0 a 0 0 [] [] [] ([]++aD (aP [Ck.l 3] 1) 0 [CV.l 3 (aP [Ck.i ao] (aY 16))]++aD (aP [Ck.l 3] 1) 0 [CV.l 3 (aP [Ck.i ao] (aY 16))]++aD (aP [Ck.l 3] 1) 0 [CV.l 3 (aP [Ck.i ao] (aY 16))]) [] []
def vo:=b Lib.cZ λr0 r1 r2 r3 r4 r5 r6 r7 r8=>ah (r0,r1,r2,r3,r4,r5,r6,r7,r8)
def c:=λa d=>(vo a d).isSome
def v:=λa d=>(vo a d).getD (0,[],[],[],[],0,[],[],0)
theorem out{x}:∀a d,vo a d=ah x->c a d=ai/\v a d=x:=λ_ _=>Lib.de
end P_

namespace Av
def r3(N:aF)(g k0:mg R)(a d e f h:aw)(i j l m o p q r s t u:aQ):az R:=bif decide (d<a)then bif decide (0<=d)&&decide (d<(j.length:aw))then bif Gl.v (bu (ar j d.toNat 0)) (bE (ar j d.toNat 1)) (bE (ar j d.toNat (1+1))) (bu (ar j d.toNat (1+1+1))) e then bif cC (i.length+(aD (aP [Ck.s,Ck.i ao,Ck.i ao,Ck.s] 1) 0 [.s (bu (ar j d.toNat 0)), .i .i64 (bE (ar j d.toNat 1)), .i .i64 (bE (ar j d.toNat (1+1))), .s (bu (ar j d.toNat (1+1+1)))]).length) 48 then g a (bJ (d+1)) e f h (i++aD (aP [Ck.s,Ck.i ao,Ck.i ao,Ck.s] 1) 0 [.s (bu (ar j d.toNat 0)), .i .i64 (bE (ar j d.toNat 1)), .i .i64 (bE (ar j d.toNat (1+1))), .s (bu (ar j d.toNat (1+1+1)))]) j l m o p q r s t u else aj else g a (bJ (d+1)) e f h i j l m o p q r s t u else aj else k0 a d e f h i j l m o p q r s t u
def l3(N:aF)(k0:mg R):aF->mg R
 |0=>λ_ _ _ _ _ _ _ _ _ _ _ _ _ _ _ _=>aj
 |n+1=>r3 N (l3 N k0 n) k0
def b(N:aF)(kr:oX R)(a:aw)(d e f h:aQ)(i:aw)(j l:aQ)(m:aw)(o p q r:aQ):az R:=bif wE.c o r then Lib.lt (wE.v o r) λs=>bif U61.c s.1 then Lib.lt (U61.v s.1) λt=>l3 N (λ_ _ u _ _ w _ _ _ _ _ _ _ y z α=>bif AB.c y w then Lib.lt (AB.v y w) λxa=>bif vK.c y xa.1 then Lib.lt (vK.v y xa.1) λxb=>bif P_.c u w then Lib.lt (P_.v u w) λxc=>kr xc.1 xc.2.1 xc.2.2.1 xc.2.2.2.1 xc.2.2.2.2.1 xc.2.2.2.2.2.1 xc.2.2.2.2.2.2.1 xc.2.2.2.2.2.2.2.1 xc.2.2.2.2.2.2.2.2 xb.1 z α else aj else aj else aj) N (t.length:aw) 0 a i m (aP [Ck.s,Ck.i ao,Ck.i ao,Ck.s] 0) t d e f h j l s.1 p q else aj else aj
def vo:=b Lib.cZ λr0 r1 r2 r3 r4 r5 r6 r7 r8 r9 Jw Ag=>ah (r0,r1,r2,r3,r4,r5,r6,r7,r8,r9,Jw,Ag)
def c:=λa d e f h i j l m o p q r=>(vo a d e f h i j l m o p q r).isSome
def v:=λa d e f h i j l m o p q r=>(vo a d e f h i j l m o p q r).getD (0,[],[],[],[],0,[],[],0,[],[],[])
theorem out{x}:∀a d e f h i j l m o p q r,vo a d e f h i j l m o p q r=ah x->c a d e f h i j l m o p q r=ai/\v a d e f h i j l m o p q r=x:=λ_ _ _ _ _ _ _ _ _ _ _ _ _=>Lib.de
end Av

namespace Gg
def b(kr:aw->az R)(a:aW):az R:=bif a then kr 0 else kr 1
def v(a0:aW):aw:=bif a0 then 0 else 1
theorem eu(kr:aw->az R)(a0:aW):b kr a0=kr (v a0):=by first|rfl|(unfold b v;simp only[cK];(repeat' split)<;>rfl)
end Gg

namespace VZ
def b(kr:nZ R)(a:aw)(d e f h:aQ)(i:aw)(j l:aQ)(m:aw)(o p q:aQ)(r s:aw)(t:aq)(u:aw)(w:aQ):az R:=bif decide (r=1)then bif RS.c a d e f h i j l m s t then Lib.lt (RS.v a d e f h i j l m s t) λy=>kr y.2.2.2.2.2.2.2.2.2 y.1 y.2.1 y.2.2.1 y.2.2.2.1 y.2.2.2.2.1 y.2.2.2.2.2.1 y.2.2.2.2.2.2.1 y.2.2.2.2.2.2.2.1 y.2.2.2.2.2.2.2.2.1 o p q else aj else bif decide (r=2)then bif V3.c a d e f h i j l m s t then Lib.lt (V3.v a d e f h i j l m s t) λy=>kr (Gg.v y.2.2.2.2.2.2.2.2.2) y.1 y.2.1 y.2.2.1 y.2.2.2.1 y.2.2.2.2.1 y.2.2.2.2.2.1 y.2.2.2.2.2.2.1 y.2.2.2.2.2.2.2.1 y.2.2.2.2.2.2.2.2.1 o p q else aj else bif decide (r=3)then bif V4.c a d e f h i j l m o p q s (cO u 1000000)then Lib.lt (V4.v a d e f h i j l m o p q s (cO u 1000000)) λy=>kr (Gg.v y.1) y.2.1 y.2.2.1 y.2.2.2.1 y.2.2.2.2.1 y.2.2.2.2.2.1 y.2.2.2.2.2.2.1 y.2.2.2.2.2.2.2.1 y.2.2.2.2.2.2.2.2.1 y.2.2.2.2.2.2.2.2.2.1 y.2.2.2.2.2.2.2.2.2.2.1 y.2.2.2.2.2.2.2.2.2.2.2.1 y.2.2.2.2.2.2.2.2.2.2.2.2 else aj else bif decide (r=4)then bif V5.c a d e f h i j l m s then Lib.lt (V5.v a d e f h i j l m s) λy=>kr (Gg.v y.2.2.2.2.2.2.2.2.2) y.1 y.2.1 y.2.2.1 y.2.2.2.1 y.2.2.2.2.1 y.2.2.2.2.2.1 y.2.2.2.2.2.2.1 y.2.2.2.2.2.2.2.1 y.2.2.2.2.2.2.2.2.1 o p q else aj else bif decide (r=5)then bif Dv.c a d e f h i j l m u then Lib.lt (Dv.v a d e f h i j l m u) λy=>kr 0 y.1 y.2.1 y.2.2.1 y.2.2.2.1 y.2.2.2.2.1 y.2.2.2.2.2.1 y.2.2.2.2.2.2.1 y.2.2.2.2.2.2.2.1 y.2.2.2.2.2.2.2.2 o p q else aj else bif decide (r=6)then bif zh.c a d e f h i j l m s then Lib.lt (zh.v a d e f h i j l m s) λy=>bif Dw.c a d e f h i j l m s then Lib.lt (Dw.v a d e f h i j l m s) λz=>kr (Gg.v (decide (y≥0))) z.1 z.2.1 z.2.2.1 z.2.2.2.1 z.2.2.2.2.1 z.2.2.2.2.2.1 z.2.2.2.2.2.2.1 z.2.2.2.2.2.2.2.1 z.2.2.2.2.2.2.2.2 o p q else aj else aj else bif Av.c a d e f h i j l m o p q w then Lib.lt (Av.v a d e f h i j l m o p q w) λy=>kr 0 y.1 y.2.1 y.2.2.1 y.2.2.2.1 y.2.2.2.2.1 y.2.2.2.2.2.1 y.2.2.2.2.2.2.1 y.2.2.2.2.2.2.2.1 y.2.2.2.2.2.2.2.2.1 y.2.2.2.2.2.2.2.2.2.1 y.2.2.2.2.2.2.2.2.2.2.1 y.2.2.2.2.2.2.2.2.2.2.2 else aj
def vo:=b λr0 r1 r2 r3 r4 r5 r6 r7 r8 r9 Jw Ag Uw=>ah (r0,r1,r2,r3,r4,r5,r6,r7,r8,r9,Jw,Ag,Uw)
def c:=λa d e f h i j l m o p q r s t u w=>(vo a d e f h i j l m o p q r s t u w).isSome
def v:=λa d e f h i j l m o p q r s t u w=>(vo a d e f h i j l m o p q r s t u w).getD (0,0,[],[],[],[],0,[],[],0,[],[],[])
theorem out{x}:∀a d e f h i j l m o p q r s t u w,vo a d e f h i j l m o p q r s t u w=ah x->c a d e f h i j l m o p q r s t u w=ai/\v a d e f h i j l m o p q r s t u w=x:=λ_ _ _ _ _ _ _ _ _ _ _ _ _ _ _ _ _=>Lib.de
end VZ

namespace MH
def Ag(N:aF)(g k0:kF R)(a:aQ)(d e f h i j l m:aw)(o p q r s t u w y:aQ):az R:=bif decide (e<d)then bif decide (0<=e)&&decide (e<(a.length:aw))then bif VZ.c j o p q r l s t m u w y (bE (ar a e.toNat 0)) (bE (ar a e.toNat 1)) (bu (ar a e.toNat (1+1))) (bE (ar a e.toNat (1+1+1))) (jv (ar a e.toNat (1+1+1+1)))then Lib.lt (VZ.v j o p q r l s t m u w y (bE (ar a e.toNat 0)) (bE (ar a e.toNat 1)) (bu (ar a e.toNat (1+1))) (bE (ar a e.toNat (1+1+1))) (jv (ar a e.toNat (1+1+1+1)))) λz=>bif cC (z.2.2.2.2.2.2.2.2.2.2.2.1.length+(aD (aP [Ck.i ao] 1) 0 [.i .i64 z.1]).length) 8 then g a d (bJ (e+1)) f h i z.2.1 z.2.2.2.2.2.2.1 z.2.2.2.2.2.2.2.2.2.1 z.2.2.1 z.2.2.2.1 z.2.2.2.2.1 z.2.2.2.2.2.1 z.2.2.2.2.2.2.2.1 z.2.2.2.2.2.2.2.2.1 z.2.2.2.2.2.2.2.2.2.2.1 (z.2.2.2.2.2.2.2.2.2.2.2.1++aD (aP [Ck.i ao] 1) 0 [.i .i64 z.1]) z.2.2.2.2.2.2.2.2.2.2.2.2 else aj else aj else aj else k0 a d e f h i j l m o p q r s t u w y
def Pc(N:aF)(k0:kF R):aF->kF R
 |0=>λ_ _ _ _ _ _ _ _ _ _ _ _ _ _ _ _ _ _=>aj
 |n+1=>Ag N (Pc N k0 n) k0
def r4(N:aF)(g k0 k1:vu R)(a:aQ)(d:aW)(e:aQ)(f h i j l:aw):az R:=bif decide (h<f)then bif decide (0<=h)&&decide (h<(e.length:aw))then bif !U31.v (bE (ar e h.toNat 0)) (bE (ar e h.toNat 1)) (bu (ar e h.toNat (1+1))) (bE (ar e h.toNat (1+1+1))) (jv (ar e h.toNat (1+1+1+1)))then k0 a ak e f h 0 0 0 else g a d e f (bJ (h+1)) i j l else aj else k1 a d e f h i j l
def l4(N:aF)(k0 k1:vu R):aF->vu R
 |0=>λ_ _ _ _ _ _ _ _=>aj
 |n+1=>r4 N (l4 N k0 k1 n) k0 k1
def b(N:aF)(kr:Ap R)(a:aQ):az R:=bif decide ((a.length:aw)>70)then kr 0 [] [] [] [] 0 [] [] 0 [] [] [] ak else l4 N (λ_ d _ _ _ e f h=>kr e [] [] [] [] f [] [] h [] [] [] d) (λd _ _ _ _ e f h=>Pc N (λ_ _ _ _ _ _ i j l m o p q r s t u w=>kr i m o p q j r s l t u w ai) N d (d.length:aw) 0 e f h 1 0 0 [] [] [] ([]++aD (aP [Ck.l 3] 1) 0 [CV.l 3 (aP [Ck.i ao] (aY 16))]++aD (aP [Ck.l 3] 1) 0 [CV.l 3 (aP [Ck.i ao] (aY 16))]++aD (aP [Ck.l 3] 1) 0 [CV.l 3 (aP [Ck.i ao] (aY 16))]) [] [] [] [] []) N a ak a (a.length:aw) 0 0 0 0
def vo:=b Lib.cZ λr0 r1 r2 r3 r4 r5 r6 r7 r8 r9 Jw Ag Uw=>ah (r0,r1,r2,r3,r4,r5,r6,r7,r8,r9,Jw,Ag,Uw)
def c:=λa=>(vo a).isSome
def v:=λa=>(vo a).getD (0,[],[],[],[],0,[],[],0,[],[],[],ak)
theorem out{x}:∀a,vo a=ah x->c a=ai/\v a=x:=λ_=>Lib.de
end MH

namespace DE
def b(kr:aW->az R)(a d:aq):az R:=bif decide ((a.size:aw)≥(d.size:aw))then bif g9 0 (d.size:aw) (a.size:aw)then kr (bZ (bK a (aY 0) (d.size:aw).toNat).toList (aC d))else aj else kr ak
def vo:=b λr0=>ah r0
def c:=λa d=>(vo a d).isSome
def v:=λa d=>(vo a d).getD ak
theorem out{x}:∀a d,vo a d=ah x->c a d=ai/\v a d=x:=λ_ _=>Lib.de
end DE

namespace Dy
def b(kr:aW->az R)(a d:aq):az R:=bif DE.c a d then kr (DE.v a d)else aj
def vo:=b λr0=>ah r0
def c:=λa d=>(vo a d).isSome
def v:=λa d=>(vo a d).getD ak
theorem out{x}:∀a d,vo a d=ah x->c a d=ai/\v a d=x:=λ_ _=>Lib.de
end Dy

namespace V1
def b(kr:aW->az R)(a:aw)(d e f h:aQ)(i:aw)(j l:aQ)(m o:aw)(p:aq)(q r s:aw)(t:aq)(u:aw):az R:=bif decide (q>(j.length:aw))then kr ak else bif decide (0<=bJ (q-1))&&decide (bJ (q-1)<(j.length:aw))then bif !List.beq (bu (ar j (bJ (q-1)).toNat 0)).toList (aC p)then kr ak else bif decide (s=1)then bif bZ (aC t) (bu (ar j (bJ (q-1)).toNat 1)).toList then kr (decide (bE (ar j (bJ (q-1)).toNat (1+1))=1))else kr ak else bif decide (s=2)then bif bZ (aC t) (bu (ar j (bJ (q-1)).toNat 1)).toList then kr (decide (bE (ar j (bJ (q-1)).toNat (1+1))=2))else kr ak else bif decide (s=3)then bif Dy.c (bu (ar j (bJ (q-1)).toNat 1)) t then bif Dy.v (bu (ar j (bJ (q-1)).toNat 1)) t then kr (decide (bE (ar j (bJ (q-1)).toNat (1+1))=3))else kr ak else aj else kr ak else aj
def vo:=b λr0=>ah r0
def c:=λa d e f h i j l m o p q r s t u=>(vo a d e f h i j l m o p q r s t u).isSome
def v:=λa d e f h i j l m o p q r s t u=>(vo a d e f h i j l m o p q r s t u).getD ak
theorem out{x}:∀a d e f h i j l m o p q r s t u,vo a d e f h i j l m o p q r s t u=ah x->c a d e f h i j l m o p q r s t u=ai/\v a d e f h i j l m o p q r s t u=x:=λ_ _ _ _ _ _ _ _ _ _ _ _ _ _ _ _=>Lib.de
end V1

namespace V2
def b(kr:aW->az R)(a:aQ)(Gw:aw)(BW:aq)(Gx BX Gy:aw)(BZ:aq)(B0:aw):az R:=bif sb.c a Gw BW Gx BX Gy BZ B0 then kr (decide (sb.v a Gw BW Gx BX Gy BZ B0≥0))else aj
def vo:=b λr0=>ah r0
def c:=λa d e f h i j l=>(vo a d e f h i j l).isSome
def v:=λa d e f h i j l=>(vo a d e f h i j l).getD ak
theorem out{x}:∀a d e f h i j l,vo a d e f h i j l=ah x->c a d e f h i j l=ai/\v a d e f h i j l=x:=λ_ _ _ _ _ _ _ _=>Lib.de
end V2

namespace Qa
def r2(N:aF)(g k0 k1:gX R)(a:aW)(d:aQ)(e f h:aw)(i j l m:aQ)(o:aw)(p q:aQ)(r:aw)(s t u:aQ):az R:=bif decide (f<e)then bif decide (0<=f)&&decide (f<(d.length:aw))then bif decide (bE (ar d f.toNat (1+1))>0)then bif V1.c h i j l m o p q r (bE (ar d f.toNat 0)) (bu (ar d f.toNat 1)) (bE (ar d f.toNat (1+1))) (bE (ar d f.toNat (1+1+1))) (bE (ar d f.toNat (1+1+1+1))) (bu (ar d f.toNat (1+1+1+1+1))) (bE (ar d f.toNat (1+1+1+1+1+1)))then bif !V1.v h i j l m o p q r (bE (ar d f.toNat 0)) (bu (ar d f.toNat 1)) (bE (ar d f.toNat (1+1))) (bE (ar d f.toNat (1+1+1))) (bE (ar d f.toNat (1+1+1+1))) (bu (ar d f.toNat (1+1+1+1+1))) (bE (ar d f.toNat (1+1+1+1+1+1)))then k0 ak d e f h i j l m o p q r s t u else g a d e (bJ (f+1)) h i j l m o p q r s t u else aj else bif decide (bE (ar d f.toNat (1+1+1+1))=2)then bif V2.c u (bE (ar d f.toNat 0)) (bu (ar d f.toNat 1)) (bE (ar d f.toNat (1+1))) (bE (ar d f.toNat (1+1+1))) (bE (ar d f.toNat (1+1+1+1))) (bu (ar d f.toNat (1+1+1+1+1))) (bE (ar d f.toNat (1+1+1+1+1+1)))then bif !V2.v u (bE (ar d f.toNat 0)) (bu (ar d f.toNat 1)) (bE (ar d f.toNat (1+1))) (bE (ar d f.toNat (1+1+1))) (bE (ar d f.toNat (1+1+1+1))) (bu (ar d f.toNat (1+1+1+1+1))) (bE (ar d f.toNat (1+1+1+1+1+1)))then k0 ak d e f h i j l m o p q r s t u else g a d e (bJ (f+1)) h i j l m o p q r s t u else aj else k0 ak d e f h i j l m o p q r s t u else aj else k1 a d e f h i j l m o p q r s t u
def l2(N:aF)(k0 k1:gX R):aF->gX R
 |0=>λ_ _ _ _ _ _ _ _ _ _ _ _ _ _ _ _=>aj
 |n+1=>r2 N (l2 N k0 k1 n) k0 k1
def b(N:aF)(kr:aW->az R)(a:aw)(d e f h:aQ)(i:aw)(j l:aQ)(m:aw)(o p q:aQ):az R:=l2 N (λr _ _ _ _ _ _ _ _ _ _ _ _ _ _ _=>kr r) (λ_ _ _ _ _ _ _ _ _ _ _ _ _ _ _ _=>kr ai) N ak l (l.length:aw) 0 a d e f h i j l m o p q
def vo:=b Lib.cZ λr0=>ah r0
def c:=λa d e f h i j l m o p q=>(vo a d e f h i j l m o p q).isSome
def v:=λa d e f h i j l m o p q=>(vo a d e f h i j l m o p q).getD ak
theorem out{x}:∀a d e f h i j l m o p q,vo a d e f h i j l m o p q=ah x->c a d e f h i j l m o p q=ai/\v a d e f h i j l m o p q=x:=λ_ _ _ _ _ _ _ _ _ _ _ _=>Lib.de
end Qa

namespace Aw
def r2(N:aF)(g k0 k1:vv R)(a:aQ)(d e f:aw)(h:aq)(i j:aw)(l:aq):az R:=bif decide (f<e)then bif decide (0<=f)&&decide (f<(a.length:aw))then bif bZ (aC h) (bu (ar a f.toNat 0)).toList&&(decide (i=bE (ar a f.toNat 1))&&(decide (j=bE (ar a f.toNat (1+1)))&&(bZ (aC l) (bu (ar a f.toNat (1+1+1))).toList&&ai)))then k0 a f e f h i j l else g a d e (bJ (f+1)) h i j l else aj else k1 a d e f h i j l
def l2(N:aF)(k0 k1:vv R):aF->vv R
 |0=>λ_ _ _ _ _ _ _ _=>aj
 |n+1=>r2 N (l2 N k0 k1 n) k0 k1
def b(N:aF)(kr:aw->az R)(a:aQ)(d:aq)(e f:aw)(h:aq):az R:=l2 N (λ_ i _ _ _ _ _ _=>kr i) (λ_ _ _ _ _ _ _ _=>kr (-1)) N a 0 (a.length:aw) 0 d e f h
def vo:=b Lib.cZ λr0=>ah r0
def c:=λa d e f h=>(vo a d e f h).isSome
def v:=λa d e f h=>(vo a d e f h).getD (0)
theorem out{x}:∀a d e f h,vo a d e f h=ah x->c a d e f h=ai/\v a d e f h=x:=λ_ _ _ _ _=>Lib.de
end Aw

namespace V0
def b(kr:aW->az R)(a:aQ)(d:aq)(e f:aw)(h:aq):az R:=bif Aw.c a d e f h then kr (decide (Aw.v a d e f h≥0))else aj
def vo:=b λr0=>ah r0
def c:=λa d e f h=>(vo a d e f h).isSome
def v:=λa d e f h=>(vo a d e f h).getD ak
theorem out{x}:∀a d e f h,vo a d e f h=ah x->c a d e f h=ai/\v a d e f h=x:=λ_ _ _ _ _=>Lib.de
end V0

namespace Qb
def r2(N:aF)(g k0 k1:gX R)(a:aW)(d:aQ)(e f h:aw)(i j l m:aQ)(o:aw)(p q:aQ)(r:aw)(s t u:aQ):az R:=bif decide (f<e)then bif decide (0<=f)&&decide (f<(d.length:aw))then bif V0.c u (bu (ar d f.toNat 0)) (bE (ar d f.toNat 1)) (bE (ar d f.toNat (1+1))) (bu (ar d f.toNat (1+1+1)))then bif !V0.v u (bu (ar d f.toNat 0)) (bE (ar d f.toNat 1)) (bE (ar d f.toNat (1+1))) (bu (ar d f.toNat (1+1+1)))then k0 ak d e f h i j l m o p q r s t u else g a d e (bJ (f+1)) h i j l m o p q r s t u else aj else aj else k1 a d e f h i j l m o p q r s t u
def l2(N:aF)(k0 k1:gX R):aF->gX R
 |0=>λ_ _ _ _ _ _ _ _ _ _ _ _ _ _ _ _=>aj
 |n+1=>r2 N (l2 N k0 k1 n) k0 k1
def b(N:aF)(kr:aW->az R)(a:aw)(d e f h:aQ)(i:aw)(j l:aQ)(m:aw)(o p q:aQ):az R:=l2 N (λr _ _ _ _ _ _ _ _ _ _ _ _ _ _ _=>kr r) (λ_ _ _ _ _ _ _ _ _ _ _ _ _ _ _ _=>kr ai) N ak d (d.length:aw) 0 a d e f h i j l m o p q
def vo:=b Lib.cZ λr0=>ah r0
def c:=λa d e f h i j l m o p q=>(vo a d e f h i j l m o p q).isSome
def v:=λa d e f h i j l m o p q=>(vo a d e f h i j l m o p q).getD ak
theorem out{x}:∀a d e f h i j l m o p q,vo a d e f h i j l m o p q=ah x->c a d e f h i j l m o p q=ai/\v a d e f h i j l m o p q=x:=λ_ _ _ _ _ _ _ _ _ _ _ _=>Lib.de
end Qb

namespace VY
def b(kr:aW->az R)(a d:aq):az R:=bif decide ((a.size:aw)<=(d.size:aw))then bif g9 0 (a.size:aw) (d.size:aw)then kr (bZ (bK d (aY 0) (a.size:aw).toNat).toList (aC a))else aj else kr ak
def vo:=b λr0=>ah r0
def c:=λa d=>(vo a d).isSome
def v:=λa d=>(vo a d).getD ak
theorem out{x}:∀a d,vo a d=ah x->c a d=ai/\v a d=x:=λ_ _=>Lib.de
end VY

namespace U7
def r8(N:aF)(g k0 k1:nk R)(a:aW)(d e f h:aw)(i j l m o p q r s:aQ):az R:=bif decide (d<(p.length:aw))then bif decide (0<=d)&&decide (d<(p.length:aw))then bif decide (bE (ar p d.toNat (1+1))>0)then bif decide (0<=bJ (bE (ar p d.toNat (1+1))-1))&&decide (bJ (bE (ar p d.toNat (1+1))-1)<(o.length:aw))then bif VY.c (bu (ar p d.toNat (1+1+1+1+1))) (bu (ar o (bJ (bE (ar p d.toNat (1+1))-1)).toNat 1))then Lib.lt (VY.v (bu (ar p d.toNat (1+1+1+1+1))) (bu (ar o (bJ (bE (ar p d.toNat (1+1))-1)).toNat 1))) λt=>bif !t then k0 ak d e f h i j l m o p q r s else bif decide (bE (ar p d.toNat (1+1))=0)then bif bE (ar p d.toNat (1+1+1+1)) !=2 then k0 ak d e f h i j l m o p q r s else g a (bJ (d+1)) e f h i j l m o p q r s else g a (bJ (d+1)) e f h i j l m o p q r s else aj else aj else bif decide (bE (ar p d.toNat (1+1))=0)then bif bE (ar p d.toNat (1+1+1+1)) !=2 then k0 ak d e f h i j l m o p q r s else g a (bJ (d+1)) e f h i j l m o p q r s else g a (bJ (d+1)) e f h i j l m o p q r s else aj else k1 a d e f h i j l m o p q r s
def l8(N:aF)(k0 k1:nk R):aF->nk R
 |0=>λ_ _ _ _ _ _ _ _ _ _ _ _ _ _=>aj
 |n+1=>r8 N (l8 N k0 k1 n) k0 k1
def b(N:aF)(kr:aW->az R)(a:aQ):az R:=bif U8.v a then kr ai else bif U9.c a then Lib.lt (U9.v a) λd=>bif MH.c d then Lib.lt (MH.v d) λe=>bif !e.2.2.2.2.2.2.2.2.2.2.2.2 then kr ak else bif(e.2.2.2.2.2.2.2.2.2.2.1.length:aw) !=(d.length:aw)then kr ak else bif Qa.c e.1 e.2.1 e.2.2.1 e.2.2.2.1 e.2.2.2.2.1 e.2.2.2.2.2.1 e.2.2.2.2.2.2.1 e.2.2.2.2.2.2.2.1 e.2.2.2.2.2.2.2.2.1 e.2.2.2.2.2.2.2.2.2.1 e.2.2.2.2.2.2.2.2.2.2.1 e.2.2.2.2.2.2.2.2.2.2.2.1 then Lib.lt (Qa.v e.1 e.2.1 e.2.2.1 e.2.2.2.1 e.2.2.2.2.1 e.2.2.2.2.2.1 e.2.2.2.2.2.2.1 e.2.2.2.2.2.2.2.1 e.2.2.2.2.2.2.2.2.1 e.2.2.2.2.2.2.2.2.2.1 e.2.2.2.2.2.2.2.2.2.2.1 e.2.2.2.2.2.2.2.2.2.2.2.1) λf=>bif !f then kr ak else bif H6.c e.1 e.2.1 e.2.2.1 e.2.2.2.1 e.2.2.2.2.1 e.2.2.2.2.2.1 e.2.2.2.2.2.2.1 e.2.2.2.2.2.2.2.1 e.2.2.2.2.2.2.2.2.1 then Lib.lt (H6.v e.1 e.2.1 e.2.2.1 e.2.2.2.1 e.2.2.2.2.1 e.2.2.2.2.2.1 e.2.2.2.2.2.2.1 e.2.2.2.2.2.2.2.1 e.2.2.2.2.2.2.2.2.1) λh=>bif !h then kr ak else bif Qb.c e.1 e.2.1 e.2.2.1 e.2.2.2.1 e.2.2.2.2.1 e.2.2.2.2.2.1 e.2.2.2.2.2.2.1 e.2.2.2.2.2.2.2.1 e.2.2.2.2.2.2.2.2.1 e.2.2.2.2.2.2.2.2.2.1 e.2.2.2.2.2.2.2.2.2.2.1 e.2.2.2.2.2.2.2.2.2.2.2.1 then Lib.lt (Qb.v e.1 e.2.1 e.2.2.1 e.2.2.2.1 e.2.2.2.2.1 e.2.2.2.2.2.1 e.2.2.2.2.2.2.1 e.2.2.2.2.2.2.2.1 e.2.2.2.2.2.2.2.2.1 e.2.2.2.2.2.2.2.2.2.1 e.2.2.2.2.2.2.2.2.2.2.1 e.2.2.2.2.2.2.2.2.2.2.2.1) λi=>bif !i then kr ak else l8 N (λj _ _ _ _ _ _ _ _ _ _ _ _ _=>kr j) (λ_ _ _ _ _ _ _ _ _ _ _ _ _ _=>kr ai) N ak 0 e.1 e.2.2.2.2.2.1 e.2.2.2.2.2.2.2.2.1 e.2.1 e.2.2.1 e.2.2.2.1 e.2.2.2.2.1 e.2.2.2.2.2.2.1 e.2.2.2.2.2.2.2.1 e.2.2.2.2.2.2.2.2.2.1 e.2.2.2.2.2.2.2.2.2.2.1 e.2.2.2.2.2.2.2.2.2.2.2.1 else aj else aj else aj else aj else aj
def vo:=b Lib.cZ λr0=>ah r0
def c:=λa=>(vo a).isSome
def v:=λa=>(vo a).getD ak
theorem out{x}:∀a,vo a=ah x->c a=ai/\v a=x:=λ_=>Lib.de
end U7

namespace U56
def b(kr:aW->az R)(a d:aw)(e:aq)(f:aw)(h:aQ):az R:=bif kl.v a 1 7 then bif kl.v d 0 30 then bif decide ((e.size:aw)<=60)then bif decide (f≥0)then kr (decide ((h.length:aw)<=4))else kr ak else kr ak else kr ak else kr ak
def v(a0 a1:aw)(a2:aq)(a3:aw)(a4:aQ):aW:=bif kl.v a0 1 7 then bif kl.v a1 0 30 then bif decide ((a2.size:aw)<=60)then bif decide (a3≥0)then decide ((a4.length:aw)<=4)else ak else ak else ak else ak
end U56

namespace Gk
def r2(N:aF)(g k0 k1:yD R)(a:aQ)(d:aW)(e:aw)(f:aq)(h i:aw)(j:aq):az R:=bif decide (e<(a.length:aw))then bif decide (0<=e)&&decide (e<(a.length:aw))then bif bZ (bu (ar a e.toNat 0)).toList (aC f)&&(decide (bE (ar a e.toNat 1)=h)&&(decide (bE (ar a e.toNat (1+1))=i)&&(bZ (bu (ar a e.toNat (1+1+1))).toList (aC j)&&ai)))then k0 a ai e f h i j else g a d (bJ (e+1)) f h i j else aj else k1 a d e f h i j
def l2(N:aF)(k0 k1:yD R):aF->yD R
 |0=>λ_ _ _ _ _ _ _=>aj
 |n+1=>r2 N (l2 N k0 k1 n) k0 k1
def b(N:aF)(kr:aW->az R)(a:aQ)(d:aq)(e f:aw)(h:aq):az R:=l2 N (λ_ i _ _ _ _ _=>kr i) (λ_ _ _ _ _ _ _=>kr ak) N a ak 0 d e f h
def vo:=b Lib.cZ λr0=>ah r0
def c:=λa d e f h=>(vo a d e f h).isSome
def v:=λa d e f h=>(vo a d e f h).getD ak
end Gk

namespace H7
def r2(N:aF)(g k0 k1:np R)(a:aW)(d e:aw)(f h i j:aQ)(l:aw)(m o:aQ)(p:aw)(q r s:aQ):az R:=bif decide (d<(f.length:aw))then bif decide (0<=d)&&decide (d<(f.length:aw))then bif Gk.c s (bu (ar f d.toNat 0)) (bE (ar f d.toNat 1)) (bE (ar f d.toNat (1+1))) (bu (ar f d.toNat (1+1+1)))then bif !Gk.v s (bu (ar f d.toNat 0)) (bE (ar f d.toNat 1)) (bE (ar f d.toNat (1+1))) (bu (ar f d.toNat (1+1+1)))then k0 ak d e f h i j l m o p q r s else g a (bJ (d+1)) e f h i j l m o p q r s else aj else aj else k1 a d e f h i j l m o p q r s
def l2(N:aF)(k0 k1:np R):aF->np R
 |0=>λ_ _ _ _ _ _ _ _ _ _ _ _ _ _=>aj
 |n+1=>r2 N (l2 N k0 k1 n) k0 k1
def b(N:aF)(kr:aW->az R)(a:aw)(d e f h:aQ)(i:aw)(j l:aQ)(m:aw)(o p q:aQ):az R:=l2 N (λr _ _ _ _ _ _ _ _ _ _ _ _ _=>kr r) (λ_ _ _ _ _ _ _ _ _ _ _ _ _ _=>kr ai) N ak 0 a d e f h i j l m o p q
def vo:=b Lib.cZ λr0=>ah r0
def c:=λa d e f h i j l m o p q=>(vo a d e f h i j l m o p q).isSome
def v:=λa d e f h i j l m o p q=>(vo a d e f h i j l m o p q).getD ak
end H7

end Go.FG
