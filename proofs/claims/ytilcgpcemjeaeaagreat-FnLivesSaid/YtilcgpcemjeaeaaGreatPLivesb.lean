/- Functions of the program, told as functions of numbers, texts and lists, and what each comes to. No condition but those that each states. -/
import Derived.Test.YtilcgpcemjeaeaaGreatLib
import Derived.Test.YtilcgpcemjeaeaaGreatPLivesa
set_option linter.unusedVariables false
set_option linter.unusedSimpArgs false
set_option maxRecDepth 100000
open Bool renaming false->ak,true->ai,cond_eq_ite->cz
open Go.IntKind renaming i64->ao,u8->ba,wrap->bE
open Int renaming toNat->aZ,tmod->cK,neg->oS
open List renaming set->aA,beq->cF
open Option renaming none->aj,some->ah
open UInt8 renaming ofNat->aw
open _root_ renaming Nat->aE,Bool->aW,ByteArray->aq,Int->ax,Option->az
namespace Go.FG
variable {R:Type}
namespace Av
def r5(N:aE)(g k0 k1:Bt R)(a:aW)(d:aq)(e:aQ)(f h:ax)(i:aQ):az R:=bif decide (h<f)then bif decide (0<=h)&&decide (h<(e.length:ax))then bif mN.c (bn (ar e h.toNat 0)) (bI (ar e h.toNat 1)) (bI (ar e h.toNat (1+1))) (bn (ar e h.toNat (1+1+1)))then bif !(mN.v (bn (ar e h.toNat 0)) (bI (ar e h.toNat 1)) (bI (ar e h.toNat (1+1))) (bn (ar e h.toNat (1+1+1)))).2 then k0 ak d e f h i else bif decide (d.size+(mN.v (bn (ar e h.toNat 0)) (bI (ar e h.toNat 1)) (bI (ar e h.toNat (1+1))) (bn (ar e h.toNat (1+1+1)))).1.size<=4611686018427387904)then g a (d++(mN.v (bn (ar e h.toNat 0)) (bI (ar e h.toNat 1)) (bI (ar e h.toNat (1+1))) (bn (ar e h.toNat (1+1+1)))).1) e f (bH (h+1)) i else aj else aj else aj else k1 a d e f h i
def l5(N:aE)(k0 k1:Bt R):aE->Bt R
 |0=>λ_ _ _ _ _ _=>aj
 |n+1=>r5 N (l5 N k0 k1 n) k0 k1
def b(N:aE)(kr:HE R)(a d:aQ):az R:=bif ia.c a then bif !ia.v a then kr [] ak else l5 N (λe _ _ _ _ _=>kr [] e) (λ_ e _ _ _ f=>bif uL.c f {data:= #[aw 110,aw 101,aw 119]}then bif(uL.v f {data:= #[aw 110,aw 101,aw 119]}).2 then kr (aN [Ck.i ao,Ck.s,Ck.s,Ck.s] 0++aA (aN [Ck.i ao,Ck.s,Ck.s,Ck.s] 1) 0 [.i .i64 4, .s {data:= #[aw 110,aw 101,aw 119]}, .s ⟨#[]⟩, .s ⟨#[]⟩]++aA (aA (aA (aN [Ck.i ao,Ck.s,Ck.s,Ck.s] 3) 0 [.i .i64 1, .s {data:= #[aw 110,aw 101,aw 119]}, .s e, .s ⟨#[]⟩]) 1 [.i .i64 2, .s {data:= #[aw 110,aw 101,aw 119]}, .s ⟨#[]⟩, .s ⟨#[]⟩]) 2 [.i .i64 3, .s {data:= #[aw 110,aw 101,aw 119]}, .s ⟨#[]⟩, .s {data:= #[aw 107,aw 101,aw 112,aw 116]}]) ai else kr (aN [Ck.i ao,Ck.s,Ck.s,Ck.s] 0++aA (aA (aA (aN [Ck.i ao,Ck.s,Ck.s,Ck.s] 3) 0 [.i .i64 1, .s {data:= #[aw 110,aw 101,aw 119]}, .s e, .s ⟨#[]⟩]) 1 [.i .i64 2, .s {data:= #[aw 110,aw 101,aw 119]}, .s ⟨#[]⟩, .s ⟨#[]⟩]) 2 [.i .i64 3, .s {data:= #[aw 110,aw 101,aw 119]}, .s ⟨#[]⟩, .s {data:= #[aw 107,aw 101,aw 112,aw 116]}]) ai else aj) N ak ⟨#[]⟩ d (d.length:ax) 0 a else aj
def vo:=b Lib.cU λr0 r1=>ah (r0,r1)
def c:=λa d=>(vo a d).isSome
def v:=λa d=>(vo a d).getD ([],ak)
theorem out{x}:∀a d,vo a d=ah x->c a d=ai/\v a d=x:=λ_ _=>Lib.db
end Av

namespace Kb
def r4(N:aE)(g k0:mc R)(a:ax)(d:aQ)(e f h i j l m o:ax)(p q r s t u:aQ):az R:=bif decide (f<e)then bif decide (0<=f)&&decide (f<(d.length:ax))then bif Ge.v (bn (ar d f.toNat 0)) (bI (ar d f.toNat 1)) (bI (ar d f.toNat (1+1))) (bn (ar d f.toNat (1+1+1))) a then bif Oh.c l p q r s m t u o (bn (ar d f.toNat 0)) (bI (ar d f.toNat 1)) (bI (ar d f.toNat (1+1))) (bn (ar d f.toNat (1+1+1)))then Lib.lt (Oh.v l p q r s m t u o (bn (ar d f.toNat 0)) (bI (ar d f.toNat 1)) (bI (ar d f.toNat (1+1))) (bn (ar d f.toNat (1+1+1)))) λw=>g a d e (bH (f+1)) h i j w.1 w.2.2.2.2.2.1 w.2.2.2.2.2.2.2.2 w.2.1 w.2.2.1 w.2.2.2.1 w.2.2.2.2.1 w.2.2.2.2.2.2.1 w.2.2.2.2.2.2.2.1 else aj else g a d e (bH (f+1)) h i j l m o p q r s t u else aj else k0 a d e f h i j l m o p q r s t u
def l4(N:aE)(k0:mc R):aE->mc R
 |0=>λ_ _ _ _ _ _ _ _ _ _ _ _ _ _ _ _=>aj
 |n+1=>r4 N (l4 N k0 n) k0
def b(N:aE)(kr:eM R)(a:ax)(d:aQ):az R:=l4 N (λ_ _ _ _ _ _ _ e f h i j l m o p=>kr e i j l m f o p h) N a d (d.length:ax) 0 0 0 0 a 0 0 [] [] [] ([]++aA (aN [Ck.l 3] 1) 0 [CV.l 3 (aN [Ck.i ao] (aZ 16))]++aA (aN [Ck.l 3] 1) 0 [CV.l 3 (aN [Ck.i ao] (aZ 16))]++aA (aN [Ck.l 3] 1) 0 [CV.l 3 (aN [Ck.i ao] (aZ 16))]) [] []
def vo:=b Lib.cU λr0 r1 r2 r3 r4 r5 r6 r7 r8=>ah (r0,r1,r2,r3,r4,r5,r6,r7,r8)
def c:=λa d=>(vo a d).isSome
def v:=λa d=>(vo a d).getD (0,[],[],[],[],0,[],[],0)
theorem out{x}:∀a d,vo a d=ah x->c a d=ai/\v a d=x:=λ_ _=>Lib.db
end Kb

namespace Am
def r3(N:aE)(g k0:mb R)(a d e f h:ax)(i j l m o p q r s t u:aQ):az R:=bif decide (d<a)then bif decide (0<=d)&&decide (d<(j.length:ax))then bif Ge.v (bn (ar j d.toNat 0)) (bI (ar j d.toNat 1)) (bI (ar j d.toNat (1+1))) (bn (ar j d.toNat (1+1+1))) e then bif cg (i.length+(aA (aN [Ck.s,Ck.i ao,Ck.i ao,Ck.s] 1) 0 [.s (bn (ar j d.toNat 0)), .i .i64 (bI (ar j d.toNat 1)), .i .i64 (bI (ar j d.toNat (1+1))), .s (bn (ar j d.toNat (1+1+1)))]).length) 48 then g a (bH (d+1)) e f h (i++aA (aN [Ck.s,Ck.i ao,Ck.i ao,Ck.s] 1) 0 [.s (bn (ar j d.toNat 0)), .i .i64 (bI (ar j d.toNat 1)), .i .i64 (bI (ar j d.toNat (1+1))), .s (bn (ar j d.toNat (1+1+1)))]) j l m o p q r s t u else aj else g a (bH (d+1)) e f h i j l m o p q r s t u else aj else k0 a d e f h i j l m o p q r s t u
def l3(N:aE)(k0:mb R):aE->mb R
 |0=>λ_ _ _ _ _ _ _ _ _ _ _ _ _ _ _ _=>aj
 |n+1=>r3 N (l3 N k0 n) k0
def b(N:aE)(kr:mJ R)(a:ax)(d e f h:aQ)(i:ax)(j l:aQ)(m:ax)(o p q r:aQ):az R:=bif wB.c o r then Lib.lt (wB.v o r) λs=>bif U61.c s.1 then Lib.lt (U61.v s.1) λt=>l3 N (λ_ _ u _ _ w _ _ _ _ _ _ _ y z α=>bif Av.c y w then Lib.lt (Av.v y w) λxa=>bif vI.c y xa.1 then Lib.lt (vI.v y xa.1) λxb=>bif Kb.c u w then Lib.lt (Kb.v u w) λxc=>kr xc.1 xc.2.1 xc.2.2.1 xc.2.2.2.1 xc.2.2.2.2.1 xc.2.2.2.2.2.1 xc.2.2.2.2.2.2.1 xc.2.2.2.2.2.2.2.1 xc.2.2.2.2.2.2.2.2 xb.1 z α else aj else aj else aj) N (t.length:ax) 0 a i m (aN [Ck.s,Ck.i ao,Ck.i ao,Ck.s] 0) t d e f h j l s.1 p q else aj else aj
def vo:=b Lib.cU λr0 r1 r2 r3 r4 r5 r6 r7 r8 r9 z7 wg=>ah (r0,r1,r2,r3,r4,r5,r6,r7,r8,r9,z7,wg)
def c:=λa d e f h i j l m o p q r=>(vo a d e f h i j l m o p q r).isSome
def v:=λa d e f h i j l m o p q r=>(vo a d e f h i j l m o p q r).getD (0,[],[],[],[],0,[],[],0,[],[],[])
theorem out{x}:∀a d e f h i j l m o p q r,vo a d e f h i j l m o p q r=ah x->c a d e f h i j l m o p q r=ai/\v a d e f h i j l m o p q r=x:=λ_ _ _ _ _ _ _ _ _ _ _ _ _=>Lib.db
end Am

namespace F9
def b(kr:ax->az R)(a:aW):az R:=bif a then kr 0 else kr 1
def v(a0:aW):ax:=bif a0 then 0 else 1
theorem eh(kr:ax->az R)(a0:aW):b kr a0=kr (v a0):=by first|rfl|(unfold b v;simp only[cz];(repeat' split)<;>rfl)
end F9

namespace VG
def b(kr:nS R)(a:ax)(d e f h:aQ)(i:ax)(j l:aQ)(m:ax)(o p q:aQ)(r s:ax)(t:aq)(u:ax)(w:aQ):az R:=bif decide (r=1)then bif RB.c a d e f h i j l m s t then Lib.lt (RB.v a d e f h i j l m s t) λy=>kr y.2.2.2.2.2.2.2.2.2 y.1 y.2.1 y.2.2.1 y.2.2.2.1 y.2.2.2.2.1 y.2.2.2.2.2.1 y.2.2.2.2.2.2.1 y.2.2.2.2.2.2.2.1 y.2.2.2.2.2.2.2.2.1 o p q else aj else bif decide (r=2)then bif VK.c a d e f h i j l m s t then Lib.lt (VK.v a d e f h i j l m s t) λy=>kr (F9.v y.2.2.2.2.2.2.2.2.2) y.1 y.2.1 y.2.2.1 y.2.2.2.1 y.2.2.2.2.1 y.2.2.2.2.2.1 y.2.2.2.2.2.2.1 y.2.2.2.2.2.2.2.1 y.2.2.2.2.2.2.2.2.1 o p q else aj else bif decide (r=3)then bif VL.c a d e f h i j l m o p q s (cK u 1000000)then Lib.lt (VL.v a d e f h i j l m o p q s (cK u 1000000)) λy=>kr (F9.v y.1) y.2.1 y.2.2.1 y.2.2.2.1 y.2.2.2.2.1 y.2.2.2.2.2.1 y.2.2.2.2.2.2.1 y.2.2.2.2.2.2.2.1 y.2.2.2.2.2.2.2.2.1 y.2.2.2.2.2.2.2.2.2.1 y.2.2.2.2.2.2.2.2.2.2.1 y.2.2.2.2.2.2.2.2.2.2.2.1 y.2.2.2.2.2.2.2.2.2.2.2.2 else aj else bif decide (r=4)then bif VM.c a d e f h i j l m s then Lib.lt (VM.v a d e f h i j l m s) λy=>kr (F9.v y.2.2.2.2.2.2.2.2.2) y.1 y.2.1 y.2.2.1 y.2.2.2.1 y.2.2.2.2.1 y.2.2.2.2.2.1 y.2.2.2.2.2.2.1 y.2.2.2.2.2.2.2.1 y.2.2.2.2.2.2.2.2.1 o p q else aj else bif decide (r=5)then bif Dh.c a d e f h i j l m u then Lib.lt (Dh.v a d e f h i j l m u) λy=>kr 0 y.1 y.2.1 y.2.2.1 y.2.2.2.1 y.2.2.2.2.1 y.2.2.2.2.2.1 y.2.2.2.2.2.2.1 y.2.2.2.2.2.2.2.1 y.2.2.2.2.2.2.2.2 o p q else aj else bif decide (r=6)then bif ze.c a d e f h i j l m s then Lib.lt (ze.v a d e f h i j l m s) λy=>bif Di.c a d e f h i j l m s then Lib.lt (Di.v a d e f h i j l m s) λz=>kr (F9.v (decide (y≥0))) z.1 z.2.1 z.2.2.1 z.2.2.2.1 z.2.2.2.2.1 z.2.2.2.2.2.1 z.2.2.2.2.2.2.1 z.2.2.2.2.2.2.2.1 z.2.2.2.2.2.2.2.2 o p q else aj else aj else bif Am.c a d e f h i j l m o p q w then Lib.lt (Am.v a d e f h i j l m o p q w) λy=>kr 0 y.1 y.2.1 y.2.2.1 y.2.2.2.1 y.2.2.2.2.1 y.2.2.2.2.2.1 y.2.2.2.2.2.2.1 y.2.2.2.2.2.2.2.1 y.2.2.2.2.2.2.2.2.1 y.2.2.2.2.2.2.2.2.2.1 y.2.2.2.2.2.2.2.2.2.2.1 y.2.2.2.2.2.2.2.2.2.2.2 else aj
def vo:=b λr0 r1 r2 r3 r4 r5 r6 r7 r8 r9 z7 wg Ps=>ah (r0,r1,r2,r3,r4,r5,r6,r7,r8,r9,z7,wg,Ps)
def c:=λa d e f h i j l m o p q r s t u w=>(vo a d e f h i j l m o p q r s t u w).isSome
def v:=λa d e f h i j l m o p q r s t u w=>(vo a d e f h i j l m o p q r s t u w).getD (0,0,[],[],[],[],0,[],[],0,[],[],[])
theorem out{x}:∀a d e f h i j l m o p q r s t u w,vo a d e f h i j l m o p q r s t u w=ah x->c a d e f h i j l m o p q r s t u w=ai/\v a d e f h i j l m o p q r s t u w=x:=λ_ _ _ _ _ _ _ _ _ _ _ _ _ _ _ _ _=>Lib.db
end VG

namespace HM
def wg(N:aE)(g k0:kA R)(a:aQ)(d e f h i j l m:ax)(o p q r s t u w y:aQ):az R:=bif decide (e<d)then bif decide (0<=e)&&decide (e<(a.length:ax))then bif VG.c j o p q r l s t m u w y (bI (ar a e.toNat 0)) (bI (ar a e.toNat 1)) (bn (ar a e.toNat (1+1))) (bI (ar a e.toNat (1+1+1))) (iR (ar a e.toNat (1+1+1+1)))then Lib.lt (VG.v j o p q r l s t m u w y (bI (ar a e.toNat 0)) (bI (ar a e.toNat 1)) (bn (ar a e.toNat (1+1))) (bI (ar a e.toNat (1+1+1))) (iR (ar a e.toNat (1+1+1+1)))) λz=>bif cg (z.2.2.2.2.2.2.2.2.2.2.2.1.length+(aA (aN [Ck.i ao] 1) 0 [.i .i64 z.1]).length) 8 then g a d (bH (e+1)) f h i z.2.1 z.2.2.2.2.2.2.1 z.2.2.2.2.2.2.2.2.2.1 z.2.2.1 z.2.2.2.1 z.2.2.2.2.1 z.2.2.2.2.2.1 z.2.2.2.2.2.2.2.1 z.2.2.2.2.2.2.2.2.1 z.2.2.2.2.2.2.2.2.2.2.1 (z.2.2.2.2.2.2.2.2.2.2.2.1++aA (aN [Ck.i ao] 1) 0 [.i .i64 z.1]) z.2.2.2.2.2.2.2.2.2.2.2.2 else aj else aj else aj else k0 a d e f h i j l m o p q r s t u w y
def O3(N:aE)(k0:kA R):aE->kA R
 |0=>λ_ _ _ _ _ _ _ _ _ _ _ _ _ _ _ _ _ _=>aj
 |n+1=>wg N (O3 N k0 n) k0
def r4(N:aE)(g k0 k1:vt R)(a:aQ)(d:aW)(e:aQ)(f h i j l:ax):az R:=bif decide (h<f)then bif decide (0<=h)&&decide (h<(e.length:ax))then bif !U31.v (bI (ar e h.toNat 0)) (bI (ar e h.toNat 1)) (bn (ar e h.toNat (1+1))) (bI (ar e h.toNat (1+1+1))) (iR (ar e h.toNat (1+1+1+1)))then k0 a ak e f h 0 0 0 else g a d e f (bH (h+1)) i j l else aj else k1 a d e f h i j l
def l4(N:aE)(k0 k1:vt R):aE->vt R
 |0=>λ_ _ _ _ _ _ _ _=>aj
 |n+1=>r4 N (l4 N k0 k1 n) k0 k1
def b(N:aE)(kr:rV R)(a:aQ):az R:=bif decide ((a.length:ax)>70)then kr 0 [] [] [] [] 0 [] [] 0 [] [] [] ak else l4 N (λ_ d _ _ _ e f h=>kr e [] [] [] [] f [] [] h [] [] [] d) (λd _ _ _ _ e f h=>O3 N (λ_ _ _ _ _ _ i j l m o p q r s t u w=>kr i m o p q j r s l t u w ai) N d (d.length:ax) 0 e f h 1 0 0 [] [] [] ([]++aA (aN [Ck.l 3] 1) 0 [CV.l 3 (aN [Ck.i ao] (aZ 16))]++aA (aN [Ck.l 3] 1) 0 [CV.l 3 (aN [Ck.i ao] (aZ 16))]++aA (aN [Ck.l 3] 1) 0 [CV.l 3 (aN [Ck.i ao] (aZ 16))]) [] [] [] [] []) N a ak a (a.length:ax) 0 0 0 0
def vo:=b Lib.cU λr0 r1 r2 r3 r4 r5 r6 r7 r8 r9 z7 wg Ps=>ah (r0,r1,r2,r3,r4,r5,r6,r7,r8,r9,z7,wg,Ps)
def c:=λa=>(vo a).isSome
def v:=λa=>(vo a).getD (0,[],[],[],[],0,[],[],0,[],[],[],ak)
theorem out{x}:∀a,vo a=ah x->c a=ai/\v a=x:=λ_=>Lib.db
end HM

namespace U56
def b(kr:aW->az R)(a d:ax)(e:aq)(f:ax)(h:aQ):az R:=bif kj.v a 1 7 then bif kj.v d 0 30 then bif decide ((e.size:ax)<=60)then bif decide (f≥0)then kr (decide ((h.length:ax)<=4))else kr ak else kr ak else kr ak else kr ak
def v(a0 a1:ax)(a2:aq)(a3:ax)(a4:aQ):aW:=bif kj.v a0 1 7 then bif kj.v a1 0 30 then bif decide ((a2.size:ax)<=60)then bif decide (a3≥0)then decide ((a4.length:ax)<=4)else ak else ak else ak else ak
theorem eh(kr:aW->az R)(a0 a1:ax)(a2:aq)(a3:ax)(a4:aQ):b kr a0 a1 a2 a3 a4=kr (v a0 a1 a2 a3 a4):=by first|rfl|(unfold b v;simp only[cz];(repeat' split)<;>rfl)
end U56

namespace VH
def b(kr:mJ R)(a:ax)(d e f h:aQ)(i:ax)(j l:aQ)(m:ax)(o p q:aQ):az R:=bif fI.c a d e f h i j l m then Lib.lt (fI.v a d e f h i j l m) λr=>bif cg ((aN [Ck.s,Ck.s,Ck.i ao] 0).length+o.length) 40 then bif cg ((aN [Ck.i ao] 0).length+p.length) 8 then bif cg ((aN [Ck.s,Ck.i ao,Ck.i ao,Ck.s] 0).length+q.length) 48 then kr r.1 r.2.1 r.2.2.1 r.2.2.2.1 r.2.2.2.2.1 r.2.2.2.2.2.1 r.2.2.2.2.2.2.1 r.2.2.2.2.2.2.2.1 r.2.2.2.2.2.2.2.2 (aN [Ck.s,Ck.s,Ck.i ao] 0++o) (aN [Ck.i ao] 0++p) (aN [Ck.s,Ck.i ao,Ck.i ao,Ck.s] 0++q)else aj else aj else aj else aj
def vo:=b λr0 r1 r2 r3 r4 r5 r6 r7 r8 r9 z7 wg=>ah (r0,r1,r2,r3,r4,r5,r6,r7,r8,r9,z7,wg)
def c:=λa d e f h i j l m o p q=>(vo a d e f h i j l m o p q).isSome
def v:=λa d e f h i j l m o p q=>(vo a d e f h i j l m o p q).getD (0,[],[],[],[],0,[],[],0,[],[],[])
theorem out{x}:∀a d e f h i j l m o p q,vo a d e f h i j l m o p q=ah x->c a d e f h i j l m o p q=ai/\v a d e f h i j l m o p q=x:=λ_ _ _ _ _ _ _ _ _ _ _ _=>Lib.db
end VH

namespace MA
def z7(N:aE)(g k0:lB R)(a:aQ)(d e f h i j l:ax)(m o p q r s t u w:aQ):az R:=bif decide (d<(a.length:ax))then bif decide (0<=d)&&decide (d<(a.length:ax))then bif Gd.c i m o p q j r s l t u w (bI (ar a d.toNat 0)) (bI (ar a d.toNat 1)) (bn (ar a d.toNat (1+1))) (bI (ar a d.toNat (1+1+1))) (iR (ar a d.toNat (1+1+1+1)))then Lib.lt (Gd.v i m o p q j r s l t u w (bI (ar a d.toNat 0)) (bI (ar a d.toNat 1)) (bn (ar a d.toNat (1+1))) (bI (ar a d.toNat (1+1+1))) (iR (ar a d.toNat (1+1+1+1)))) λy=>g a (bH (d+1)) e f h y.1 y.2.2.2.2.2.1 y.2.2.2.2.2.2.2.2.1 y.2.1 y.2.2.1 y.2.2.2.1 y.2.2.2.2.1 y.2.2.2.2.2.2.1 y.2.2.2.2.2.2.2.1 y.2.2.2.2.2.2.2.2.2.1 y.2.2.2.2.2.2.2.2.2.2.1 y.2.2.2.2.2.2.2.2.2.2.2 else aj else aj else k0 a d e f h i j l m o p q r s t u w
def l10(N:aE)(k0:lB R):aE->lB R
 |0=>λ_ _ _ _ _ _ _ _ _ _ _ _ _ _ _ _ _=>aj
 |n+1=>z7 N (l10 N k0 n) k0
def r3(N:aE)(g k0:Bv R)(a:aQ)(d:aW)(e f h i:ax):az R:=bif decide (e<(a.length:ax))then bif d then bif decide (0<=e)&&decide (e<(a.length:ax))then g a (U56.v (bI (ar a e.toNat 0)) (bI (ar a e.toNat 1)) (bn (ar a e.toNat (1+1))) (bI (ar a e.toNat (1+1+1))) (iR (ar a e.toNat (1+1+1+1)))) (bH (e+1)) f h i else aj else k0 a d e f h i else k0 a d e f h i
def l3(N:aE)(k0:Bv R):aE->Bv R
 |0=>λ_ _ _ _ _ _=>aj
 |n+1=>r3 N (l3 N k0 n) k0
def b(N:aE)(kr:rV R)(a:aQ):az R:=l3 N (λd e _ f h i=>bif !e then kr 0 [] [] [] [] 0 [] [] 0 [] [] [] ak else l10 N (λ_ _ _ _ _ j l m o p q r s t u w y=>bif VH.c j o p q r l s t m u w y then Lib.lt (VH.v j o p q r l s t m u w y) λz=>kr z.1 z.2.1 z.2.2.1 z.2.2.2.1 z.2.2.2.2.1 z.2.2.2.2.2.1 z.2.2.2.2.2.2.1 z.2.2.2.2.2.2.2.1 z.2.2.2.2.2.2.2.2.1 z.2.2.2.2.2.2.2.2.2.1 z.2.2.2.2.2.2.2.2.2.2.1 z.2.2.2.2.2.2.2.2.2.2.2 ai else aj) N d 0 f h i 1 0 0 [] [] [] ([]++aA (aN [Ck.l 3] 1) 0 [CV.l 3 (aN [Ck.i ao] (aZ 16))]++aA (aN [Ck.l 3] 1) 0 [CV.l 3 (aN [Ck.i ao] (aZ 16))]++aA (aN [Ck.l 3] 1) 0 [CV.l 3 (aN [Ck.i ao] (aZ 16))]) [] [] [] [] []) N a (decide ((a.length:ax)<=70)) 0 0 0 0
def vo:=b Lib.cU λr0 r1 r2 r3 r4 r5 r6 r7 r8 r9 z7 wg Ps=>ah (r0,r1,r2,r3,r4,r5,r6,r7,r8,r9,z7,wg,Ps)
def c:=λa=>(vo a).isSome
def v:=λa=>(vo a).getD (0,[],[],[],[],0,[],[],0,[],[],[],ak)
theorem out{x}:∀a,vo a=ah x->c a=ai/\v a=x:=λ_=>Lib.db
end MA

namespace vL
def r5(N:aE)(g k0:qm R)(a d:ax)(e:aQ)(f h:ax)(i:aQ):az R:=bif decide (d<a)then bif dm.c e f h then bif cg (i.length+(aA (aN [Ck.i ba] 1) 0 [CV.i ba (bE ba (dm.v e f h).1)]).length) 1 then g a (bH (d+1)) (dm.v e f h).2.1 (dm.v e f h).2.2.1 (dm.v e f h).2.2.2 (i++aA (aN [Ck.i ba] 1) 0 [CV.i ba (bE ba (dm.v e f h).1)])else aj else aj else k0 a d e f h i
def l5(N:aE)(k0:qm R):aE->qm R
 |0=>λ_ _ _ _ _ _=>aj
 |n+1=>r5 N (l5 N k0 n) k0
def b(N:aE)(kr:Qp R)(a:aQ)(d e f:ax):az R:=bif decide (f>5000)then l5 N (λ_ _ h i j l=>bif decide (l.length<=4611686018427387904)then kr (bytesOf l) h i j else aj) N 5000 0 a d e (aN [Ck.i ba] 0)else l5 N (λ_ _ h i j l=>bif decide (l.length<=4611686018427387904)then kr (bytesOf l) h i j else aj) N f 0 a d e (aN [Ck.i ba] 0)
def vo:=b Lib.cU λr0 r1 r2 r3=>ah (r0,r1,r2,r3)
def c:=λa d e f=>(vo a d e f).isSome
def v:=λa d e f=>(vo a d e f).getD (⟨#[]⟩,[],0,0)
theorem out{x}:∀a d e f,vo a d e f=ah x->c a d e f=ai/\v a d e f=x:=λ_ _ _ _=>Lib.db
end vL

namespace Dk
def b(kr:DX R)(a:aQ)(d e:ax):az R:=bif rk.c a d e then Lib.lt (rk.v a d e) λf=>bif kP.c f.2.1 f.2.2.1 f.2.2.2 20 then Lib.lt (kP.v f.2.1 f.2.2.1 f.2.2.2 20) λh=>bif sC.c h.2.1 h.2.2.1 h.2.2.2 (aA (aA (aA (aA (aN [Ck.i ao] 4) 0 [.i .i64 1]) 1 [.i .i64 5]) 2 [.i .i64 60]) 3 [.i .i64 999999])then Lib.lt (sC.v h.2.1 h.2.2.1 h.2.2.2 (aA (aA (aA (aA (aN [Ck.i ao] 4) 0 [.i .i64 1]) 1 [.i .i64 5]) 2 [.i .i64 60]) 3 [.i .i64 999999])) λi=>bif kP.c i.2.1 i.2.2.1 i.2.2.2.1 9 then Lib.lt (kP.v i.2.1 i.2.2.1 i.2.2.2.1 9) λj=>bif vL.c j.2.1 j.2.2.1 j.2.2.2 j.1 then kr f.1 (bH (1+h.1)) i.1 (vL.v j.2.1 j.2.2.1 j.2.2.2 j.1).1 (vL.v j.2.1 j.2.2.1 j.2.2.2 j.1).2.1 (vL.v j.2.1 j.2.2.1 j.2.2.2 j.1).2.2.1 (vL.v j.2.1 j.2.2.1 j.2.2.2 j.1).2.2.2 else aj else aj else aj else aj else aj
def vo:=b λr0 r1 r2 r3 r4 r5 r6=>ah (r0,r1,r2,r3,r4,r5,r6)
def c:=λa d e=>(vo a d e).isSome
def v:=λa d e=>(vo a d e).getD (⟨#[]⟩,0,0,⟨#[]⟩,[],0,0)
theorem out{x}:∀a d e,vo a d e=ah x->c a d e=ai/\v a d e=x:=λ_ _ _=>Lib.db
end Dk

namespace Ap
def r3(N:aE)(g k0:iS R)(a d e:ax)(f:aQ):az R:=bif decide (e<a)then bif decide (0<=e)&&decide (e<(f.length:ax))then g a d (bH (e+1)) (eA f e.toNat 0 [CV.i ba d])else aj else k0 a d e f
def l3(N:aE)(k0:iS R):aE->iS R
 |0=>λ_ _ _ _=>aj
 |n+1=>r3 N (l3 N k0 n) k0
def b(N:aE)(kr:aq->az R)(a d:ax):az R:=bif decide (0<=a)&&decide (a=a)&&cg a.toNat 1 then l3 N (λ_ _ _ e=>bif decide (e.length<=4611686018427387904)then kr (bytesOf e)else aj) N a d 0 (aN [Ck.i ba] a.toNat)else aj
def vo:=b Lib.cU λr0=>ah r0
def c:=λa d=>(vo a d).isSome
def v:=λa d=>(vo a d).getD (⟨#[]⟩)
theorem out{x}:∀a d,vo a d=ah x->c a d=ai/\v a d=x:=λ_ _=>Lib.db
end Ap

namespace VJ
def b(kr:DX R)(a:aQ)(d e:ax):az R:=bif Dk.c a d e then Lib.lt (Dk.v a d e) λf=>bif kP.c f.2.2.2.2.1 f.2.2.2.2.2.1 f.2.2.2.2.2.2 12 then Lib.lt (kP.v f.2.2.2.2.1 f.2.2.2.2.2.1 f.2.2.2.2.2.2 12) λh=>bif decide (h.1=0)then bif nT.c h.2.1 h.2.2.1 h.2.2.2 (aA (aA (aN [.s] 2) 0 [.s ⟨#[]⟩]) 1 [.s {data:= #[aw 48,aw 49,aw 50,aw 51,aw 52,aw 53,aw 54,aw 55,aw 56,aw 57,aw 48,aw 49,aw 50,aw 51,aw 52,aw 53,aw 54,aw 55,aw 56,aw 57,aw 48,aw 49,aw 50,aw 51,aw 52,aw 53,aw 54,aw 55,aw 56,aw 57,aw 48]}])then Lib.lt (nT.v h.2.1 h.2.2.1 h.2.2.2 (aA (aA (aN [.s] 2) 0 [.s ⟨#[]⟩]) 1 [.s {data:= #[aw 48,aw 49,aw 50,aw 51,aw 52,aw 53,aw 54,aw 55,aw 56,aw 57,aw 48,aw 49,aw 50,aw 51,aw 52,aw 53,aw 54,aw 55,aw 56,aw 57,aw 48,aw 49,aw 50,aw 51,aw 52,aw 53,aw 54,aw 55,aw 56,aw 57,aw 48]}])) λi=>kr i.1 f.2.1 f.2.2.1 f.2.2.2.1 i.2.1 i.2.2.1 i.2.2.2.1 else aj else bif decide (h.1=1)then bif sC.c h.2.1 h.2.2.1 h.2.2.2 (aA (aA (aA (aA (aN [Ck.i ao] 4) 0 [.i .i64 (oS 1)]) 1 [.i .i64 0]) 2 [.i .i64 1000000000]) 3 [.i .i64 1000000001])then Lib.lt (sC.v h.2.1 h.2.2.1 h.2.2.2 (aA (aA (aA (aA (aN [Ck.i ao] 4) 0 [.i .i64 (oS 1)]) 1 [.i .i64 0]) 2 [.i .i64 1000000000]) 3 [.i .i64 1000000001])) λi=>kr f.1 i.1 f.2.2.1 f.2.2.2.1 i.2.1 i.2.2.1 i.2.2.2.1 else aj else bif decide (h.1=2)then bif sC.c h.2.1 h.2.2.1 h.2.2.2 (aA (aA (aA (aN [Ck.i ao] 3) 0 [.i .i64 0]) 1 [.i .i64 1000000]) 2 [.i .i64 (oS 9223372036854775808)])then Lib.lt (sC.v h.2.1 h.2.2.1 h.2.2.2 (aA (aA (aA (aN [Ck.i ao] 3) 0 [.i .i64 0]) 1 [.i .i64 1000000]) 2 [.i .i64 (oS 9223372036854775808)])) λi=>kr f.1 f.2.1 i.1 f.2.2.2.1 i.2.1 i.2.2.1 i.2.2.2.1 else aj else bif decide (h.1=3)then bif kP.c h.2.1 h.2.2.1 h.2.2.2 2 then bif Ap.c (bH (400+(kP.v h.2.1 h.2.2.1 h.2.2.2 2).1)) 97 then kr f.1 f.2.1 f.2.2.1 (Ap.v (bH (400+(kP.v h.2.1 h.2.2.1 h.2.2.2 2).1)) 97) (kP.v h.2.1 h.2.2.1 h.2.2.2 2).2.1 (kP.v h.2.1 h.2.2.1 h.2.2.2 2).2.2.1 (kP.v h.2.1 h.2.2.1 h.2.2.2 2).2.2.2 else aj else aj else kr f.1 f.2.1 f.2.2.1 f.2.2.2.1 h.2.1 h.2.2.1 h.2.2.2 else aj else aj
def vo:=b λr0 r1 r2 r3 r4 r5 r6=>ah (r0,r1,r2,r3,r4,r5,r6)
def c:=λa d e=>(vo a d e).isSome
def v:=λa d e=>(vo a d e).getD (⟨#[]⟩,0,0,⟨#[]⟩,[],0,0)
theorem out{x}:∀a d e,vo a d e=ah x->c a d e=ai/\v a d e=x:=λ_ _ _=>Lib.db
end VJ

namespace PW
def r5(N:aE)(g k0:qm R)(a d:ax)(e:aQ)(f h:ax)(i:aQ):az R:=bif kP.c e f h 9 then Lib.lt (kP.v e f h 9) λj=>bif decide (d<j.1)then bif VJ.c j.2.1 j.2.2.1 j.2.2.2 then Lib.lt (VJ.v j.2.1 j.2.2.1 j.2.2.2) λl=>bif cg (i.length+(aA (aN [Ck.s,Ck.i ao,Ck.i ao,Ck.s] 1) 0 [.s l.1, .i .i64 l.2.1, .i .i64 l.2.2.1, .s l.2.2.2.1]).length) 48 then g a (bH (d+1)) l.2.2.2.2.1 l.2.2.2.2.2.1 l.2.2.2.2.2.2 (i++aA (aN [Ck.s,Ck.i ao,Ck.i ao,Ck.s] 1) 0 [.s l.1, .i .i64 l.2.1, .i .i64 l.2.2.1, .s l.2.2.2.1])else aj else aj else k0 a d j.2.1 j.2.2.1 j.2.2.2 i else aj
def l5(N:aE)(k0:qm R):aE->qm R
 |0=>λ_ _ _ _ _ _=>aj
 |n+1=>r5 N (l5 N k0 n) k0
def b(N:aE)(kr:JX R)(a:aQ):az R:=bif Kc.c a then Lib.lt (Kc.v a) λd=>bif sC.c d.1 d.2.1 d.2.2 (aA (aA (aA (aA (aA (aA (aA (aN [Ck.i ao] 7) 0 [.i .i64 0]) 1 [.i .i64 1]) 2 [.i .i64 10]) 3 [.i .i64 20]) 4 [.i .i64 30]) 5 [.i .i64 (oS 1)]) 6 [.i .i64 1000000001])then Lib.lt (sC.v d.1 d.2.1 d.2.2 (aA (aA (aA (aA (aA (aA (aA (aN [Ck.i ao] 7) 0 [.i .i64 0]) 1 [.i .i64 1]) 2 [.i .i64 10]) 3 [.i .i64 20]) 4 [.i .i64 30]) 5 [.i .i64 (oS 1)]) 6 [.i .i64 1000000001])) λe=>l5 N (λf _ _ _ _ h=>kr f h) N e.1 0 e.2.1 e.2.2.1 e.2.2.2.1 (aN [Ck.s,Ck.i ao,Ck.i ao,Ck.s] 0)else aj else aj
def vo:=b Lib.cU λr0 r1=>ah (r0,r1)
def c:=λa=>(vo a).isSome
def v:=λa=>(vo a).getD (0,[])
theorem out{x}:∀a,vo a=ah x->c a=ai/\v a=x:=λ_=>Lib.db
end PW

namespace J5
def r4(N:aE)(g k0 k1:qS R)(a d:aQ)(e:aW)(f:ax):az R:=bif decide (f<(a.length:ax))then bif decide (0<=f)&&decide (f<(a.length:ax))then bif decide (0<=f)&&decide (f<(d.length:ax))then bif bI (ar a f.toNat 0) !=bI (ar d f.toNat 0)then k0 a d ak f else g a d e (bH (f+1))else aj else aj else k1 a d e f
def l4(N:aE)(k0 k1:qS R):aE->qS R
 |0=>λ_ _ _ _=>aj
 |n+1=>r4 N (l4 N k0 k1 n) k0 k1
def b(N:aE)(kr:aW->az R)(a d:aQ):az R:=bif(a.length:ax) !=(d.length:ax)then kr ak else l4 N (λ_ _ e _=>kr e) (λ_ _ _ _=>kr ai) N a d ak 0
def vo:=b Lib.cU λr0=>ah r0
def c:=λa d=>(vo a d).isSome
def v:=λa d=>(vo a d).getD ak
theorem out{x}:∀a d,vo a d=ah x->c a d=ai/\v a d=x:=λ_ _=>Lib.db
end J5

namespace Ka
def r4(N:aE)(g k0 k1:qS R)(a d:aQ)(e:aW)(f:ax):az R:=bif decide (f<(a.length:ax))then bif decide (0<=f)&&decide (f<(a.length:ax))then bif decide (0<=f)&&decide (f<(d.length:ax))then bif !(cF (bn (ar a f.toNat 0)).toList (bn (ar d f.toNat 0)).toList&&(decide (bI (ar a f.toNat 1)=bI (ar d f.toNat 1))&&(decide (bI (ar a f.toNat (1+1))=bI (ar d f.toNat (1+1)))&&(cF (bn (ar a f.toNat (1+1+1))).toList (bn (ar d f.toNat (1+1+1))).toList&&ai))))then k0 a d ak f else g a d e (bH (f+1))else aj else aj else k1 a d e f
def l4(N:aE)(k0 k1:qS R):aE->qS R
 |0=>λ_ _ _ _=>aj
 |n+1=>r4 N (l4 N k0 k1 n) k0 k1
def b(N:aE)(kr:aW->az R)(a d:aQ):az R:=bif(a.length:ax) !=(d.length:ax)then kr ak else l4 N (λ_ _ e _=>kr e) (λ_ _ _ _=>kr ai) N a d ak 0
def vo:=b Lib.cU λr0=>ah r0
def c:=λa d=>(vo a d).isSome
def v:=λa d=>(vo a d).getD ak
theorem out{x}:∀a d,vo a d=ah x->c a d=ai/\v a d=x:=λ_ _=>Lib.db
end Ka

namespace vG
def r4(N:aE)(g k0 k1:qS R)(a d:aQ)(e:aW)(f:ax):az R:=bif decide (f<(a.length:ax))then bif decide (0<=f)&&decide (f<(a.length:ax))then bif decide (0<=f)&&decide (f<(d.length:ax))then bif !List.beq (bn (ar a f.toNat 0)).toList (bn (ar d f.toNat 0)).toList then k0 a d ak f else g a d e (bH (f+1))else aj else aj else k1 a d e f
def l4(N:aE)(k0 k1:qS R):aE->qS R
 |0=>λ_ _ _ _=>aj
 |n+1=>r4 N (l4 N k0 k1 n) k0 k1
def b(N:aE)(kr:aW->az R)(a d:aQ):az R:=bif(a.length:ax) !=(d.length:ax)then kr ak else l4 N (λ_ _ e _=>kr e) (λ_ _ _ _=>kr ai) N a d ak 0
def vo:=b Lib.cU λr0=>ah r0
def c:=λa d=>(vo a d).isSome
def v:=λa d=>(vo a d).getD ak
theorem out{x}:∀a d,vo a d=ah x->c a d=ai/\v a d=x:=λ_ _=>Lib.db
end vG

namespace Ao
def r4(N:aE)(g k0 k1:Br R)(a:aW)(d:ax)(e:aQ)(f:ax)(h:aQ)(i:ax):az R:=bif decide (d<(e.length:ax))then bif decide (0<=d)&&decide (d<(e.length:ax))then bif decide (0<=d)&&decide (d<(h.length:ax))then bif J5.c (iR (ar e d.toNat 0)) (iR (ar h d.toNat 0))then bif !J5.v (iR (ar e d.toNat 0)) (iR (ar h d.toNat 0))then k0 ak d e f h i else g a (bH (d+1)) e f h i else aj else aj else aj else k1 a d e f h i
def l4(N:aE)(k0 k1:Br R):aE->Br R
 |0=>λ_ _ _ _ _ _=>aj
 |n+1=>r4 N (l4 N k0 k1 n) k0 k1
def b(N:aE)(kr:aW->az R)(a:aQ)(d:ax)(e:aQ)(f:ax):az R:=bif d !=f then kr ak else bif(a.length:ax) !=(e.length:ax)then kr ak else l4 N (λh _ _ _ _ _=>kr h) (λ_ _ _ _ _ _=>kr ai) N ak 0 a d e f
def vo:=b Lib.cU λr0=>ah r0
def c:=λa d e f=>(vo a d e f).isSome
def v:=λa d e f=>(vo a d e f).getD ak
theorem out{x}:∀a d e f,vo a d e f=ah x->c a d e f=ai/\v a d e f=x:=λ_ _ _ _=>Lib.db
end Ao

namespace VI
def b(kr:aW->az R)(a d e:aQ)(f:ax)(h i j:aQ)(l:ax):az R:=bif vG.c a h then bif vG.v a h then bif vG.c d i then bif vG.v d i then bif Ao.c e f j l then kr (Ao.v e f j l)else aj else kr ak else aj else kr ak else aj
def vo:=b λr0=>ah r0
def c:=λa d e f h i j l=>(vo a d e f h i j l).isSome
def v:=λa d e f h i j l=>(vo a d e f h i j l).getD ak
theorem out{x}:∀a d e f h i j l,vo a d e f h i j l=ah x->c a d e f h i j l=ai/\v a d e f h i j l=x:=λ_ _ _ _ _ _ _ _=>Lib.db
end VI

namespace MB
def r9(N:aE)(g k0 k1:fM R)(a:aW)(d e:ax)(f h i j:aQ)(l:ax)(m o:aQ)(p q:ax)(r s t u:aQ)(w:ax)(y z:aQ)(α:ax):az R:=bif decide (d<(o.length:ax))then bif decide (0<=d)&&decide (d<(o.length:ax))then bif decide (0<=d)&&decide (d<(z.length:ax))then bif !(decide (bI (ar o d.toNat 0)=bI (ar z d.toNat 0))&&(cF (bn (ar o d.toNat 1)).toList (bn (ar z d.toNat 1)).toList&&(decide (bI (ar o d.toNat (1+1))=bI (ar z d.toNat (1+1)))&&(decide (bI (ar o d.toNat (1+1+1))=bI (ar z d.toNat (1+1+1)))&&(decide (bI (ar o d.toNat (1+1+1+1))=bI (ar z d.toNat (1+1+1+1)))&&(cF (bn (ar o d.toNat (1+1+1+1+1))).toList (bn (ar z d.toNat (1+1+1+1+1))).toList&&(decide (bI (ar o d.toNat (1+1+1+1+1+1))=bI (ar z d.toNat (1+1+1+1+1+1)))&&ai)))))))then k0 ak d e f h i j l m o p q r s t u w y z α else g a (bH (d+1)) e f h i j l m o p q r s t u w y z α else aj else aj else k1 a d e f h i j l m o p q r s t u w y z α
def l9(N:aE)(k0 k1:fM R):aE->fM R
 |0=>λ_ _ _ _ _ _ _ _ _ _ _ _ _ _ _ _ _ _ _ _=>aj
 |n+1=>r9 N (l9 N k0 k1 n) k0 k1
def r4(N:aE)(g k0 k1:fM R)(a:aW)(d e:ax)(f h i j:aQ)(l:ax)(m o:aQ)(p q:ax)(r s t u:aQ)(w:ax)(y z:aQ)(α:ax):az R:=bif decide (d<(m.length:ax))then bif decide (0<=d)&&decide (d<(m.length:ax))then bif decide (0<=d)&&decide (d<(y.length:ax))then bif !(cF (bn (ar m d.toNat 0)).toList (bn (ar y d.toNat 0)).toList&&(cF (bn (ar m d.toNat 1)).toList (bn (ar y d.toNat 1)).toList&&(decide (bI (ar m d.toNat (1+1))=bI (ar y d.toNat (1+1)))&&(decide (bI (ar m d.toNat (1+1+1))=bI (ar y d.toNat (1+1+1)))&&(decide (bI (ar m d.toNat (1+1+1+1))=bI (ar y d.toNat (1+1+1+1)))&&ai)))))then k0 ak d e f h i j l m o p q r s t u w y z α else g a (bH (d+1)) e f h i j l m o p q r s t u w y z α else aj else aj else k1 a d e f h i j l m o p q r s t u w y z α
def l4(N:aE)(k0 k1:fM R):aE->fM R
 |0=>λ_ _ _ _ _ _ _ _ _ _ _ _ _ _ _ _ _ _ _ _=>aj
 |n+1=>r4 N (l4 N k0 k1 n) k0 k1
def b(N:aE)(kr:aW->az R)(a:ax)(d e f h:aQ)(i:ax)(j l:aQ)(m o:ax)(p q r s:aQ)(t:ax)(u w:aQ)(y:ax):az R:=bif a !=o then kr ak else bif m !=y then kr ak else bif Ka.c d p then bif !Ka.v d p then kr ak else bif VI.c e f h i q r s t then bif !VI.v e f h i q r s t then kr ak else bif(j.length:ax) !=(u.length:ax)then kr ak else bif(l.length:ax) !=(w.length:ax)then kr ak else l4 N (λz _ _ _ _ _ _ _ _ _ _ _ _ _ _ _ _ _ _ _=>kr z) (λz _ α xa xb xc xd xe xf xg xh xi xj xk xl xm xn xo xp xq=>l9 N (λxr _ _ _ _ _ _ _ _ _ _ _ _ _ _ _ _ _ _ _=>kr xr) (λ_ _ _ _ _ _ _ _ _ _ _ _ _ _ _ _ _ _ _ _=>kr ai) N z 0 α xa xb xc xd xe xf xg xh xi xj xk xl xm xn xo xp xq) N ak 0 a d e f h i j l m o p q r s t u w y else aj else aj
def vo:=b Lib.cU λr0=>ah r0
def c:=λa d e f h i j l m o p q r s t u w y=>(vo a d e f h i j l m o p q r s t u w y).isSome
def v:=λa d e f h i j l m o p q r s t u w y=>(vo a d e f h i j l m o p q r s t u w y).getD ak
theorem out{x}:∀a d e f h i j l m o p q r s t u w y,vo a d e f h i j l m o p q r s t u w y=ah x->c a d e f h i j l m o p q r s t u w y=ai/\v a d e f h i j l m o p q r s t u w y=x:=λ_ _ _ _ _ _ _ _ _ _ _ _ _ _ _ _ _ _=>Lib.db
end MB

namespace U6
def b(kr:aW->az R)(a:aQ):az R:=bif U8.v a then kr ai else bif U9.c a then Lib.lt (U9.v a) λd=>bif HM.c d then Lib.lt (HM.v d) λe=>bif MA.c d then Lib.lt (MA.v d) λf=>bif cg ((aN [Ck.i ao,Ck.i ao,Ck.s,Ck.i ao,Ck.l 3] 0).length+d.length) 64 then bif cg ((aN [Ck.i ao,Ck.i ao,Ck.s,Ck.i ao,Ck.l 3] 0++d).length+(aA (aN [Ck.i ao,Ck.i ao,Ck.s,Ck.i ao,Ck.l 3] 1) 0 [.i .i64 0, .i .i64 0, .s ⟨#[]⟩, .i .i64 0,CV.l 3 []]).length) 64 then bif HM.c (aN [Ck.i ao,Ck.i ao,Ck.s,Ck.i ao,Ck.l 3] 0++d++aA (aN [Ck.i ao,Ck.i ao,Ck.s,Ck.i ao,Ck.l 3] 1) 0 [.i .i64 0, .i .i64 0, .s ⟨#[]⟩, .i .i64 0,CV.l 3 []])then Lib.lt (HM.v (aN [Ck.i ao,Ck.i ao,Ck.s,Ck.i ao,Ck.l 3] 0++d++aA (aN [Ck.i ao,Ck.i ao,Ck.s,Ck.i ao,Ck.l 3] 1) 0 [.i .i64 0, .i .i64 0, .s ⟨#[]⟩, .i .i64 0,CV.l 3 []])) λh=>bif PW.c a then Lib.lt (PW.v a) λi=>bif e.2.2.2.2.2.2.2.2.2.2.2.2 then bif !h.2.2.2.2.2.2.2.2.2.2.2.2 then bif J5.c e.2.2.2.2.2.2.2.2.2.2.1 f.2.2.2.2.2.2.2.2.2.2.1 then Lib.lt (J5.v e.2.2.2.2.2.2.2.2.2.2.1 f.2.2.2.2.2.2.2.2.2.2.1) λj=>bif j then bif Ka.c e.2.2.2.2.2.2.2.2.2.2.2.1 f.2.2.2.2.2.2.2.2.2.2.2.1 then Lib.lt (Ka.v e.2.2.2.2.2.2.2.2.2.2.2.1 f.2.2.2.2.2.2.2.2.2.2.2.1) λl=>bif l then bif JH.c e.1 e.2.1 e.2.2.1 e.2.2.2.1 e.2.2.2.2.1 e.2.2.2.2.2.1 e.2.2.2.2.2.2.1 e.2.2.2.2.2.2.2.1 e.2.2.2.2.2.2.2.2.1 then Lib.lt (JH.v e.1 e.2.1 e.2.2.1 e.2.2.2.1 e.2.2.2.2.1 e.2.2.2.2.2.1 e.2.2.2.2.2.2.1 e.2.2.2.2.2.2.2.1 e.2.2.2.2.2.2.2.2.1) λm=>bif m then bif Kb.c i.1 i.2 then Lib.lt (Kb.v i.1 i.2) λo=>bif wL.c i.1 i.2 then Lib.lt (wL.v i.1 i.2) λp=>bif MB.c o.1 o.2.1 o.2.2.1 o.2.2.2.1 o.2.2.2.2.1 o.2.2.2.2.2.1 o.2.2.2.2.2.2.1 o.2.2.2.2.2.2.2.1 o.2.2.2.2.2.2.2.2 p.1 p.2.1 p.2.2.1 p.2.2.2.1 p.2.2.2.2.1 p.2.2.2.2.2.1 p.2.2.2.2.2.2.1 p.2.2.2.2.2.2.2.1 p.2.2.2.2.2.2.2.2 then Lib.lt (MB.v o.1 o.2.1 o.2.2.1 o.2.2.2.1 o.2.2.2.2.1 o.2.2.2.2.2.1 o.2.2.2.2.2.2.1 o.2.2.2.2.2.2.2.1 o.2.2.2.2.2.2.2.2 p.1 p.2.1 p.2.2.1 p.2.2.2.1 p.2.2.2.2.1 p.2.2.2.2.2.1 p.2.2.2.2.2.2.1 p.2.2.2.2.2.2.2.1 p.2.2.2.2.2.2.2.2) λq=>bif q then kr (decide ((e.2.2.2.2.2.2.2.2.2.2.1.length:ax)=(d.length:ax)))else kr ak else aj else aj else aj else kr ak else aj else kr ak else aj else kr ak else aj else kr ak else kr ak else aj else aj else aj else aj else aj else aj else aj
def vo:=b λr0=>ah r0
def c:=λa=>(vo a).isSome
def v:=λa=>(vo a).getD ak
theorem out{x}:∀a,vo a=ah x->c a=ai/\v a=x:=λ_=>Lib.db
end U6

end Go.FG
