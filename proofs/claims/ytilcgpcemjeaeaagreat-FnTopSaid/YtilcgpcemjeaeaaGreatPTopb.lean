/- Functions of the program, told as functions of numbers, texts and lists, and what each comes to. No condition but those that each states. -/
import Derived.Test.YtilcgpcemjeaeaaGreatLib
import Derived.Test.YtilcgpcemjeaeaaGreatPTopa
set_option linter.unusedVariables false
set_option linter.unusedSimpArgs false
set_option maxRecDepth 100000
open Bool renaming true->ai,false->ak
open ByteArray renaming toList->aC,extract->bK
open Go.IntKind renaming i64->ao
open Int renaming toNat->aZ
open List renaming set->aD,beq->bW
open Option renaming none->aj,some->ah
open _root_ renaming Int->ax,Option->aA,Nat->aE,Bool->aU,ByteArray->aq
namespace Go.FG
variable {R:Type}
namespace WT
def b(kr:jH R)(a:ax)(d e f h:aQ)(i:ax)(j l:aQ)(m:ax)(o p q:aQ):aA R:=bif fI.c a d e f h i j l m then Lib.lt (fI.v a d e f h i j l m) λr=>bif cw ((aP [Ck.s,Ck.s,Ck.i ao] 0).length+o.length) 40 then bif cw ((aP [Ck.i ao] 0).length+p.length) 8 then bif cw ((aP [Ck.s,Ck.i ao,Ck.i ao,Ck.s] 0).length+q.length) 48 then kr r.1 r.2.1 r.2.2.1 r.2.2.2.1 r.2.2.2.2.1 r.2.2.2.2.2.1 r.2.2.2.2.2.2.1 r.2.2.2.2.2.2.2.1 r.2.2.2.2.2.2.2.2 (aP [Ck.s,Ck.s,Ck.i ao] 0++o) (aP [Ck.i ao] 0++p) (aP [Ck.s,Ck.i ao,Ck.i ao,Ck.s] 0++q)else aj else aj else aj else aj
def vo:=b λr0 r1 r2 r3 r4 r5 r6 r7 r8 r9 AG wG=>ah (r0,r1,r2,r3,r4,r5,r6,r7,r8,r9,AG,wG)
def c:=λa d e f h i j l m o p q=>(vo a d e f h i j l m o p q).isSome
def v:=λa d e f h i j l m o p q=>(vo a d e f h i j l m o p q).getD (0,[],[],[],[],0,[],[],0,[],[],[])
theorem out{x}:∀a d e f h i j l m o p q,vo a d e f h i j l m o p q=ah x->c a d e f h i j l m o p q=ai/\v a d e f h i j l m o p q=x:=λ_ _ _ _ _ _ _ _ _ _ _ _=>Lib.c5
end WT

namespace Ns
def AG(N:aE)(g k0:lO R)(a:aQ)(d e f h i j l:ax)(m o p q r s t u w:aQ):aA R:=bif decide (d<(a.length:ax))then bif decide (0<=d)&&decide (d<(a.length:ax))then bif Hb.c i m o p q j r s l t u w (bE (ar a d.toNat 0)) (bE (ar a d.toNat 1)) (bz (ar a d.toNat (1+1))) (bE (ar a d.toNat (1+1+1))) (iX (ar a d.toNat (1+1+1+1)))then Lib.lt (Hb.v i m o p q j r s l t u w (bE (ar a d.toNat 0)) (bE (ar a d.toNat 1)) (bz (ar a d.toNat (1+1))) (bE (ar a d.toNat (1+1+1))) (iX (ar a d.toNat (1+1+1+1)))) λy=>g a (bG (d+1)) e f h y.1 y.2.2.2.2.2.1 y.2.2.2.2.2.2.2.2.1 y.2.1 y.2.2.1 y.2.2.2.1 y.2.2.2.2.1 y.2.2.2.2.2.2.1 y.2.2.2.2.2.2.2.1 y.2.2.2.2.2.2.2.2.2.1 y.2.2.2.2.2.2.2.2.2.2.1 y.2.2.2.2.2.2.2.2.2.2.2 else aj else aj else k0 a d e f h i j l m o p q r s t u w
def l10(N:aE)(k0:lO R):aE->lO R
 |0=>λ_ _ _ _ _ _ _ _ _ _ _ _ _ _ _ _ _=>aj
 |n+1=>AG N (l10 N k0 n) k0
def r3(N:aE)(g k0:B8 R)(a:aQ)(d:aU)(e f h i:ax):aA R:=bif decide (e<(a.length:ax))then bif d then bif decide (0<=e)&&decide (e<(a.length:ax))then g a (U56.v (bE (ar a e.toNat 0)) (bE (ar a e.toNat 1)) (bz (ar a e.toNat (1+1))) (bE (ar a e.toNat (1+1+1))) (iX (ar a e.toNat (1+1+1+1)))) (bG (e+1)) f h i else aj else k0 a d e f h i else k0 a d e f h i
def l3(N:aE)(k0:B8 R):aE->B8 R
 |0=>λ_ _ _ _ _ _=>aj
 |n+1=>r3 N (l3 N k0 n) k0
def b(N:aE)(kr:sq R)(a:aQ):aA R:=l3 N (λd e _ f h i=>bif !e then kr 0 [] [] [] [] 0 [] [] 0 [] [] [] ak else l10 N (λ_ _ _ _ _ j l m o p q r s t u w y=>bif WT.c j o p q r l s t m u w y then Lib.lt (WT.v j o p q r l s t m u w y) λz=>kr z.1 z.2.1 z.2.2.1 z.2.2.2.1 z.2.2.2.2.1 z.2.2.2.2.2.1 z.2.2.2.2.2.2.1 z.2.2.2.2.2.2.2.1 z.2.2.2.2.2.2.2.2.1 z.2.2.2.2.2.2.2.2.2.1 z.2.2.2.2.2.2.2.2.2.2.1 z.2.2.2.2.2.2.2.2.2.2.2 ai else aj) N d 0 f h i 1 0 0 [] [] [] ([]++aD (aP [Ck.l 3] 1) 0 [CV.l 3 (aP [Ck.i ao] (aZ 16))]++aD (aP [Ck.l 3] 1) 0 [CV.l 3 (aP [Ck.i ao] (aZ 16))]++aD (aP [Ck.l 3] 1) 0 [CV.l 3 (aP [Ck.i ao] (aZ 16))]) [] [] [] [] []) N a (decide ((a.length:ax)<=70)) 0 0 0 0
def vo:=b Lib.cJ λr0 r1 r2 r3 r4 r5 r6 r7 r8 r9 AG wG Qq=>ah (r0,r1,r2,r3,r4,r5,r6,r7,r8,r9,AG,wG,Qq)
def c:=λa=>(vo a).isSome
def v:=λa=>(vo a).getD (0,[],[],[],[],0,[],[],0,[],[],[],ak)
theorem out{x}:∀a,vo a=ah x->c a=ai/\v a=x:=λ_=>Lib.c5
end Ns

namespace KZ
def r4(N:aE)(g k0 k1:rA R)(a d:aQ)(e:aU)(f:ax):aA R:=bif decide (f<(a.length:ax))then bif decide (0<=f)&&decide (f<(a.length:ax))then bif decide (0<=f)&&decide (f<(d.length:ax))then bif bE (ar a f.toNat 0) !=bE (ar d f.toNat 0)then k0 a d ak f else g a d e (bG (f+1))else aj else aj else k1 a d e f
def l4(N:aE)(k0 k1:rA R):aE->rA R
 |0=>λ_ _ _ _=>aj
 |n+1=>r4 N (l4 N k0 k1 n) k0 k1
def b(N:aE)(kr:aU->aA R)(a d:aQ):aA R:=bif(a.length:ax) !=(d.length:ax)then kr ak else l4 N (λ_ _ e _=>kr e) (λ_ _ _ _=>kr ai) N a d ak 0
def vo:=b Lib.cJ λr0=>ah r0
def c:=λa d=>(vo a d).isSome
def v:=λa d=>(vo a d).getD ak
theorem out{x}:∀a d,vo a d=ah x->c a d=ai/\v a d=x:=λ_ _=>Lib.c5
end KZ

namespace QY
def r4(N:aE)(g k0 k1:rA R)(a d:aQ)(e:aU)(f:ax):aA R:=bif decide (f<(a.length:ax))then bif decide (0<=f)&&decide (f<(a.length:ax))then bif decide (0<=f)&&decide (f<(d.length:ax))then bif !(bW (bz (ar a f.toNat 0)).toList (bz (ar d f.toNat 0)).toList&&(decide (bE (ar a f.toNat 1)=bE (ar d f.toNat 1))&&(decide (bE (ar a f.toNat (1+1))=bE (ar d f.toNat (1+1)))&&(bW (bz (ar a f.toNat (1+1+1))).toList (bz (ar d f.toNat (1+1+1))).toList&&ai))))then k0 a d ak f else g a d e (bG (f+1))else aj else aj else k1 a d e f
def l4(N:aE)(k0 k1:rA R):aE->rA R
 |0=>λ_ _ _ _=>aj
 |n+1=>r4 N (l4 N k0 k1 n) k0 k1
def b(N:aE)(kr:aU->aA R)(a d:aQ):aA R:=bif(a.length:ax) !=(d.length:ax)then kr ak else l4 N (λ_ _ e _=>kr e) (λ_ _ _ _=>kr ai) N a d ak 0
def vo:=b Lib.cJ λr0=>ah r0
def c:=λa d=>(vo a d).isSome
def v:=λa d=>(vo a d).getD ak
theorem out{x}:∀a d,vo a d=ah x->c a d=ai/\v a d=x:=λ_ _=>Lib.c5
end QY

namespace vW
def r4(N:aE)(g k0 k1:rA R)(a d:aQ)(e:aU)(f:ax):aA R:=bif decide (f<(a.length:ax))then bif decide (0<=f)&&decide (f<(a.length:ax))then bif decide (0<=f)&&decide (f<(d.length:ax))then bif !List.beq (bz (ar a f.toNat 0)).toList (bz (ar d f.toNat 0)).toList then k0 a d ak f else g a d e (bG (f+1))else aj else aj else k1 a d e f
def l4(N:aE)(k0 k1:rA R):aE->rA R
 |0=>λ_ _ _ _=>aj
 |n+1=>r4 N (l4 N k0 k1 n) k0 k1
def b(N:aE)(kr:aU->aA R)(a d:aQ):aA R:=bif(a.length:ax) !=(d.length:ax)then kr ak else l4 N (λ_ _ e _=>kr e) (λ_ _ _ _=>kr ai) N a d ak 0
def vo:=b Lib.cJ λr0=>ah r0
def c:=λa d=>(vo a d).isSome
def v:=λa d=>(vo a d).getD ak
theorem out{x}:∀a d,vo a d=ah x->c a d=ai/\v a d=x:=λ_ _=>Lib.c5
end vW

namespace A1
def r4(N:aE)(g k0 k1:B2 R)(a:aU)(d:ax)(e:aQ)(f:ax)(h:aQ)(i:ax):aA R:=bif decide (d<(e.length:ax))then bif decide (0<=d)&&decide (d<(e.length:ax))then bif decide (0<=d)&&decide (d<(h.length:ax))then bif KZ.c (iX (ar e d.toNat 0)) (iX (ar h d.toNat 0))then bif !KZ.v (iX (ar e d.toNat 0)) (iX (ar h d.toNat 0))then k0 ak d e f h i else g a (bG (d+1)) e f h i else aj else aj else aj else k1 a d e f h i
def l4(N:aE)(k0 k1:B2 R):aE->B2 R
 |0=>λ_ _ _ _ _ _=>aj
 |n+1=>r4 N (l4 N k0 k1 n) k0 k1
def b(N:aE)(kr:aU->aA R)(a:aQ)(d:ax)(e:aQ)(f:ax):aA R:=bif d !=f then kr ak else bif(a.length:ax) !=(e.length:ax)then kr ak else l4 N (λh _ _ _ _ _=>kr h) (λ_ _ _ _ _ _=>kr ai) N ak 0 a d e f
def vo:=b Lib.cJ λr0=>ah r0
def c:=λa d e f=>(vo a d e f).isSome
def v:=λa d e f=>(vo a d e f).getD ak
theorem out{x}:∀a d e f,vo a d e f=ah x->c a d e f=ai/\v a d e f=x:=λ_ _ _ _=>Lib.c5
end A1

namespace WU
def b(kr:aU->aA R)(a d e:aQ)(f:ax)(h i j:aQ)(l:ax):aA R:=bif vW.c a h then bif vW.v a h then bif vW.c d i then bif vW.v d i then bif A1.c e f j l then kr (A1.v e f j l)else aj else kr ak else aj else kr ak else aj
def vo:=b λr0=>ah r0
def c:=λa d e f h i j l=>(vo a d e f h i j l).isSome
def v:=λa d e f h i j l=>(vo a d e f h i j l).getD ak
theorem out{x}:∀a d e f h i j l,vo a d e f h i j l=ah x->c a d e f h i j l=ai/\v a d e f h i j l=x:=λ_ _ _ _ _ _ _ _=>Lib.c5
end WU

namespace Nt
def r9(N:aE)(g k0 k1:fK R)(a:aU)(d e:ax)(f h i j:aQ)(l:ax)(m o:aQ)(p q:ax)(r s t u:aQ)(w:ax)(y z:aQ)(α:ax):aA R:=bif decide (d<(o.length:ax))then bif decide (0<=d)&&decide (d<(o.length:ax))then bif decide (0<=d)&&decide (d<(z.length:ax))then bif !(decide (bE (ar o d.toNat 0)=bE (ar z d.toNat 0))&&(bW (bz (ar o d.toNat 1)).toList (bz (ar z d.toNat 1)).toList&&(decide (bE (ar o d.toNat (1+1))=bE (ar z d.toNat (1+1)))&&(decide (bE (ar o d.toNat (1+1+1))=bE (ar z d.toNat (1+1+1)))&&(decide (bE (ar o d.toNat (1+1+1+1))=bE (ar z d.toNat (1+1+1+1)))&&(bW (bz (ar o d.toNat (1+1+1+1+1))).toList (bz (ar z d.toNat (1+1+1+1+1))).toList&&(decide (bE (ar o d.toNat (1+1+1+1+1+1))=bE (ar z d.toNat (1+1+1+1+1+1)))&&ai)))))))then k0 ak d e f h i j l m o p q r s t u w y z α else g a (bG (d+1)) e f h i j l m o p q r s t u w y z α else aj else aj else k1 a d e f h i j l m o p q r s t u w y z α
def l9(N:aE)(k0 k1:fK R):aE->fK R
 |0=>λ_ _ _ _ _ _ _ _ _ _ _ _ _ _ _ _ _ _ _ _=>aj
 |n+1=>r9 N (l9 N k0 k1 n) k0 k1
def r4(N:aE)(g k0 k1:fK R)(a:aU)(d e:ax)(f h i j:aQ)(l:ax)(m o:aQ)(p q:ax)(r s t u:aQ)(w:ax)(y z:aQ)(α:ax):aA R:=bif decide (d<(m.length:ax))then bif decide (0<=d)&&decide (d<(m.length:ax))then bif decide (0<=d)&&decide (d<(y.length:ax))then bif !(bW (bz (ar m d.toNat 0)).toList (bz (ar y d.toNat 0)).toList&&(bW (bz (ar m d.toNat 1)).toList (bz (ar y d.toNat 1)).toList&&(decide (bE (ar m d.toNat (1+1))=bE (ar y d.toNat (1+1)))&&(decide (bE (ar m d.toNat (1+1+1))=bE (ar y d.toNat (1+1+1)))&&(decide (bE (ar m d.toNat (1+1+1+1))=bE (ar y d.toNat (1+1+1+1)))&&ai)))))then k0 ak d e f h i j l m o p q r s t u w y z α else g a (bG (d+1)) e f h i j l m o p q r s t u w y z α else aj else aj else k1 a d e f h i j l m o p q r s t u w y z α
def l4(N:aE)(k0 k1:fK R):aE->fK R
 |0=>λ_ _ _ _ _ _ _ _ _ _ _ _ _ _ _ _ _ _ _ _=>aj
 |n+1=>r4 N (l4 N k0 k1 n) k0 k1
def b(N:aE)(kr:aU->aA R)(a:ax)(d e f h:aQ)(i:ax)(j l:aQ)(m o:ax)(p q r s:aQ)(t:ax)(u w:aQ)(y:ax):aA R:=bif a !=o then kr ak else bif m !=y then kr ak else bif QY.c d p then bif !QY.v d p then kr ak else bif WU.c e f h i q r s t then bif !WU.v e f h i q r s t then kr ak else bif(j.length:ax) !=(u.length:ax)then kr ak else bif(l.length:ax) !=(w.length:ax)then kr ak else l4 N (λz _ _ _ _ _ _ _ _ _ _ _ _ _ _ _ _ _ _ _=>kr z) (λz _ α xa xb xc xd xe xf xg xh xi xj xk xl xm xn xo xp xq=>l9 N (λxr _ _ _ _ _ _ _ _ _ _ _ _ _ _ _ _ _ _ _=>kr xr) (λ_ _ _ _ _ _ _ _ _ _ _ _ _ _ _ _ _ _ _ _=>kr ai) N z 0 α xa xb xc xd xe xf xg xh xi xj xk xl xm xn xo xp xq) N ak 0 a d e f h i j l m o p q r s t u w y else aj else aj
def vo:=b Lib.cJ λr0=>ah r0
def c:=λa d e f h i j l m o p q r s t u w y=>(vo a d e f h i j l m o p q r s t u w y).isSome
def v:=λa d e f h i j l m o p q r s t u w y=>(vo a d e f h i j l m o p q r s t u w y).getD ak
theorem out{x}:∀a d e f h i j l m o p q r s t u w y,vo a d e f h i j l m o p q r s t u w y=ah x->c a d e f h i j l m o p q r s t u w y=ai/\v a d e f h i j l m o p q r s t u w y=x:=λ_ _ _ _ _ _ _ _ _ _ _ _ _ _ _ _ _ _=>Lib.c5
end Nt

namespace QW
def r4(N:aE)(g k0 k1:KR R)(a:aU)(d:ax)(e f:aQ):aA R:=bif decide (d<(e.length:ax))then bif decide (0<=d)&&decide (d<(e.length:ax))then bif decide (0<=d)&&decide (d<(f.length:ax))then bif !(bW (bz (ar e d.toNat 0)).toList (bz (ar f d.toNat 0)).toList&&(bW (bz (ar e d.toNat 1)).toList (bz (ar f d.toNat 1)).toList&&(decide (bE (ar e d.toNat (1+1))=bE (ar f d.toNat (1+1)))&&ai)))then k0 ak d e f else g a (bG (d+1)) e f else aj else aj else k1 a d e f
def l4(N:aE)(k0 k1:KR R):aE->KR R
 |0=>λ_ _ _ _=>aj
 |n+1=>r4 N (l4 N k0 k1 n) k0 k1
def b(N:aE)(kr:aU->aA R)(a d:aQ):aA R:=bif(a.length:ax) !=(d.length:ax)then kr ak else l4 N (λe _ _ _=>kr e) (λ_ _ _ _=>kr ai) N ak 0 a d
def vo:=b Lib.cJ λr0=>ah r0
def c:=λa d=>(vo a d).isSome
def v:=λa d=>(vo a d).getD ak
theorem out{x}:∀a d,vo a d=ah x->c a d=ai/\v a d=x:=λ_ _=>Lib.c5
end QW

namespace A2
def r2(N:aE)(g k0 k1:vJ R)(a:aQ)(d e f:ax)(h:aq)(i j:ax)(l:aq):aA R:=bif decide (f<e)then bif decide (0<=f)&&decide (f<(a.length:ax))then bif bW (aC h) (bz (ar a f.toNat 0)).toList&&(decide (i=bE (ar a f.toNat 1))&&(decide (j=bE (ar a f.toNat (1+1)))&&(bW (aC l) (bz (ar a f.toNat (1+1+1))).toList&&ai)))then k0 a f e f h i j l else g a d e (bG (f+1)) h i j l else aj else k1 a d e f h i j l
def l2(N:aE)(k0 k1:vJ R):aE->vJ R
 |0=>λ_ _ _ _ _ _ _ _=>aj
 |n+1=>r2 N (l2 N k0 k1 n) k0 k1
def b(N:aE)(kr:ax->aA R)(a:aQ)(d:aq)(e f:ax)(h:aq):aA R:=l2 N (λ_ i _ _ _ _ _ _=>kr i) (λ_ _ _ _ _ _ _ _=>kr (-1)) N a 0 (a.length:ax) 0 d e f h
def vo:=b Lib.cJ λr0=>ah r0
def c:=λa d e f h=>(vo a d e f h).isSome
def v:=λa d e f h=>(vo a d e f h).getD (0)
theorem out{x}:∀a d e f h,vo a d e f h=ah x->c a d e f h=ai/\v a d e f h=x:=λ_ _ _ _ _=>Lib.c5
end A2

namespace Ph
def b(kr:aU->aA R)(a:aQ)(d:aq)(e f:ax)(h:aq):aA R:=bif A2.c a d e f h then kr (decide (A2.v a d e f h≥0))else aj
def vo:=b λr0=>ah r0
def c:=λa d e f h=>(vo a d e f h).isSome
def v:=λa d e f h=>(vo a d e f h).getD ak
theorem out{x}:∀a d e f h,vo a d e f h=ah x->c a d e f h=ai/\v a d e f h=x:=λ_ _ _ _ _=>Lib.c5
end Ph

namespace D_
def b(kr:aU->aA R)(a d:aq):aA R:=bif decide ((a.size:ax)≥(d.size:ax))then bif ic 0 (d.size:ax) (a.size:ax)then kr (bW (bK a (aZ 0) (d.size:ax).toNat).toList (aC d))else aj else kr ak
def vo:=b λr0=>ah r0
def c:=λa d=>(vo a d).isSome
def v:=λa d=>(vo a d).getD ak
theorem out{x}:∀a d,vo a d=ah x->c a d=ai/\v a d=x:=λ_ _=>Lib.c5
end D_

namespace D3
def b(kr:aU->aA R)(a d:aq):aA R:=bif D_.c a d then kr (D_.v a d)else aj
def vo:=b λr0=>ah r0
def c:=λa d=>(vo a d).isSome
def v:=λa d=>(vo a d).getD ak
theorem out{x}:∀a d,vo a d=ah x->c a d=ai/\v a d=x:=λ_ _=>Lib.c5
end D3

namespace WV
def b(kr:aU->aA R)(a:ax)(d e f h:aQ)(i:ax)(j l:aQ)(m o:ax)(p:aq)(q r s:ax)(t:aq)(u:ax):aA R:=bif decide (q>(j.length:ax))then kr ak else bif decide (0<=bG (q-1))&&decide (bG (q-1)<(j.length:ax))then bif !List.beq (bz (ar j (bG (q-1)).toNat 0)).toList (aC p)then kr ak else bif decide (s=1)then bif bW (aC t) (bz (ar j (bG (q-1)).toNat 1)).toList then kr (decide (bE (ar j (bG (q-1)).toNat (1+1))=1))else kr ak else bif decide (s=2)then bif bW (aC t) (bz (ar j (bG (q-1)).toNat 1)).toList then kr (decide (bE (ar j (bG (q-1)).toNat (1+1))=2))else kr ak else bif decide (s=3)then bif D3.c (bz (ar j (bG (q-1)).toNat 1)) t then bif D3.v (bz (ar j (bG (q-1)).toNat 1)) t then kr (decide (bE (ar j (bG (q-1)).toNat (1+1))=3))else kr ak else aj else kr ak else aj
def vo:=b λr0=>ah r0
def c:=λa d e f h i j l m o p q r s t u=>(vo a d e f h i j l m o p q r s t u).isSome
def v:=λa d e f h i j l m o p q r s t u=>(vo a d e f h i j l m o p q r s t u).getD ak
theorem out{x}:∀a d e f h i j l m o p q r s t u,vo a d e f h i j l m o p q r s t u=ah x->c a d e f h i j l m o p q r s t u=ai/\v a d e f h i j l m o p q r s t u=x:=λ_ _ _ _ _ _ _ _ _ _ _ _ _ _ _ _=>Lib.c5
end WV

namespace WW
def b(kr:aU->aA R)(a:aQ)(Hk:ax)(Cw:aq)(Hl Cx Hm:ax)(Cy:aq)(Cz:ax):aA R:=bif sB.c a Hk Cw Hl Cx Hm Cy Cz then kr (decide (sB.v a Hk Cw Hl Cx Hm Cy Cz≥0))else aj
def vo:=b λr0=>ah r0
def c:=λa d e f h i j l=>(vo a d e f h i j l).isSome
def v:=λa d e f h i j l=>(vo a d e f h i j l).getD ak
theorem out{x}:∀a d e f h i j l,vo a d e f h i j l=ah x->c a d e f h i j l=ai/\v a d e f h i j l=x:=λ_ _ _ _ _ _ _ _=>Lib.c5
end WW

namespace Q0
def r2(N:aE)(g k0 k1:g8 R)(a:aU)(d:aQ)(e f h:ax)(i j l m:aQ)(o:ax)(p q:aQ)(r:ax)(s t u:aQ):aA R:=bif decide (f<e)then bif decide (0<=f)&&decide (f<(d.length:ax))then bif decide (bE (ar d f.toNat (1+1))>0)then bif WV.c h i j l m o p q r (bE (ar d f.toNat 0)) (bz (ar d f.toNat 1)) (bE (ar d f.toNat (1+1))) (bE (ar d f.toNat (1+1+1))) (bE (ar d f.toNat (1+1+1+1))) (bz (ar d f.toNat (1+1+1+1+1))) (bE (ar d f.toNat (1+1+1+1+1+1)))then bif !WV.v h i j l m o p q r (bE (ar d f.toNat 0)) (bz (ar d f.toNat 1)) (bE (ar d f.toNat (1+1))) (bE (ar d f.toNat (1+1+1))) (bE (ar d f.toNat (1+1+1+1))) (bz (ar d f.toNat (1+1+1+1+1))) (bE (ar d f.toNat (1+1+1+1+1+1)))then k0 ak d e f h i j l m o p q r s t u else g a d e (bG (f+1)) h i j l m o p q r s t u else aj else bif decide (bE (ar d f.toNat (1+1+1+1))=2)then bif WW.c u (bE (ar d f.toNat 0)) (bz (ar d f.toNat 1)) (bE (ar d f.toNat (1+1))) (bE (ar d f.toNat (1+1+1))) (bE (ar d f.toNat (1+1+1+1))) (bz (ar d f.toNat (1+1+1+1+1))) (bE (ar d f.toNat (1+1+1+1+1+1)))then bif !WW.v u (bE (ar d f.toNat 0)) (bz (ar d f.toNat 1)) (bE (ar d f.toNat (1+1))) (bE (ar d f.toNat (1+1+1))) (bE (ar d f.toNat (1+1+1+1))) (bz (ar d f.toNat (1+1+1+1+1))) (bE (ar d f.toNat (1+1+1+1+1+1)))then k0 ak d e f h i j l m o p q r s t u else g a d e (bG (f+1)) h i j l m o p q r s t u else aj else k0 ak d e f h i j l m o p q r s t u else aj else k1 a d e f h i j l m o p q r s t u
def l2(N:aE)(k0 k1:g8 R):aE->g8 R
 |0=>λ_ _ _ _ _ _ _ _ _ _ _ _ _ _ _ _=>aj
 |n+1=>r2 N (l2 N k0 k1 n) k0 k1
def b(N:aE)(kr:aU->aA R)(a:ax)(d e f h:aQ)(i:ax)(j l:aQ)(m:ax)(o p q:aQ):aA R:=l2 N (λr _ _ _ _ _ _ _ _ _ _ _ _ _ _ _=>kr r) (λ_ _ _ _ _ _ _ _ _ _ _ _ _ _ _ _=>kr ai) N ak l (l.length:ax) 0 a d e f h i j l m o p q
def vo:=b Lib.cJ λr0=>ah r0
def c:=λa d e f h i j l m o p q=>(vo a d e f h i j l m o p q).isSome
def v:=λa d e f h i j l m o p q=>(vo a d e f h i j l m o p q).getD ak
theorem out{x}:∀a d e f h i j l m o p q,vo a d e f h i j l m o p q=ah x->c a d e f h i j l m o p q=ai/\v a d e f h i j l m o p q=x:=λ_ _ _ _ _ _ _ _ _ _ _ _=>Lib.c5
end Q0

namespace Q1
def r2(N:aE)(g k0 k1:g8 R)(a:aU)(d:aQ)(e f h:ax)(i j l m:aQ)(o:ax)(p q:aQ)(r:ax)(s t u:aQ):aA R:=bif decide (f<e)then bif decide (0<=f)&&decide (f<(d.length:ax))then bif Ph.c u (bz (ar d f.toNat 0)) (bE (ar d f.toNat 1)) (bE (ar d f.toNat (1+1))) (bz (ar d f.toNat (1+1+1)))then bif !Ph.v u (bz (ar d f.toNat 0)) (bE (ar d f.toNat 1)) (bE (ar d f.toNat (1+1))) (bz (ar d f.toNat (1+1+1)))then k0 ak d e f h i j l m o p q r s t u else g a d e (bG (f+1)) h i j l m o p q r s t u else aj else aj else k1 a d e f h i j l m o p q r s t u
def l2(N:aE)(k0 k1:g8 R):aE->g8 R
 |0=>λ_ _ _ _ _ _ _ _ _ _ _ _ _ _ _ _=>aj
 |n+1=>r2 N (l2 N k0 k1 n) k0 k1
def b(N:aE)(kr:aU->aA R)(a:ax)(d e f h:aQ)(i:ax)(j l:aQ)(m:ax)(o p q:aQ):aA R:=l2 N (λr _ _ _ _ _ _ _ _ _ _ _ _ _ _ _=>kr r) (λ_ _ _ _ _ _ _ _ _ _ _ _ _ _ _ _=>kr ai) N ak d (d.length:ax) 0 a d e f h i j l m o p q
def vo:=b Lib.cJ λr0=>ah r0
def c:=λa d e f h i j l m o p q=>(vo a d e f h i j l m o p q).isSome
def v:=λa d e f h i j l m o p q=>(vo a d e f h i j l m o p q).getD ak
theorem out{x}:∀a d e f h i j l m o p q,vo a d e f h i j l m o p q=ah x->c a d e f h i j l m o p q=ai/\v a d e f h i j l m o p q=x:=λ_ _ _ _ _ _ _ _ _ _ _ _=>Lib.c5
end Q1

namespace QX
def r3(N:aE)(g k0 k1:lM R)(a:aU)(d:aQ)(e f h:ax)(i j l m:aQ)(o:ax)(p q:aQ)(r:ax)(s t u w:aQ):aA R:=bif decide (f<e)then bif decide (0<=f)&&decide (f<(d.length:ax))then bif Ef.v (bz (ar d f.toNat 0)) (bE (ar d f.toNat 1)) (bE (ar d f.toNat (1+1))) (bz (ar d f.toNat (1+1+1))) h then bif Ph.c w (bz (ar d f.toNat 0)) (bE (ar d f.toNat 1)) (bE (ar d f.toNat (1+1))) (bz (ar d f.toNat (1+1+1)))then bif !Ph.v w (bz (ar d f.toNat 0)) (bE (ar d f.toNat 1)) (bE (ar d f.toNat (1+1))) (bz (ar d f.toNat (1+1+1)))then k0 ak d e f h i j l m o p q r s t u w else g a d e (bG (f+1)) h i j l m o p q r s t u w else aj else g a d e (bG (f+1)) h i j l m o p q r s t u w else aj else k1 a d e f h i j l m o p q r s t u w
def l3(N:aE)(k0 k1:lM R):aE->lM R
 |0=>λ_ _ _ _ _ _ _ _ _ _ _ _ _ _ _ _ _=>aj
 |n+1=>r3 N (l3 N k0 k1 n) k0 k1
def b(N:aE)(kr:aU->aA R)(a:ax)(d e f h:aQ)(i:ax)(j l:aQ)(m:ax)(o p q:aQ):aA R:=bif U61.c o then l3 N (λr _ _ _ _ _ _ _ _ _ _ _ _ _ _ _ _=>kr r) (λ_ _ _ _ r s t u w y z α xa xb xc xd _=>bif KE.c r s t u w y z α xa then bif KE.v r s t u w y z α xa then bif IZ.c r s t u w y z α xa then bif IZ.v r s t u w y z α xa then bif Q0.c r s t u w y z α xa xb xc xd then bif Q0.v r s t u w y z α xa xb xc xd then bif Q1.c r s t u w y z α xa xb xc xd then kr (Q1.v r s t u w y z α xa xb xc xd)else aj else kr ak else aj else kr ak else aj else kr ak else aj) N ak d (d.length:ax) 0 a d e f h i j l m o p q (U61.v o)else aj
def vo:=b Lib.cJ λr0=>ah r0
def c:=λa d e f h i j l m o p q=>(vo a d e f h i j l m o p q).isSome
def v:=λa d e f h i j l m o p q=>(vo a d e f h i j l m o p q).getD ak
theorem out{x}:∀a d e f h i j l m o p q,vo a d e f h i j l m o p q=ah x->c a d e f h i j l m o p q=ai/\v a d e f h i j l m o p q=x:=λ_ _ _ _ _ _ _ _ _ _ _ _=>Lib.c5
end QX

namespace wa
def r2(N:aE)(g k0 k1:yT R)(a:aQ)(d:aU)(e:ax)(f:aq)(h i:ax)(j:aq):aA R:=bif decide (e<(a.length:ax))then bif decide (0<=e)&&decide (e<(a.length:ax))then bif bW (bz (ar a e.toNat 0)).toList (aC f)&&(decide (bE (ar a e.toNat 1)=h)&&(decide (bE (ar a e.toNat (1+1))=i)&&(bW (bz (ar a e.toNat (1+1+1))).toList (aC j)&&ai)))then k0 a ai e f h i j else g a d (bG (e+1)) f h i j else aj else k1 a d e f h i j
def l2(N:aE)(k0 k1:yT R):aE->yT R
 |0=>λ_ _ _ _ _ _ _=>aj
 |n+1=>r2 N (l2 N k0 k1 n) k0 k1
def b(N:aE)(kr:aU->aA R)(a:aQ)(d:aq)(e f:ax)(h:aq):aA R:=l2 N (λ_ i _ _ _ _ _=>kr i) (λ_ _ _ _ _ _ _=>kr ak) N a ak 0 d e f h
def vo:=b Lib.cJ λr0=>ah r0
def c:=λa d e f h=>(vo a d e f h).isSome
def v:=λa d e f h=>(vo a d e f h).getD ak
theorem out{x}:∀a d e f h,vo a d e f h=ah x->c a d e f h=ai/\v a d e f h=x:=λ_ _ _ _ _=>Lib.c5
end wa

namespace Nu
def r5(N:aE)(g k0 k1:o7 R)(a:aU)(d e f:ax)(h i j l:aQ)(m:ax)(o p:aQ)(q:ax):aA R:=bif decide (e<d)then bif decide (0<=d)&&decide (d<(o.length:ax))then bif decide (bE (ar o d.toNat 2)=1)then bif decide (0<=e)&&decide (e<(o.length:ax))then bif decide (bE (ar o e.toNat 2)=1)then bif decide (0<=d)&&decide (d<(o.length:ax))then bif decide (0<=e)&&decide (e<(o.length:ax))then bif bW (bz (ar o d.toNat 0)).toList (bz (ar o e.toNat 0)).toList then k0 ak d e f h i j l m o p q else g a d (bG (e+1)) f h i j l m o p q else aj else aj else g a d (bG (e+1)) f h i j l m o p q else aj else g a d (bG (e+1)) f h i j l m o p q else aj else k1 a d e f h i j l m o p q
def l5(N:aE)(k0 k1:o7 R):aE->o7 R
 |0=>λ_ _ _ _ _ _ _ _ _ _ _ _=>aj
 |n+1=>r5 N (l5 N k0 k1 n) k0 k1
def r2(N:aE)(g k0 k1:fF R)(a:aU)(d e:ax)(f h i j:aQ)(l:ax)(m o:aQ)(p:ax):aA R:=bif decide (d<(m.length:ax))then l5 N (λq r _ s t u w y z α xa xb=>k0 q r s t u w y z α xa xb) (λq r _ s t u w y z α xa xb=>g q (bG (r+1)) s t u w y z α xa xb) N a d 0 e f h i j l m o p else k1 a d e f h i j l m o p
def l2(N:aE)(k0 k1:fF R):aE->fF R
 |0=>λ_ _ _ _ _ _ _ _ _ _ _=>aj
 |n+1=>r2 N (l2 N k0 k1 n) k0 k1
def b(N:aE)(kr:aU->aA R)(a:ax)(d e f h:aQ)(i:ax)(j l:aQ)(m:ax):aA R:=l2 N (λo _ _ _ _ _ _ _ _ _ _=>kr o) (λ_ _ _ _ _ _ _ _ _ _ _=>kr ai) N ak 0 a d e f h i j l m
def vo:=b Lib.cJ λr0=>ah r0
def c:=λa d e f h i j l m=>(vo a d e f h i j l m).isSome
def v:=λa d e f h i j l m=>(vo a d e f h i j l m).getD ak
theorem out{x}:∀a d e f h i j l m,vo a d e f h i j l m=ah x->c a d e f h i j l m=ai/\v a d e f h i j l m=x:=λ_ _ _ _ _ _ _ _ _=>Lib.c5
end Nu

namespace D6
def b(kr:aU->aA R)(a d:aq):aA R:=bif decide ((a.size:ax)≥(d.size:ax))then bif ic 0 (d.size:ax) (a.size:ax)then kr (bW (bK a (aZ 0) (d.size:ax).toNat).toList (aC d))else aj else kr ak
def vo:=b λr0=>ah r0
def c:=λa d=>(vo a d).isSome
def v:=λa d=>(vo a d).getD ak
theorem out{x}:∀a d,vo a d=ah x->c a d=ai/\v a d=x:=λ_ _=>Lib.c5
end D6

namespace A0
def r3(N:aE)(g k0 k1:jG R)(a:aU)(d e:ax)(f h i j:aQ)(l:ax)(m o:aQ)(p:ax)(q r s:aQ)(t:ax)(u:aq)(w y z:ax)(α:aq)(xa:ax):aA R:=bif decide (d<(s.length:ax))then bif decide (0<=d)&&decide (d<(s.length:ax))then bif bW (bz (ar s d.toNat 0)).toList (aC u)then bif decide (bE (ar s d.toNat 1)=y)then bif bW (bz (ar s d.toNat (1+1+1))).toList (aC α)then bif decide (bE (ar s d.toNat (1+1))>xa)then k0 (decide (z=2)) d e f h i j l m o p q r s t u w y z α xa else g a (bG (d+1)) e f h i j l m o p q r s t u w y z α xa else g a (bG (d+1)) e f h i j l m o p q r s t u w y z α xa else g a (bG (d+1)) e f h i j l m o p q r s t u w y z α xa else g a (bG (d+1)) e f h i j l m o p q r s t u w y z α xa else aj else k1 a d e f h i j l m o p q r s t u w y z α xa
def l3(N:aE)(k0 k1:jG R):aE->jG R
 |0=>λ_ _ _ _ _ _ _ _ _ _ _ _ _ _ _ _ _ _ _ _ _=>aj
 |n+1=>r3 N (l3 N k0 k1 n) k0 k1
def b(N:aE)(kr:aU->aA R)(a:ax)(d e f h:aQ)(i:ax)(j l:aQ)(m:ax)(o p q:aQ)(r:ax)(s:aq)(t u w:ax)(y:aq)(z:ax):aA R:=bif decide (t=0)then l3 N (λα _ _ _ _ _ _ _ _ _ _ _ _ _ _ _ _ _ _ _ _=>kr α) (λ_ _ _ _ _ _ _ _ _ _ _ _ _ _ _ _ _ _ _ _ _=>kr ak) N ak 0 a d e f h i j l m o p q r s t u w y z else bif !ki.v t 1 (j.length:ax)then kr ak else bif decide (0<=bG (t-1))&&decide (bG (t-1)<(j.length:ax))then bif !List.beq (bz (ar j (bG (t-1)).toNat 0)).toList (aC s)then kr ak else bif decide (w=1)then bif bW (aC y) (bz (ar j (bG (t-1)).toNat 1)).toList then kr (decide (bE (ar j (bG (t-1)).toNat (1+1))=1))else kr ak else bif decide (w=2)then bif bW (aC y) (bz (ar j (bG (t-1)).toNat 1)).toList then kr (decide (bE (ar j (bG (t-1)).toNat (1+1))=2))else kr ak else bif decide (w=3)then bif decide (bE (ar j (bG (t-1)).toNat (1+1))=3)then bif D6.c (bz (ar j (bG (t-1)).toNat 1)) y then Lib.lt (D6.v (bz (ar j (bG (t-1)).toNat 1)) y) λα=>kr α else aj else kr ak else kr ak else aj
def vo:=b Lib.cJ λr0=>ah r0
def c:=λa d e f h i j l m o p q r s t u w y z=>(vo a d e f h i j l m o p q r s t u w y z).isSome
def v:=λa d e f h i j l m o p q r s t u w y z=>(vo a d e f h i j l m o p q r s t u w y z).getD ak
theorem out{x}:∀a d e f h i j l m o p q r s t u w y z,vo a d e f h i j l m o p q r s t u w y z=ah x->c a d e f h i j l m o p q r s t u w y z=ai/\v a d e f h i j l m o p q r s t u w y z=x:=λ_ _ _ _ _ _ _ _ _ _ _ _ _ _ _ _ _ _ _=>Lib.c5
end A0

namespace Q4
def r2(N:aE)(g k0 k1:iU R)(a:aU)(d e:ax)(f h i j:aQ)(l:ax)(m o:aQ)(p:ax)(q r s:aQ):aA R:=bif decide (d<(o.length:ax))then bif decide (0<=d)&&decide (d<(o.length:ax))then bif A0.c e f h i j l m o p q r s (bE (ar o d.toNat 0)) (bz (ar o d.toNat 1)) (bE (ar o d.toNat (1+1))) (bE (ar o d.toNat (1+1+1))) (bE (ar o d.toNat (1+1+1+1))) (bz (ar o d.toNat (1+1+1+1+1))) (bE (ar o d.toNat (1+1+1+1+1+1)))then bif !A0.v e f h i j l m o p q r s (bE (ar o d.toNat 0)) (bz (ar o d.toNat 1)) (bE (ar o d.toNat (1+1))) (bE (ar o d.toNat (1+1+1))) (bE (ar o d.toNat (1+1+1+1))) (bz (ar o d.toNat (1+1+1+1+1))) (bE (ar o d.toNat (1+1+1+1+1+1)))then k0 ak d e f h i j l m o p q r s else g a (bG (d+1)) e f h i j l m o p q r s else aj else aj else k1 a d e f h i j l m o p q r s
def l2(N:aE)(k0 k1:iU R):aE->iU R
 |0=>λ_ _ _ _ _ _ _ _ _ _ _ _ _ _=>aj
 |n+1=>r2 N (l2 N k0 k1 n) k0 k1
def b(N:aE)(kr:aU->aA R)(a:ax)(d e f h:aQ)(i:ax)(j l:aQ)(m:ax)(o p q:aQ):aA R:=l2 N (λr _ _ _ _ _ _ _ _ _ _ _ _ _=>kr r) (λ_ _ _ _ _ _ _ _ _ _ _ _ _ _=>kr ai) N ak 0 a d e f h i j l m o p q
def vo:=b Lib.cJ λr0=>ah r0
def c:=λa d e f h i j l m o p q=>(vo a d e f h i j l m o p q).isSome
def v:=λa d e f h i j l m o p q=>(vo a d e f h i j l m o p q).getD ak
theorem out{x}:∀a d e f h i j l m o p q,vo a d e f h i j l m o p q=ah x->c a d e f h i j l m o p q=ai/\v a d e f h i j l m o p q=x:=λ_ _ _ _ _ _ _ _ _ _ _ _=>Lib.c5
end Q4

namespace Cj
def r2(N:aE)(g k0 k1:iU R)(a:aU)(d e:ax)(f h i j:aQ)(l:ax)(m o:aQ)(p:ax)(q r s:aQ):aA R:=bif decide (d<(f.length:ax))then bif decide (0<=d)&&decide (d<(f.length:ax))then bif wa.c s (bz (ar f d.toNat 0)) (bE (ar f d.toNat 1)) (bE (ar f d.toNat (1+1))) (bz (ar f d.toNat (1+1+1)))then bif !wa.v s (bz (ar f d.toNat 0)) (bE (ar f d.toNat 1)) (bE (ar f d.toNat (1+1))) (bz (ar f d.toNat (1+1+1)))then k0 ak d e f h i j l m o p q r s else g a (bG (d+1)) e f h i j l m o p q r s else aj else aj else k1 a d e f h i j l m o p q r s
def l2(N:aE)(k0 k1:iU R):aE->iU R
 |0=>λ_ _ _ _ _ _ _ _ _ _ _ _ _ _=>aj
 |n+1=>r2 N (l2 N k0 k1 n) k0 k1
def b(N:aE)(kr:aU->aA R)(a:ax)(d e f h:aQ)(i:ax)(j l:aQ)(m:ax)(o p q:aQ):aA R:=l2 N (λr _ _ _ _ _ _ _ _ _ _ _ _ _=>kr r) (λ_ _ _ _ _ _ _ _ _ _ _ _ _ _=>kr ai) N ak 0 a d e f h i j l m o p q
def vo:=b Lib.cJ λr0=>ah r0
def c:=λa d e f h i j l m o p q=>(vo a d e f h i j l m o p q).isSome
def v:=λa d e f h i j l m o p q=>(vo a d e f h i j l m o p q).getD ak
theorem out{x}:∀a d e f h i j l m o p q,vo a d e f h i j l m o p q=ah x->c a d e f h i j l m o p q=ai/\v a d e f h i j l m o p q=x:=λ_ _ _ _ _ _ _ _ _ _ _ _=>Lib.c5
end Cj

namespace QV
def r3(N:aE)(g k0 k1:mU R)(a:aU)(d e:ax)(f h i j:aQ)(l:ax)(m o:aQ)(p:ax)(q r s t:aQ):aA R:=bif decide (d<(f.length:ax))then bif decide (0<=d)&&decide (d<(f.length:ax))then bif zC.v (bz (ar f d.toNat 0)) (bE (ar f d.toNat 1)) (bE (ar f d.toNat (1+1))) (bz (ar f d.toNat (1+1+1))) e then bif wa.c t (bz (ar f d.toNat 0)) (bE (ar f d.toNat 1)) (bE (ar f d.toNat (1+1))) (bz (ar f d.toNat (1+1+1)))then bif !wa.v t (bz (ar f d.toNat 0)) (bE (ar f d.toNat 1)) (bE (ar f d.toNat (1+1))) (bz (ar f d.toNat (1+1+1)))then k0 ak d e f h i j l m o p q r s t else g a (bG (d+1)) e f h i j l m o p q r s t else aj else g a (bG (d+1)) e f h i j l m o p q r s t else aj else k1 a d e f h i j l m o p q r s t
def l3(N:aE)(k0 k1:mU R):aE->mU R
 |0=>λ_ _ _ _ _ _ _ _ _ _ _ _ _ _ _=>aj
 |n+1=>r3 N (l3 N k0 k1 n) k0 k1
def b(N:aE)(kr:aU->aA R)(a:ax)(d e f h:aQ)(i:ax)(j l:aQ)(m:ax)(o p q:aQ):aA R:=bif Bv.c o then l3 N (λr _ _ _ _ _ _ _ _ _ _ _ _ _ _=>kr r) (λ_ _ r s t u w y z α xa xb xc xd _=>bif oX.c r s t u w y z α xa then bif oX.v r s t u w y z α xa then bif Nu.c r s t u w y z α xa then bif Nu.v r s t u w y z α xa then bif Q4.c r s t u w y z α xa xb xc xd then bif Q4.v r s t u w y z α xa xb xc xd then bif Cj.c r s t u w y z α xa xb xc xd then kr (Cj.v r s t u w y z α xa xb xc xd)else aj else kr ak else aj else kr ak else aj else kr ak else aj) N ak 0 a d e f h i j l m o p q (Bv.v o)else aj
def vo:=b Lib.cJ λr0=>ah r0
def c:=λa d e f h i j l m o p q=>(vo a d e f h i j l m o p q).isSome
def v:=λa d e f h i j l m o p q=>(vo a d e f h i j l m o p q).getD ak
theorem out{x}:∀a d e f h i j l m o p q,vo a d e f h i j l m o p q=ah x->c a d e f h i j l m o p q=ai/\v a d e f h i j l m o p q=x:=λ_ _ _ _ _ _ _ _ _ _ _ _=>Lib.c5
end QV

namespace U4
def b(kr:aU->aA R)(a:aQ):aA R:=bif U8.v a then kr ai else bif U9.c a then Lib.lt (U9.v a) λd=>bif Nr.c d then Lib.lt (Nr.v d) λe=>bif Ns.c d then Lib.lt (Ns.v d) λf=>bif e.2.2.2.2.2.2.2.2.2.2.2.2 then bif KZ.c e.2.2.2.2.2.2.2.2.2.2.1 f.2.2.2.2.2.2.2.2.2.2.1 then Lib.lt (KZ.v e.2.2.2.2.2.2.2.2.2.2.1 f.2.2.2.2.2.2.2.2.2.2.1) λh=>bif h then bif Nt.c e.1 e.2.1 e.2.2.1 e.2.2.2.1 e.2.2.2.2.1 e.2.2.2.2.2.1 e.2.2.2.2.2.2.1 e.2.2.2.2.2.2.2.1 e.2.2.2.2.2.2.2.2.1 f.1 f.2.1 f.2.2.1 f.2.2.2.1 f.2.2.2.2.1 f.2.2.2.2.2.1 f.2.2.2.2.2.2.1 f.2.2.2.2.2.2.2.1 f.2.2.2.2.2.2.2.2.1 then Lib.lt (Nt.v e.1 e.2.1 e.2.2.1 e.2.2.2.1 e.2.2.2.2.1 e.2.2.2.2.2.1 e.2.2.2.2.2.2.1 e.2.2.2.2.2.2.2.1 e.2.2.2.2.2.2.2.2.1 f.1 f.2.1 f.2.2.1 f.2.2.2.1 f.2.2.2.2.1 f.2.2.2.2.2.1 f.2.2.2.2.2.2.1 f.2.2.2.2.2.2.2.1 f.2.2.2.2.2.2.2.2.1) λi=>bif i then bif QW.c e.2.2.2.2.2.2.2.2.2.1 f.2.2.2.2.2.2.2.2.2.1 then Lib.lt (QW.v e.2.2.2.2.2.2.2.2.2.1 f.2.2.2.2.2.2.2.2.2.1) λj=>bif j then bif decide ((e.2.2.2.2.2.2.2.2.2.2.1.length:ax)=(d.length:ax))then bif QX.c e.1 e.2.1 e.2.2.1 e.2.2.2.1 e.2.2.2.2.1 e.2.2.2.2.2.1 e.2.2.2.2.2.2.1 e.2.2.2.2.2.2.2.1 e.2.2.2.2.2.2.2.2.1 e.2.2.2.2.2.2.2.2.2.1 e.2.2.2.2.2.2.2.2.2.2.1 e.2.2.2.2.2.2.2.2.2.2.2.1 then Lib.lt (QX.v e.1 e.2.1 e.2.2.1 e.2.2.2.1 e.2.2.2.2.1 e.2.2.2.2.2.1 e.2.2.2.2.2.2.1 e.2.2.2.2.2.2.2.1 e.2.2.2.2.2.2.2.2.1 e.2.2.2.2.2.2.2.2.2.1 e.2.2.2.2.2.2.2.2.2.2.1 e.2.2.2.2.2.2.2.2.2.2.2.1) λl=>bif l then bif QV.c e.1 e.2.1 e.2.2.1 e.2.2.2.1 e.2.2.2.2.1 e.2.2.2.2.2.1 e.2.2.2.2.2.2.1 e.2.2.2.2.2.2.2.1 e.2.2.2.2.2.2.2.2.1 e.2.2.2.2.2.2.2.2.2.1 e.2.2.2.2.2.2.2.2.2.2.1 e.2.2.2.2.2.2.2.2.2.2.2.1 then Lib.lt (QV.v e.1 e.2.1 e.2.2.1 e.2.2.2.1 e.2.2.2.2.1 e.2.2.2.2.2.1 e.2.2.2.2.2.2.1 e.2.2.2.2.2.2.2.1 e.2.2.2.2.2.2.2.2.1 e.2.2.2.2.2.2.2.2.2.1 e.2.2.2.2.2.2.2.2.2.2.1 e.2.2.2.2.2.2.2.2.2.2.2.1) λm=>kr m else aj else kr ak else aj else kr ak else kr ak else aj else kr ak else aj else kr ak else aj else kr ak else aj else aj else aj
def vo:=b λr0=>ah r0
def c:=λa=>(vo a).isSome
def v:=λa=>(vo a).getD ak
theorem out{x}:∀a,vo a=ah x->c a=ai/\v a=x:=λ_=>Lib.c5
end U4

end Go.FG
